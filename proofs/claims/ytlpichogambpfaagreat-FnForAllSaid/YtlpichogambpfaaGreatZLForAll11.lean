/- Texts of the claim LForAll in one: FuncP Vars Has ATy DrawTy EwT EwU. Conditions: none but bounds on sizes. -/
import Derived.WalkKit
import Derived.Test.YtlpichogambpfaaGreatZLForAll0
import Derived.Test.YtlpichogambpfaaGreatZLForAll10
import Derived.Lib.Hide
import Derived.Test.YtlpichogambpfaaGreatRows
import Derived.Test.YtlpichogambpfaaGreatZLForAll8
import Derived.StillTailTactics
namespace Go.Proofs.YtlpichogambpfaaGreat
set_option maxRecDepth 20000
set_option linter.unusedVariables false
set_option linter.unusedSimpArgs false
def idxI {α : Type} (p : α → Bool) : List α → Int
 | [] => -1
 | x :: r => if p x then 0 else if idxI p r < 0 then -1 else idxI p r + 1
def noneTo {α : Type} (p : α → Bool) (l : List α) (j : Nat) : Prop := ∀ i (h : i < l.length), i < j → p l[i] = false
theorem noneTo_zero {α : Type} (p : α → Bool) (l : List α) : noneTo p l 0 := fun i _ h => by omega
theorem noneTo_succ {α : Type} {p : α → Bool} {l : List α} {j : Nat} (h : noneTo p l j) (hj : j < l.length) (he : p l[j] = false) : noneTo p l (j + 1) := fun i hi hij => by
 rcases Nat.lt_or_ge i j with h1 | h1
 · exact h i hi h1
 · obtain rfl : i = j := by omega
   exact he
theorem noneTo_tail {α : Type} {p : α → Bool} {x : α} {r : List α} {j : Nat} (h : noneTo p (x :: r) (j + 1)) : noneTo p r j := fun i hi hij => by
 have := h (i + 1) (by simpa using hi) (by omega)
 simpa using this
theorem idxI_none {α : Type} {p : α → Bool} : ∀ {l : List α}, noneTo p l l.length → idxI p l = -1
 | [], _ => rfl
 | x :: r, h => by
  have h0 := h 0 (by simp) (by simp)
  simp only [List.getElem_cons_zero] at h0
  have h1 := idxI_none (p := p) (l := r) (noneTo_tail (j := r.length) (by simpa using h))
  simp [idxI, h0, h1]
theorem idxI_at {α : Type} {p : α → Bool} : ∀ {l : List α} {j : Nat}, noneTo p l j → (hj : j < l.length) → p l[j] = true → idxI p l = j
 | [], _, _, hj, _ => by simp at hj
 | x :: r, 0, _, _, he => by simp only [List.getElem_cons_zero] at he; simp [idxI, he]
 | x :: r, j + 1, h, hj, he => by
  have h0 := h 0 (by simp) (by omega)
  simp only [List.getElem_cons_zero] at h0
  have h1 := idxI_at (p := p) (l := r) (j := j) (noneTo_tail h) (by simpa using hj) (by simpa using he)
  simp only [idxI, h0, h1]
  have : ¬ ((j : Int) < 0) := by omega
  simp [this]
theorem idxI_any_false {α : Type} {p : α → Bool} : ∀ {l : List α}, l.any p = false → idxI p l = -1
 | [], _ => rfl
 | x :: r, h => by
  simp only [List.any_cons, Bool.or_eq_false_iff] at h
  simp [idxI, h.1, idxI_any_false h.2]
theorem idxI_any_true {α : Type} {p : α → Bool} : ∀ {l : List α}, l.any p = true → 0 ≤ idxI p l
 | [], h => by simp at h
 | x :: r, h => by
  simp only [List.any_cons, Bool.or_eq_true] at h
  unfold idxI
  split
  · omega
  · rename_i hx
    rcases h with h | h
    · exact absurd h hx
    · have := idxI_any_true h
      split <;> omega
theorem idxI_spec {α : Type} {p : α → Bool} : ∀ {l : List α}, 0 ≤ idxI p l → ∃ j, ∃ h : j < l.length, idxI p l = j ∧ p l[j] = true ∧ noneTo p l j
 | [], h => by simp [idxI] at h
 | x :: r, h => by
  unfold idxI at h ⊢
  by_cases hx : p x = true
  · rw [if_pos hx] at h ⊢
    exact ⟨0, by simp, rfl, by simpa using hx, fun i _ h => by omega⟩
  ·
   rw [if_neg hx] at h ⊢
   by_cases hr : idxI p r < 0
   · rw [if_pos hr] at h; omega
   · rw [if_neg hr] at h ⊢
     obtain ⟨j, hj, e, hp, hn⟩ := idxI_spec (p := p) (l := r) (by omega)
     refine ⟨j + 1, by simpa using hj, by rw [e]; simp, by simpa using hp, fun i hi hij => ?_⟩
     match i with
     | 0 => simpa using hx
     | i + 1 => have := hn i (by simpa using hi) (by omega); simpa using this
end Go.Proofs.YtlpichogambpfaaGreat
namespace Go.Proofs.YtlpichogambpfaaGreat
set_option maxRecDepth 20000
set_option linter.unusedVariables false
set_option linter.unusedSimpArgs false
open Go.RowKit
set_option maxHeartbeats 2000000
def ins (n : Int) : List Int → List Int
 | [] => [n]
 | x :: r => if x < n then x :: ins n r else if x = n then x :: r else n :: x :: r
theorem ins_at {n : Int} : ∀ {l : List Int} {j : Nat}, j ≤ l.length → (∀ k (h : k < l.length), k < j → l[k] < n) → ins n l = l.take j ++ ins n (l.drop j)
 | l, 0, _, _ => by simp
 | [], j + 1, h, _ => by simp at h
 | x :: r, j + 1, h, hk => by
  have h0 := hk 0 (by simp) (by omega)
  simp only [List.getElem_cons_zero] at h0
  have ih := ins_at (n := n) (l := r) (j := j) (by simpa using h) (fun k h1 h2 => by have := hk (k + 1) (by simpa using h1) (by omega); simpa using this)
  simp only [ins, if_pos h0, List.take_succ_cons, List.drop_succ_cons, List.cons_append, ih]
theorem ins_here {n : Int} {l : List Int} {j : Nat} (hj : j < l.length) (hk : ∀ k (h : k < l.length), k < j → l[k] < n) (e : l[j] = n) : ins n l = l := by
 rw [ins_at (j := j) (by omega) hk, List.drop_eq_getElem_cons hj, ins, if_neg (by omega), if_pos e, ← List.drop_eq_getElem_cons hj, List.take_append_drop]
theorem ins_new {n : Int} {l : List Int} {j : Nat} (hj : j ≤ l.length) (hk : ∀ k (h : k < l.length), k < j → l[k] < n) (e : ∀ h : j < l.length, n < l[j]) : ins n l = l.take j ++ n :: l.drop j := by
 rw [ins_at hj hk]
 congr 1
 by_cases h : j < l.length
 · have := e h
   rw [List.drop_eq_getElem_cons h, ins, if_neg (by omega), if_neg (by omega)]
 · rw [List.drop_of_length_le (by omega)]; rfl
theorem ins_len (n : Int) : ∀ l : List Int, (ins n l).length ≤ l.length + 1
 | [] => by simp [ins]
 | x :: r => by have := ins_len n r; simp only [ins]; split; simp; omega; split <;> simp
theorem ins_mem {n a : Int} : ∀ {l : List Int}, a ∈ ins n l ↔ a ∈ l ∨ a = n
 | [] => by simp [ins]
 | x :: r => by
  simp only [ins]
  split
  · simp only [List.mem_cons, ins_mem (l := r), or_assoc]
  ·
   split
   · rename_i h; subst h; simp only [List.mem_cons]; constructor
     · exact .inl
     · rintro (h | rfl); exact h; exact .inl rfl
   · simp only [List.mem_cons]; constructor
     · rintro (h | h); exact .inr h; exact .inl h
     · rintro (h | h); exact .inr h; exact .inl h
theorem ins_asc {n : Int} : ∀ {l : List Int}, l.Pairwise (· < ·) → (ins n l).Pairwise (· < ·)
 | [], _ => by simp [ins]
 | x :: r, h => by
  rw [List.pairwise_cons] at h
  simp only [ins]
  split
  · rename_i h1
    rw [List.pairwise_cons]
    refine ⟨fun a ha => ?_, ins_asc h.2⟩
    rcases ins_mem.1 ha with h2 | rfl
    · exact h.1 a h2
    · exact h1
  ·
   split
   · rw [List.pairwise_cons]; exact h
   · rename_i h1 h2
     rw [List.pairwise_cons]
     refine ⟨fun a ha => ?_, List.pairwise_cons.2 h⟩
     rcases List.mem_cons.1 ha with rfl | ha
     · omega
     · have := h.1 a ha; omega
mutual
def GTy.vs : GTy → List Int → List Int | .mk op n s kids, xs => GTy.vsL kids (if op = 2 then ins n xs else xs)
def GTy.vsL : List GTy → List Int → List Int | [], xs => xs | t :: r, xs => GTy.vsL r (t.vs xs)
end
mutual
def GTy.vi : GTy → List Int → List Int | .mk op n s kids, xs => GTy.viL kids (if op = 2 ∧ xs.any (fun x => x == n) = false then xs ++ [n] else xs)
def GTy.viL : List GTy → List Int → List Int | [], xs => xs | t :: r, xs => GTy.viL r (t.vi xs)
end
theorem GTy.vs_eq (t : GTy) (xs : List Int) : t.vs xs = GTy.vsL t.kids (if t.op = 2 then ins t.n xs else xs) := by cases t; rw [GTy.vs]; rfl
theorem GTy.vi_eq (t : GTy) (xs : List Int) : t.vi xs = GTy.viL t.kids (if t.op = 2 ∧ xs.any (fun x => x == t.n) = false then xs ++ [t.n] else xs) := by cases t; rw [GTy.vi]; rfl
theorem GTy.vsL_snoc (t : GTy) : ∀ (l : List GTy) (xs : List Int), GTy.vsL (l ++ [t]) xs = t.vs (GTy.vsL l xs)
 | [], xs => by simp [GTy.vsL]
 | x :: r, xs => by simp only [List.cons_append, GTy.vsL, GTy.vsL_snoc t r]
theorem GTy.viL_snoc (t : GTy) : ∀ (l : List GTy) (xs : List Int), GTy.viL (l ++ [t]) xs = t.vi (GTy.viL l xs)
 | [], xs => by simp [GTy.viL]
 | x :: r, xs => by simp only [List.cons_append, GTy.viL, GTy.viL_snoc t r]
theorem GTy.vsL_take {l : List GTy} {j : Nat} (h : j < l.length) (xs : List Int) : GTy.vsL (l.take (j + 1)) xs = (l[j]).vs (GTy.vsL (l.take j) xs) := by rw [take_snoc' l j h, GTy.vsL_snoc]
theorem GTy.viL_take {l : List GTy} {j : Nat} (h : j < l.length) (xs : List Int) : GTy.viL (l.take (j + 1)) xs = (l[j]).vi (GTy.viL (l.take j) xs) := by rw [take_snoc' l j h, GTy.viL_snoc]
mutual
theorem GTy.vs_len : ∀ (t : GTy) (xs : List Int), (t.vs xs).length ≤ xs.length + 1 + t.bulk
 | .mk op n s kids, xs => by
  rw [GTy.vs]
  have h := GTy.vsL_len kids (if op = 2 then ins n xs else xs)
  have h1 : (if op = 2 then ins n xs else xs).length ≤ xs.length + 1 := by split; exact ins_len n xs; omega
  have h2 := (GTy.mk op n s kids).bulk_eq
  simp only [GTy.kids] at h2
  omega
theorem GTy.vsL_len : ∀ (l : List GTy) (xs : List Int), (GTy.vsL l xs).length ≤ xs.length + bulkL GTy.bulk l
 | [], xs => by simp [GTy.vsL, bulkL]
 | t :: r, xs => by
  rw [GTy.vsL]
  have h1 := GTy.vs_len t xs
  have h2 := GTy.vsL_len r (t.vs xs)
  simp only [bulkL]; omega
end
mutual
theorem GTy.vi_len : ∀ (t : GTy) (xs : List Int), (t.vi xs).length ≤ xs.length + 1 + t.bulk
 | .mk op n s kids, xs => by
  rw [GTy.vi]
  have h := GTy.viL_len kids (if op = 2 ∧ xs.any (fun x => x == n) = false then xs ++ [n] else xs)
  have h1 : (if op = 2 ∧ xs.any (fun x => x == n) = false then xs ++ [n] else xs).length ≤ xs.length + 1 := by split <;> simp
  have h2 := (GTy.mk op n s kids).bulk_eq
  simp only [GTy.kids] at h2
  omega
theorem GTy.viL_len : ∀ (l : List GTy) (xs : List Int), (GTy.viL l xs).length ≤ xs.length + bulkL GTy.bulk l
 | [], xs => by simp [GTy.viL, bulkL]
 | t :: r, xs => by
  rw [GTy.viL]
  have h1 := GTy.vi_len t xs
  have h2 := GTy.viL_len r (t.vi xs)
  simp only [bulkL]; omega
end
def SameAs (xs ys : List Int) : Prop := xs.Pairwise (· < ·) ∧ ys.Nodup ∧ ∀ a, a ∈ xs ↔ a ∈ ys
mutual
theorem GTy.same : ∀ (t : GTy) (xs ys : List Int), SameAs xs ys → SameAs (t.vs xs) (t.vi ys)
 | .mk op n s kids, xs, ys, h => by
  rw [GTy.vs, GTy.vi]
  refine GTy.sameL kids _ _ ?_
  by_cases ho : op = 2
  ·
   rw [if_pos ho]
   by_cases ha : ys.any (fun x => x == n) = false
   · rw [if_pos ⟨ho, ha⟩]
     have hn : ¬ n ∈ ys := fun hm => by
      have := List.any_eq_false.1 ha n hm; simp at this
     refine ⟨ins_asc h.1, ?_, fun a => ?_⟩
     · rw [List.nodup_append]; exact ⟨h.2.1, by simp, fun a h3 b hb e => by simp at hb; subst hb; subst e; exact hn h3⟩
     · rw [ins_mem, h.2.2]; simp
   ·
    rw [if_neg (fun e => ha e.2)]
    have hm : n ∈ ys := by
     have : ys.any (fun x => x == n) = true := by simpa using ha
     obtain ⟨x, hx, e⟩ := List.any_eq_true.1 this
     obtain rfl : x = n := by simpa using e
     exact hx
    refine ⟨ins_asc h.1, h.2.1, fun a => ?_⟩
    rw [ins_mem, h.2.2]
    constructor
    · rintro (h1 | rfl); exact h1; exact hm
    · exact .inl
  · rw [if_neg ho, if_neg (fun e => ho e.1)]; exact h
theorem GTy.sameL : ∀ (l : List GTy) (xs ys : List Int), SameAs xs ys → SameAs (GTy.vsL l xs) (GTy.viL l ys)
 | [], xs, ys, h => h
 | t :: r, xs, ys, h => by rw [GTy.vsL, GTy.viL]; exact GTy.sameL r _ _ (GTy.same t xs ys h)
end
theorem asc_one : ∀ {xs ys : List Int}, xs.Pairwise (· < ·) → ys.Pairwise (· < ·) → (∀ a, a ∈ xs ↔ a ∈ ys) → xs = ys
 | [], [], _, _, _ => rfl
 | [], y :: r, _, _, h => by have := (h y).2 (by simp); simp at this
 | x :: r, [], _, _, h => by have := (h x).1 (by simp); simp at this
 | x :: r, y :: q, hx, hy, h => by
  rw [List.pairwise_cons] at hx hy
  have e : x = y := by
   rcases List.mem_cons.1 ((h x).1 (by simp)) with e | e
   · exact e
   · rcases List.mem_cons.1 ((h y).2 (by simp)) with e2 | e2
     · exact e2.symm
     · have := hx.1 y e2; have := hy.1 x e; omega
  subst e
  congr 1
  refine asc_one hx.2 hy.2 fun a => ?_
  constructor
  · intro ha
    rcases List.mem_cons.1 ((h a).1 (by simp [ha])) with e | e
    · subst e; have := hx.1 _ ha; omega
    · exact e
  · intro ha
    rcases List.mem_cons.1 ((h a).2 (by simp [ha])) with e | e
    · subst e; have := hy.1 _ ha; omega
    · exact e
theorem SameAs.sorted {xs ys : List Int} (h : SameAs xs ys) : (ys.mergeSort fun x y => decide (x ≤ y)) = xs := by
 have hp := List.mergeSort_perm ys (fun x y => decide (x ≤ y))
 refine asc_one ?_ h.1 fun a => by rw [hp.mem_iff]; exact (h.2.2 a).symm
 have hs := List.pairwise_mergeSort (le := fun (x y : Int) => decide (x ≤ y)) (fun a b c h1 h2 => by simp at *; omega) (fun a b => by simp; omega) ys
 have hn : (ys.mergeSort fun x y => decide (x ≤ y)).Nodup := hp.nodup_iff.2 h.2.1
 have hand := List.Pairwise.and hs hn
 exact hand.imp fun h => by obtain ⟨a, b⟩ := h; simp at a; omega
def VTo (B : Nat) (xs : List Int) (w : World) (e : Ending) (w' : World) : Prop := ∃ A c, e = .returned (.slice A xs.length c) ∧ Gre w' B 3 1 (.slice A xs.length c) xs.length (xs.map (D.num .i64)) ∧ Below w.heap.size w w'
theorem specInsert (B : Nat) (xs : List Int) (A : Option Addr) (c : Nat) (n : Int) (w : World) (hn : (Lit.int .i64 n).wf = true) (hl : xs.length ≤ 4194304) (hB : B ≤ w.heap.size) (hG : Gre w B 3 1 (.slice A xs.length c) xs.length (xs.map (D.num .i64))) :
 Calls Tryz.prog 55 #[.slice A xs.length c, .int .i64 n] w (VTo B (ins n xs) w) := by
 have HG := LH hG
 have HS := LH (show Sl w (Lt w.heap.size) 1 A c (xs.map (D.num .i64)) from by obtain ⟨A', c', e', h⟩ := hG.sl; obtain ⟨rfl, rfl⟩ : A = A' ∧ c = c' := (by simpa using e'); exact h)
 have HW := LH hn
 have hcx : xs.length ≤ c := by have := HS.out.1; simpa using this
 have hcm := HS.out.2.1
 have hcm2 : c ≤ 9223372036854775807 := by unfold maxLen at hcm; omega
 clear hG hn
 go_enter Tryz.func55, Tryz.ntmps55
 go_wp2_with fail
 go_loop [5] (fun i => ∃ (j : Nat), j ≤ xs.length ∧ i = .int .i64 j ∧ Hid (∀ k (h : k < xs.length), k < j → xs[k] < n)) (fun i => xs.length - (intOf i).toNat)
 case atStart => exact ⟨0, by omega, by go_num, LH (fun k h h2 => by omega)⟩
 case round =>
  obtain ⟨j, hj, rfl, HK⟩ := hrel
  by_cases hlt : j < xs.length
  ·
   obtain ⟨b, off, rfl, hSb, g0, gw⟩ := int_elem HS.out j hlt
   by_cases h1 : xs[j] < n
   ·
    have e1 : decide (xs[j] < n) = true := decide_eq_true h1
    have HK2 := LH (show ∀ k (h : k < xs.length), k < j + 1 → xs[k] < n from fun k h hk => by
      rcases Nat.lt_or_ge k j with h2 | h2
      · exact HK.out k h h2
      · obtain rfl : k = j := by omega
        exact h1)
    clear h1
    go_wp2_with fail
    go_round
    case rel => exact ⟨j + 1, by omega, by go_num, HK2⟩
    case measure => simp [intOf]; omega
   ·
    have e1 : decide (xs[j] < n) = false := decide_eq_false h1
    by_cases h2 : xs[j] = n
    · have e2 : (xs[j] == n) = true := by rw [beq_iff_eq]; exact h2
      have HV := LH (ins_here hlt HK.out h2)
      clear h1 h2
      go_wp2_with fail
      go_ret
      rw [HV.out]
      exact ⟨_, _, rfl, HG.out, Below.refl _ _⟩
    ·
     have e2 : (xs[j] == n) = false := by rw [beq_eq_false_iff_ne]; exact h2
     have HV := LH (ins_new hj HK.out (fun _ => by omega))
     have hg : some (⟨b, off, none⟩ : Addr) = some ⟨b, off, none⟩ := rfl
     clear h1 h2
     have E1 := LH (show Below w.heap.size w (w.alloc (.cells #[] 3)) from (Below.refl _ _).alloc (Nat.le_refl _) _)
     have G1 := LH (show Gre (w.alloc (.cells #[] 3)) B 3 1 (.slice (some ⟨w.heap.size, 0, none⟩) 0 0) 0 [] from Gre.made (Row.new' _ _ _ rfl) hB)
     have T1 := LH (show Sl (w.alloc (.cells #[] 3)) (fun b => b < (w.alloc (.cells #[] 3)).heap.size ∧ (Value.slice (some ⟨w.heap.size, 0, none⟩) 0 0).ownBlock ≠ some b) 1 (some ⟨b, off, none⟩) c ((xs.take j).map (D.num .i64)) from by
       rw [List.map_take]
       exact (HS.out.take j).keep fun q hq => ⟨⟨Nat.lt_of_lt_of_le hq E1.out.size, fun e => by simp [Value.ownBlock] at e; have h2 : q < w.heap.size := hq; omega⟩, E1.out.block q hq⟩)
     have hB1 : B ≤ (w.alloc (.cells #[] 3)).heap.size := Nat.le_trans hB E1.out.size
     have hlj : (xs.take j).length = j := by rw [List.length_take]; omega
     go_wp2_with (first
       | (at_builtin; refine wpList_append_M (w.alloc (.cells #[] 3)) rfl (.tmp 34) (.tmp 37) 30 rfl 3 (.int .i64 0) 1 8 Tryz.underlying30 (by kernel_rfl) rfl (by omega) B (.slice (some ⟨w.heap.size, 0, none⟩) 0 0) 0 [] G1.out (some ⟨b, off, none⟩) c j _ (by rw [List.length_map]; exact hlj) T1.out hB1 (by unfold maxLen; omega) (by omega) rfl rfl ?_
          intro A3 c3 w3 G3 hGr3
          rw [Nat.zero_add] at G3 hGr3
          have E3 := LH (show Below w.heap.size w w3 from E1.out.trans (hGr3.below E1.out.size (fun gg hg => by simp [Value.ownBlock] at hg; omega)))
          have O3 := LH (show ∀ gg, (Value.slice A3 j c3).ownBlock = some gg → w.heap.size ≤ gg from fun gg hg => by
            rcases hGr3.own with h | ⟨g2, h, h2⟩
            · rw [h] at hg; simp [Value.ownBlock] at hg; omega
            · rw [h] at hg; cases hg; exact Nat.le_trans E1.out.size h2)
          have G3h := LH (show Gre w3 B 3 1 (.slice A3 j c3) j ((xs.take j).map (D.num .i64)) from G3)
          have hs3 := E3.out.size
          have EA := LH (show Below w3.heap.size w3 (w3.alloc (.cells #[.int .i64 n] 3)) from (Below.refl _ _).alloc (Nat.le_refl _) _)
          have GA := LH (G3h.out.below EA.out)
          have TA := LH (show Sl (w3.alloc (.cells #[.int .i64 n] 3)) (fun b => b < (w3.alloc (.cells #[.int .i64 n] 3)).heap.size ∧ (Value.slice A3 j c3).ownBlock ≠ some b) 1 (some ⟨w3.heap.size, 0, none⟩) 1 ([n].map (D.num .i64)) from
            (rowI_osl (B := w3.heap.size) (Row.new' w3 3 (rowI [n]) rfl) (Nat.le_refl _) (by simp [maxLen]) (by intro x hx; simp at hx; rw [hx]; exact HW.out)).sl.keep fun b hb => ⟨⟨hb.2, fun e => by have := (G3h.out.own b e).2; have := hb.1; omega⟩, rfl⟩)
          have hBA : B ≤ (w3.alloc (.cells #[.int .i64 n] 3)).heap.size := Nat.le_trans hB (Nat.le_trans hs3 EA.out.size)
          clear G3 hGr3)
       | (at_builtin; refine wpList_append_M (w3.alloc (.cells #[.int .i64 n] 3)) rfl (.tmp 39) (.tmp 41) 30 rfl 3 (.int .i64 0) 1 8 Tryz.underlying30 (by kernel_rfl) rfl (by omega) B (.slice A3 j c3) j _ GA.out (some ⟨w3.heap.size, 0, none⟩) 1 1 _ rfl TA.out hBA (by unfold maxLen; omega) (by omega) rfl rfl ?_
          intro A4 c4 w4 G4 hGr4
          have E4 := LH (show Below w.heap.size w w4 from (E3.out.trans (EA.out.mono hs3)).trans (hGr4.below (Nat.le_trans hs3 EA.out.size) O3.out))
          have O4 := LH (show ∀ gg, (Value.slice A4 (j + 1) c4).ownBlock = some gg → w.heap.size ≤ gg from fun gg hg => by
            rcases hGr4.own with h | ⟨g2, h, h2⟩
            · rw [h] at hg; exact O3.out gg hg
            · rw [h] at hg; cases hg; exact Nat.le_trans hs3 (Nat.le_trans EA.out.size h2))
          have G4h := LH G4
          have hs4 := E4.out.size
          have hBD : B ≤ w4.heap.size := Nat.le_trans hB hs4
          have TD := LH (show Sl w4 (fun b => b < w4.heap.size ∧ (Value.slice A4 (j + 1) c4).ownBlock ≠ some b) 1 (some ⟨b, off + j, none⟩) (c - j) ((xs.drop j).map (D.num .i64)) from by
            rw [List.map_drop]; have h := HS.out.drop j (by simpa using hj); rw [Nat.mul_one] at h; exact h.keep fun q hq => ⟨⟨Nat.lt_of_lt_of_le hq hs4, fun e => by have := O4.out q e; have h2 : q < w.heap.size := hq; omega⟩, E4.out.block q hq⟩)
          clear G4 hGr4)
       | (at_builtin; refine wpList_append_M w4 rfl (.tmp 43) (.tmp 46) 30 rfl 3 (.int .i64 0) 1 8 Tryz.underlying30 (by kernel_rfl) rfl (by omega) B (.slice A4 (j + 1) c4) (j + 1) _ G4h.out (some ⟨b, off + j, none⟩) (c - j) (xs.length - j) _ (by simp) TD.out hBD (by unfold maxLen; omega) (by omega) rfl rfl ?_
          intro A5 c5 w5 G5 hGr5
          have E5 := LH (show Below w.heap.size w w5 from E4.out.trans (hGr5.below hs4 O4.out))
          have G5h := LH G5
          clear G5 hGr5))
     go_ret
     have hlen : j + 1 + (xs.length - j) = (ins n xs).length := by rw [HV.out, List.length_append, List.length_cons, List.length_take, List.length_drop]; omega
     refine ⟨A5, c5, by rw [← hlen]; rfl, ?_, E5.out⟩
     have h := G5h.out
     rw [← hlen, HV.out]
     simpa [List.map_append] using h
  ·
   have HV := LH (ins_new hj HK.out (fun h => absurd h hlt))
   have hA : (A = none ∧ xs.length = 0 ∧ c = 0) ∨ ∃ g, A = some ⟨g, 0, none⟩ := by
    obtain ⟨h1, cs, h2, h4⟩ := HG.out
    rcases h2.2 with ⟨h5, h6⟩ | ⟨g, cap, cur, hv, _⟩
    · simp only [Value.slice.injEq] at h5
      exact .inl ⟨h5.1, h6, h5.2.2⟩
    · simp only [Value.slice.injEq] at hv
      exact .inr ⟨g, hv.1⟩
   rcases hA with ⟨rfl, hx0, rfl⟩ | ⟨g0, rfl⟩
   ·
    obtain rfl : xs = [] := List.eq_nil_of_length_eq_zero hx0
    obtain rfl : j = 0 := by simpa using hj
    clear hx0
    have E1 := LH (show Below w.heap.size w (w.alloc (.cells #[] 3)) from (Below.refl _ _).alloc (Nat.le_refl _) _)
    have G1 := LH (show Gre (w.alloc (.cells #[] 3)) B 3 1 (.slice (some ⟨w.heap.size, 0, none⟩) 0 0) 0 [] from Gre.made (Row.new' _ _ _ rfl) hB)
    have T1 := LH (show Sl (w.alloc (.cells #[] 3)) (fun b => b < (w.alloc (.cells #[] 3)).heap.size ∧ (Value.slice (some ⟨w.heap.size, 0, none⟩) 0 0).ownBlock ≠ some b) 1 none 0 ((([] : List Int)).map (D.num .i64)) from by
                exact HS.out.keep fun q hq => ⟨⟨Nat.lt_of_lt_of_le hq E1.out.size, fun e => by simp [Value.ownBlock] at e; have h2 : q < w.heap.size := hq; omega⟩, E1.out.block q hq⟩)
    have hB1 : B ≤ (w.alloc (.cells #[] 3)).heap.size := Nat.le_trans hB E1.out.size
    have hlj : ([] : List Int).length = 0 := rfl
    go_wp2_with (first
      | (at_builtin; refine wpList_append_M (w.alloc (.cells #[] 3)) rfl (.tmp 34) (.tmp 37) 30 rfl 3 (.int .i64 0) 1 8 Tryz.underlying30 (by kernel_rfl) rfl (by omega) B (.slice (some ⟨w.heap.size, 0, none⟩) 0 0) 0 [] G1.out none 0 0 _ (by rw [List.length_map]; exact hlj) T1.out hB1 (by unfold maxLen; omega) (by omega) rfl rfl ?_
         intro A3 c3 w3 G3 hGr3
         rw [Nat.zero_add] at G3 hGr3
         have E3 := LH (show Below w.heap.size w w3 from E1.out.trans (hGr3.below E1.out.size (fun gg hg => by simp [Value.ownBlock] at hg; omega)))
         have O3 := LH (show ∀ gg, (Value.slice A3 0 c3).ownBlock = some gg → w.heap.size ≤ gg from fun gg hg => by
           rcases hGr3.own with h | ⟨g2, h, h2⟩
           · rw [h] at hg; simp [Value.ownBlock] at hg; omega
           · rw [h] at hg; cases hg; exact Nat.le_trans E1.out.size h2)
         have G3h := LH (show Gre w3 B 3 1 (.slice A3 0 c3) 0 ((([] : List Int)).map (D.num .i64)) from G3)
         have hs3 := E3.out.size
         have EA := LH (show Below w3.heap.size w3 (w3.alloc (.cells #[.int .i64 n] 3)) from (Below.refl _ _).alloc (Nat.le_refl _) _)
         have GA := LH (G3h.out.below EA.out)
         have TA := LH (show Sl (w3.alloc (.cells #[.int .i64 n] 3)) (fun b => b < (w3.alloc (.cells #[.int .i64 n] 3)).heap.size ∧ (Value.slice A3 0 c3).ownBlock ≠ some b) 1 (some ⟨w3.heap.size, 0, none⟩) 1 ([n].map (D.num .i64)) from
           (rowI_osl (B := w3.heap.size) (Row.new' w3 3 (rowI [n]) rfl) (Nat.le_refl _) (by simp [maxLen]) (by intro x hx; simp at hx; rw [hx]; exact HW.out)).sl.keep fun b hb => ⟨⟨hb.2, fun e => by have := (G3h.out.own b e).2; have := hb.1; omega⟩, rfl⟩)
         have hBA : B ≤ (w3.alloc (.cells #[.int .i64 n] 3)).heap.size := Nat.le_trans hB (Nat.le_trans hs3 EA.out.size)
         clear G3 hGr3)
      | (at_builtin; refine wpList_append_M (w3.alloc (.cells #[.int .i64 n] 3)) rfl (.tmp 39) (.tmp 41) 30 rfl 3 (.int .i64 0) 1 8 Tryz.underlying30 (by kernel_rfl) rfl (by omega) B (.slice A3 0 c3) 0 _ GA.out (some ⟨w3.heap.size, 0, none⟩) 1 1 _ rfl TA.out hBA (by unfold maxLen; omega) (by omega) rfl rfl ?_
         intro A4 c4 w4 G4 hGr4
         have E4 := LH (show Below w.heap.size w w4 from (E3.out.trans (EA.out.mono hs3)).trans (hGr4.below (Nat.le_trans hs3 EA.out.size) O3.out))
         have O4 := LH (show ∀ gg, (Value.slice A4 (0 + 1) c4).ownBlock = some gg → w.heap.size ≤ gg from fun gg hg => by
           rcases hGr4.own with h | ⟨g2, h, h2⟩
           · rw [h] at hg; exact O3.out gg hg
           · rw [h] at hg; cases hg; exact Nat.le_trans hs3 (Nat.le_trans EA.out.size h2))
         have G4h := LH G4
         have hs4 := E4.out.size
         have hBD : B ≤ w4.heap.size := Nat.le_trans hB hs4
         have TD := LH (show Sl w4 (fun b => b < w4.heap.size ∧ (Value.slice A4 (0 + 1) c4).ownBlock ≠ some b) 1 none 0 ((([] : List Int)).map (D.num .i64)) from by
           simp; exact Sl.nil (by omega))
         clear G4 hGr4)
      | (at_builtin; refine wpList_append_M w4 rfl (.tmp 43) (.tmp 46) 30 rfl 3 (.int .i64 0) 1 8 Tryz.underlying30 (by kernel_rfl) rfl (by omega) B (.slice A4 (0 + 1) c4) (0 + 1) _ G4h.out none 0 (0) _ (by simp) TD.out hBD (by unfold maxLen; omega) (by omega) rfl rfl ?_
         intro A5 c5 w5 G5 hGr5
         have E5 := LH (show Below w.heap.size w w5 from E4.out.trans (hGr5.below hs4 O4.out))
         have G5h := LH G5
         clear G5 hGr5))
    go_ret
    exact ⟨A5, c5, rfl, by simpa [ins] using G5h.out, E5.out⟩
   ·
    by_cases hcj : j = c
    ·
     subst hcj
     have E1 := LH (show Below w.heap.size w (w.alloc (.cells #[] 3)) from (Below.refl _ _).alloc (Nat.le_refl _) _)
     have G1 := LH (show Gre (w.alloc (.cells #[] 3)) B 3 1 (.slice (some ⟨w.heap.size, 0, none⟩) 0 0) 0 [] from Gre.made (Row.new' _ _ _ rfl) hB)
     have T1 := LH (show Sl (w.alloc (.cells #[] 3)) (fun b => b < (w.alloc (.cells #[] 3)).heap.size ∧ (Value.slice (some ⟨w.heap.size, 0, none⟩) 0 0).ownBlock ≠ some b) 1 (some ⟨g0, 0, none⟩) j ((xs.take j).map (D.num .i64)) from by
       rw [List.map_take]
       exact (HS.out.take j).keep fun q hq => ⟨⟨Nat.lt_of_lt_of_le hq E1.out.size, fun e => by simp [Value.ownBlock] at e; have h2 : q < w.heap.size := hq; omega⟩, E1.out.block q hq⟩)
     have hB1 : B ≤ (w.alloc (.cells #[] 3)).heap.size := Nat.le_trans hB E1.out.size
     have hlj : (xs.take j).length = j := by rw [List.length_take]; omega
     go_wp2_with (first
       | (at_builtin; refine wpList_append_M (w.alloc (.cells #[] 3)) rfl (.tmp 34) (.tmp 37) 30 rfl 3 (.int .i64 0) 1 8 Tryz.underlying30 (by kernel_rfl) rfl (by omega) B (.slice (some ⟨w.heap.size, 0, none⟩) 0 0) 0 [] G1.out (some ⟨g0, 0, none⟩) j j _ (by rw [List.length_map]; exact hlj) T1.out hB1 (by unfold maxLen; omega) (by omega) rfl rfl ?_
          intro A3 c3 w3 G3 hGr3
          rw [Nat.zero_add] at G3 hGr3
          have E3 := LH (show Below w.heap.size w w3 from E1.out.trans (hGr3.below E1.out.size (fun gg hg => by simp [Value.ownBlock] at hg; omega)))
          have O3 := LH (show ∀ gg, (Value.slice A3 j c3).ownBlock = some gg → w.heap.size ≤ gg from fun gg hg => by
            rcases hGr3.own with h | ⟨g2, h, h2⟩
            · rw [h] at hg; simp [Value.ownBlock] at hg; omega
            · rw [h] at hg; cases hg; exact Nat.le_trans E1.out.size h2)
          have G3h := LH (show Gre w3 B 3 1 (.slice A3 j c3) j ((xs.take j).map (D.num .i64)) from G3)
          have hs3 := E3.out.size
          have EA := LH (show Below w3.heap.size w3 (w3.alloc (.cells #[.int .i64 n] 3)) from (Below.refl _ _).alloc (Nat.le_refl _) _)
          have GA := LH (G3h.out.below EA.out)
          have TA := LH (show Sl (w3.alloc (.cells #[.int .i64 n] 3)) (fun b => b < (w3.alloc (.cells #[.int .i64 n] 3)).heap.size ∧ (Value.slice A3 j c3).ownBlock ≠ some b) 1 (some ⟨w3.heap.size, 0, none⟩) 1 ([n].map (D.num .i64)) from
            (rowI_osl (B := w3.heap.size) (Row.new' w3 3 (rowI [n]) rfl) (Nat.le_refl _) (by simp [maxLen]) (by intro x hx; simp at hx; rw [hx]; exact HW.out)).sl.keep fun b hb => ⟨⟨hb.2, fun e => by have := (G3h.out.own b e).2; have := hb.1; omega⟩, rfl⟩)
          have hBA : B ≤ (w3.alloc (.cells #[.int .i64 n] 3)).heap.size := Nat.le_trans hB (Nat.le_trans hs3 EA.out.size)
          clear G3 hGr3)
       | (at_builtin; refine wpList_append_M (w3.alloc (.cells #[.int .i64 n] 3)) rfl (.tmp 39) (.tmp 41) 30 rfl 3 (.int .i64 0) 1 8 Tryz.underlying30 (by kernel_rfl) rfl (by omega) B (.slice A3 j c3) j _ GA.out (some ⟨w3.heap.size, 0, none⟩) 1 1 _ rfl TA.out hBA (by unfold maxLen; omega) (by omega) rfl rfl ?_
          intro A4 c4 w4 G4 hGr4
          have E4 := LH (show Below w.heap.size w w4 from (E3.out.trans (EA.out.mono hs3)).trans (hGr4.below (Nat.le_trans hs3 EA.out.size) O3.out))
          have O4 := LH (show ∀ gg, (Value.slice A4 (j + 1) c4).ownBlock = some gg → w.heap.size ≤ gg from fun gg hg => by
            rcases hGr4.own with h | ⟨g2, h, h2⟩
            · rw [h] at hg; exact O3.out gg hg
            · rw [h] at hg; cases hg; exact Nat.le_trans hs3 (Nat.le_trans EA.out.size h2))
          have G4h := LH G4
          have hs4 := E4.out.size
          have hBD : B ≤ w4.heap.size := Nat.le_trans hB hs4
          have TD := LH (show Sl w4 (fun b => b < w4.heap.size ∧ (Value.slice A4 (j + 1) c4).ownBlock ≠ some b) 1 (some ⟨g0, 0, none⟩) 0 ((xs.drop j).map (D.num .i64)) from by
            rw [List.drop_of_length_le (by omega)]; exact Sl.nil (by omega))
          clear G4 hGr4)
       | (at_builtin; refine wpList_append_M w4 rfl (.tmp 43) (.tmp 46) 30 rfl 3 (.int .i64 0) 1 8 Tryz.underlying30 (by kernel_rfl) rfl (by omega) B (.slice A4 (j + 1) c4) (j + 1) _ G4h.out (some ⟨g0, 0, none⟩) 0 0 _ (by rw [List.length_map, List.length_drop]; omega) TD.out hBD (by unfold maxLen; omega) (by omega) rfl rfl ?_
          intro A5 c5 w5 G5 hGr5
          have E5 := LH (show Below w.heap.size w w5 from E4.out.trans (hGr5.below hs4 O4.out))
          have G5h := LH G5
          clear G5 hGr5))
     go_ret
     have hlen : j + 1 + 0 = (ins n xs).length := by rw [HV.out, List.length_append, List.length_cons, List.length_take, List.length_drop]; omega
     refine ⟨A5, c5, by rw [← hlen]; rfl, ?_, E5.out⟩
     have h := G5h.out
     rw [← hlen, HV.out]
     simpa [List.map_append] using h
    ·
     have hcj2 : ¬ c = j := fun e => hcj e.symm
     have E1 := LH (show Below w.heap.size w (w.alloc (.cells #[] 3)) from (Below.refl _ _).alloc (Nat.le_refl _) _)
     have G1 := LH (show Gre (w.alloc (.cells #[] 3)) B 3 1 (.slice (some ⟨w.heap.size, 0, none⟩) 0 0) 0 [] from Gre.made (Row.new' _ _ _ rfl) hB)
     have T1 := LH (show Sl (w.alloc (.cells #[] 3)) (fun b => b < (w.alloc (.cells #[] 3)).heap.size ∧ (Value.slice (some ⟨w.heap.size, 0, none⟩) 0 0).ownBlock ≠ some b) 1 (some ⟨g0, 0, none⟩) c ((xs.take j).map (D.num .i64)) from by
       rw [List.map_take]
       exact (HS.out.take j).keep fun q hq => ⟨⟨Nat.lt_of_lt_of_le hq E1.out.size, fun e => by simp [Value.ownBlock] at e; have h2 : q < w.heap.size := hq; omega⟩, E1.out.block q hq⟩)
     have hB1 : B ≤ (w.alloc (.cells #[] 3)).heap.size := Nat.le_trans hB E1.out.size
     have hlj : (xs.take j).length = j := by rw [List.length_take]; omega
     go_wp2_with (first
       | (at_builtin; refine wpList_append_M (w.alloc (.cells #[] 3)) rfl (.tmp 34) (.tmp 37) 30 rfl 3 (.int .i64 0) 1 8 Tryz.underlying30 (by kernel_rfl) rfl (by omega) B (.slice (some ⟨w.heap.size, 0, none⟩) 0 0) 0 [] G1.out (some ⟨g0, 0, none⟩) c j _ (by rw [List.length_map]; exact hlj) T1.out hB1 (by unfold maxLen; omega) (by omega) rfl rfl ?_
          intro A3 c3 w3 G3 hGr3
          rw [Nat.zero_add] at G3 hGr3
          have E3 := LH (show Below w.heap.size w w3 from E1.out.trans (hGr3.below E1.out.size (fun gg hg => by simp [Value.ownBlock] at hg; omega)))
          have O3 := LH (show ∀ gg, (Value.slice A3 j c3).ownBlock = some gg → w.heap.size ≤ gg from fun gg hg => by
            rcases hGr3.own with h | ⟨g2, h, h2⟩
            · rw [h] at hg; simp [Value.ownBlock] at hg; omega
            · rw [h] at hg; cases hg; exact Nat.le_trans E1.out.size h2)
          have G3h := LH (show Gre w3 B 3 1 (.slice A3 j c3) j ((xs.take j).map (D.num .i64)) from G3)
          have hs3 := E3.out.size
          have EA := LH (show Below w3.heap.size w3 (w3.alloc (.cells #[.int .i64 n] 3)) from (Below.refl _ _).alloc (Nat.le_refl _) _)
          have GA := LH (G3h.out.below EA.out)
          have TA := LH (show Sl (w3.alloc (.cells #[.int .i64 n] 3)) (fun b => b < (w3.alloc (.cells #[.int .i64 n] 3)).heap.size ∧ (Value.slice A3 j c3).ownBlock ≠ some b) 1 (some ⟨w3.heap.size, 0, none⟩) 1 ([n].map (D.num .i64)) from
            (rowI_osl (B := w3.heap.size) (Row.new' w3 3 (rowI [n]) rfl) (Nat.le_refl _) (by simp [maxLen]) (by intro x hx; simp at hx; rw [hx]; exact HW.out)).sl.keep fun b hb => ⟨⟨hb.2, fun e => by have := (G3h.out.own b e).2; have := hb.1; omega⟩, rfl⟩)
          have hBA : B ≤ (w3.alloc (.cells #[.int .i64 n] 3)).heap.size := Nat.le_trans hB (Nat.le_trans hs3 EA.out.size)
          clear G3 hGr3)
       | (at_builtin; refine wpList_append_M (w3.alloc (.cells #[.int .i64 n] 3)) rfl (.tmp 39) (.tmp 41) 30 rfl 3 (.int .i64 0) 1 8 Tryz.underlying30 (by kernel_rfl) rfl (by omega) B (.slice A3 j c3) j _ GA.out (some ⟨w3.heap.size, 0, none⟩) 1 1 _ rfl TA.out hBA (by unfold maxLen; omega) (by omega) rfl rfl ?_
          intro A4 c4 w4 G4 hGr4
          have E4 := LH (show Below w.heap.size w w4 from (E3.out.trans (EA.out.mono hs3)).trans (hGr4.below (Nat.le_trans hs3 EA.out.size) O3.out))
          have O4 := LH (show ∀ gg, (Value.slice A4 (j + 1) c4).ownBlock = some gg → w.heap.size ≤ gg from fun gg hg => by
            rcases hGr4.own with h | ⟨g2, h, h2⟩
            · rw [h] at hg; exact O3.out gg hg
            · rw [h] at hg; cases hg; exact Nat.le_trans hs3 (Nat.le_trans EA.out.size h2))
          have G4h := LH G4
          have hs4 := E4.out.size
          have hBD : B ≤ w4.heap.size := Nat.le_trans hB hs4
          have TD := LH (show Sl w4 (fun b => b < w4.heap.size ∧ (Value.slice A4 (j + 1) c4).ownBlock ≠ some b) 1 (some ⟨g0, j, none⟩) (c - j) ((xs.drop j).map (D.num .i64)) from by
            rw [List.drop_of_length_le (by omega)]; exact Sl.nil (by omega))
          clear G4 hGr4)
       | (at_builtin; refine wpList_append_M w4 rfl (.tmp 43) (.tmp 46) 30 rfl 3 (.int .i64 0) 1 8 Tryz.underlying30 (by kernel_rfl) rfl (by omega) B (.slice A4 (j + 1) c4) (j + 1) _ G4h.out (some ⟨g0, j, none⟩) (c - j) (xs.length - j) _ (by simp) TD.out hBD (by unfold maxLen; omega) (by omega) rfl rfl ?_
          intro A5 c5 w5 G5 hGr5
          have E5 := LH (show Below w.heap.size w w5 from E4.out.trans (hGr5.below hs4 O4.out))
          have G5h := LH G5
          clear G5 hGr5))
     go_ret
     have hlen : j + 1 + (xs.length - j) = (ins n xs).length := by rw [HV.out, List.length_append, List.length_cons, List.length_take, List.length_drop]; omega
     refine ⟨A5, c5, by rw [← hlen]; rfl, ?_, E5.out⟩
     have h := G5h.out
     rw [← hlen, HV.out]
     simpa [List.map_append] using h
theorem bulkV_snoc {α : Type} (f : α → Nat) (x : α) : ∀ l : List α, bulkL f (l ++ [x]) = bulkL f l + f x + 1
 | [] => by simp [bulkL]; omega
 | y :: r => by simp only [List.cons_append, bulkL, bulkV_snoc f x r]; omega
theorem bulkV_next {α : Type} (f : α → Nat) {l : List α} {j : Nat} (h : j < l.length) : bulkL f (l.take (j + 1)) = bulkL f (l.take j) + f l[j] + 1 ∧ bulkL f (l.take (j + 1)) ≤ bulkL f l := by
 refine ⟨by rw [take_snoc' l j h, bulkV_snoc], ?_⟩
 have := bulkL_take_le f l (j + 1) (by omega)
 omega
theorem specVars (B k : Nat) : ∀ (t : GTy) (A1 : Option Addr) (c1 : Nat) (xs : List Int) (Vl : Option Addr) (vc : Nat) (w : World), t.bulk < k → xs.length + 1 + t.bulk ≤ 1048577 → B ≤ w.heap.size → Gre w B 3 1 (.slice Vl xs.length vc) xs.length (xs.map (D.num .i64)) → GTy.At w (Lt w.heap.size) A1 c1 t →
 Calls Tryz.prog 49 #[.agg #[.int .i64 t.op, .int .i64 t.n, .string t.s, .slice A1 t.kids.length c1], .slice Vl xs.length vc] w (VTo B (t.vs xs) w) := by
 induction k with
 | zero => intros; omega
 | succ k ih =>
  intro t A1 c1 xs Vl vc w hk h1 hB hg hat
  have hbe := t.bulk_eq
  have hlen : t.kids.length ≤ 1048576 := by have := bulkL_len GTy.bulk t.kids; omega
  have HKB := LH (fun (j : Nat) (h : j < t.kids.length) => bulkV_next GTy.bulk h)
  have HH := LH (fun (j : Nat) (h : j < t.kids.length) (A1 : Option Addr) (c1 : Nat) => ih t.kids[j] A1 c1)
  have HBE := LH hbe
  have HKK := LH hk
  have H1 := LH h1
  have T0 := LH hat
  obtain ⟨w0, e0⟩ : ∃ w0, w0 = w.alloc (.cells #[.int .i64 t.op, .int .i64 t.n, .string t.s, .slice A1 t.kids.length c1] 27) := ⟨_, rfl⟩
  have E0 := LH (show Below w.heap.size w w0 by rw [e0]; exact (Below.refl _ _).alloc (Nat.le_refl _) _)
  have Ra0 := LH (show Row w0 w.heap.size 27 #[.int .i64 t.op, .int .i64 t.n, .string t.s, .slice A1 t.kids.length c1] by rw [e0]; exact Row.new' _ _ _ rfl)
  have G0 := LH (hg.below E0.out)
  have S0 : w0.heap.size = w.heap.size + 1 := by rw [e0]; simp
  have hca0 := fun i => Ra0.out.cell i
  have HVE := LH (t.vs_eq xs)
  have hwn : Hid ((Lit.int .i64 t.n).wf = true) := LH hat.2.1
  clear ih hbe hk h1 hat hg
  cases o2 : (t.op == 2)
  ·
   have HM := LH (show t.vs xs = GTy.vsL t.kids xs by rw [HVE.out, if_neg (by simpa using o2)])
   have HYL := LH (show xs.length ≤ xs.length + 1 by omega)
   go_enter Tryz.func49, Tryz.ntmps49
   go_wp2_with fail
   rw [← e0]
   clear e0 hca0
   go_loopw [1, 5] (fun v i wr => ∃ (j : Nat) (zs : List Int) (A : Option Addr) (c : Nat), j ≤ t.kids.length ∧ i = .int .i64 j ∧ v = .slice A zs.length c ∧ Hid (zs = GTy.vsL (t.kids.take j) xs) ∧ Hid (Gre wr B 3 1 (.slice A zs.length c) zs.length (zs.map (D.num .i64))) ∧ Hid (Row wr w.heap.size 27 #[.int .i64 t.op, .int .i64 t.n, .string t.s, .slice A1 t.kids.length c1]) ∧ Hid (zs.length ≤ xs.length + bulkL GTy.bulk (t.kids.take j)) ∧ Below w.heap.size w wr) (fun _ i _ => t.kids.length - (intOf i).toNat)
   case atStart => exact ⟨0, _, _, _, by omega, by go_num, rfl, LH (by simp [GTy.vsL]), G0, Ra0, LH (by simp [bulkL]), E0.out⟩
   case round =>
    obtain ⟨j, zs, A, c, hj, rfl, rfl, HZ, HG, HRa, HZL, hbl⟩ := hrel
    have hsz := hbl.size
    have hca := fun i => HRa.out.cell i
    by_cases hlt : j < t.kids.length
    ·
     obtain ⟨b, off, A2, c2, eA, hSb, g0, g1, g2, g3, hatk⟩ := GTy.elem (T0.out.below hbl (Nat.le_refl _)).2.2.2 j hlt
     have HA := LH (hatk.below (Below.refl _ _) hsz)
     have HJ := LH (HKB.out j hlt)
     subst eA
     clear hatk
     go_wp2_with fail
     refine (HH.out j hlt A2 c2 zs A c _ (by have := HKK.out; have := HBE.out; have := HJ.out; omega) (by have := H1.out; have := HBE.out; have := HJ.out; have := HZL.out; have := HYL.out; omega) (by omega) HG.out HA.out).mono ?_
     rintro e w1 ⟨A3, c3, rfl, hG1, hb1⟩
     have HG1 := LH hG1
     have B1 := LH (hbl.trans (hb1.mono hsz))
     have R1 := LH (HRa.out.below hb1 HRa.out.lt)
     clear hG1 hb1
     go_wp2_with fail
     go_roundw
     case rel => exact ⟨j + 1, _, A3, c3, by omega, by go_num, rfl, LH (by rw [GTy.vsL_take hlt, ← HZ.out]), HG1, R1, LH (by have h1 := GTy.vs_len (t.kids[j]) zs; have h2 := HJ.out; have h3 := HZL.out; omega), B1.out⟩
     case measure => simp [intOf]; omega
    · have HY := LH (show zs = t.vs xs from by rw [HM.out, HZ.out, show j = t.kids.length by omega, List.take_length])
      go_wp2_with fail
      go_ret
      rw [← HY.out]
      exact ⟨A, c, rfl, HG.out, hbl⟩
  ·
   have HM := LH (show t.vs xs = GTy.vsL t.kids (ins t.n xs) by rw [HVE.out, if_pos (by simpa using o2)])
   have HYL := LH (ins_len t.n xs)
   have hxl : xs.length ≤ 4194304 := by have := H1.out; omega
   obtain ⟨ys, hys⟩ : ∃ ys, ys = ins t.n xs := ⟨_, rfl⟩
   rw [← hys] at HM HYL
   go_enter Tryz.func49, Tryz.ntmps49
   go_wp2_with fail
   rw [← e0]
   clear e0
   refine (specInsert B xs Vl vc t.n w0 hwn.out hxl (by omega) G0.out).mono ?_
   rintro e w1 ⟨A3, c3, rfl, hG1, hb1⟩
   rw [← hys] at hG1
   rw [← hys]
   have G1 := LH hG1
   have E1 := LH (E0.out.trans (hb1.mono (by omega)))
   have Ra1 := LH (Ra0.out.below hb1 Ra0.out.lt)
   have hca1 := fun i => Ra1.out.cell i
   clear hG1 hb1 hca0 hys
   go_wp2_with fail
   clear hca1
   go_loopw [1, 5] (fun v i wr => ∃ (j : Nat) (zs : List Int) (A : Option Addr) (c : Nat), j ≤ t.kids.length ∧ i = .int .i64 j ∧ v = .slice A zs.length c ∧ Hid (zs = GTy.vsL (t.kids.take j) ys) ∧ Hid (Gre wr B 3 1 (.slice A zs.length c) zs.length (zs.map (D.num .i64))) ∧ Hid (Row wr w.heap.size 27 #[.int .i64 t.op, .int .i64 t.n, .string t.s, .slice A1 t.kids.length c1]) ∧ Hid (zs.length ≤ ys.length + bulkL GTy.bulk (t.kids.take j)) ∧ Below w.heap.size w wr) (fun _ i _ => t.kids.length - (intOf i).toNat)
   case atStart => exact ⟨0, _, _, _, by omega, by go_num, rfl, LH (by simp [GTy.vsL]), G1, Ra1, LH (by simp [bulkL]), E1.out⟩
   case round =>
    obtain ⟨j, zs, A, c, hj, rfl, rfl, HZ, HG, HRa, HZL, hbl⟩ := hrel
    have hsz := hbl.size
    have hca := fun i => HRa.out.cell i
    by_cases hlt : j < t.kids.length
    ·
     obtain ⟨b, off, A2, c2, eA, hSb, g0, g1, g2, g3, hatk⟩ := GTy.elem (T0.out.below hbl (Nat.le_refl _)).2.2.2 j hlt
     have HA := LH (hatk.below (Below.refl _ _) hsz)
     have HJ := LH (HKB.out j hlt)
     subst eA
     clear hatk
     go_wp2_with fail
     refine (HH.out j hlt A2 c2 zs A c _ (by have := HKK.out; have := HBE.out; have := HJ.out; omega) (by have := H1.out; have := HBE.out; have := HJ.out; have := HZL.out; have := HYL.out; omega) (by omega) HG.out HA.out).mono ?_
     rintro e w1 ⟨A3, c3, rfl, hG1, hb1⟩
     have HG1 := LH hG1
     have B1 := LH (hbl.trans (hb1.mono hsz))
     have R1 := LH (HRa.out.below hb1 HRa.out.lt)
     clear hG1 hb1
     go_wp2_with fail
     go_roundw
     case rel => exact ⟨j + 1, _, A3, c3, by omega, by go_num, rfl, LH (by rw [GTy.vsL_take hlt, ← HZ.out]), HG1, R1, LH (by have h1 := GTy.vs_len (t.kids[j]) zs; have h2 := HJ.out; have h3 := HZL.out; omega), B1.out⟩
     case measure => simp [intOf]; omega
    · have HY := LH (show zs = t.vs xs from by rw [HM.out, HZ.out, show j = t.kids.length by omega, List.take_length])
      go_wp2_with fail
      go_ret
      rw [← HY.out]
      exact ⟨A, c, rfl, HG.out, hbl⟩
def VGr (B : Nat) (xs : List Int) (v : Value) (w : World) (e : Ending) (w' : World) : Prop := ∃ A c, e = .returned (.slice A xs.length c) ∧ Gre w' B 3 1 (.slice A xs.length c) xs.length (xs.map (D.num .i64)) ∧ Gr w w' v (.slice A xs.length c)
theorem any_flipV (l : List Int) (n : Int) : (l.any fun x => n == x) = l.any fun x => x == n := by
 congr 1; funext x; rw [Bool.eq_iff_iff, beq_iff_eq, beq_iff_eq]; exact eq_comm
theorem implIndexI (l : List Int) (A : Option Addr) (c : Nat) (n : Int) (w : World) (hs : Sl w (Lt w.heap.size) 1 A c (l.map (D.num .i64))) :
 Calls Tryz.prog 43 #[.slice A l.length c, .int .i64 n] w fun e w' => e = .returned (.int .i64 (idxI (fun x => n == x) l)) ∧ Below w.heap.size w w' := by
 have hlen : l.length ≤ 9223372036854775807 := by simpa using hs.len
 have S0 := LH hs
 clear hs
 go_enter Tryz.func43, Tryz.ntmps43
 go_wp2_with fail
 go_loopw [8] (fun i wr => ∃ (j : Nat), j ≤ l.length ∧ i = .int .i64 j ∧ Hid (noneTo (fun x : Int => n == x) l j) ∧ Below w.heap.size w wr) (fun i _ => l.length - (intOf i).toNat)
 case atStart => exact ⟨0, by omega, by go_num, LH (noneTo_zero _ _), Below.refl _ _⟩
 case round =>
  obtain ⟨j, hj, rfl, HN, hbl⟩ := hrel
  by_cases hlt : j < l.length
  ·
   obtain ⟨b, off, rfl, hSb, g0, _⟩ := int_elem (S0.out.below hbl (Nat.le_refl _)) j hlt
   cases he : (n == l[j]) with
   | true =>
    have HV := LH (idxI_at HN.out hlt he)
    go_wp2_with fail
    go_ret
    exact ⟨ret_int HV.out.symm, hbl⟩
   | false =>
    have HN2 := LH (noneTo_succ HN.out hlt he)
    go_wp2_with fail
    go_roundw
    case rel => exact ⟨j + 1, by omega, by go_num, HN2, hbl⟩
    case measure => simp [intOf]; omega
  · have HV := LH (idxI_none (by have := HN.out; rwa [show j = l.length by omega] at this))
    go_wp2_with fail
    go_ret
    exact ⟨ret_int HV.out.symm, hbl⟩
theorem implIntHas (l : List Int) (A : Option Addr) (c : Nat) (n : Int) (w : World) (hs : Sl w (Lt w.heap.size) 1 A c (l.map (D.num .i64))) :
 Calls Tryz.prog 27 #[.slice A l.length c, .int .i64 n] w fun e w' => e = .returned (.bool (l.any fun x => x == n)) ∧ Below w.heap.size w w' := by
 have HS := LH hs
 clear hs
 have HID := LH (show (decide ((idxI (fun x : Int => n == x) l) ≥ 0)) = l.any (fun x => x == n) by
   rw [← any_flipV]
   cases ha : l.any fun x => n == x with
   | true => have := idxI_any_true ha; simpa using this
   | false => rw [idxI_any_false ha]; rfl)
 go_enter Tryz.func27, Tryz.ntmps27
 go_wp2_with fail
 refine (implIndexI l A c n _ HS.out).mono ?_
 rintro e w1 ⟨rfl, hb1⟩
 go_wp2_with fail
 go_ret
 exact ⟨ret_bool HID.out, hb1⟩
theorem implVars (B k : Nat) : ∀ (t : GTy) (A1 : Option Addr) (c1 : Nat) (xs : List Int) (Vl : Option Addr) (vc : Nat) (w : World), t.bulk < k → xs.length + 1 + t.bulk ≤ 1048577 → B ≤ w.heap.size → Gre w B 3 1 (.slice Vl xs.length vc) xs.length (xs.map (D.num .i64)) → GTy.At w (Lt B) A1 c1 t →
 Calls Tryz.prog 36 #[.agg #[.int .i64 t.op, .int .i64 t.n, .string t.s, .slice A1 t.kids.length c1], .slice Vl xs.length vc] w (VGr B (t.vi xs) (.slice Vl xs.length vc) w) := by
 induction k with
 | zero => intros; omega
 | succ k ih =>
  intro t A1 c1 xs Vl vc w hk h1 hB hg hat
  have hbe := t.bulk_eq
  have hlen : t.kids.length ≤ 1048576 := by have := bulkL_len GTy.bulk t.kids; omega
  have HKB := LH (fun (j : Nat) (h : j < t.kids.length) => bulkV_next GTy.bulk h)
  have HH := LH (fun (j : Nat) (h : j < t.kids.length) (A1 : Option Addr) (c1 : Nat) => ih t.kids[j] A1 c1)
  have HBE := LH hbe
  have HKK := LH hk
  have H1 := LH h1
  have T0 := LH hat
  obtain ⟨w0, e0⟩ : ∃ w0, w0 = w.alloc (.cells #[.int .i64 t.op, .int .i64 t.n, .string t.s, .slice A1 t.kids.length c1] 27) := ⟨_, rfl⟩
  have E0 := LH (show Below w.heap.size w w0 by rw [e0]; exact (Below.refl _ _).alloc (Nat.le_refl _) _)
  have Ra0 := LH (show Row w0 w.heap.size 27 #[.int .i64 t.op, .int .i64 t.n, .string t.s, .slice A1 t.kids.length c1] by rw [e0]; exact Row.new' _ _ _ rfl)
  have G0 := LH (hg.below E0.out)
  have GF := LH (show Gr w w0 (.slice Vl xs.length vc) (.slice Vl xs.length vc) from Gr.of_below E0.out)
  have hne0 : (Value.slice Vl xs.length vc).ownBlock ≠ some w.heap.size := fun e => by have := (hg.own _ e).2; omega
  have hBo := LH (fun g h => (hg.own g h).1)
  have S0 : w0.heap.size = w.heap.size + 1 := by rw [e0]; simp
  have hca0 := fun i => Ra0.out.cell i
  have HVE := LH (t.vi_eq xs)
  have hwn : Hid ((Lit.int .i64 t.n).wf = true) := LH hat.2.1
  have hxl : xs.length ≤ 1048577 := by omega
  clear ih hbe hk h1 hat hg
  cases o2 : (t.op == 2)
  ·
   have HM := LH (show t.vi xs = GTy.viL t.kids xs by rw [HVE.out, if_neg (fun h => by simp at o2; exact o2 h.1)])
   have HYL := LH (show xs.length ≤ xs.length + 1 by omega)
   go_enter Tryz.func36, Tryz.ntmps36
   go_wp2_with fail
   rw [← e0]
   clear e0 hca0
   go_loopw [1, 25] (fun v i wr => ∃ (j : Nat) (zs : List Int) (A : Option Addr) (c : Nat), j ≤ t.kids.length ∧ i = .int .i64 j ∧ v = .slice A zs.length c ∧ Hid (zs = GTy.viL (t.kids.take j) xs) ∧ Hid (Gre wr B 3 1 (.slice A zs.length c) zs.length (zs.map (D.num .i64))) ∧ Hid (Gr w wr (.slice Vl xs.length vc) (.slice A zs.length c)) ∧ (Value.slice A zs.length c).ownBlock ≠ some w.heap.size ∧ Hid (Row wr w.heap.size 27 #[.int .i64 t.op, .int .i64 t.n, .string t.s, .slice A1 t.kids.length c1]) ∧ Hid (zs.length ≤ xs.length + bulkL GTy.bulk (t.kids.take j))) (fun _ i _ => t.kids.length - (intOf i).toNat)
   case atStart => exact ⟨0, _, _, _, by omega, by go_num, rfl, LH (by simp [GTy.viL]), G0, GF, hne0, Ra0, LH (by simp [bulkL])⟩
   case round =>
    obtain ⟨j, zs, A, c, hj, rfl, rfl, HZ, HG, HGr, hne, HRa, HZL⟩ := hrel
    have HB := LH (HGr.out.below hB hBo.out)
    have hca := fun i => HRa.out.cell i
    have hsz := HGr.out.size
    have hra := HRa.out.lt
    by_cases hlt : j < t.kids.length
    ·
     obtain ⟨b, off, A2, c2, eA, hSb, g0, g1, g2, g3, hatk⟩ := GTy.elem (T0.out.below HB.out (Nat.le_refl _)).2.2.2 j hlt
     have HA := LH hatk
     have HJ := LH (HKB.out j hlt)
     subst eA
     clear hatk
     obtain ⟨wb, eb⟩ : ∃ wb, wb = wr.alloc (.cells #[.int .i64 (t.kids[j]).op, .int .i64 (t.kids[j]).n, .string (t.kids[j]).s, .slice A2 (t.kids[j]).kids.length c2] 27) := ⟨_, rfl⟩
     have EB := LH (show Below wr.heap.size wr wb by rw [eb]; exact (Below.refl _ _).alloc (Nat.le_refl _) _)
     have RB := LH (show Row wb wr.heap.size 27 #[.int .i64 (t.kids[j]).op, .int .i64 (t.kids[j]).n, .string (t.kids[j]).s, .slice A2 (t.kids[j]).kids.length c2] by rw [eb]; exact Row.new' _ _ _ rfl)
     have GB := LH (HG.out.below EB.out)
     have AB := LH (HA.out.below (EB.out.mono (by omega)) (Nat.le_refl _))
     have hsb := EB.out.size
     go_wp2_with fail
     rw [← eb]
     clear eb
     have hcb := fun i => RB.out.cell i
     try go_wp2_with fail
     refine (HH.out j hlt A2 c2 zs A c _ (by have := HKK.out; have := HBE.out; have := HJ.out; omega) (by have := H1.out; have := HBE.out; have := HJ.out; have := HZL.out; have := HYL.out; omega) (by omega) GB.out AB.out).mono ?_
     rintro e w1 ⟨A3, c3, rfl, hG1, hGr1⟩
     have HG1 := LH hG1
     have HGr1 := LH ((Gr.of_below (v := .slice A zs.length c) EB.out).trans hGr1)
     clear hG1 hGr1 hcb
     go_wp2_with fail
     go_roundw
     case rel => exact ⟨j + 1, _, A3, c3, by omega, by go_num, rfl, LH (by rw [GTy.viL_take hlt, ← HZ.out]), HG1, LH (HGr.out.trans HGr1.out), HGr1.out.ne hne hra, LH (HGr1.out.row HRa.out hne), LH (by have h1 := GTy.vi_len (t.kids[j]) zs; have h2 := HJ.out; have h3 := HZL.out; omega)⟩
     case measure => simp [intOf]; omega
    · have HY := LH (show zs = t.vi xs from by rw [HM.out, HZ.out, show j = t.kids.length by omega, List.take_length])
      go_wp2_with fail
      go_ret
      rw [← HY.out]
      exact ⟨A, c, rfl, HG.out, HGr.out⟩
  have ho2 : t.op = 2 := by simpa using o2
  cases ha : xs.any (fun x => x == t.n)
  ·
   have HM := LH (show t.vi xs = GTy.viL t.kids (xs ++ [t.n]) by rw [HVE.out, if_pos ⟨ho2, ha⟩])
   have HYL := LH (show (xs ++ [t.n]).length ≤ xs.length + 1 by simp)
   clear ho2
   have HSL := LH (show Sl w0 (Lt w0.heap.size) 1 Vl vc (xs.map (D.num .i64)) from by obtain ⟨A, c, e, h⟩ := G0.out.sl; cases e; exact h)
   go_enter Tryz.func36, Tryz.ntmps36
   go_wp2_with fail
   rw [← e0]
   clear e0
   refine (implIntHas xs Vl vc t.n w0 HSL.out).mono ?_
   rintro e w1 ⟨rfl, hb1⟩
   rw [ha]
   clear ha HSL hca0
   have Ra1 := LH (Ra0.out.below hb1 Ra0.out.lt)
   have G1 := LH (G0.out.below hb1)
   have GF1 := LH (GF.out.trans (Gr.of_below hb1))
   have S1 := hb1.size
   clear hb1
   have hca1 := fun i => Ra1.out.cell i
   have hra1 := Ra1.out.lt
   have EA := LH (show Below w1.heap.size w1 (w1.alloc (.cells #[.int .i64 t.n] 3)) from (Below.refl _ _).alloc (Nat.le_refl _) _)
   have GA := LH (G1.out.below EA.out)
   have RA := LH (Ra1.out.below EA.out hra1)
   have TA := LH (show Sl (w1.alloc (.cells #[.int .i64 t.n] 3)) (fun b => b < (w1.alloc (.cells #[.int .i64 t.n] 3)).heap.size ∧ (Value.slice Vl xs.length vc).ownBlock ≠ some b) 1 (some ⟨w1.heap.size, 0, none⟩) 1 ([t.n].map (D.num .i64)) from
     (rowI_osl (B := w1.heap.size) (Row.new' w1 3 (rowI [t.n]) rfl) (Nat.le_refl _) (by simp [maxLen]) (by intro x hx; simp at hx; rw [hx]; exact hwn.out)).sl.keep fun b hb => ⟨⟨hb.2, fun e => by have := (G1.out.own b e).2; have := hb.1; omega⟩, rfl⟩)
   have hBA : B ≤ (w1.alloc (.cells #[.int .i64 t.n] 3)).heap.size := Nat.le_trans (by omega) EA.out.size
   have hsA := EA.out.size
   go_wp2_with (first | (at_builtin; refine wpList_append_M (w1.alloc (.cells #[.int .i64 t.n] 3)) rfl (.tmp 17) (.tmp 20) 30 rfl 3 (.int .i64 0) 1 8 Tryz.underlying30 (by kernel_rfl) rfl (by omega) B (.slice Vl xs.length vc) xs.length _ GA.out (some ⟨w1.heap.size, 0, none⟩) 1 1 _ rfl TA.out hBA (by unfold maxLen; omega) (by omega) rfl rfl ?_; intro A4 c4 w2 G4 hGr4; have R4 := LH (hGr4.row RA.out hne0); have hca4 := fun i => R4.out.cell i; have G4h := LH G4; have GR4 := LH ((GF1.out.trans (Gr.of_below EA.out)).trans hGr4); have NE4 := hGr4.ne hne0 (Nat.lt_of_lt_of_le hra1 hsA); clear G4 hGr4))
   obtain ⟨ys, hys⟩ : ∃ ys, ys = xs ++ [t.n] := ⟨_, rfl⟩
   have e2 : xs.length + 1 = ys.length := by rw [hys]; simp
   rw [← hys] at HM HYL
   have G5 := LH (show Gre w2 B 3 1 (.slice A4 ys.length c4) ys.length (ys.map (D.num .i64)) from by rw [← e2, hys, List.map_append]; exact G4h.out)
   rw [e2] at GR4 NE4 ⊢
   clear e2 hys hca4 G4h hca1
   skip
   go_loopw [1, 25] (fun v i wr => ∃ (j : Nat) (zs : List Int) (A : Option Addr) (c : Nat), j ≤ t.kids.length ∧ i = .int .i64 j ∧ v = .slice A zs.length c ∧ Hid (zs = GTy.viL (t.kids.take j) ys) ∧ Hid (Gre wr B 3 1 (.slice A zs.length c) zs.length (zs.map (D.num .i64))) ∧ Hid (Gr w wr (.slice Vl xs.length vc) (.slice A zs.length c)) ∧ (Value.slice A zs.length c).ownBlock ≠ some w.heap.size ∧ Hid (Row wr w.heap.size 27 #[.int .i64 t.op, .int .i64 t.n, .string t.s, .slice A1 t.kids.length c1]) ∧ Hid (zs.length ≤ ys.length + bulkL GTy.bulk (t.kids.take j))) (fun _ i _ => t.kids.length - (intOf i).toNat)
   case atStart => exact ⟨0, _, _, _, by omega, by go_num, rfl, LH (by simp [GTy.viL]), G5, GR4, NE4, R4, LH (by simp [bulkL])⟩
   case round =>
    obtain ⟨j, zs, A, c, hj, rfl, rfl, HZ, HG, HGr, hne, HRa, HZL⟩ := hrel
    have HB := LH (HGr.out.below hB hBo.out)
    have hca := fun i => HRa.out.cell i
    have hsz := HGr.out.size
    have hra := HRa.out.lt
    by_cases hlt : j < t.kids.length
    ·
     obtain ⟨b, off, A2, c2, eA, hSb, g0, g1, g2, g3, hatk⟩ := GTy.elem (T0.out.below HB.out (Nat.le_refl _)).2.2.2 j hlt
     have HA := LH hatk
     have HJ := LH (HKB.out j hlt)
     subst eA
     clear hatk
     obtain ⟨wb, eb⟩ : ∃ wb, wb = wr.alloc (.cells #[.int .i64 (t.kids[j]).op, .int .i64 (t.kids[j]).n, .string (t.kids[j]).s, .slice A2 (t.kids[j]).kids.length c2] 27) := ⟨_, rfl⟩
     have EB := LH (show Below wr.heap.size wr wb by rw [eb]; exact (Below.refl _ _).alloc (Nat.le_refl _) _)
     have RB := LH (show Row wb wr.heap.size 27 #[.int .i64 (t.kids[j]).op, .int .i64 (t.kids[j]).n, .string (t.kids[j]).s, .slice A2 (t.kids[j]).kids.length c2] by rw [eb]; exact Row.new' _ _ _ rfl)
     have GB := LH (HG.out.below EB.out)
     have AB := LH (HA.out.below (EB.out.mono (by omega)) (Nat.le_refl _))
     have hsb := EB.out.size
     go_wp2_with fail
     rw [← eb]
     clear eb
     have hcb := fun i => RB.out.cell i
     try go_wp2_with fail
     refine (HH.out j hlt A2 c2 zs A c _ (by have := HKK.out; have := HBE.out; have := HJ.out; omega) (by have := H1.out; have := HBE.out; have := HJ.out; have := HZL.out; have := HYL.out; omega) (by omega) GB.out AB.out).mono ?_
     rintro e w1 ⟨A3, c3, rfl, hG1, hGr1⟩
     have HG1 := LH hG1
     have HGr1 := LH ((Gr.of_below (v := .slice A zs.length c) EB.out).trans hGr1)
     clear hG1 hGr1 hcb
     go_wp2_with fail
     go_roundw
     case rel => exact ⟨j + 1, _, A3, c3, by omega, by go_num, rfl, LH (by rw [GTy.viL_take hlt, ← HZ.out]), HG1, LH (HGr.out.trans HGr1.out), HGr1.out.ne hne hra, LH (HGr1.out.row HRa.out hne), LH (by have h1 := GTy.vi_len (t.kids[j]) zs; have h2 := HJ.out; have h3 := HZL.out; omega)⟩
     case measure => simp [intOf]; omega
    · have HY := LH (show zs = t.vi xs from by rw [HM.out, HZ.out, show j = t.kids.length by omega, List.take_length])
      go_wp2_with fail
      go_ret
      rw [← HY.out]
      exact ⟨A, c, rfl, HG.out, HGr.out⟩
  ·
   have HM := LH (show t.vi xs = GTy.viL t.kids xs by rw [HVE.out, if_neg (fun h => by rw [ha] at h; cases h.2)])
   have HYL := LH (show xs.length ≤ xs.length + 1 by omega)
   clear ho2
   have HSL := LH (show Sl w0 (Lt w0.heap.size) 1 Vl vc (xs.map (D.num .i64)) from by obtain ⟨A, c, e, h⟩ := G0.out.sl; cases e; exact h)
   go_enter Tryz.func36, Tryz.ntmps36
   go_wp2_with fail
   rw [← e0]
   clear e0
   refine (implIntHas xs Vl vc t.n w0 HSL.out).mono ?_
   rintro e w1 ⟨rfl, hb1⟩
   rw [ha]
   clear ha HSL hca0
   have Ra1 := LH (Ra0.out.below hb1 Ra0.out.lt)
   have G1 := LH (G0.out.below hb1)
   have GF1 := LH (GF.out.trans (Gr.of_below hb1))
   have S1 := hb1.size
   clear hb1
   have hca1 := fun i => Ra1.out.cell i
   go_wp2_with fail
   clear hca1
   go_loopw [1, 25] (fun v i wr => ∃ (j : Nat) (zs : List Int) (A : Option Addr) (c : Nat), j ≤ t.kids.length ∧ i = .int .i64 j ∧ v = .slice A zs.length c ∧ Hid (zs = GTy.viL (t.kids.take j) xs) ∧ Hid (Gre wr B 3 1 (.slice A zs.length c) zs.length (zs.map (D.num .i64))) ∧ Hid (Gr w wr (.slice Vl xs.length vc) (.slice A zs.length c)) ∧ (Value.slice A zs.length c).ownBlock ≠ some w.heap.size ∧ Hid (Row wr w.heap.size 27 #[.int .i64 t.op, .int .i64 t.n, .string t.s, .slice A1 t.kids.length c1]) ∧ Hid (zs.length ≤ xs.length + bulkL GTy.bulk (t.kids.take j))) (fun _ i _ => t.kids.length - (intOf i).toNat)
   case atStart => exact ⟨0, _, _, _, by omega, by go_num, rfl, LH (by simp [GTy.viL]), G1, GF1, hne0, Ra1, LH (by simp [bulkL])⟩
   case round =>
    obtain ⟨j, zs, A, c, hj, rfl, rfl, HZ, HG, HGr, hne, HRa, HZL⟩ := hrel
    have HB := LH (HGr.out.below hB hBo.out)
    have hca := fun i => HRa.out.cell i
    have hsz := HGr.out.size
    have hra := HRa.out.lt
    by_cases hlt : j < t.kids.length
    ·
     obtain ⟨b, off, A2, c2, eA, hSb, g0, g1, g2, g3, hatk⟩ := GTy.elem (T0.out.below HB.out (Nat.le_refl _)).2.2.2 j hlt
     have HA := LH hatk
     have HJ := LH (HKB.out j hlt)
     subst eA
     clear hatk
     obtain ⟨wb, eb⟩ : ∃ wb, wb = wr.alloc (.cells #[.int .i64 (t.kids[j]).op, .int .i64 (t.kids[j]).n, .string (t.kids[j]).s, .slice A2 (t.kids[j]).kids.length c2] 27) := ⟨_, rfl⟩
     have EB := LH (show Below wr.heap.size wr wb by rw [eb]; exact (Below.refl _ _).alloc (Nat.le_refl _) _)
     have RB := LH (show Row wb wr.heap.size 27 #[.int .i64 (t.kids[j]).op, .int .i64 (t.kids[j]).n, .string (t.kids[j]).s, .slice A2 (t.kids[j]).kids.length c2] by rw [eb]; exact Row.new' _ _ _ rfl)
     have GB := LH (HG.out.below EB.out)
     have AB := LH (HA.out.below (EB.out.mono (by omega)) (Nat.le_refl _))
     have hsb := EB.out.size
     go_wp2_with fail
     rw [← eb]
     clear eb
     have hcb := fun i => RB.out.cell i
     try go_wp2_with fail
     refine (HH.out j hlt A2 c2 zs A c _ (by have := HKK.out; have := HBE.out; have := HJ.out; omega) (by have := H1.out; have := HBE.out; have := HJ.out; have := HZL.out; have := HYL.out; omega) (by omega) GB.out AB.out).mono ?_
     rintro e w1 ⟨A3, c3, rfl, hG1, hGr1⟩
     have HG1 := LH hG1
     have HGr1 := LH ((Gr.of_below (v := .slice A zs.length c) EB.out).trans hGr1)
     clear hG1 hGr1 hcb
     go_wp2_with fail
     go_roundw
     case rel => exact ⟨j + 1, _, A3, c3, by omega, by go_num, rfl, LH (by rw [GTy.viL_take hlt, ← HZ.out]), HG1, LH (HGr.out.trans HGr1.out), HGr1.out.ne hne hra, LH (HGr1.out.row HRa.out hne), LH (by have h1 := GTy.vi_len (t.kids[j]) zs; have h2 := HJ.out; have h3 := HZL.out; omega)⟩
     case measure => simp [intOf]; omega
    · have HY := LH (show zs = t.vi xs from by rw [HM.out, HZ.out, show j = t.kids.length by omega, List.take_length])
      go_wp2_with fail
      go_ret
      rw [← HY.out]
      exact ⟨A, c, rfl, HG.out, HGr.out⟩
set_option maxHeartbeats 1000000
theorem noneTo_any {α : Type} {p : α → Bool} {l : List α} (h : noneTo p l l.length) : l.any p = false := by
 rw [List.any_eq_false]
 intro x hx
 obtain ⟨i, hi, rfl⟩ := List.getElem_of_mem hx
 rw [h i hi hi]; simp
mutual
def GTy.has (n : Int) : GTy → Bool | .mk op m s kids => (op == 2 && m == n) || GTy.hasL n kids
def GTy.hasL (n : Int) : List GTy → Bool | [] => false | t :: r => t.has n || GTy.hasL n r
end
theorem GTy.has_eq (n : Int) (t : GTy) : t.has n = ((t.op == 2 && t.n == n) || GTy.hasL n t.kids) := by cases t; rw [GTy.has]; rfl
theorem GTy.hasL_any (n : Int) : ∀ l : List GTy, GTy.hasL n l = l.any (fun t => t.has n)
 | [] => by rw [GTy.hasL]; rfl
 | t :: r => by rw [GTy.hasL, GTy.hasL_any n r]; rfl
mutual
theorem GTy.mem_vs (n : Int) : ∀ (t : GTy) (xs : List Int), n ∈ t.vs xs ↔ n ∈ xs ∨ t.has n = true
 | .mk op m s kids, xs => by
  rw [GTy.vs, GTy.mem_vsL n kids, GTy.has]
  by_cases h : op = 2
  · rw [if_pos h, ins_mem, or_assoc]; simp only [h, beq_self_eq_true, Bool.true_and, Bool.or_eq_true, beq_iff_eq]; exact or_congr Iff.rfl (or_congr ⟨Eq.symm, Eq.symm⟩ Iff.rfl)
  · rw [if_neg h]; simp [h]
theorem GTy.mem_vsL (n : Int) : ∀ (l : List GTy) (xs : List Int), n ∈ GTy.vsL l xs ↔ n ∈ xs ∨ GTy.hasL n l = true
 | [], xs => by rw [GTy.vsL, GTy.hasL]; simp
 | t :: r, xs => by rw [GTy.vsL, GTy.mem_vsL n r, GTy.mem_vs n t, GTy.hasL]; simp [or_assoc]
end
theorem GTy.has_vs (n : Int) (t : GTy) : t.has n = true ↔ n ∈ t.vs [] := by rw [GTy.mem_vs]; simp
theorem specHas (n : Int) (k : Nat) : ∀ (t : GTy) (A1 : Option Addr) (c1 : Nat) (w : World), t.bulk < k → GTy.At w (Lt w.heap.size) A1 c1 t →
 Calls Tryz.prog 33 #[.agg #[.int .i64 t.op, .int .i64 t.n, .string t.s, .slice A1 t.kids.length c1], .int .i64 n] w fun e w' => e = .returned (.bool (t.has n)) ∧ Below w.heap.size w w' := by
 induction k with
 | zero => intros; omega
 | succ k ih =>
  intro t A1 c1 w hk hat
  have hlen : t.kids.length ≤ 9223372036854775807 := by simpa using hat.2.2.2.len
  have hbe := t.bulk_eq
  have HH := LH (fun (j : Nat) (h : j < t.kids.length) (A1 : Option Addr) (c1 : Nat) => ih t.kids[j] A1 c1)
  have HKB := LH (fun (j : Nat) (h : j < t.kids.length) => show t.kids[j].bulk < k from by have := (bulkV_next GTy.bulk h).2; have := (bulkV_next GTy.bulk h).1; omega)
  have T0 := LH hat
  obtain ⟨w0, e0⟩ : ∃ w0, w0 = w.alloc (.cells #[.int .i64 t.op, .int .i64 t.n, .string t.s, .slice A1 t.kids.length c1] 27) := ⟨_, rfl⟩
  have E0 := LH (show Below w.heap.size w w0 by rw [e0]; exact (Below.refl _ _).alloc (Nat.le_refl _) _)
  have Ra0 := LH (show Row w0 w.heap.size 27 #[.int .i64 t.op, .int .i64 t.n, .string t.s, .slice A1 t.kids.length c1] by rw [e0]; exact Row.new' _ _ _ rfl)
  have S0 : w0.heap.size = w.heap.size + 1 := by rw [e0]; simp
  have hca0 := fun i => Ra0.out.cell i
  have HE := LH (t.has_eq n)
  have HA := LH (GTy.hasL_any n t.kids)
  clear ih hbe hk hat
  cases o2 : (t.op == 2)
  case' false =>
   have HV := LH (show t.has n = t.kids.any (fun t => t.has n) by rw [HE.out, o2, HA.out]; rfl)
  case' true =>
   cases on : (t.n == n)
   case true =>
    have HV := LH (show t.has n = true by rw [HE.out, o2, on]; rfl)
    go_enter Tryz.func33, Tryz.ntmps33
    go_wp2_with fail
    go_ret
    exact ⟨ret_bool HV.out.symm, by rw [← e0]; exact E0.out⟩
   have HV := LH (show t.has n = t.kids.any (fun t => t.has n) by rw [HE.out, o2, on, HA.out]; rfl)
  all_goals
   go_enter Tryz.func33, Tryz.ntmps33
   go_wp2_with fail
   rw [← e0]
   clear e0 hca0
   go_loopw [5] (fun i wr => ∃ (j : Nat), j ≤ t.kids.length ∧ i = .int .i64 j ∧ Hid (noneTo (fun t => t.has n) t.kids j) ∧ Hid (Row wr w.heap.size 27 #[.int .i64 t.op, .int .i64 t.n, .string t.s, .slice A1 t.kids.length c1]) ∧ Hid (Below w.heap.size w wr)) (fun i _ => t.kids.length - (intOf i).toNat)
   case atStart => exact ⟨0, by omega, by go_num, LH (noneTo_zero _ _), Ra0, E0⟩
   case round =>
    obtain ⟨j, hj, rfl, HN, HRa, HB⟩ := hrel
    have hca := fun i => HRa.out.cell i
    have hsz := HB.out.size
    by_cases hlt : j < t.kids.length
    ·
     obtain ⟨b, off, A2, c2, eA, hSb, g0, g1, g2, g3, hatk⟩ := GTy.elem (T0.out.below HB.out (Nat.le_refl _)).2.2.2 j hlt
     have HAk := LH (hatk.below (Below.refl _ _) hsz)
     have hkb := HKB.out j hlt
     subst eA
     clear hatk
     go_wp2_with fail
     refine (HH.out j hlt A2 c2 _ hkb HAk.out).mono ?_
     rintro e w1 ⟨rfl, hb1⟩
     have R1 := LH (HRa.out.below hb1 HRa.out.lt)
     have B1 := LH (HB.out.trans (hb1.mono hsz))
     clear hb1 hkb
     cases he : (t.kids[j]).has n
     · have HN2 := LH (noneTo_succ HN.out hlt he)
       go_wp2_with fail
       go_roundw
       case rel => exact ⟨j + 1, by omega, by go_num, HN2, R1, B1⟩
       case measure => simp [intOf]; omega
     · have HW := LH (show t.has n = true by rw [HV.out]; exact List.any_eq_true.2 ⟨_, List.getElem_mem hlt, he⟩)
       go_wp2_with fail
       go_ret
       exact ⟨ret_bool HW.out.symm, B1.out⟩
    · have HW := LH (show t.has n = false from by rw [HV.out]; exact noneTo_any (by have := HN.out; rwa [show j = t.kids.length by omega] at this))
      go_wp2_with fail
      go_ret
      exact ⟨ret_bool HW.out.symm, HB.out⟩
set_option maxHeartbeats 400000
def ToTy (t : GTy) (w : World) (e : Ending) (w' : World) : Prop := ∃ A1 c1, e = .returned (.agg #[.int .i64 t.op, .int .i64 t.n, .string t.s, .slice A1 t.kids.length c1]) ∧ GTy.Ow w' (Btw w.heap.size w'.heap.size) A1 c1 t ∧ Below w.heap.size w w'
def zTy : Value := .agg #[.int .i64 0, .int .i64 0, .string ⟨#[]⟩, .slice none 0 0]
set_option maxHeartbeats 1000000
def DrawnT (l : List Int) (A : Option Addr) (c : Nat) (g : Nat) (P : GTy → Prop) (w : World) (e : Ending) (w' : World) : Prop :=
 ∃ (t : GTy) (A1 : Option Addr) (c1 : Nat) (i : Nat) (h : Int), e = .returned (.agg #[.int .i64 t.op, .int .i64 t.n, .string t.s, .slice A1 t.kids.length c1]) ∧ P t ∧ GTy.At w' (Btw w.heap.size w'.heap.size) A1 c1 t ∧ Cur l A c w' g i h ∧ Turned g w w'
def shT : Nat → GTy → Prop
 | 0, t => t.kids = [] ∧ t.op = 1
 | d + 1, t => t.kids.length ≤ 2 ∧ ∀ x, x ∈ t.kids → shT d x
mutual
def GTy.tx : GTy → Bool | .mk _ _ s kids => decide (s.size ≤ 4) && GTy.txL kids
def GTy.txL : List GTy → Bool | [] => true | t :: r => t.tx && GTy.txL r
end
def drT (d : Nat) (t : GTy) : Prop := (t.bulk + 2 ≤ 6 * 2 ^ d ∧ 0 ≤ t.n ∧ t.n < 5) ∧ (∀ n, t.has n = true → 0 ≤ n ∧ n < 5) ∧ shT d t ∧ t.tx = true
theorem setCells_turned (W : World) (r k : Nat) (vs : List Value) : Turned r W (setCells W r k vs) := by
 have h := setCells_below (Below.refl r W) r k (Nat.le_refl _) vs
 exact ⟨h.os, h.tape, h.output, h.size, fun b _ hb => setCells_block W r k vs b hb⟩
theorem drawn_fin {l : List Int} {A : Option Addr} {c g i : Nat} {h : Int} {P : GTy → Prop} {w W : World} {r : Nat} {t : GTy} {A1 : Option Addr} {c1 : Nat} {vs : List Value} (hp : P t) (hc : Cur l A c W g i h) (ht : Turned g w W) (hg : g < w.heap.size) (hr : w.heap.size ≤ r)
 (hat : GTy.At W (fun b => Btw w.heap.size W.heap.size b ∧ b ≠ r) A1 c1 t) : DrawnT l A c g P w (.returned (.agg #[.int .i64 t.op, .int .i64 t.n, .string t.s, .slice A1 t.kids.length c1])) (setCells W r 0 vs) := by
 have T := setCells_turned W r 0 vs
 refine ⟨t, A1, c1, i, h, rfl, hp, hat.keep (fun b hb => ⟨⟨hb.1.1, ?_⟩, setCells_block W r 0 vs b hb.2⟩), hc.turned T (by omega), ⟨T.os.trans ht.os, T.tape.trans ht.tape, T.output.trans ht.output, Nat.le_trans ht.size T.size, fun k hk hkg => (setCells_block W r 0 vs k (by omega)).trans (ht.block k hk hkg)⟩⟩
 rw [setCells_size]; exact hb.1.2
theorem turned_set {g : Nat} {w W : World} (ht : Turned g w W) (r : Nat) (hr : w.heap.size ≤ r) (vs : List Value) : Turned g w (setCells W r 0 vs) := by
 have T := setCells_turned W r 0 vs
 exact ⟨T.os.trans ht.os, T.tape.trans ht.tape, T.output.trans ht.output, Nat.le_trans ht.size T.size, fun k hk hkg => (setCells_block W r 0 vs k (by omega)).trans (ht.block k hk hkg)⟩
theorem drT_leaf {d : Nat} {op n : Int} {s : ByteArray} (hs : s.size ≤ 4) (h : 0 ≤ n ∧ n < 5) (h0 : d = 0 → op = 1 := by intro h; first | rfl | omega) : drT d (.mk op n s []) := by
 have h1 : 1 ≤ 2 ^ d := Nat.one_le_two_pow
 refine ⟨?_, fun m hm => ?_, ?_, ?_⟩
 · have : (GTy.mk op n s []).bulk = s.size := by rw [GTy.bulk_eq]; rfl
   exact ⟨by omega, h⟩
 · rw [GTy.has_eq] at hm
   simp only [GTy.op, GTy.n, GTy.kids, GTy.hasL, Bool.or_false, Bool.and_eq_true, beq_iff_eq] at hm
   rw [← hm.2]; exact h
 · cases d with
   | zero => exact ⟨rfl, h0 rfl⟩
   | succ d => exact ⟨by simp [GTy.kids], fun x hx => by simp [GTy.kids] at hx⟩
 · rw [GTy.tx, GTy.txL, decide_eq_true (by omega)]; rfl
theorem drT_two {d : Nat} {op : Int} {a b : GTy} (ho : ¬ op = 2) (ha : drT d a) (hb : drT d b) : drT (d + 1) (.mk op 0 ⟨#[]⟩ [a, b]) := by
 refine ⟨?_, fun m hm => ?_, ?_, ?_⟩
 · have : (GTy.mk op 0 ⟨#[]⟩ [a, b]).bulk = a.bulk + b.bulk + 2 := by rw [GTy.bulk_eq]; simp only [GTy.s, GTy.kids, bulkL]; have : (ByteArray.mk #[]).size = 0 := rfl; omega
   have h1 := ha.1.1
   have h2 := hb.1.1
   rw [Nat.pow_succ]
   exact ⟨by omega, Int.le_refl 0, (by decide : (0 : Int) < 5)⟩
 ·
  rw [GTy.has_eq] at hm
  simp only [GTy.op, GTy.n, GTy.kids, GTy.hasL, Bool.or_false, Bool.or_eq_true, Bool.and_eq_true, beq_iff_eq] at hm
  rcases hm with hm | hm | hm
  · exact absurd hm.1 ho
  · exact ha.2.1 m hm
  · exact hb.2.1 m hm
 · refine ⟨by simp [GTy.kids], fun x hx => ?_⟩
   have hx2 : x = a ∨ x = b := by simpa [GTy.kids] using hx
   rcases hx2 with rfl | rfl
   · exact ha.2.2.1
   · exact hb.2.2.1
 · rw [GTy.tx, GTy.txL, GTy.txL, GTy.txL, ha.2.2.2, hb.2.2.2]; rfl
theorem drT_one {d : Nat} {op : Int} {s : ByteArray} {a : GTy} (ho : ¬ op = 2) (hs : s.size ≤ 4) (ha : drT d a) : drT (d + 1) (.mk op 0 s [a]) := by
 have h1 : 1 ≤ 2 ^ d := Nat.one_le_two_pow
 refine ⟨?_, fun m hm => ?_, ?_, ?_⟩
 · have : (GTy.mk op 0 s [a]).bulk = s.size + a.bulk + 1 := by rw [GTy.bulk_eq]; simp only [GTy.s, GTy.kids, bulkL]; omega
   have h2 := ha.1.1
   rw [Nat.pow_succ]
   exact ⟨by omega, Int.le_refl 0, (by decide : (0 : Int) < 5)⟩
 · rw [GTy.has_eq] at hm
   simp only [GTy.op, GTy.n, GTy.kids, GTy.hasL, Bool.or_false, Bool.or_eq_true, Bool.and_eq_true, beq_iff_eq] at hm
   rcases hm with hm | hm
   · exact absurd hm.1 ho
   · exact ha.2.1 m hm
 · refine ⟨by simp [GTy.kids], fun x hx => ?_⟩
   have hx2 : x = a := by simpa [GTy.kids] using hx
   subst hx2
   exact ha.2.2.1
 · rw [GTy.tx, GTy.txL, GTy.txL, ha.2.2.2, decide_eq_true (by omega)]; rfl
theorem slTwoTy {w : World} {S : Nat → Prop} {g : Nat} {T : TypeId} {a b : GTy} {A1 A2 : Option Addr} {c1 c2 : Nat} (hr : Row w g T #[.int .i64 a.op, .int .i64 a.n, .string a.s, .slice A1 a.kids.length c1, .int .i64 b.op, .int .i64 b.n, .string b.s, .slice A2 b.kids.length c2]) (ha : GTy.At w S A1 c1 a) (hb : GTy.At w S A2 c2 b) (hg : S g) : Sl w S 4 (some ⟨g, 0, none⟩) 2 ([a, b].map GTy.toD) := by
 refine ⟨by simp, by unfold maxLen; omega, .inr ⟨g, 0, rfl, hg, ?_⟩⟩
 refine rdC_row [a.toD, b.toD] [.int .i64 a.op, .int .i64 a.n, .string a.s, .slice A1 a.kids.length c1, .int .i64 b.op, .int .i64 b.n, .string b.s, .slice A2 b.kids.length c2] 0 (fun j v hj => ?_) ?_
 · rw [Nat.zero_add, hr.cell]; simpa using hj
 · simp only [rdC]
   exact ⟨[.int .i64 a.op, .int .i64 a.n, .string a.s, .slice A1 a.kids.length c1], [.int .i64 b.op, .int .i64 b.n, .string b.s, .slice A2 b.kids.length c2], rfl, rfl, GTy.rd_mk ha, [.int .i64 b.op, .int .i64 b.n, .string b.s, .slice A2 b.kids.length c2], [], rfl, rfl, GTy.rd_mk hb, rfl⟩
theorem slOneTy {w : World} {S : Nat → Prop} {g : Nat} {T : TypeId} {a : GTy} {A1 : Option Addr} {c1 : Nat} (hr : Row w g T #[.int .i64 a.op, .int .i64 a.n, .string a.s, .slice A1 a.kids.length c1]) (ha : GTy.At w S A1 c1 a) (hg : S g) : Sl w S 4 (some ⟨g, 0, none⟩) 1 ([a].map GTy.toD) := by
 refine ⟨by simp, by unfold maxLen; omega, .inr ⟨g, 0, rfl, hg, ?_⟩⟩
 refine rdC_row [a.toD] [.int .i64 a.op, .int .i64 a.n, .string a.s, .slice A1 a.kids.length c1] 0 (fun j v hj => ?_) ?_
 · rw [Nat.zero_add, hr.cell]; simpa using hj
 · simp only [rdC]
   exact ⟨[.int .i64 a.op, .int .i64 a.n, .string a.s, .slice A1 a.kids.length c1], [], rfl, rfl, GTy.rd_mk ha, rfl⟩
theorem leafAt (w : World) (S : Nat → Prop) {op n : Int} {s : ByteArray} (h1 : (Lit.int .i64 op).wf = true) (h2 : (Lit.int .i64 n).wf = true) (h3 : s.size ≤ 4) : GTy.At w S none 0 (.mk op n s []) :=
 ⟨h1, h2, by unfold maxLen; show s.size ≤ _; omega, Sl.nil (by unfold maxLen; omega)⟩
theorem smallWf {n : Int} (h : 0 ≤ n ∧ n < 5) : (Lit.int .i64 n).wf = true := by
 simp [Lit.wf, IntKind.min, IntKind.max, IntKind.signed, IntKind.bits]; omega
theorem drawTy (d : Nat) : ∀ (dd : Int) {l : List Int} {A : Option Addr} {c : Nat} {w : World} {g i : Nat} {h : Int}, dd = (d : Int) → d ≤ 100 → Cur l A c w g i h →
 Calls Tryz.prog 21 #[.pointer (some ⟨g, 0, none⟩), .int .i64 dd] w (DrawnT l A c g (drT d) w) := by
 induction d with
 | zero =>
  intro dd l A c w g i h hdd hd hc
  have hg := hc.row.lt
  have C0 := LH hc
  have h0 : (dd == 0) = true := by rw [hdd]; rfl
  have CF := LH (hc.below ((Below.refl w.heap.size w).alloc (Nat.le_refl _) (.cells #[.int .i64 1, .int .i64 0, .string ⟨#[]⟩, .slice none 0 0] 27)) hg)
  clear hc hdd
  go_enter Tryz.func21, Tryz.ntmps21
  go_wp2_with fail
  exact bodyPost_ret (v := .agg #[.int .i64 1, .int .i64 0, .string ⟨#[]⟩, .slice none 0 0]) (by simp [results, Tryz.results21, go_sem]) rfl ⟨.mk 1 0 ⟨#[]⟩ [], none, 0, i, h, rfl, drT_leaf (by decide) (by omega), leafAt _ _ (by decide) (by decide) (by decide), CF.out, (Turned.refl _ _).alloc _⟩
 | succ d ih =>
  intro dd l A c w g i h hdd hd hc
  have hg := hc.row.lt
  have h0 : (dd == 0) = false := by rw [beq_eq_false_iff_ne, hdd]; omega
  have hwd : IntKind.i64.wrap (dd - 1) = dd - 1 := by rw [IntKind.wrap_i64]; omega
  have hIH := LH (fun (w2 : World) (i2 : Nat) (h2 : Int) (hc2 : Cur l A c w2 g i2 h2) => ih (dd - 1) (by omega) (by omega) hc2)
  have E0 := LH (show Below w.heap.size w (w.alloc (.cells #[.int .i64 0, .int .i64 0, .string ⟨#[]⟩, .slice none 0 0] 27)) from (Below.refl _ _).alloc (Nat.le_refl _) _)
  have C0 := LH (hc.below E0.out hg)
  have R0 := LH (Row.new w 27 #[.int .i64 0, .int .i64 0, .string ⟨#[]⟩, .slice none 0 0])
  have T0 := LH ((Turned.refl g w).alloc (.cells #[.int .i64 0, .int .i64 0, .string ⟨#[]⟩, .slice none 0 0] 27))
  have hgr : w.heap.size ≠ g := by omega
  clear hc hdd ih hd
  go_enter Tryz.func21, Tryz.ntmps21
  go_wp2_with fail
  refine (drawBelow C0.out 6 (by omega) (by omega)).mono ?_
  rintro e w1 ⟨x, i1, h1, rfl, hx, hc1, ht1⟩
  have C1 := LH hc1
  have T1 := LH (T0.out.trans ht1)
  have R1 := LH (R0.out.turned ht1 hgr)
  clear hc1 ht1
  have hl1 := R1.out.lt
  by_cases x0 : x = 0
  ·
   have y0 : (x == 0) = true := beq_iff_eq.2 x0
   clear x0 hx
   go_wp2_with fail
   refine (hIH.out _ _ _ C1.out).mono ?_
   rintro e w2 ⟨ta, Aa, ca, i2, h2, rfl, pa, ata, hc2, ht2⟩
   have C2 := LH hc2
   have T2 := LH (T1.out.trans ht2)
   have R2 := LH (R1.out.turned ht2 hgr)
   have hl2 := R2.out.lt
   have AA := LH ata
   have PA := LH pa
   have hs12 := ht2.size
   clear hc2 ht2 ata pa
   have EA := LH (show Below w2.heap.size w2 (w2.alloc (.cells #[.int .i64 ta.op, .int .i64 ta.n, .string ta.s, .slice Aa ta.kids.length ca] 27)) from (Below.refl _ _).alloc (Nat.le_refl _) _)
   have CA := LH (C2.out.below EA.out C2.out.row.lt)
   have RA := LH (Row.new w2 27 #[.int .i64 ta.op, .int .i64 ta.n, .string ta.s, .slice Aa ta.kids.length ca])
   have hg2 : w2.heap.size ≠ g := by omega
   go_wp2_with fail
   refine (hIH.out _ _ _ CA.out).mono ?_
   rintro e w3 ⟨tb, Ab, cb, i3, h3, rfl, pb, atb, hc3, ht3⟩
   have T3 := LH ((T2.out.alloc (.cells #[.int .i64 ta.op, .int .i64 ta.n, .string ta.s, .slice Aa ta.kids.length ca] 27)).trans ht3)
   have R3 := LH ((R2.out.below EA.out hl2).turned ht3 hgr)
   have RA3 := LH (RA.out.turned ht3 hg2)
   have hs23 : w2.heap.size + 1 ≤ w3.heap.size := by have := ht3.size; simpa using this
   have hl3 := R3.out.lt
   have hla3 := RA3.out.lt
   have AA3 := LH (AA.out.keep (w' := w3) (S' := fun b => Btw w.heap.size w3.heap.size b ∧ b ≠ w.heap.size) (fun b hb => ⟨⟨⟨by have := hb.1; omega, by have := hb.2; omega⟩, by have := hb.1; omega⟩, (ht3.block b (by simp; have := hb.2; omega) (by have := hb.1; omega)).trans (EA.out.block b hb.2)⟩))
   have AB3 := LH (atb.keep (w' := w3) (S' := fun b => Btw w.heap.size w3.heap.size b ∧ b ≠ w.heap.size) (fun b hb => ⟨⟨⟨by have := hb.1; simp at this; omega, hb.2⟩, by have := hb.1; simp at this; omega⟩, rfl⟩))
   obtain ⟨V, eV⟩ : ∃ V, V = setCells w3 w.heap.size 0 [.int .i64 3, .int .i64 0, .string ⟨#[]⟩, .slice (some ⟨w3.heap.size + 1, 0, none⟩) 2 2] := ⟨_, rfl⟩
   have TV := LH (show Turned w.heap.size w3 V by rw [eV]; exact setCells_turned _ _ _ _)
   have SV : V.heap.size = w3.heap.size := by rw [eV, setCells_size]
   have RV := LH (show Row V w.heap.size 27 #[.int .i64 3, .int .i64 0, .string ⟨#[]⟩, .slice (some ⟨w3.heap.size + 1, 0, none⟩) 2 2] by rw [eV]; exact (((R3.out.set 0 _).set 1 _).set 2 _).set 3 _)
   have CV := LH (hc3.turned TV.out (by omega))
   have TGV := LH (show Turned g w V by rw [eV]; exact turned_set T3.out w.heap.size (Nat.le_refl _) _)
   obtain ⟨W, eW⟩ : ∃ W, W = (V.alloc (.cells #[.int .i64 tb.op, .int .i64 tb.n, .string tb.s, .slice Ab tb.kids.length cb] 27)).alloc (.cells #[.int .i64 ta.op, .int .i64 ta.n, .string ta.s, .slice Aa ta.kids.length ca, .int .i64 tb.op, .int .i64 tb.n, .string tb.s, .slice Ab tb.kids.length cb] 27) := ⟨_, rfl⟩
   have EW := LH (show Below V.heap.size V W by rw [eW]; exact ((Below.refl _ _).alloc (Nat.le_refl _) _).alloc (by simp) _)
   have RW := LH (show Row W (w3.heap.size + 1) 27 #[.int .i64 ta.op, .int .i64 ta.n, .string ta.s, .slice Aa ta.kids.length ca, .int .i64 tb.op, .int .i64 tb.n, .string tb.s, .slice Ab tb.kids.length cb] by rw [eW, ← SV]; exact Row.new' _ _ _ (by simp))
   have RR := LH (RV.out.below EW.out (by omega))
   have CW := LH (CV.out.below EW.out CV.out.row.lt)
   have TW := LH (show Turned g w W by rw [eW]; exact (TGV.out.alloc _).alloc _)
   have hsW : W.heap.size = w3.heap.size + 2 := by rw [eW]; simp [SV]
   have hvl : w.heap.size < w3.heap.size := by omega
   have hca := fun i => RA3.out.cell i
   have AA4 := LH (AA3.out.keep (w' := W) (S' := Btw w.heap.size W.heap.size) (fun b hb => ⟨⟨hb.1.1, by have := hb.1.2; omega⟩, (EW.out.block b (by have := hb.1.2; omega)).trans (TV.out.block b hb.1.2 hb.2)⟩))
   have AB4 := LH (AB3.out.keep (w' := W) (S' := Btw w.heap.size W.heap.size) (fun b hb => ⟨⟨hb.1.1, by have := hb.1.2; omega⟩, (EW.out.block b (by have := hb.1.2; omega)).trans (TV.out.block b hb.1.2 hb.2)⟩))
   have FIN := LH (show DrawnT l A c g (drT (d + 1)) w (.returned (.agg #[.int .i64 3, .int .i64 0, .string ⟨#[]⟩, .slice (some ⟨w3.heap.size + 1, 0, none⟩) 2 2])) W from ⟨.mk 3 0 ⟨#[]⟩ [ta, tb], some ⟨w3.heap.size + 1, 0, none⟩, 2, _, _, rfl, drT_two (by decide) PA.out pb, ⟨show (Lit.int .i64 3).wf = true by decide, show (Lit.int .i64 0).wf = true by decide, show (ByteArray.mk #[]).size ≤ maxLen by decide, slTwoTy RW.out AA4.out AB4.out ⟨by omega, by omega⟩⟩, CW.out, TW.out⟩)
   have EQW := LH (show W = (((((w3.setCell ⟨w.heap.size, 0, none⟩ (.int .i64 3)).setCell ⟨w.heap.size, 1, none⟩ (.int .i64 0)).setCell ⟨w.heap.size, 2, none⟩ (.string ⟨#[]⟩)).setCell ⟨w.heap.size, 3, none⟩ (.slice (some ⟨w3.heap.size + 1, 0, none⟩) 2 2)).alloc (.cells #[.int .i64 tb.op, .int .i64 tb.n, .string tb.s, .slice Ab tb.kids.length cb] 27)).alloc (.cells #[.int .i64 ta.op, .int .i64 ta.n, .string ta.s, .slice Aa ta.kids.length ca, .int .i64 tb.op, .int .i64 tb.n, .string tb.s, .slice Ab tb.kids.length cb] 27) by rw [eW, eV]; rfl)
   have hcz0 := fun i => R3.out.cell i
   have hfz := fun i => R3.out.frozen i
   clear hc3 ht3 atb pb eW eV TW CW TV CV TGV
   go_wp2_with fail
   rw [← EQW.out]
   have hcz := fun i => RR.out.cell i
   exact bodyPost_ret (v := .agg #[.int .i64 3, .int .i64 0, .string ⟨#[]⟩, .slice (some ⟨w3.heap.size + 1, 0, none⟩) 2 2]) (by simp [results, Tryz.results21, go_sem, hcz, hca]) rfl FIN.out
  by_cases x1 : x = 1
  ·
   have y0 : (x == 0) = false := beq_eq_false_iff_ne.2 (by omega)
   have y1 : (x == 1) = true := beq_iff_eq.2 x1
   clear x0 x1 hx
   go_wp2_with fail
   refine (hIH.out _ _ _ C1.out).mono ?_
   rintro e w2 ⟨ta, Aa, ca, i2, h2, rfl, pa, ata, hc2, ht2⟩
   have C2 := LH hc2
   have T2 := LH (T1.out.trans ht2)
   have R2 := LH (R1.out.turned ht2 hgr)
   have hl2 := R2.out.lt
   have AA := LH ata
   have PA := LH pa
   have hs12 := ht2.size
   clear hc2 ht2 ata pa
   obtain ⟨V, eV⟩ : ∃ V, V = setCells w2 w.heap.size 0 [.int .i64 4, .int .i64 0, .string ⟨#[76, 105, 115, 116]⟩, .slice (some ⟨w2.heap.size + 1, 0, none⟩) 1 1] := ⟨_, rfl⟩
   have TV := LH (show Turned w.heap.size w2 V by rw [eV]; exact setCells_turned _ _ _ _)
   have SV : V.heap.size = w2.heap.size := by rw [eV, setCells_size]
   have RV := LH (show Row V w.heap.size 27 #[.int .i64 4, .int .i64 0, .string ⟨#[76, 105, 115, 116]⟩, .slice (some ⟨w2.heap.size + 1, 0, none⟩) 1 1] by rw [eV]; exact (((R2.out.set 0 _).set 1 _).set 2 _).set 3 _)
   have CV := LH (C2.out.turned TV.out (by omega))
   have TGV := LH (show Turned g w V by rw [eV]; exact turned_set T2.out w.heap.size (Nat.le_refl _) _)
   obtain ⟨W, eW⟩ : ∃ W, W = (V.alloc (.cells #[.int .i64 ta.op, .int .i64 ta.n, .string ta.s, .slice Aa ta.kids.length ca] 27)).alloc (.cells #[.int .i64 ta.op, .int .i64 ta.n, .string ta.s, .slice Aa ta.kids.length ca] 27) := ⟨_, rfl⟩
   have EW := LH (show Below V.heap.size V W by rw [eW]; exact ((Below.refl _ _).alloc (Nat.le_refl _) _).alloc (by simp) _)
   have RW := LH (show Row W (w2.heap.size + 1) 27 #[.int .i64 ta.op, .int .i64 ta.n, .string ta.s, .slice Aa ta.kids.length ca] by rw [eW, ← SV]; exact Row.new' _ _ _ (by simp))
   have RR := LH (RV.out.below EW.out (by omega))
   have CW := LH (CV.out.below EW.out CV.out.row.lt)
   have TW := LH (show Turned g w W by rw [eW]; exact (TGV.out.alloc _).alloc _)
   have hsW : W.heap.size = w2.heap.size + 2 := by rw [eW]; simp [SV]
   have hvl : w.heap.size < w2.heap.size := by omega
   have hca : True := trivial
   have AA4 := LH (AA.out.keep (w' := W) (S' := Btw w.heap.size W.heap.size) (fun b hb => ⟨⟨by have := hb.1; omega, by have := hb.2; omega⟩, (EW.out.block b (by have := hb.2; omega)).trans (TV.out.block b hb.2 (by have := hb.1; omega))⟩))
   have FIN := LH (show DrawnT l A c g (drT (d + 1)) w (.returned (.agg #[.int .i64 4, .int .i64 0, .string ⟨#[76, 105, 115, 116]⟩, .slice (some ⟨w2.heap.size + 1, 0, none⟩) 1 1])) W from ⟨.mk 4 0 ⟨#[76, 105, 115, 116]⟩ [ta], some ⟨w2.heap.size + 1, 0, none⟩, 1, _, _, rfl, drT_one (by decide) (by decide) PA.out, ⟨show (Lit.int .i64 4).wf = true by decide, show (Lit.int .i64 0).wf = true by decide, show (ByteArray.mk #[76, 105, 115, 116]).size ≤ maxLen by decide, slOneTy RW.out AA4.out ⟨by omega, by omega⟩⟩, CW.out, TW.out⟩)
   have EQW := LH (show W = (((((w2.setCell ⟨w.heap.size, 0, none⟩ (.int .i64 4)).setCell ⟨w.heap.size, 1, none⟩ (.int .i64 0)).setCell ⟨w.heap.size, 2, none⟩ (.string ⟨#[76, 105, 115, 116]⟩)).setCell ⟨w.heap.size, 3, none⟩ (.slice (some ⟨w2.heap.size + 1, 0, none⟩) 1 1)).alloc (.cells #[.int .i64 ta.op, .int .i64 ta.n, .string ta.s, .slice Aa ta.kids.length ca] 27)).alloc (.cells #[.int .i64 ta.op, .int .i64 ta.n, .string ta.s, .slice Aa ta.kids.length ca] 27) by rw [eW, eV]; rfl)
   have hcz0 := fun i => R2.out.cell i
   have hfz := fun i => R2.out.frozen i
   clear eW eV TW CW TV CV TGV
   go_wp2_with fail
   rw [← EQW.out]
   have hcz := fun i => RR.out.cell i
   exact bodyPost_ret (v := .agg #[.int .i64 4, .int .i64 0, .string ⟨#[76, 105, 115, 116]⟩, .slice (some ⟨w2.heap.size + 1, 0, none⟩) 1 1]) (by simp [results, Tryz.results21, go_sem, hcz, hca]) rfl FIN.out
  by_cases x2 : x = 2
  ·
   have y0 : (x == 0) = false := beq_eq_false_iff_ne.2 (by omega)
   have y1 : (x == 1) = false := beq_eq_false_iff_ne.2 (by omega)
   have y2 : (x == 2) = true := beq_iff_eq.2 x2
   clear x0 x1 x2 hx
   obtain ⟨wp, ep⟩ : ∃ wp, wp = w1.alloc (.cells #[.string ⟨#[66, 111, 111, 108]⟩, .string ⟨#[78, 97, 116]⟩] 9) := ⟨_, rfl⟩
   have EP := LH (show Below w1.heap.size w1 wp by rw [ep]; exact (Below.refl _ _).alloc (Nat.le_refl _) _)
   have RP := LH (show Row wp w1.heap.size 9 #[.string ⟨#[66, 111, 111, 108]⟩, .string ⟨#[78, 97, 116]⟩] by rw [ep]; exact Row.new' _ _ _ rfl)
   have CP := LH (C1.out.below EP.out C1.out.row.lt)
   have TP := LH (show Turned g w wp by rw [ep]; exact T1.out.alloc _)
   have HPK := LH (drawPick CP.out [⟨#[66, 111, 111, 108]⟩, ⟨#[78, 97, 116]⟩] w1.heap.size (by have := C1.out.row.lt; omega) 9 RP.out (by decide) (by decide) (fun s => s.size ≤ 4) (fun s hs => by
     rcases List.mem_cons.1 hs with rfl | hs
     · decide
     · rw [List.mem_singleton.1 hs]; decide))
   have R1p := LH (R1.out.below EP.out hl1)
   have EQP := LH ep
   clear ep
   go_wp2_with fail
   rw [← EQP.out]
   refine HPK.out.mono ?_
   rintro e w2 ⟨s, i2, h2, rfl, hs, hc2, ht2⟩
   have C2 := LH hc2
   have T2 := LH (TP.out.trans ht2)
   have R2 := LH (R1p.out.turned ht2 hgr)
   have hl2 := R2.out.lt
   have hcz := fun i => R2.out.cell i
   have hfz := fun i => R2.out.frozen i
   have hca : True := trivial
   have FIN := LH (drawn_fin (r := w.heap.size) (P := drT (d + 1)) (vs := [.int .i64 4, .int .i64 0, .string s, .slice none 0 0]) (drT_leaf (op := 4) (n := 0) hs (by omega)) C2.out T2.out hg (Nat.le_refl _) (leafAt w2 _ (by decide) (by decide) hs))
   clear hc2 ht2
   go_wp2_with fail
   exact bodyPost_ret (v := .agg #[.int .i64 4, .int .i64 0, .string s, .slice none 0 0]) (by simp [results, Tryz.results21, go_sem, hcz, hca]) rfl FIN.out
  by_cases x3 : x = 3
  ·
   have y0 : (x == 0) = false := beq_eq_false_iff_ne.2 (by omega)
   have y1 : (x == 1) = false := beq_eq_false_iff_ne.2 (by omega)
   have y2 : (x == 2) = false := beq_eq_false_iff_ne.2 (by omega)
   have y3 : (x == 3) = true := beq_iff_eq.2 x3
   clear x0 x1 x2 x3 hx
   have hcz := fun i => R1.out.cell i
   have hfz := fun i => R1.out.frozen i
   have hca : True := trivial
   have FIN := LH (drawn_fin (r := w.heap.size) (P := drT (d + 1)) (vs := [.int .i64 1, .int .i64 0, .string ⟨#[]⟩, .slice none 0 0]) (drT_leaf (op := 1) (n := 0) (s := ⟨#[]⟩) (by decide) (by omega)) C1.out T1.out hg (Nat.le_refl _) (leafAt w1 _ (by decide) (by decide) (by decide)))
   go_wp2_with fail
   exact bodyPost_ret (v := .agg #[.int .i64 1, .int .i64 0, .string ⟨#[]⟩, .slice none 0 0]) (by simp [results, Tryz.results21, go_sem, hcz, hca]) rfl FIN.out
  have y0 : (x == 0) = false := beq_eq_false_iff_ne.2 (by omega)
  have y1 : (x == 1) = false := beq_eq_false_iff_ne.2 (by omega)
  have y2 : (x == 2) = false := beq_eq_false_iff_ne.2 (by omega)
  have y3 : (x == 3) = false := beq_eq_false_iff_ne.2 (by omega)
  clear x0 x1 x2 x3 hx
  go_wp2_with fail
  refine (drawBelow C1.out 5 (by omega) (by omega)).mono ?_
  rintro e w2 ⟨y, i2, h2, rfl, hy, hc2, ht2⟩
  have T2 := LH (T1.out.trans ht2)
  have R2 := LH (R1.out.turned ht2 hgr)
  have hl2 := R2.out.lt
  have hcz := fun i => R2.out.cell i
  have hfz := fun i => R2.out.frozen i
  have hca : True := trivial
  have FIN := LH (drawn_fin (r := w.heap.size) (P := drT (d + 1)) (vs := [.int .i64 2, .int .i64 y, .string ⟨#[]⟩, .slice none 0 0]) (drT_leaf (op := 2) (n := y) (s := ⟨#[]⟩) (by decide) hy) hc2 T2.out hg (Nat.le_refl _) (leafAt w2 _ (by decide) (smallWf hy) (by decide)))
  clear hc2 ht2
  go_wp2_with fail
  exact bodyPost_ret (v := .agg #[.int .i64 2, .int .i64 y, .string ⟨#[]⟩, .slice none 0 0]) (by simp [results, Tryz.results21, go_sem, hcz, hca]) rfl FIN.out
theorem drawTyD {l : List Int} {A : Option Addr} {c : Nat} {g : Nat} {a w : World} (m : Dm l A c g a w) (d : Nat) (dd : Int) (h1 : dd = (d : Int)) (h2 : d ≤ 2) :
 Calls Tryz.prog 21 #[.pointer (some ⟨g, 0, none⟩), .int .i64 dd] w fun e w' => ∃ (t : GTy) (A1 : Option Addr) (c1 : Nat), e = .returned (.agg #[.int .i64 t.op, .int .i64 t.n, .string t.s, .slice A1 t.kids.length c1]) ∧ t.bulk ≤ 100 ∧ GTy.At w' (Btw w.heap.size w'.heap.size) A1 c1 t ∧ Dm l A c g w w' := by
 obtain ⟨i, h, hc⟩ := m.cur
 refine Calls.mono (drawTy d dd h1 (by omega) hc) ?_
 rintro e w' ⟨t, A1, c1, i2, h2', rfl, hp, hat, hc2, ht⟩
 refine ⟨t, A1, c1, rfl, ?_, hat, ⟨i2, h2', hc2⟩, ht.bx⟩
 have h3 := hp.1.1
 have h4 : 2 ^ d ≤ 2 ^ 2 := Nat.pow_le_pow_right (by omega) h2
 omega
theorem Pt0.cells {lo : Nat} {w : World} {f nb off ν : Nat} (h : Pt0 lo w f nb off ν) : ∃ (cs : Array Value) (y : Nat → Value), RwL lo w nb 40 cs ∧ off % 11 = 0 ∧ NdOk lo w (fun _ => False) 100 8 2400 (fun i => cs[off + i]?) ∧ ∀ i, i < 11 → cs[off + i]? = some (y i) := by
 obtain ⟨⟨cs, hr, ho, hnd, u, hu, hk⟩, hν, hlo⟩ := h
 have hy : ∀ i, i < 11 → ∃ v, cs[off + i]? = some v := fun i hi => by
  have h10 := (Array.getElem?_eq_some_iff.1 hu).1
  exact ⟨cs[off + i], Array.getElem?_eq_getElem (by omega)⟩
 refine ⟨cs, fun i => (cs[off + i]?).getD undef, hr, ho, hnd, fun i hi => ?_⟩
 obtain ⟨v, hv⟩ := hy i hi
 simp only [hv, Option.getD_some]
section
variable {lo : Nat} {w w1 w' : World} {Fr' : Nat → Prop} {f nb off ν : Nat}
theorem Turn0.far (ht : Turn0 lo w w1 (fun _ => False) Fr' 100) {cs : Array Value} (hr : RwL lo w nb 40 cs) (hn : ¬ Fr' nb) (hb : ∀ b, b ≠ nb → w'.heap[b]? = w1.heap[b]?) : Turn0 lo w w' (fun _ => False) Fr' 100 := by
 have hne : ∀ x t cs2, t ≠ 40 → RwL lo w x t cs2 → x ≠ nb := fun x t cs2 h1 h2 e => by
  subst e
  exact h1 (rowSame h2.2 hr.2).1
 have hk : ∀ b, Fr' b → Fr' b ∧ w'.heap[b]? = w1.heap[b]? := fun b h => ⟨h, hb b fun e => hn (e ▸ h)⟩
 refine ⟨fun _ h => h.elim, fun b cs2 h => ?_, fun b cs2 h => ?_⟩
 · obtain ⟨cs3, h1, h2, h3⟩ := ht.vs b cs2 h
   exact ⟨cs3, ⟨h1.1, (hb b (hne b _ cs2 (by decide) h)).trans h1.2⟩, h2, h3⟩
 · obtain ⟨cs3, h1, h2, h3⟩ := ht.ts b cs2 h
   exact ⟨cs3, ⟨h1.1, (hb b (hne b _ cs2 (by decide) h)).trans h1.2⟩, h2, fun o q1 q2 => (h3 o q1 q2).imp id fun q => q.keep hk⟩
theorem Pt0.put (h : Pt0 lo w f nb off ν) (ht : Turn0 lo w w1 (fun _ => False) Fr' 100) (hty : ∀ b cs, RwL lo w b 40 cs → w1.heap[b]? = w.heap[b]?) (hn : ¬ Fr' nb) {k : Nat} {vs : List Value} (hkv : k + vs.length ≤ 11) (hw' : w' = setCells w1 nb (off + k) vs)
 (anew : ∀ get get' : Nat → Option Value, (∀ i u, i < 11 → get i = some u → w.cell? ⟨nb, off + i, none⟩ = some u) → (∀ i, i < k ∨ k + vs.length ≤ i → get' i = get i) → (∀ i v, vs[i]? = some v → get' (k + i) = some v) → Turn0 lo w w' (fun _ => False) Fr' 100 → NdOk lo w (fun _ => False) 100 8 2400 get → NdOk lo w' Fr' 100 8 2505 get' ∧ (get' 10 = get 10 ∨ get' 10 = some (.slice none 0 0))) : Turn lo w w' (fun _ => False) Fr' 100 8 2400 2505 := by
 obtain ⟨cs, y, hr, ho, hnd, hy⟩ := h.cells
 have hr1 : RwL lo w1 nb 40 cs := ⟨hr.1, (hty nb cs hr).trans hr.2⟩
 obtain ⟨cs', q1, q2, q3, q4⟩ := setCells_row hr1.2 (off + k) vs
 rw [← hw'] at q1
 have hb : ∀ b, b ≠ nb → w'.heap[b]? = w1.heap[b]? := fun b hb => by rw [hw']; exact setCells_block _ _ _ _ b hb
 have ht' := ht.far hr hn hb
 have hsz : off + 11 ≤ cs.size := by
  have := (Array.getElem?_eq_some_iff.1 (hy 10 (by omega))).1
  omega
 obtain ⟨g1, g2⟩ := anew (fun i => cs[off + i]?) (fun i => cs'[off + i]?) (fun i u _ hi => (hr.cell _).trans hi) (fun i hi => q3 _ (by omega)) (fun i v hi => by
   have hlt := (List.getElem?_eq_some_iff.1 hi).1
   rw [← Nat.add_assoc]
   exact q4 i v hi (by omega)) ht' hnd
 exact ht'.node (by omega) (fun b cs2 h1 h2 => (hb b h1).trans (hty b cs2 h2)) hr ⟨hr.1, q1⟩ q2 ho (fun i hi => q3 i (by omega)) g1 g2
theorem Turn0.refl (hk : ∀ b, b < w.heap.size → w1.heap[b]? = w.heap[b]?) : Turn0 lo w w1 (fun _ => False) Fr' 100 :=
 Turn0.of_same (fun _ h => h.elim) fun b t cs _ hr => hk b hr.lt.2
theorem Pt0.putTy (h : Pt0 lo w f nb off ν) (hn : ¬ Fr' nb) {t : GTy} {A : Option Addr} {c : Nat} (hat : GTy.At w Fr' A c t) (hbk : t.bulk ≤ 100) (hw' : w' = setCells w nb (off + 4) [.int .i64 t.op, .int .i64 t.n, .string t.s, .slice A t.kids.length c]) : Turn lo w w' (fun _ => False) Fr' 100 8 2400 2505 :=
 h.put (Turn0.refl fun _ _ => rfl) (fun _ _ _ => rfl) hn (by simp) hw' fun get get' _ h1 h2 ht hnd =>
  ⟨hnd.anew ht (.inl (h1 0 (by omega))) (h1 1 (by omega)) (.inl (h1 2 (by omega))) (h1 3 (by omega)) (.inr (newTy_of (get := fun i => get' (4 + i)) hat (fun b hb => ⟨hb, by rw [hw']; exact setCells_block _ _ _ _ b fun e => hn (e ▸ hb)⟩) hbk (h2 0 _ rfl) (h2 1 _ rfl) (h2 2 _ rfl) (h2 3 _ rfl))) (.inl (h1 8 (by simp))) (.inl (h1 9 (by simp))), .inl (h1 10 (by simp))⟩
theorem Pt0.putS (h : Pt0 lo w f nb off ν) {s : ByteArray} (hs : s.size ≤ 3) (hw' : w' = setCells w nb (off + 2) [.string s]) : Turn lo w w' (fun _ => False) (fun _ => False) 100 8 2400 2505 :=
 h.put (Turn0.refl fun _ _ => rfl) (fun _ _ _ => rfl) id (by simp) hw' fun get get' _ h1 h2 ht hnd =>
  ⟨hnd.anew ht (.inl (h1 0 (by omega))) (h1 1 (by omega)) (.inr ⟨s, h2 0 _ rfl, hs⟩) (h1 3 (by simp)) (.inl fun i hi => h1 _ (by simp; omega)) (.inl (h1 8 (by simp))) (.inl (h1 9 (by simp))), .inl (h1 10 (by simp))⟩
theorem Pt0.putOp (h : Pt0 lo w f nb off ν) {z : Int} (hz : (Lit.int .i64 z).wf = true) (hw' : w' = setCells w nb (off + 0) [.int .i64 z]) : Turn lo w w' (fun _ => False) (fun _ => False) 100 8 2400 2505 :=
 h.put (Turn0.refl fun _ _ => rfl) (fun _ _ _ => rfl) id (by simp) hw' fun get get' _ h1 h2 ht hnd =>
  ⟨hnd.anew ht (.inr ⟨z, h2 0 _ rfl, hz⟩) (h1 1 (by simp)) (.inl (h1 2 (by simp))) (h1 3 (by simp)) (.inl fun i hi => h1 _ (by simp; omega)) (.inl (h1 8 (by simp))) (.inl (h1 9 (by simp))), .inl (h1 10 (by simp))⟩
theorem Pt0.putKids (h : Pt0 lo w f nb off ν) (hw' : w' = setCells w nb (off + 10) [.slice none 0 0]) : Turn lo w w' (fun _ => False) (fun _ => False) 100 8 2400 2505 :=
 h.put (Turn0.refl fun _ _ => rfl) (fun _ _ _ => rfl) id (by simp) hw' fun get get' _ h1 h2 ht hnd =>
  ⟨hnd.anew ht (.inl (h1 0 (by omega))) (h1 1 (by omega)) (.inl (h1 2 (by omega))) (h1 3 (by omega)) (.inl fun i hi => h1 _ (by omega)) (.inl (h1 8 (by omega))) (.inl (h1 9 (by omega))), .inr (h2 0 _ rfl)⟩
theorem App.far {w w' : World} {e : TypeId} {size : Nat} {v : Value} {n b o c : Nat} {cs' : Array Value} (ha : App w w' e size v n b o c cs') {x : Nat} {T : TypeId} {cs : Array Value} (hr : Row w x T cs) (hT : T ≠ e) : x ≠ b ∧ Row w' x T cs := by
 have hx : x ≠ b := by
  rintro rfl
  rcases ha.frm with h | ⟨cs2, -, h, -⟩
  · have := hr.lt; omega
  · exact hT (rowSame hr h).1
 exact ⟨hx, ha.bx.row hr hx⟩
theorem Pt0.putInst (h : Pt0 lo w f nb off ν) (hl : lo ≤ w.heap.size) (hn : ¬ Fr' nb) {v : Value} {n b o c : Nat} {cs' : Array Value} (ha : App w w1 27 4 v n b o c cs') (hv : w.cell? ⟨nb, off + 8, none⟩ = some v) (hnew : NewTy w1 Fr' 100 (fun i => cs'[o + n * 4 + i]?)) (hw' : w' = setCells w1 nb (off + 8) [.slice (some ⟨b, o, none⟩) (n + 1) c]) : Turn lo w w' (fun _ => False) Fr' 100 8 2400 2505 := by
 have ht := ha.turnT (lo := lo) hnew
 have hty : ∀ x cs, RwL lo w x 40 cs → w1.heap[x]? = w.heap[x]? := fun x cs hx => ((ha.far hx.2 (by decide)).2).trans hx.2.symm
 refine h.put ht hty hn (by simp) hw' fun get get' h0 h1 h2 ht' hnd =>
  ⟨hnd.anew ht' (.inl (h1 0 (by omega))) (h1 1 (by omega)) (.inl (h1 2 (by omega))) (h1 3 (by omega)) (.inl fun i hi => h1 _ (by omega)) (.inr fun u β hu hk => ?_) (.inl (h1 9 (by simp))), .inl (h1 10 (by simp))⟩
 have hu2 := h0 8 u (by omega) hu
 rw [hv] at hu2
 cases hu2
 refine ⟨_, h2 0 _ rfl, ?_⟩
 have hp := TOk.push ht hl hk ha hnew
 obtain ⟨cs, y, hr, -⟩ := h.cells
 have hr1 : RwL lo w1 nb 40 cs := ⟨hr.1, (hty nb cs hr).trans hr.2⟩
 exact TOk.turn (Turn0.of_same (fun x hx => ⟨hx, by rw [hw']; exact setCells_block _ _ _ _ x fun e => hn (e ▸ hx)⟩) fun x t cs2 ht2 hx => by
   rw [hw']
   refine setCells_block _ _ _ _ x ?_
   rintro rfl
   have := (rowSame hx.2 hr1.2).1
   subst this
   revert ht2; decide) _ _ _ hp
theorem Pt0.putVars (h : Pt0 lo w f nb off ν) (hl : lo ≤ w.heap.size) {v : Value} {n b o c : Nat} {cs' : Array Value} (ha : App w w1 3 1 v n b o c cs') (hv : w.cell? ⟨nb, off + 9, none⟩ = some v) (hnew : ∃ z : Int, cs'[o + n * 1]? = some (.int .i64 z) ∧ (Lit.int .i64 z).wf = true) (hw' : w' = setCells w1 nb (off + 9) [.slice (some ⟨b, o, none⟩) (n + 1) c]) : Turn lo w w' (fun _ => False) (fun _ => False) 100 8 2400 2505 := by
 have ht := ha.turnV (lo := lo) (Fr' := fun _ => False) (dk := 100) hnew
 have hty : ∀ x cs, RwL lo w x 40 cs → w1.heap[x]? = w.heap[x]? := fun x cs hx => ((ha.far hx.2 (by decide)).2).trans hx.2.symm
 refine h.put ht hty id (by simp) hw' fun get get' h0 h1 h2 ht' hnd =>
  ⟨hnd.anew ht' (.inl (h1 0 (by omega))) (h1 1 (by omega)) (.inl (h1 2 (by omega))) (h1 3 (by omega)) (.inl fun i hi => h1 _ (by omega)) (.inl (h1 8 (by omega))) (.inr fun u β hu hk => ?_), .inl (h1 10 (by simp))⟩
 have hu2 := h0 9 u (by omega) hu
 rw [hv] at hu2
 cases hu2
 refine ⟨_, h2 0 _ rfl, ?_⟩
 have hp := VOk.push hl hk ha hnew
 obtain ⟨cs, y, hr, -⟩ := h.cells
 have hr1 : RwL lo w1 nb 40 cs := ⟨hr.1, (hty nb cs hr).trans hr.2⟩
 exact VOk.turn (Turn0.of_same (Fr := fun _ => False) (Fr' := fun _ => False) (dk := 100) (fun x hx => hx.elim) fun x t cs2 ht2 hx => by
   rw [hw']
   refine setCells_block _ _ _ _ x ?_
   rintro rfl
   have := (rowSame hx.2 hr1.2).1
   subst this
   revert ht2; decide) hp
theorem turnTy (lo : Nat) {b o : Nat} {cs : Array Value} (hr : Row w b 27 cs) (ho : o % 4 = 0) (hcs : o + 4 ≤ cs.size) (hn : ¬ Fr' b) {t : GTy} {A : Option Addr} {c : Nat} (hat : GTy.At w Fr' A c t) (hbk : t.bulk ≤ 100) (hw' : w' = setCells w b o [.int .i64 t.op, .int .i64 t.n, .string t.s, .slice A t.kids.length c]) : Turn lo w w' (fun _ => False) Fr' 100 8 2400 2505 := by
 obtain ⟨cs', q1, q2, q3, q4⟩ := setCells_row hr o [.int .i64 t.op, .int .i64 t.n, .string t.s, .slice A t.kids.length c]
 rw [← hw'] at q1
 have hb : ∀ x, x ≠ b → w'.heap[x]? = w.heap[x]? := fun x hx => by rw [hw']; exact setCells_block _ _ _ _ x hx
 have hty : ∀ x T cs2, T ≠ 27 → RwL lo w x T cs2 → w'.heap[x]? = w.heap[x]? := fun x T cs2 h1 h2 => hb x fun e => by
  subst e
  exact h1 (rowSame h2.2 hr).1
 refine Turn0.same ⟨fun _ h => h.elim, fun x cs2 h => ⟨cs2, ⟨h.1, (hty x _ cs2 (by decide) h).trans h.2⟩, rfl, fun _ _ => .inl rfl⟩, fun x cs2 h => ?_⟩ (by omega) fun x cs2 h => hty x _ cs2 (by decide) h
 by_cases e : x = b
 ·
  subst e
  obtain ⟨-, rfl⟩ := rowSame h.2 hr
  refine ⟨cs', ⟨h.1, q1⟩, q2, fun p hp hp4 => ?_⟩
  by_cases ep : p = o
  · subst ep
    exact .inr (newTy_of (get := fun i => cs'[p + i]?) hat (fun z hz => ⟨hz, hb z fun e => hn (e ▸ hz)⟩) hbk (q4 0 _ rfl (by omega)) (q4 1 _ rfl (by omega)) (q4 2 _ rfl (by omega)) (q4 3 _ rfl (by omega)))
  · exact .inl fun i hi => q3 _ (by simp; omega)
 · exact ⟨cs2, ⟨h.1, (hb x e).trans h.2⟩, rfl, fun _ _ _ => .inl fun _ _ => rfl⟩
end
theorem Pt0.ne {lo : Nat} {l : List Int} {A : Option Addr} {c g : Nat} {a w : World} {f nb off ν : Nat} (h : Pt0 lo w f nb off ν) (hm : Dm l A c g a w) : nb ≠ g := by
 obtain ⟨i, z, hc⟩ := hm.cur
 obtain ⟨⟨cs, hr, -⟩, -⟩ := h
 rintro rfl
 have := (rowSame hr.2 hc.row).1
 revert this; decide
theorem InRow.below {w w' : World} {e : TypeId} {size : Nat} {v : Value} {n : Nat} (h : InRow w e size v n) (hb : Below w.heap.size w w') : InRow w' e size v n := by
 rcases h with h | ⟨b, o, c, cs, h1, h2, h3⟩
 · exact .inl h
 · exact .inr ⟨b, o, c, cs, h1, h2.below hb h2.lt, h3⟩
theorem InRow.dm {l : List Int} {A : Option Addr} {c g : Nat} {a w w' : World} {e : TypeId} {size : Nat} {v : Value} {n : Nat} (h : InRow w e size v n) (he : e = 3 ∨ e = 27) (hm : Dm l A c g a w) (k : Dm l A c g w w') : InRow w' e size v n := by
 rcases h with h | ⟨b, o, c, cs, h1, h2, h3⟩
 · exact .inl h
 ·
  refine .inr ⟨b, o, c, cs, h1, (k.bx.block b h2.lt ?_).trans h2, h3⟩
  obtain ⟨i, z, hc⟩ := hm.cur
  rintro rfl
  have := (rowSame h2 hc.row).1
  subst this
  revert he; decide
theorem rootRead {lo : Nat} {w : World} {Fr' : Nat → Prop} {b ν : Nat} (h : PtOk lo w Fr' 100 8 2505 64 b 0 ν) (hν : ν ≤ 250) (hFr : ∀ b, Fr' b → InL lo w b) : ∃ (cs : Array Value) (t : GTyped) (A1 : Option Addr) (c1 : Nat) (A2 : Option Addr) (c2 : Nat) (A3 : Option Addr) (c3 : Nat) (A4 : Option Addr) (c4 : Nat), Row w b 40 cs ∧ (∀ (j : Nat) (u : Value), ([.int .i64 t.op, .int .i64 t.n, .string t.s, .string t.t, .int .i64 t.ty.op, .int .i64 t.ty.n, .string t.ty.s, .slice A1 t.ty.kids.length c1, .slice A2 t.inst.length c2, .slice A3 t.vars.length c3, .slice A4 t.kids.length c4] : List Value)[j]? = some u → cs[j]? = some u) ∧ GTyped.At w (InL lo w) A1 c1 A2 c2 A3 c3 A4 c4 t ∧ t.bulk ≤ 1048576 := by
 obtain ⟨cs, hr, ho, hnd, u, hu, hk⟩ := h
 obtain ⟨A, c, l, rfl, q1, q2⟩ := KOk.read hFr 64 _ _ hk
 obtain ⟨t, A1, c1, A2, c2, A3, c3, A4, c4, p1, p2, p3⟩ := hnd.read hFr (ν := ν) hu q1 q2
 refine ⟨cs, t, A1, c1, A2, c2, A3, c3, A4, c4, hr.2, fun j u hj => ?_, p2, ?_⟩
 · have := p1 j u hj
   rw [Nat.zero_add] at this
   exact this
 · have : ν * (2505 + 1) ≤ 250 * (2505 + 1) := Nat.mul_le_mul_right _ hν
   omega
end Go.Proofs.YtlpichogambpfaaGreat
namespace Go.Proofs.YtlpichogambpfaaGreat
set_option maxRecDepth 20000
set_option linter.unusedVariables false
set_option linter.unusedSimpArgs false
open Go Go.RowKit
theorem setCell_comm (w : World) {p q : Addr} (h : p.block ≠ q.block) (u v : Value) : (w.setCell p u).setCell q v = (w.setCell q v).setCell p u := by
 unfold World.setCell
 congr 1
 refine Array.ext (by simp) fun i h1 h2 => ?_
 simp only [Array.getElem_modify]
 by_cases e1 : p.block = i
 · subst e1
   simp [Ne.symm h]
 · by_cases e2 : q.block = i
   · subst e2; simp [e1]
   · simp [e1, e2]
theorem setCells_setCell {p : Addr} (u : Value) (g : Nat) (h : p.block ≠ g) : ∀ (vs : List Value) (k : Nat) (w : World), setCells (w.setCell p u) g k vs = (setCells w g k vs).setCell p u
 | [], k, w => rfl
 | v :: r, k, w => by
  simp only [setCells]
  rw [setCell_comm w (q := ⟨g, k, none⟩) h u v]
  exact setCells_setCell u g h r (k + 1) _
theorem setCells_comm {g g' : Nat} (h : g ≠ g') : ∀ (vs vs' : List Value) (k k' : Nat) (w : World), setCells (setCells w g k vs) g' k' vs' = setCells (setCells w g' k' vs') g k vs
 | [], vs', k, k', w => rfl
 | v :: r, vs', k, k', w => by
  simp only [setCells]
  rw [setCells_comm h r vs' (k + 1) k', setCells_setCell (p := ⟨g, k, none⟩) v g' h]
section
variable {P : Program} {ops : Array Oper} {Q : Exit → Act → World → Prop} {md : Region.Mode} {S : World → Prop} {n : Nat}
def wpAnyU (P : Program) (md : Region.Mode) (ops : Array Oper) (Q : Exit → Act → World → Prop) (S : World → Prop) (n : Nat) : Nat → Array Bool → Act → World → Prop
 | 0, listed, a, w => Region.ready md ops listed = [] ∧ Q .normal a w
 | fuel + 1, listed, a, w =>
  (Region.ready md ops listed = [] → Q .normal a w) ∧
  ∀ i ∈ Region.ready md ops listed, wpOp P ops Q i (fun a' w' => ((listed.setIfInBounds i true).getD n true = true ∨ S w') ∧ wpAnyU P md ops Q S n fuel (listed.setIfInBounds i true) a' w') a w
theorem wpAny_of_U : ∀ (fuel : Nat) (listed : Array Bool) (a : Act) (w : World), wpAnyU P md ops Q S n fuel listed a w → wpAny P md ops Q fuel listed a w
 | 0, _, _, _, h => h
 | fuel + 1, _, _, _, h => ⟨h.1, fun i hi => wpOp_mono (fun a' w' h' => wpAny_of_U fuel _ a' w' h'.2) (h.2 i hi)⟩
theorem getD_on {listed : Array Bool} {i n : Nat} (h : listed.getD n true = true) : (listed.setIfInBounds i true).getD n true = true := by
 by_cases e : i = n
 · subst e
   rw [Array.getD_eq_getD_getElem?, Array.getElem?_setIfInBounds]
   split
   · split <;> rfl
   · simp_all
 · rw [getD_set_ne true e]; exact h
theorem getD_now {listed : Array Bool} {n : Nat} : (listed.setIfInBounds n true).getD n true = true := by
 rw [Array.getD_eq_getD_getElem?, Array.getElem?_setIfInBounds]
 simp only [if_true]
 split <;> rfl
theorem wpAnyU_of_T {k : Nat} : ∀ (fuel : Nat) (listed : Array Bool) (a : Act) (w : World), listed.getD n true = true → wpAnyT P md ops Q (fun _ => True) k fuel listed a w → wpAnyU P md ops Q S n fuel listed a w
 | 0, _, _, _, _, h => h
 | fuel + 1, listed, _, _, hl, h => ⟨h.1, fun i hi => wpOp_mono (fun a' w' h' => ⟨.inl (getD_on hl), wpAnyU_of_T fuel _ a' w' (getD_on hl) h'.2⟩) (h.2 i hi)⟩
theorem wpAnyU_first {i : Nat} {oi : Oper} {v : Value} (hi : ops[i]? = some oi) (hsel : ∀ (j : Nat) (o : Oper) cs b, ops[j]? = some o → o.op ≠ .select cs b)
 (hQ : ∀ c a w, Q (.panic c) (a.put oi.dst v) w → Q (.panic c) a w) (hn : lastWaits md ops n i = true) (hin : i ≠ n) :
 ∀ (fuel : Nat) (listed : Array Bool) (a : Act) (w : World), listed.getD n true = false →
  (∀ j oj, ops[j]? = some oj → j ≠ i → listed.getD j true = false → (∀ e ∈ oj.after, Region.binds md e = true → e.on ≠ i) → oi.apart ops oj = true) →
  i ∈ Region.ready md ops listed → YieldsIf P ops S oi v a → S w →
  wpAnyU P md ops Q S n fuel (listed.setIfInBounds i true) (a.put oi.dst v) w → wpAnyU P md ops Q S n (fuel + 1) listed a w := by
 intro fuel
 induction fuel with
 | zero =>
  intro listed a w _ _ hr hy hS H
  refine ⟨fun h => (by rw [h] at hr; cases hr), fun j hj => ?_⟩
  by_cases hji : j = i
  · subst hji; exact hy.wpOp hi hS ⟨.inr hS, H⟩
  · have := ready_mono hj hji
    rw [H.1] at this
    cases this
 | succ fuel ih =>
  intro listed a w hnl hfree hr hy hS H
  refine ⟨fun h => (by rw [h] at hr; cases hr), fun j hj => ?_⟩
  by_cases hji : j = i
  · subst hji; exact hy.wpOp hi hS ⟨.inr hS, H⟩
  ·
   have h1 := H.2 j (ready_mono hj hji)
   obtain ⟨hjun, oj, hoj, hall⟩ := mem_ready.1 hj
   have hnot : ∀ e ∈ oj.after, Region.binds md e = true → e.on ≠ i := fun e he hb heq => by
    have h1 := hall e he hb
    have h0 := (mem_ready.1 hr).1
    rw [heq] at h1
    rcases Nat.lt_or_ge i listed.size with h' | h'
    · simp [h'] at h0 h1; rw [h0] at h1; cases h1
    · simp [Array.getElem?_eq_none h'] at h1
   have hjn : j ≠ n := fun e => lastWaits_spec hn oj (e ▸ hoj) hnot
   have h2 := wpOp_putIf hoj (hfree j oj hoj hji hjun hnot) (fun cs b => hsel i oi cs b hi) (fun cs b => hsel j oj cs b hoj) hQ hy h1
   have hnl2 : (listed.setIfInBounds j true).getD n true = false := by rw [getD_set_ne true hjn]; exact hnl
   have hfree' : ∀ k ok, ops[k]? = some ok → k ≠ i → (listed.setIfInBounds j true).getD k true = false →
    (∀ e ∈ ok.after, Region.binds md e = true → e.on ≠ i) → oi.apart ops ok = true := fun k ok hk hki hun hno => by
    refine hfree k ok hk hki ?_ hno
    by_cases hjk : j = k
    · subst hjk; exact hjun
    · rw [getD_set_ne true hjk] at hun; exact hun
   refine wpOp_mono (fun a' w' h3 => ?_) h2
   have hS' : S w' := h3.2.1.resolve_left (by rw [getD_set_ne true hjn, getD_set_ne true hin, hnl]; decide)
   refine ⟨.inr hS', ih (listed.setIfInBounds j true) a' w' hnl2 hfree' (ready_mono hr (Ne.symm hji)) h3.1 hS' ?_⟩
   rw [Array.setIfInBounds_comm _ _ hji]
   exact h3.2.2
theorem wpAnyU_tk {i : Nat} {oi : Oper} {v : Value} {fuel : Nat} {listed : Array Bool} {a : Act} {w : World} (hi : ops[i]? = some oi)
 (hy : YieldsIf P ops S oi v a) (hS : S w)
 (h : wpAnyU P md ops Q S n fuel (listed.setIfInBounds i true) (a.put oi.dst v) w)
 (hs : Region.noSelect ops = true := by kernel_rfl) (hf : Region.free md ops listed i = true := by kernel_rfl) (hr : (Region.ready md ops listed).contains i = true := by kernel_rfl) (hn : lastWaits md ops n i = true := by kernel_rfl) (hin : (i == n) = false := by kernel_rfl) (hnl : listed.getD n true = false := by kernel_rfl)
 (hQ : ∀ c a w, Q (.panic c) (a.put oi.dst v) w → Q (.panic c) a w := by exact fun _ _ _ h => h) : wpAnyU P md ops Q S n (fuel + 1) listed a w :=
 wpAnyU_first hi (Region.noSelect_spec hs) hQ hn (by simpa using hin) fuel listed a w hnl (Region.free_spec hi hf) (by simpa using hr) hy hS h
theorem wpAnyU_step {i : Nat} {o : Oper} {fuel : Nat} {listed : Array Bool} {a : Act} {w : World} (hr : Region.ready md ops listed = [i]) (ho : ops[i]? = some o)
 (h : ∀ K' : Act → World → Prop, Shut (∀ a w, S w → (S w → wpAnyU P md ops Q S n fuel (listed.setIfInBounds i true) a w) → K' a w) → if Region.wanted o (yielded ops a.tmps) = true then Oper.wp P o a w K' Q else K' (a.put o.dst undef) w) : wpAnyU P md ops Q S n (fuel + 1) listed a w :=
 ⟨fun h0 => (by rw [hr] at h0; cases h0), fun j hj => by
   rw [hr] at hj
   obtain rfl := List.mem_singleton.1 hj
   exact wpOp_step ho (fun K' hK => h K' (fun a w hS hW => hK a w ⟨.inr hS, hW hS⟩))⟩
theorem wpAnyU_two {i j : Nat} {o o' : Oper} {fuel : Nat} {listed : Array Bool} {a : Act} {w : World} (hr : Region.ready md ops listed = [i, j]) (ho : ops[i]? = some o) (ho' : ops[j]? = some o')
 (h : ∀ K' : Act → World → Prop, Shut (∀ a w, S w → (S w → wpAnyU P md ops Q S n fuel (listed.setIfInBounds i true) a w) → K' a w) → if Region.wanted o (yielded ops a.tmps) = true then Oper.wp P o a w K' Q else K' (a.put o.dst undef) w)
 (h' : ∀ K' : Act → World → Prop, Shut (∀ a w, S w → (S w → wpAnyU P md ops Q S n fuel (listed.setIfInBounds j true) a w) → K' a w) → if Region.wanted o' (yielded ops a.tmps) = true then Oper.wp P o' a w K' Q else K' (a.put o'.dst undef) w) : wpAnyU P md ops Q S n (fuel + 1) listed a w :=
 ⟨fun h0 => (by rw [hr] at h0; cases h0), fun q hq => by
   rw [hr] at hq
   rcases List.mem_cons.1 hq with rfl | hq
   · exact wpOp_step ho (fun K' hK => h K' (fun a w hS hW => hK a w ⟨.inr hS, hW hS⟩))
   · obtain rfl := List.mem_singleton.1 hq
     exact wpOp_step ho' (fun K' hK => h' K' (fun a w hS hW => hK a w ⟨.inr hS, hW hS⟩))⟩
theorem wpAnyU_now {o : Oper} {fuel : Nat} {listed : Array Bool} {a : Act} {w : World} (k : Nat) (hr : Region.ready md ops listed = [n]) (ho : ops[n]? = some o)
 (h : ∀ K' : Act → World → Prop, Shut (∀ a w, wpAnyT P md ops Q (fun _ => True) k fuel (listed.setIfInBounds n true) a w → K' a w) → if Region.wanted o (yielded ops a.tmps) = true then Oper.wp P o a w K' Q else K' (a.put o.dst undef) w) : wpAnyU P md ops Q S n (fuel + 1) listed a w :=
 ⟨fun h0 => (by rw [hr] at h0; cases h0), fun j hj => by
   rw [hr] at hj
   obtain rfl := List.mem_singleton.1 hj
   exact wpOp_step ho (fun K' hK => h K' (fun a w hW => hK a w ⟨.inl getD_now, wpAnyU_of_T _ _ _ _ getD_now hW⟩))⟩
theorem wp_region_U (S : World → Prop) (n : Nat) {id : Nat} {a : Act} {w : World} (hm : P.follows .mixedOrders = true)
 (h : wpAnyU P .any ops Q S n ops.size (Array.replicate ops.size false) a w.drew) : (Code.region id ops true).wp P Q a w :=
 wp_region_any hm (wpAny_of_U _ _ _ _ h)
end
end Go.Proofs.YtlpichogambpfaaGreat
