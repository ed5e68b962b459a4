/- The vars of a type: as they are met, and ascending. Conditions: none but a bound on the sizes. -/
import Derived.Test.YtgbcdfeflgnogaaGTy
import Derived.Test.YtgbcdfeflgnogaaRowI
import Derived.Test.YtgbcdfeflgnogaaAppM
import Derived.Test.YtgbcdfeflgnogaaFuncP
import Derived.Lib.Hide
namespace Go.Proofs.Ytgbcdfeflgnogaa
open Go.RowKit
set_option linter.unusedVariables false
set_option linter.unusedSimpArgs false
set_option maxHeartbeats 2000000

/-- a number put into an ascending list, once -/
def ins (n : Int) : List Int → List Int
  | [] => [n]
  | x :: r => if x < n then x :: ins n r else if x = n then x :: r else n :: x :: r
theorem ins_at {n : Int} : ∀ {l : List Int} {j : Nat}, j ≤ l.length → (∀ k (h : k < l.length), k < j → l[k] < n) → ins n l = l.take j ++ ins n (l.drop j)
  | l, 0, _, _ => by simp
  | [], j + 1, h, _ => by simp at h
  | x :: r, j + 1, h, hk => by
    have h0 := hk 0 (by simp) (by omega)
    simp only [List.getElem_cons_zero] at h0
    have ih := ins_at (n := n) (l := r) (j := j) (by simpa using h) (fun k h1 h2 => by have := hk (k + 1) (by simpa using h1) (by omega); simpa using this)
    simp only [ins, if_pos h0, List.take_succ_cons, List.drop_succ_cons, List.cons_append, ih]
theorem ins_here {n : Int} {l : List Int} {j : Nat} (hj : j < l.length) (hk : ∀ k (h : k < l.length), k < j → l[k] < n) (e : l[j] = n) : ins n l = l := by
  rw [ins_at (j := j) (by omega) hk, List.drop_eq_getElem_cons hj, ins, if_neg (by omega), if_pos e, ← List.drop_eq_getElem_cons hj, List.take_append_drop]
theorem ins_new {n : Int} {l : List Int} {j : Nat} (hj : j ≤ l.length) (hk : ∀ k (h : k < l.length), k < j → l[k] < n) (e : ∀ h : j < l.length, n < l[j]) : ins n l = l.take j ++ n :: l.drop j := by
  rw [ins_at hj hk]
  congr 1
  by_cases h : j < l.length
  · have := e h
    rw [List.drop_eq_getElem_cons h, ins, if_neg (by omega), if_neg (by omega)]
  · rw [List.drop_of_length_le (by omega)]; rfl
theorem ins_len (n : Int) : ∀ l : List Int, (ins n l).length ≤ l.length + 1
  | [] => by simp [ins]
  | x :: r => by have := ins_len n r; simp only [ins]; split; simp; omega; split <;> simp
theorem ins_mem {n a : Int} : ∀ {l : List Int}, a ∈ ins n l ↔ a ∈ l ∨ a = n
  | [] => by simp [ins]
  | x :: r => by
    simp only [ins]
    split
    · simp only [List.mem_cons, ins_mem (l := r), or_assoc]
    · split
      · rename_i h; subst h; simp only [List.mem_cons]; constructor
        · exact .inl
        · rintro (h | rfl); exact h; exact .inl rfl
      · simp only [List.mem_cons]; constructor
        · rintro (h | h); exact .inr h; exact .inl h
        · rintro (h | h); exact .inr h; exact .inl h
theorem ins_asc {n : Int} : ∀ {l : List Int}, l.Pairwise (· < ·) → (ins n l).Pairwise (· < ·)
  | [], _ => by simp [ins]
  | x :: r, h => by
    rw [List.pairwise_cons] at h
    simp only [ins]
    split
    · rename_i h1
      rw [List.pairwise_cons]
      refine ⟨fun a ha => ?_, ins_asc h.2⟩
      rcases ins_mem.1 ha with h2 | rfl
      · exact h.1 a h2
      · exact h1
    · split
      · rw [List.pairwise_cons]; exact h
      · rename_i h1 h2
        rw [List.pairwise_cons]
        refine ⟨fun a ha => ?_, List.pairwise_cons.2 h⟩
        rcases List.mem_cons.1 ha with rfl | ha
        · omega
        · have := h.1 a ha; omega

mutual
/-- the vars of a type, ascending, put into a list -/
def GTy.vs : GTy → List Int → List Int | .mk op n s kids, xs => GTy.vsL kids (if op = 2 then ins n xs else xs)
def GTy.vsL : List GTy → List Int → List Int | [], xs => xs | t :: r, xs => GTy.vsL r (t.vs xs)
end
mutual
/-- the vars of a type as they are met, behind a list -/
def GTy.vi : GTy → List Int → List Int | .mk op n s kids, xs => GTy.viL kids (if op = 2 ∧ xs.any (fun x => x == n) = false then xs ++ [n] else xs)
def GTy.viL : List GTy → List Int → List Int | [], xs => xs | t :: r, xs => GTy.viL r (t.vi xs)
end
theorem GTy.vs_eq (t : GTy) (xs : List Int) : t.vs xs = GTy.vsL t.kids (if t.op = 2 then ins t.n xs else xs) := by cases t; rw [GTy.vs]; rfl
theorem GTy.vi_eq (t : GTy) (xs : List Int) : t.vi xs = GTy.viL t.kids (if t.op = 2 ∧ xs.any (fun x => x == t.n) = false then xs ++ [t.n] else xs) := by cases t; rw [GTy.vi]; rfl
theorem GTy.vsL_snoc (t : GTy) : ∀ (l : List GTy) (xs : List Int), GTy.vsL (l ++ [t]) xs = t.vs (GTy.vsL l xs)
  | [], xs => by simp [GTy.vsL]
  | x :: r, xs => by simp only [List.cons_append, GTy.vsL, GTy.vsL_snoc t r]
theorem GTy.viL_snoc (t : GTy) : ∀ (l : List GTy) (xs : List Int), GTy.viL (l ++ [t]) xs = t.vi (GTy.viL l xs)
  | [], xs => by simp [GTy.viL]
  | x :: r, xs => by simp only [List.cons_append, GTy.viL, GTy.viL_snoc t r]
theorem GTy.vsL_take {l : List GTy} {j : Nat} (h : j < l.length) (xs : List Int) : GTy.vsL (l.take (j + 1)) xs = (l[j]).vs (GTy.vsL (l.take j) xs) := by rw [take_snoc' l j h, GTy.vsL_snoc]
theorem GTy.viL_take {l : List GTy} {j : Nat} (h : j < l.length) (xs : List Int) : GTy.viL (l.take (j + 1)) xs = (l[j]).vi (GTy.viL (l.take j) xs) := by rw [take_snoc' l j h, GTy.viL_snoc]
mutual
theorem GTy.vs_len : ∀ (t : GTy) (xs : List Int), (t.vs xs).length ≤ xs.length + 1 + t.bulk
  | .mk op n s kids, xs => by
    rw [GTy.vs]
    have h := GTy.vsL_len kids (if op = 2 then ins n xs else xs)
    have h1 : (if op = 2 then ins n xs else xs).length ≤ xs.length + 1 := by split; exact ins_len n xs; omega
    have h2 := (GTy.mk op n s kids).bulk_eq
    simp only [GTy.kids] at h2
    omega
theorem GTy.vsL_len : ∀ (l : List GTy) (xs : List Int), (GTy.vsL l xs).length ≤ xs.length + bulkL GTy.bulk l
  | [], xs => by simp [GTy.vsL, bulkL]
  | t :: r, xs => by
    rw [GTy.vsL]
    have h1 := GTy.vs_len t xs
    have h2 := GTy.vsL_len r (t.vs xs)
    simp only [bulkL]; omega
end
mutual
theorem GTy.vi_len : ∀ (t : GTy) (xs : List Int), (t.vi xs).length ≤ xs.length + 1 + t.bulk
  | .mk op n s kids, xs => by
    rw [GTy.vi]
    have h := GTy.viL_len kids (if op = 2 ∧ xs.any (fun x => x == n) = false then xs ++ [n] else xs)
    have h1 : (if op = 2 ∧ xs.any (fun x => x == n) = false then xs ++ [n] else xs).length ≤ xs.length + 1 := by split <;> simp
    have h2 := (GTy.mk op n s kids).bulk_eq
    simp only [GTy.kids] at h2
    omega
theorem GTy.viL_len : ∀ (l : List GTy) (xs : List Int), (GTy.viL l xs).length ≤ xs.length + bulkL GTy.bulk l
  | [], xs => by simp [GTy.viL, bulkL]
  | t :: r, xs => by
    rw [GTy.viL]
    have h1 := GTy.vi_len t xs
    have h2 := GTy.viL_len r (t.vi xs)
    simp only [bulkL]; omega
end
/-- the one list ascends, the other holds each once; both hold the same -/
def SameAs (xs ys : List Int) : Prop := xs.Pairwise (· < ·) ∧ ys.Nodup ∧ ∀ a, a ∈ xs ↔ a ∈ ys
mutual
theorem GTy.same : ∀ (t : GTy) (xs ys : List Int), SameAs xs ys → SameAs (t.vs xs) (t.vi ys)
  | .mk op n s kids, xs, ys, h => by
    rw [GTy.vs, GTy.vi]
    refine GTy.sameL kids _ _ ?_
    by_cases ho : op = 2
    · rw [if_pos ho]
      by_cases ha : ys.any (fun x => x == n) = false
      · rw [if_pos ⟨ho, ha⟩]
        have hn : ¬ n ∈ ys := fun hm => by
          have := List.any_eq_false.1 ha n hm; simp at this
        refine ⟨ins_asc h.1, ?_, fun a => ?_⟩
        · rw [List.nodup_append]; exact ⟨h.2.1, by simp, fun a h3 b hb e => by simp at hb; subst hb; subst e; exact hn h3⟩
        · rw [ins_mem, h.2.2]; simp
      · rw [if_neg (fun e => ha e.2)]
        have hm : n ∈ ys := by
          have : ys.any (fun x => x == n) = true := by simpa using ha
          obtain ⟨x, hx, e⟩ := List.any_eq_true.1 this
          obtain rfl : x = n := by simpa using e
          exact hx
        refine ⟨ins_asc h.1, h.2.1, fun a => ?_⟩
        rw [ins_mem, h.2.2]
        constructor
        · rintro (h1 | rfl); exact h1; exact hm
        · exact .inl
    · rw [if_neg ho, if_neg (fun e => ho e.1)]; exact h
theorem GTy.sameL : ∀ (l : List GTy) (xs ys : List Int), SameAs xs ys → SameAs (GTy.vsL l xs) (GTy.viL l ys)
  | [], xs, ys, h => h
  | t :: r, xs, ys, h => by rw [GTy.vsL, GTy.viL]; exact GTy.sameL r _ _ (GTy.same t xs ys h)
end
theorem asc_one : ∀ {xs ys : List Int}, xs.Pairwise (· < ·) → ys.Pairwise (· < ·) → (∀ a, a ∈ xs ↔ a ∈ ys) → xs = ys
  | [], [], _, _, _ => rfl
  | [], y :: r, _, _, h => by have := (h y).2 (by simp); simp at this
  | x :: r, [], _, _, h => by have := (h x).1 (by simp); simp at this
  | x :: r, y :: q, hx, hy, h => by
    rw [List.pairwise_cons] at hx hy
    have e : x = y := by
      rcases List.mem_cons.1 ((h x).1 (by simp)) with e | e
      · exact e
      · rcases List.mem_cons.1 ((h y).2 (by simp)) with e2 | e2
        · exact e2.symm
        · have := hx.1 y e2; have := hy.1 x e; omega
    subst e
    congr 1
    refine asc_one hx.2 hy.2 fun a => ?_
    constructor
    · intro ha
      rcases List.mem_cons.1 ((h a).1 (by simp [ha])) with e | e
      · subst e; have := hx.1 _ ha; omega
      · exact e
    · intro ha
      rcases List.mem_cons.1 ((h a).2 (by simp [ha])) with e | e
      · subst e; have := hy.1 _ ha; omega
      · exact e
/-- sorted, they are the ascending ones -/
theorem SameAs.sorted {xs ys : List Int} (h : SameAs xs ys) : (ys.mergeSort fun x y => decide (x ≤ y)) = xs := by
  have hp := List.mergeSort_perm ys (fun x y => decide (x ≤ y))
  refine asc_one ?_ h.1 fun a => by rw [hp.mem_iff]; exact (h.2.2 a).symm
  have hs := List.pairwise_mergeSort (le := fun (x y : Int) => decide (x ≤ y)) (fun a b c h1 h2 => by simp at *; omega) (fun a b => by simp; omega) ys
  have hn : (ys.mergeSort fun x y => decide (x ≤ y)).Nodup := hp.nodup_iff.2 h.2.1
  have hand := List.Pairwise.and hs hn
  exact hand.imp fun h => by obtain ⟨a, b⟩ := h; simp at a; omega

/-- a list of one's own that a call hands back -/
def VTo (B : Nat) (xs : List Int) (w : World) (e : Ending) (w' : World) : Prop := ∃ A c, e = .returned (.slice A xs.length c) ∧ Gre w' B 3 1 (.slice A xs.length c) xs.length (xs.map (D.num .i64)) ∧ Below w.heap.size w w'
set_option maxRecDepth 20000 in
theorem specInsert (B : Nat) (xs : List Int) (A : Option Addr) (c : Nat) (n : Int) (w : World) (hn : (Lit.int .i64 n).wf = true) (hl : xs.length ≤ 4194304) (hB : B ≤ w.heap.size) (hG : Gre w B 3 1 (.slice A xs.length c) xs.length (xs.map (D.num .i64))) :
    Calls Try.prog 211 #[.slice A xs.length c, .int .i64 n] w (VTo B (ins n xs) w) := by
  have HG := Lib.hid hG
  have HS := Lib.hid (show Sl w (Lt w.heap.size) 1 A c (xs.map (D.num .i64)) from by obtain ⟨A', c', e', h⟩ := hG.sl; obtain ⟨rfl, rfl⟩ : A = A' ∧ c = c' := (by simpa using e'); exact h)
  have HW := Lib.hid hn
  have hcx : xs.length ≤ c := by have := HS.out.1; simpa using this
  have hcm := HS.out.2.1
  have hcm2 : c ≤ 9223372036854775807 := by unfold maxLen at hcm; omega
  clear hG hn
  go_enter Try.func211, Try.ntmps211
  go_wp2_with fail
  go_loop [5] (fun i => ∃ (j : Nat), j ≤ xs.length ∧ i = .int .i64 j ∧ Hid (∀ k (h : k < xs.length), k < j → xs[k] < n)) (fun i => xs.length - (intOf i).toNat)
  case atStart => exact ⟨0, by omega, by go_num, Lib.hid (fun k h h2 => by omega)⟩
  case round =>
    obtain ⟨j, hj, rfl, HK⟩ := hrel
    by_cases hlt : j < xs.length
    · obtain ⟨b, off, rfl, hSb, g0, gw⟩ := int_elem HS.out j hlt
      by_cases h1 : xs[j] < n
      · have e1 : decide (xs[j] < n) = true := decide_eq_true h1
        have HK2 := Lib.hid (show ∀ k (h : k < xs.length), k < j + 1 → xs[k] < n from fun k h hk => by
          rcases Nat.lt_or_ge k j with h2 | h2
          · exact HK.out k h h2
          · obtain rfl : k = j := by omega
            exact h1)
        clear h1
        go_wp2_with fail
        go_round
        case rel => exact ⟨j + 1, by omega, by go_num, HK2⟩
        case measure => simp [intOf]; omega
      · have e1 : decide (xs[j] < n) = false := decide_eq_false h1
        by_cases h2 : xs[j] = n
        · have e2 : (xs[j] == n) = true := by rw [beq_iff_eq]; exact h2
          have HV := Lib.hid (ins_here hlt HK.out h2)
          clear h1 h2
          go_wp2_with fail
          go_ret
          rw [HV.out]
          exact ⟨_, _, rfl, HG.out, Below.refl _ _⟩
        · have e2 : (xs[j] == n) = false := by rw [beq_eq_false_iff_ne]; exact h2
          have HV := Lib.hid (ins_new hj HK.out (fun _ => by omega))
          have hg : some (⟨b, off, none⟩ : Addr) = some ⟨b, off, none⟩ := rfl
          clear h1 h2
          have E1 := Lib.hid (show Below w.heap.size w (w.alloc (.cells #[] 3)) from (Below.refl _ _).alloc (Nat.le_refl _) _)
          have G1 := Lib.hid (show Gre (w.alloc (.cells #[] 3)) B 3 1 (.slice (some ⟨w.heap.size, 0, none⟩) 0 0) 0 [] from Gre.made (Row.new' _ _ _ rfl) hB)
          have T1 := Lib.hid (show Sl (w.alloc (.cells #[] 3)) (fun b => b < (w.alloc (.cells #[] 3)).heap.size ∧ (Value.slice (some ⟨w.heap.size, 0, none⟩) 0 0).ownBlock ≠ some b) 1 (some ⟨b, off, none⟩) c ((xs.take j).map (D.num .i64)) from by
            rw [List.map_take]
            exact (HS.out.take j).keep fun q hq => ⟨⟨Nat.lt_of_lt_of_le hq E1.out.size, fun e => by simp [Value.ownBlock] at e; have h2 : q < w.heap.size := hq; omega⟩, E1.out.block q hq⟩)
          have hB1 : B ≤ (w.alloc (.cells #[] 3)).heap.size := Nat.le_trans hB E1.out.size
          have hlj : (xs.take j).length = j := by rw [List.length_take]; omega
          go_wp2_with (first
            | (at_builtin; refine wpList_append_M (w.alloc (.cells #[] 3)) rfl (.tmp 34) (.tmp 37) 67 rfl 3 (.int .i64 0) 1 8 Try.underlying67 (by kernel_rfl) rfl (by omega) B (.slice (some ⟨w.heap.size, 0, none⟩) 0 0) 0 [] G1.out (some ⟨b, off, none⟩) c j _ (by rw [List.length_map]; exact hlj) T1.out hB1 (by unfold maxLen; omega) (by omega) rfl rfl ?_
               intro A3 c3 w3 G3 hGr3
               rw [Nat.zero_add] at G3 hGr3
               have E3 := Lib.hid (show Below w.heap.size w w3 from E1.out.trans (hGr3.below E1.out.size (fun gg hg => by simp [Value.ownBlock] at hg; omega)))
               have O3 := Lib.hid (show ∀ gg, (Value.slice A3 j c3).ownBlock = some gg → w.heap.size ≤ gg from fun gg hg => by
                 rcases hGr3.own with h | ⟨g2, h, h2⟩
                 · rw [h] at hg; simp [Value.ownBlock] at hg; omega
                 · rw [h] at hg; cases hg; exact Nat.le_trans E1.out.size h2)
               have G3h := Lib.hid (show Gre w3 B 3 1 (.slice A3 j c3) j ((xs.take j).map (D.num .i64)) from G3)
               have hs3 := E3.out.size
               have EA := Lib.hid (show Below w3.heap.size w3 (w3.alloc (.cells #[.int .i64 n] 3)) from (Below.refl _ _).alloc (Nat.le_refl _) _)
               have GA := Lib.hid (G3h.out.below EA.out)
               have TA := Lib.hid (show Sl (w3.alloc (.cells #[.int .i64 n] 3)) (fun b => b < (w3.alloc (.cells #[.int .i64 n] 3)).heap.size ∧ (Value.slice A3 j c3).ownBlock ≠ some b) 1 (some ⟨w3.heap.size, 0, none⟩) 1 ([n].map (D.num .i64)) from
                 (rowI_osl (B := w3.heap.size) (Row.new' w3 3 (rowI [n]) rfl) (Nat.le_refl _) (by simp [maxLen]) (by intro x hx; simp at hx; rw [hx]; exact HW.out)).sl.keep fun b hb => ⟨⟨hb.2, fun e => by have := (G3h.out.own b e).2; have := hb.1; omega⟩, rfl⟩)
               have hBA : B ≤ (w3.alloc (.cells #[.int .i64 n] 3)).heap.size := Nat.le_trans hB (Nat.le_trans hs3 EA.out.size)
               clear G3 hGr3)
            | (at_builtin; refine wpList_append_M (w3.alloc (.cells #[.int .i64 n] 3)) rfl (.tmp 39) (.tmp 41) 67 rfl 3 (.int .i64 0) 1 8 Try.underlying67 (by kernel_rfl) rfl (by omega) B (.slice A3 j c3) j _ GA.out (some ⟨w3.heap.size, 0, none⟩) 1 1 _ rfl TA.out hBA (by unfold maxLen; omega) (by omega) rfl rfl ?_
               intro A4 c4 w4 G4 hGr4
               have E4 := Lib.hid (show Below w.heap.size w w4 from (E3.out.trans (EA.out.mono hs3)).trans (hGr4.below (Nat.le_trans hs3 EA.out.size) O3.out))
               have O4 := Lib.hid (show ∀ gg, (Value.slice A4 (j + 1) c4).ownBlock = some gg → w.heap.size ≤ gg from fun gg hg => by
                 rcases hGr4.own with h | ⟨g2, h, h2⟩
                 · rw [h] at hg; exact O3.out gg hg
                 · rw [h] at hg; cases hg; exact Nat.le_trans hs3 (Nat.le_trans EA.out.size h2))
               have G4h := Lib.hid G4
               have hs4 := E4.out.size
               have hBD : B ≤ w4.heap.size := Nat.le_trans hB hs4
               have TD := Lib.hid (show Sl w4 (fun b => b < w4.heap.size ∧ (Value.slice A4 (j + 1) c4).ownBlock ≠ some b) 1 (some ⟨b, off + j, none⟩) (c - j) ((xs.drop j).map (D.num .i64)) from by
                 rw [List.map_drop]; have h := HS.out.drop j (by simpa using hj); rw [Nat.mul_one] at h; exact h.keep fun q hq => ⟨⟨Nat.lt_of_lt_of_le hq hs4, fun e => by have := O4.out q e; have h2 : q < w.heap.size := hq; omega⟩, E4.out.block q hq⟩)
               clear G4 hGr4)
            | (at_builtin; refine wpList_append_M w4 rfl (.tmp 43) (.tmp 46) 67 rfl 3 (.int .i64 0) 1 8 Try.underlying67 (by kernel_rfl) rfl (by omega) B (.slice A4 (j + 1) c4) (j + 1) _ G4h.out (some ⟨b, off + j, none⟩) (c - j) (xs.length - j) _ (by simp) TD.out hBD (by unfold maxLen; omega) (by omega) rfl rfl ?_
               intro A5 c5 w5 G5 hGr5
               have E5 := Lib.hid (show Below w.heap.size w w5 from E4.out.trans (hGr5.below hs4 O4.out))
               have G5h := Lib.hid G5
               clear G5 hGr5))
          go_ret
          have hlen : j + 1 + (xs.length - j) = (ins n xs).length := by rw [HV.out, List.length_append, List.length_cons, List.length_take, List.length_drop]; omega
          refine ⟨A5, c5, by rw [← hlen]; rfl, ?_, E5.out⟩
          have h := G5h.out
          rw [← hlen, HV.out]
          simpa [List.map_append] using h
    · have HV := Lib.hid (ins_new hj HK.out (fun h => absurd h hlt))
      have hA : (A = none ∧ xs.length = 0 ∧ c = 0) ∨ ∃ g, A = some ⟨g, 0, none⟩ := by
        obtain ⟨h1, cs, h2, h4⟩ := HG.out
        rcases h2.2 with ⟨h5, h6⟩ | ⟨g, cap, cur, hv, _⟩
        · simp only [Value.slice.injEq] at h5
          exact .inl ⟨h5.1, h6, h5.2.2⟩
        · simp only [Value.slice.injEq] at hv
          exact .inr ⟨g, hv.1⟩
      rcases hA with ⟨rfl, hx0, rfl⟩ | ⟨g0, rfl⟩
      · obtain rfl : xs = [] := List.eq_nil_of_length_eq_zero hx0
        obtain rfl : j = 0 := by simpa using hj
        clear hx0
        have E1 := Lib.hid (show Below w.heap.size w (w.alloc (.cells #[] 3)) from (Below.refl _ _).alloc (Nat.le_refl _) _)
        have G1 := Lib.hid (show Gre (w.alloc (.cells #[] 3)) B 3 1 (.slice (some ⟨w.heap.size, 0, none⟩) 0 0) 0 [] from Gre.made (Row.new' _ _ _ rfl) hB)
        have T1 := Lib.hid (show Sl (w.alloc (.cells #[] 3)) (fun b => b < (w.alloc (.cells #[] 3)).heap.size ∧ (Value.slice (some ⟨w.heap.size, 0, none⟩) 0 0).ownBlock ≠ some b) 1 none 0 ((([] : List Int)).map (D.num .i64)) from by
                    exact HS.out.keep fun q hq => ⟨⟨Nat.lt_of_lt_of_le hq E1.out.size, fun e => by simp [Value.ownBlock] at e; have h2 : q < w.heap.size := hq; omega⟩, E1.out.block q hq⟩)
        have hB1 : B ≤ (w.alloc (.cells #[] 3)).heap.size := Nat.le_trans hB E1.out.size
        have hlj : ([] : List Int).length = 0 := rfl
        go_wp2_with (first
          | (at_builtin; refine wpList_append_M (w.alloc (.cells #[] 3)) rfl (.tmp 34) (.tmp 37) 67 rfl 3 (.int .i64 0) 1 8 Try.underlying67 (by kernel_rfl) rfl (by omega) B (.slice (some ⟨w.heap.size, 0, none⟩) 0 0) 0 [] G1.out none 0 0 _ (by rw [List.length_map]; exact hlj) T1.out hB1 (by unfold maxLen; omega) (by omega) rfl rfl ?_
             intro A3 c3 w3 G3 hGr3
             rw [Nat.zero_add] at G3 hGr3
             have E3 := Lib.hid (show Below w.heap.size w w3 from E1.out.trans (hGr3.below E1.out.size (fun gg hg => by simp [Value.ownBlock] at hg; omega)))
             have O3 := Lib.hid (show ∀ gg, (Value.slice A3 0 c3).ownBlock = some gg → w.heap.size ≤ gg from fun gg hg => by
               rcases hGr3.own with h | ⟨g2, h, h2⟩
               · rw [h] at hg; simp [Value.ownBlock] at hg; omega
               · rw [h] at hg; cases hg; exact Nat.le_trans E1.out.size h2)
             have G3h := Lib.hid (show Gre w3 B 3 1 (.slice A3 0 c3) 0 ((([] : List Int)).map (D.num .i64)) from G3)
             have hs3 := E3.out.size
             have EA := Lib.hid (show Below w3.heap.size w3 (w3.alloc (.cells #[.int .i64 n] 3)) from (Below.refl _ _).alloc (Nat.le_refl _) _)
             have GA := Lib.hid (G3h.out.below EA.out)
             have TA := Lib.hid (show Sl (w3.alloc (.cells #[.int .i64 n] 3)) (fun b => b < (w3.alloc (.cells #[.int .i64 n] 3)).heap.size ∧ (Value.slice A3 0 c3).ownBlock ≠ some b) 1 (some ⟨w3.heap.size, 0, none⟩) 1 ([n].map (D.num .i64)) from
               (rowI_osl (B := w3.heap.size) (Row.new' w3 3 (rowI [n]) rfl) (Nat.le_refl _) (by simp [maxLen]) (by intro x hx; simp at hx; rw [hx]; exact HW.out)).sl.keep fun b hb => ⟨⟨hb.2, fun e => by have := (G3h.out.own b e).2; have := hb.1; omega⟩, rfl⟩)
             have hBA : B ≤ (w3.alloc (.cells #[.int .i64 n] 3)).heap.size := Nat.le_trans hB (Nat.le_trans hs3 EA.out.size)
             clear G3 hGr3)
          | (at_builtin; refine wpList_append_M (w3.alloc (.cells #[.int .i64 n] 3)) rfl (.tmp 39) (.tmp 41) 67 rfl 3 (.int .i64 0) 1 8 Try.underlying67 (by kernel_rfl) rfl (by omega) B (.slice A3 0 c3) 0 _ GA.out (some ⟨w3.heap.size, 0, none⟩) 1 1 _ rfl TA.out hBA (by unfold maxLen; omega) (by omega) rfl rfl ?_
             intro A4 c4 w4 G4 hGr4
             have E4 := Lib.hid (show Below w.heap.size w w4 from (E3.out.trans (EA.out.mono hs3)).trans (hGr4.below (Nat.le_trans hs3 EA.out.size) O3.out))
             have O4 := Lib.hid (show ∀ gg, (Value.slice A4 (0 + 1) c4).ownBlock = some gg → w.heap.size ≤ gg from fun gg hg => by
               rcases hGr4.own with h | ⟨g2, h, h2⟩
               · rw [h] at hg; exact O3.out gg hg
               · rw [h] at hg; cases hg; exact Nat.le_trans hs3 (Nat.le_trans EA.out.size h2))
             have G4h := Lib.hid G4
             have hs4 := E4.out.size
             have hBD : B ≤ w4.heap.size := Nat.le_trans hB hs4
             have TD := Lib.hid (show Sl w4 (fun b => b < w4.heap.size ∧ (Value.slice A4 (0 + 1) c4).ownBlock ≠ some b) 1 none 0 ((([] : List Int)).map (D.num .i64)) from by
               simp; exact Sl.nil (by omega))
             clear G4 hGr4)
          | (at_builtin; refine wpList_append_M w4 rfl (.tmp 43) (.tmp 46) 67 rfl 3 (.int .i64 0) 1 8 Try.underlying67 (by kernel_rfl) rfl (by omega) B (.slice A4 (0 + 1) c4) (0 + 1) _ G4h.out none 0 (0) _ (by simp) TD.out hBD (by unfold maxLen; omega) (by omega) rfl rfl ?_
             intro A5 c5 w5 G5 hGr5
             have E5 := Lib.hid (show Below w.heap.size w w5 from E4.out.trans (hGr5.below hs4 O4.out))
             have G5h := Lib.hid G5
             clear G5 hGr5))
        go_ret
        exact ⟨A5, c5, rfl, by simpa [ins] using G5h.out, E5.out⟩
      · by_cases hcj : j = c
        · subst hcj
          have E1 := Lib.hid (show Below w.heap.size w (w.alloc (.cells #[] 3)) from (Below.refl _ _).alloc (Nat.le_refl _) _)
          have G1 := Lib.hid (show Gre (w.alloc (.cells #[] 3)) B 3 1 (.slice (some ⟨w.heap.size, 0, none⟩) 0 0) 0 [] from Gre.made (Row.new' _ _ _ rfl) hB)
          have T1 := Lib.hid (show Sl (w.alloc (.cells #[] 3)) (fun b => b < (w.alloc (.cells #[] 3)).heap.size ∧ (Value.slice (some ⟨w.heap.size, 0, none⟩) 0 0).ownBlock ≠ some b) 1 (some ⟨g0, 0, none⟩) j ((xs.take j).map (D.num .i64)) from by
            rw [List.map_take]
            exact (HS.out.take j).keep fun q hq => ⟨⟨Nat.lt_of_lt_of_le hq E1.out.size, fun e => by simp [Value.ownBlock] at e; have h2 : q < w.heap.size := hq; omega⟩, E1.out.block q hq⟩)
          have hB1 : B ≤ (w.alloc (.cells #[] 3)).heap.size := Nat.le_trans hB E1.out.size
          have hlj : (xs.take j).length = j := by rw [List.length_take]; omega
          go_wp2_with (first
            | (at_builtin; refine wpList_append_M (w.alloc (.cells #[] 3)) rfl (.tmp 34) (.tmp 37) 67 rfl 3 (.int .i64 0) 1 8 Try.underlying67 (by kernel_rfl) rfl (by omega) B (.slice (some ⟨w.heap.size, 0, none⟩) 0 0) 0 [] G1.out (some ⟨g0, 0, none⟩) j j _ (by rw [List.length_map]; exact hlj) T1.out hB1 (by unfold maxLen; omega) (by omega) rfl rfl ?_
               intro A3 c3 w3 G3 hGr3
               rw [Nat.zero_add] at G3 hGr3
               have E3 := Lib.hid (show Below w.heap.size w w3 from E1.out.trans (hGr3.below E1.out.size (fun gg hg => by simp [Value.ownBlock] at hg; omega)))
               have O3 := Lib.hid (show ∀ gg, (Value.slice A3 j c3).ownBlock = some gg → w.heap.size ≤ gg from fun gg hg => by
                 rcases hGr3.own with h | ⟨g2, h, h2⟩
                 · rw [h] at hg; simp [Value.ownBlock] at hg; omega
                 · rw [h] at hg; cases hg; exact Nat.le_trans E1.out.size h2)
               have G3h := Lib.hid (show Gre w3 B 3 1 (.slice A3 j c3) j ((xs.take j).map (D.num .i64)) from G3)
               have hs3 := E3.out.size
               have EA := Lib.hid (show Below w3.heap.size w3 (w3.alloc (.cells #[.int .i64 n] 3)) from (Below.refl _ _).alloc (Nat.le_refl _) _)
               have GA := Lib.hid (G3h.out.below EA.out)
               have TA := Lib.hid (show Sl (w3.alloc (.cells #[.int .i64 n] 3)) (fun b => b < (w3.alloc (.cells #[.int .i64 n] 3)).heap.size ∧ (Value.slice A3 j c3).ownBlock ≠ some b) 1 (some ⟨w3.heap.size, 0, none⟩) 1 ([n].map (D.num .i64)) from
                 (rowI_osl (B := w3.heap.size) (Row.new' w3 3 (rowI [n]) rfl) (Nat.le_refl _) (by simp [maxLen]) (by intro x hx; simp at hx; rw [hx]; exact HW.out)).sl.keep fun b hb => ⟨⟨hb.2, fun e => by have := (G3h.out.own b e).2; have := hb.1; omega⟩, rfl⟩)
               have hBA : B ≤ (w3.alloc (.cells #[.int .i64 n] 3)).heap.size := Nat.le_trans hB (Nat.le_trans hs3 EA.out.size)
               clear G3 hGr3)
            | (at_builtin; refine wpList_append_M (w3.alloc (.cells #[.int .i64 n] 3)) rfl (.tmp 39) (.tmp 41) 67 rfl 3 (.int .i64 0) 1 8 Try.underlying67 (by kernel_rfl) rfl (by omega) B (.slice A3 j c3) j _ GA.out (some ⟨w3.heap.size, 0, none⟩) 1 1 _ rfl TA.out hBA (by unfold maxLen; omega) (by omega) rfl rfl ?_
               intro A4 c4 w4 G4 hGr4
               have E4 := Lib.hid (show Below w.heap.size w w4 from (E3.out.trans (EA.out.mono hs3)).trans (hGr4.below (Nat.le_trans hs3 EA.out.size) O3.out))
               have O4 := Lib.hid (show ∀ gg, (Value.slice A4 (j + 1) c4).ownBlock = some gg → w.heap.size ≤ gg from fun gg hg => by
                 rcases hGr4.own with h | ⟨g2, h, h2⟩
                 · rw [h] at hg; exact O3.out gg hg
                 · rw [h] at hg; cases hg; exact Nat.le_trans hs3 (Nat.le_trans EA.out.size h2))
               have G4h := Lib.hid G4
               have hs4 := E4.out.size
               have hBD : B ≤ w4.heap.size := Nat.le_trans hB hs4
               have TD := Lib.hid (show Sl w4 (fun b => b < w4.heap.size ∧ (Value.slice A4 (j + 1) c4).ownBlock ≠ some b) 1 (some ⟨g0, 0, none⟩) 0 ((xs.drop j).map (D.num .i64)) from by
                 rw [List.drop_of_length_le (by omega)]; exact Sl.nil (by omega))
               clear G4 hGr4)
            | (at_builtin; refine wpList_append_M w4 rfl (.tmp 43) (.tmp 46) 67 rfl 3 (.int .i64 0) 1 8 Try.underlying67 (by kernel_rfl) rfl (by omega) B (.slice A4 (j + 1) c4) (j + 1) _ G4h.out (some ⟨g0, 0, none⟩) 0 0 _ (by rw [List.length_map, List.length_drop]; omega) TD.out hBD (by unfold maxLen; omega) (by omega) rfl rfl ?_
               intro A5 c5 w5 G5 hGr5
               have E5 := Lib.hid (show Below w.heap.size w w5 from E4.out.trans (hGr5.below hs4 O4.out))
               have G5h := Lib.hid G5
               clear G5 hGr5))
          go_ret
          have hlen : j + 1 + 0 = (ins n xs).length := by rw [HV.out, List.length_append, List.length_cons, List.length_take, List.length_drop]; omega
          refine ⟨A5, c5, by rw [← hlen]; rfl, ?_, E5.out⟩
          have h := G5h.out
          rw [← hlen, HV.out]
          simpa [List.map_append] using h
        · have hcj2 : ¬ c = j := fun e => hcj e.symm
          have E1 := Lib.hid (show Below w.heap.size w (w.alloc (.cells #[] 3)) from (Below.refl _ _).alloc (Nat.le_refl _) _)
          have G1 := Lib.hid (show Gre (w.alloc (.cells #[] 3)) B 3 1 (.slice (some ⟨w.heap.size, 0, none⟩) 0 0) 0 [] from Gre.made (Row.new' _ _ _ rfl) hB)
          have T1 := Lib.hid (show Sl (w.alloc (.cells #[] 3)) (fun b => b < (w.alloc (.cells #[] 3)).heap.size ∧ (Value.slice (some ⟨w.heap.size, 0, none⟩) 0 0).ownBlock ≠ some b) 1 (some ⟨g0, 0, none⟩) c ((xs.take j).map (D.num .i64)) from by
            rw [List.map_take]
            exact (HS.out.take j).keep fun q hq => ⟨⟨Nat.lt_of_lt_of_le hq E1.out.size, fun e => by simp [Value.ownBlock] at e; have h2 : q < w.heap.size := hq; omega⟩, E1.out.block q hq⟩)
          have hB1 : B ≤ (w.alloc (.cells #[] 3)).heap.size := Nat.le_trans hB E1.out.size
          have hlj : (xs.take j).length = j := by rw [List.length_take]; omega
          go_wp2_with (first
            | (at_builtin; refine wpList_append_M (w.alloc (.cells #[] 3)) rfl (.tmp 34) (.tmp 37) 67 rfl 3 (.int .i64 0) 1 8 Try.underlying67 (by kernel_rfl) rfl (by omega) B (.slice (some ⟨w.heap.size, 0, none⟩) 0 0) 0 [] G1.out (some ⟨g0, 0, none⟩) c j _ (by rw [List.length_map]; exact hlj) T1.out hB1 (by unfold maxLen; omega) (by omega) rfl rfl ?_
               intro A3 c3 w3 G3 hGr3
               rw [Nat.zero_add] at G3 hGr3
               have E3 := Lib.hid (show Below w.heap.size w w3 from E1.out.trans (hGr3.below E1.out.size (fun gg hg => by simp [Value.ownBlock] at hg; omega)))
               have O3 := Lib.hid (show ∀ gg, (Value.slice A3 j c3).ownBlock = some gg → w.heap.size ≤ gg from fun gg hg => by
                 rcases hGr3.own with h | ⟨g2, h, h2⟩
                 · rw [h] at hg; simp [Value.ownBlock] at hg; omega
                 · rw [h] at hg; cases hg; exact Nat.le_trans E1.out.size h2)
               have G3h := Lib.hid (show Gre w3 B 3 1 (.slice A3 j c3) j ((xs.take j).map (D.num .i64)) from G3)
               have hs3 := E3.out.size
               have EA := Lib.hid (show Below w3.heap.size w3 (w3.alloc (.cells #[.int .i64 n] 3)) from (Below.refl _ _).alloc (Nat.le_refl _) _)
               have GA := Lib.hid (G3h.out.below EA.out)
               have TA := Lib.hid (show Sl (w3.alloc (.cells #[.int .i64 n] 3)) (fun b => b < (w3.alloc (.cells #[.int .i64 n] 3)).heap.size ∧ (Value.slice A3 j c3).ownBlock ≠ some b) 1 (some ⟨w3.heap.size, 0, none⟩) 1 ([n].map (D.num .i64)) from
                 (rowI_osl (B := w3.heap.size) (Row.new' w3 3 (rowI [n]) rfl) (Nat.le_refl _) (by simp [maxLen]) (by intro x hx; simp at hx; rw [hx]; exact HW.out)).sl.keep fun b hb => ⟨⟨hb.2, fun e => by have := (G3h.out.own b e).2; have := hb.1; omega⟩, rfl⟩)
               have hBA : B ≤ (w3.alloc (.cells #[.int .i64 n] 3)).heap.size := Nat.le_trans hB (Nat.le_trans hs3 EA.out.size)
               clear G3 hGr3)
            | (at_builtin; refine wpList_append_M (w3.alloc (.cells #[.int .i64 n] 3)) rfl (.tmp 39) (.tmp 41) 67 rfl 3 (.int .i64 0) 1 8 Try.underlying67 (by kernel_rfl) rfl (by omega) B (.slice A3 j c3) j _ GA.out (some ⟨w3.heap.size, 0, none⟩) 1 1 _ rfl TA.out hBA (by unfold maxLen; omega) (by omega) rfl rfl ?_
               intro A4 c4 w4 G4 hGr4
               have E4 := Lib.hid (show Below w.heap.size w w4 from (E3.out.trans (EA.out.mono hs3)).trans (hGr4.below (Nat.le_trans hs3 EA.out.size) O3.out))
               have O4 := Lib.hid (show ∀ gg, (Value.slice A4 (j + 1) c4).ownBlock = some gg → w.heap.size ≤ gg from fun gg hg => by
                 rcases hGr4.own with h | ⟨g2, h, h2⟩
                 · rw [h] at hg; exact O3.out gg hg
                 · rw [h] at hg; cases hg; exact Nat.le_trans hs3 (Nat.le_trans EA.out.size h2))
               have G4h := Lib.hid G4
               have hs4 := E4.out.size
               have hBD : B ≤ w4.heap.size := Nat.le_trans hB hs4
               have TD := Lib.hid (show Sl w4 (fun b => b < w4.heap.size ∧ (Value.slice A4 (j + 1) c4).ownBlock ≠ some b) 1 (some ⟨g0, j, none⟩) (c - j) ((xs.drop j).map (D.num .i64)) from by
                 rw [List.drop_of_length_le (by omega)]; exact Sl.nil (by omega))
               clear G4 hGr4)
            | (at_builtin; refine wpList_append_M w4 rfl (.tmp 43) (.tmp 46) 67 rfl 3 (.int .i64 0) 1 8 Try.underlying67 (by kernel_rfl) rfl (by omega) B (.slice A4 (j + 1) c4) (j + 1) _ G4h.out (some ⟨g0, j, none⟩) (c - j) (xs.length - j) _ (by simp) TD.out hBD (by unfold maxLen; omega) (by omega) rfl rfl ?_
               intro A5 c5 w5 G5 hGr5
               have E5 := Lib.hid (show Below w.heap.size w w5 from E4.out.trans (hGr5.below hs4 O4.out))
               have G5h := Lib.hid G5
               clear G5 hGr5))
          go_ret
          have hlen : j + 1 + (xs.length - j) = (ins n xs).length := by rw [HV.out, List.length_append, List.length_cons, List.length_take, List.length_drop]; omega
          refine ⟨A5, c5, by rw [← hlen]; rfl, ?_, E5.out⟩
          have h := G5h.out
          rw [← hlen, HV.out]
          simpa [List.map_append] using h


theorem bulkV_snoc {α : Type} (f : α → Nat) (x : α) : ∀ l : List α, bulkL f (l ++ [x]) = bulkL f l + f x + 1
  | [] => by simp [bulkL]; omega
  | y :: r => by simp only [List.cons_append, bulkL, bulkV_snoc f x r]; omega
theorem bulkV_next {α : Type} (f : α → Nat) {l : List α} {j : Nat} (h : j < l.length) : bulkL f (l.take (j + 1)) = bulkL f (l.take j) + f l[j] + 1 ∧ bulkL f (l.take (j + 1)) ≤ bulkL f l := by
  refine ⟨by rw [take_snoc' l j h, bulkV_snoc], ?_⟩
  have := bulkL_take_le f l (j + 1) (by omega)
  omega
set_option maxRecDepth 20000 in
theorem specVars (B k : Nat) : ∀ (t : GTy) (A1 : Option Addr) (c1 : Nat) (xs : List Int) (Vl : Option Addr) (vc : Nat) (w : World), t.bulk < k → xs.length + 1 + t.bulk ≤ 1048577 → B ≤ w.heap.size → Gre w B 3 1 (.slice Vl xs.length vc) xs.length (xs.map (D.num .i64)) → GTy.At w (Lt w.heap.size) A1 c1 t →
    Calls Try.prog 126 #[.agg #[.int .i64 t.op, .int .i64 t.n, .string t.s, .slice A1 t.kids.length c1], .slice Vl xs.length vc] w (VTo B (t.vs xs) w) := by
  induction k with
  | zero => intros; omega
  | succ k ih =>
    intro t A1 c1 xs Vl vc w hk h1 hB hg hat
    have hbe := t.bulk_eq
    have hlen : t.kids.length ≤ 1048576 := by have := bulkL_len GTy.bulk t.kids; omega
    have HKB := Lib.hid (fun (j : Nat) (h : j < t.kids.length) => bulkV_next GTy.bulk h)
    have HH := Lib.hid (fun (j : Nat) (h : j < t.kids.length) (A1 : Option Addr) (c1 : Nat) => ih t.kids[j] A1 c1)
    have HBE := Lib.hid hbe
    have HKK := Lib.hid hk
    have H1 := Lib.hid h1
    have T0 := Lib.hid hat
    obtain ⟨w0, e0⟩ : ∃ w0, w0 = w.alloc (.cells #[.int .i64 t.op, .int .i64 t.n, .string t.s, .slice A1 t.kids.length c1] 59) := ⟨_, rfl⟩
    have E0 := Lib.hid (show Below w.heap.size w w0 by rw [e0]; exact (Below.refl _ _).alloc (Nat.le_refl _) _)
    have Ra0 := Lib.hid (show Row w0 w.heap.size 59 #[.int .i64 t.op, .int .i64 t.n, .string t.s, .slice A1 t.kids.length c1] by rw [e0]; exact Row.new' _ _ _ rfl)
    have G0 := Lib.hid (hg.below E0.out)
    have S0 : w0.heap.size = w.heap.size + 1 := by rw [e0]; simp
    have hca0 := fun i => Ra0.out.cell i
    have HVE := Lib.hid (t.vs_eq xs)
    have hwn : Hid ((Lit.int .i64 t.n).wf = true) := Lib.hid hat.2.1
    clear ih hbe hk h1 hat hg
    cases o2 : (t.op == 2)
    · have HM := Lib.hid (show t.vs xs = GTy.vsL t.kids xs by rw [HVE.out, if_neg (by simpa using o2)])
      have HYL := Lib.hid (show xs.length ≤ xs.length + 1 by omega)
      go_enter Try.func126, Try.ntmps126
      go_wp2_with fail
      rw [← e0]
      clear e0 hca0
      go_loopw [1, 5] (fun v i wr => ∃ (j : Nat) (zs : List Int) (A : Option Addr) (c : Nat), j ≤ t.kids.length ∧ i = .int .i64 j ∧ v = .slice A zs.length c ∧ Hid (zs = GTy.vsL (t.kids.take j) xs) ∧ Hid (Gre wr B 3 1 (.slice A zs.length c) zs.length (zs.map (D.num .i64))) ∧ Hid (Row wr w.heap.size 59 #[.int .i64 t.op, .int .i64 t.n, .string t.s, .slice A1 t.kids.length c1]) ∧ Hid (zs.length ≤ xs.length + bulkL GTy.bulk (t.kids.take j)) ∧ Below w.heap.size w wr) (fun _ i _ => t.kids.length - (intOf i).toNat)
      case atStart => exact ⟨0, _, _, _, by omega, by go_num, rfl, Lib.hid (by simp [GTy.vsL]), G0, Ra0, Lib.hid (by simp [bulkL]), E0.out⟩
      case round =>
        obtain ⟨j, zs, A, c, hj, rfl, rfl, HZ, HG, HRa, HZL, hbl⟩ := hrel
        have hsz := hbl.size
        have hca := fun i => HRa.out.cell i
        by_cases hlt : j < t.kids.length
        · obtain ⟨b, off, A2, c2, eA, hSb, g0, g1, g2, g3, hatk⟩ := GTy.elem (T0.out.below hbl (Nat.le_refl _)).2.2.2 j hlt
          have HA := Lib.hid (hatk.below (Below.refl _ _) hsz)
          have HJ := Lib.hid (HKB.out j hlt)
          subst eA
          clear hatk
          go_wp2_with fail
          refine (HH.out j hlt A2 c2 zs A c _ (by have := HKK.out; have := HBE.out; have := HJ.out; omega) (by have := H1.out; have := HBE.out; have := HJ.out; have := HZL.out; have := HYL.out; omega) (by omega) HG.out HA.out).mono ?_
          rintro e w1 ⟨A3, c3, rfl, hG1, hb1⟩
          have HG1 := Lib.hid hG1
          have B1 := Lib.hid (hbl.trans (hb1.mono hsz))
          have R1 := Lib.hid (HRa.out.below hb1 HRa.out.lt)
          clear hG1 hb1
          go_wp2_with fail
          go_roundw
          case rel => exact ⟨j + 1, _, A3, c3, by omega, by go_num, rfl, Lib.hid (by rw [GTy.vsL_take hlt, ← HZ.out]), HG1, R1, Lib.hid (by have h1 := GTy.vs_len (t.kids[j]) zs; have h2 := HJ.out; have h3 := HZL.out; omega), B1.out⟩
          case measure => simp [intOf]; omega
        · have HY := Lib.hid (show zs = t.vs xs from by rw [HM.out, HZ.out, show j = t.kids.length by omega, List.take_length])
          go_wp2_with fail
          go_ret
          rw [← HY.out]
          exact ⟨A, c, rfl, HG.out, hbl⟩
    · have HM := Lib.hid (show t.vs xs = GTy.vsL t.kids (ins t.n xs) by rw [HVE.out, if_pos (by simpa using o2)])
      have HYL := Lib.hid (ins_len t.n xs)
      have hxl : xs.length ≤ 4194304 := by have := H1.out; omega
      obtain ⟨ys, hys⟩ : ∃ ys, ys = ins t.n xs := ⟨_, rfl⟩
      rw [← hys] at HM HYL
      go_enter Try.func126, Try.ntmps126
      go_wp2_with fail
      rw [← e0]
      clear e0
      refine (specInsert B xs Vl vc t.n w0 hwn.out hxl (by omega) G0.out).mono ?_
      rintro e w1 ⟨A3, c3, rfl, hG1, hb1⟩
      rw [← hys] at hG1
      rw [← hys]
      have G1 := Lib.hid hG1
      have E1 := Lib.hid (E0.out.trans (hb1.mono (by omega)))
      have Ra1 := Lib.hid (Ra0.out.below hb1 Ra0.out.lt)
      have hca1 := fun i => Ra1.out.cell i
      clear hG1 hb1 hca0 hys
      go_wp2_with fail
      clear hca1
      go_loopw [1, 5] (fun v i wr => ∃ (j : Nat) (zs : List Int) (A : Option Addr) (c : Nat), j ≤ t.kids.length ∧ i = .int .i64 j ∧ v = .slice A zs.length c ∧ Hid (zs = GTy.vsL (t.kids.take j) ys) ∧ Hid (Gre wr B 3 1 (.slice A zs.length c) zs.length (zs.map (D.num .i64))) ∧ Hid (Row wr w.heap.size 59 #[.int .i64 t.op, .int .i64 t.n, .string t.s, .slice A1 t.kids.length c1]) ∧ Hid (zs.length ≤ ys.length + bulkL GTy.bulk (t.kids.take j)) ∧ Below w.heap.size w wr) (fun _ i _ => t.kids.length - (intOf i).toNat)
      case atStart => exact ⟨0, _, _, _, by omega, by go_num, rfl, Lib.hid (by simp [GTy.vsL]), G1, Ra1, Lib.hid (by simp [bulkL]), E1.out⟩
      case round =>
        obtain ⟨j, zs, A, c, hj, rfl, rfl, HZ, HG, HRa, HZL, hbl⟩ := hrel
        have hsz := hbl.size
        have hca := fun i => HRa.out.cell i
        by_cases hlt : j < t.kids.length
        · obtain ⟨b, off, A2, c2, eA, hSb, g0, g1, g2, g3, hatk⟩ := GTy.elem (T0.out.below hbl (Nat.le_refl _)).2.2.2 j hlt
          have HA := Lib.hid (hatk.below (Below.refl _ _) hsz)
          have HJ := Lib.hid (HKB.out j hlt)
          subst eA
          clear hatk
          go_wp2_with fail
          refine (HH.out j hlt A2 c2 zs A c _ (by have := HKK.out; have := HBE.out; have := HJ.out; omega) (by have := H1.out; have := HBE.out; have := HJ.out; have := HZL.out; have := HYL.out; omega) (by omega) HG.out HA.out).mono ?_
          rintro e w1 ⟨A3, c3, rfl, hG1, hb1⟩
          have HG1 := Lib.hid hG1
          have B1 := Lib.hid (hbl.trans (hb1.mono hsz))
          have R1 := Lib.hid (HRa.out.below hb1 HRa.out.lt)
          clear hG1 hb1
          go_wp2_with fail
          go_roundw
          case rel => exact ⟨j + 1, _, A3, c3, by omega, by go_num, rfl, Lib.hid (by rw [GTy.vsL_take hlt, ← HZ.out]), HG1, R1, Lib.hid (by have h1 := GTy.vs_len (t.kids[j]) zs; have h2 := HJ.out; have h3 := HZL.out; omega), B1.out⟩
          case measure => simp [intOf]; omega
        · have HY := Lib.hid (show zs = t.vs xs from by rw [HM.out, HZ.out, show j = t.kids.length by omega, List.take_length])
          go_wp2_with fail
          go_ret
          rw [← HY.out]
          exact ⟨A, c, rfl, HG.out, hbl⟩

/-- a list of one's own that a call lets grow -/
def VGr (B : Nat) (xs : List Int) (v : Value) (w : World) (e : Ending) (w' : World) : Prop := ∃ A c, e = .returned (.slice A xs.length c) ∧ Gre w' B 3 1 (.slice A xs.length c) xs.length (xs.map (D.num .i64)) ∧ Gr w w' v (.slice A xs.length c)
theorem any_flipV (l : List Int) (n : Int) : (l.any fun x => n == x) = l.any fun x => x == n := by
  congr 1; funext x; rw [Bool.eq_iff_iff, beq_iff_eq, beq_iff_eq]; exact eq_comm
theorem implIndexI (l : List Int) (A : Option Addr) (c : Nat) (n : Int) (w : World) (hs : Sl w (Lt w.heap.size) 1 A c (l.map (D.num .i64))) :
    Calls Try.prog 204 #[.slice A l.length c, .int .i64 n] w fun e w' => e = .returned (.int .i64 (idxI (fun x => n == x) l)) ∧ Below w.heap.size w w' := by
  have hlen : l.length ≤ 9223372036854775807 := by simpa using hs.len
  have S0 := Lib.hid hs
  clear hs
  go_enter Try.func204, Try.ntmps204
  go_wp2_with fail
  go_loopw [8] (fun i wr => ∃ (j : Nat), j ≤ l.length ∧ i = .int .i64 j ∧ Hid (noneTo (fun x : Int => n == x) l j) ∧ Below w.heap.size w wr) (fun i _ => l.length - (intOf i).toNat)
  case atStart => exact ⟨0, by omega, by go_num, Lib.hid (noneTo_zero _ _), Below.refl _ _⟩
  case round =>
    obtain ⟨j, hj, rfl, HN, hbl⟩ := hrel
    by_cases hlt : j < l.length
    · obtain ⟨b, off, rfl, hSb, g0, _⟩ := int_elem (S0.out.below hbl (Nat.le_refl _)) j hlt
      cases he : (n == l[j]) with
      | true =>
        have HV := Lib.hid (idxI_at HN.out hlt he)
        go_wp2_with fail
        go_ret
        exact ⟨ret_int HV.out.symm, hbl⟩
      | false =>
        have HN2 := Lib.hid (noneTo_succ HN.out hlt he)
        go_wp2_with fail
        go_roundw
        case rel => exact ⟨j + 1, by omega, by go_num, HN2, hbl⟩
        case measure => simp [intOf]; omega
    · have HV := Lib.hid (idxI_none (by have := HN.out; rwa [show j = l.length by omega] at this))
      go_wp2_with fail
      go_ret
      exact ⟨ret_int HV.out.symm, hbl⟩
theorem implIntHas (l : List Int) (A : Option Addr) (c : Nat) (n : Int) (w : World) (hs : Sl w (Lt w.heap.size) 1 A c (l.map (D.num .i64))) :
    Calls Try.prog 203 #[.slice A l.length c, .int .i64 n] w fun e w' => e = .returned (.bool (l.any fun x => x == n)) ∧ Below w.heap.size w w' := by
  have HS := Lib.hid hs
  clear hs
  have HID := Lib.hid (show (decide ((idxI (fun x : Int => n == x) l) ≥ 0)) = l.any (fun x => x == n) by
    rw [← any_flipV]
    cases ha : l.any fun x => n == x with
    | true => have := idxI_any_true ha; simpa using this
    | false => rw [idxI_any_false ha]; rfl)
  go_enter Try.func203, Try.ntmps203
  go_wp2_with fail
  refine (implIndexI l A c n _ HS.out).mono ?_
  rintro e w1 ⟨rfl, hb1⟩
  go_wp2_with fail
  go_ret
  exact ⟨ret_bool HID.out, hb1⟩
set_option maxRecDepth 20000 in
theorem implVars (B k : Nat) : ∀ (t : GTy) (A1 : Option Addr) (c1 : Nat) (xs : List Int) (Vl : Option Addr) (vc : Nat) (w : World), t.bulk < k → xs.length + 1 + t.bulk ≤ 1048577 → B ≤ w.heap.size → Gre w B 3 1 (.slice Vl xs.length vc) xs.length (xs.map (D.num .i64)) → GTy.At w (Lt B) A1 c1 t →
    Calls Try.prog 120 #[.agg #[.int .i64 t.op, .int .i64 t.n, .string t.s, .slice A1 t.kids.length c1], .slice Vl xs.length vc] w (VGr B (t.vi xs) (.slice Vl xs.length vc) w) := by
  induction k with
  | zero => intros; omega
  | succ k ih =>
    intro t A1 c1 xs Vl vc w hk h1 hB hg hat
    have hbe := t.bulk_eq
    have hlen : t.kids.length ≤ 1048576 := by have := bulkL_len GTy.bulk t.kids; omega
    have HKB := Lib.hid (fun (j : Nat) (h : j < t.kids.length) => bulkV_next GTy.bulk h)
    have HH := Lib.hid (fun (j : Nat) (h : j < t.kids.length) (A1 : Option Addr) (c1 : Nat) => ih t.kids[j] A1 c1)
    have HBE := Lib.hid hbe
    have HKK := Lib.hid hk
    have H1 := Lib.hid h1
    have T0 := Lib.hid hat
    obtain ⟨w0, e0⟩ : ∃ w0, w0 = w.alloc (.cells #[.int .i64 t.op, .int .i64 t.n, .string t.s, .slice A1 t.kids.length c1] 59) := ⟨_, rfl⟩
    have E0 := Lib.hid (show Below w.heap.size w w0 by rw [e0]; exact (Below.refl _ _).alloc (Nat.le_refl _) _)
    have Ra0 := Lib.hid (show Row w0 w.heap.size 59 #[.int .i64 t.op, .int .i64 t.n, .string t.s, .slice A1 t.kids.length c1] by rw [e0]; exact Row.new' _ _ _ rfl)
    have G0 := Lib.hid (hg.below E0.out)
    have GF := Lib.hid (show Gr w w0 (.slice Vl xs.length vc) (.slice Vl xs.length vc) from Gr.of_below E0.out)
    have hne0 : (Value.slice Vl xs.length vc).ownBlock ≠ some w.heap.size := fun e => by have := (hg.own _ e).2; omega
    have hBo := Lib.hid (fun g h => (hg.own g h).1)
    have S0 : w0.heap.size = w.heap.size + 1 := by rw [e0]; simp
    have hca0 := fun i => Ra0.out.cell i
    have HVE := Lib.hid (t.vi_eq xs)
    have hwn : Hid ((Lit.int .i64 t.n).wf = true) := Lib.hid hat.2.1
    have hxl : xs.length ≤ 1048577 := by omega
    clear ih hbe hk h1 hat hg
    cases o2 : (t.op == 2)
    · have HM := Lib.hid (show t.vi xs = GTy.viL t.kids xs by rw [HVE.out, if_neg (fun h => by simp at o2; exact o2 h.1)])
      have HYL := Lib.hid (show xs.length ≤ xs.length + 1 by omega)
      go_enter Try.func120, Try.ntmps120
      go_wp2_with fail
      rw [← e0]
      clear e0 hca0
      go_loopw [1, 25] (fun v i wr => ∃ (j : Nat) (zs : List Int) (A : Option Addr) (c : Nat), j ≤ t.kids.length ∧ i = .int .i64 j ∧ v = .slice A zs.length c ∧ Hid (zs = GTy.viL (t.kids.take j) xs) ∧ Hid (Gre wr B 3 1 (.slice A zs.length c) zs.length (zs.map (D.num .i64))) ∧ Hid (Gr w wr (.slice Vl xs.length vc) (.slice A zs.length c)) ∧ (Value.slice A zs.length c).ownBlock ≠ some w.heap.size ∧ Hid (Row wr w.heap.size 59 #[.int .i64 t.op, .int .i64 t.n, .string t.s, .slice A1 t.kids.length c1]) ∧ Hid (zs.length ≤ xs.length + bulkL GTy.bulk (t.kids.take j))) (fun _ i _ => t.kids.length - (intOf i).toNat)
      case atStart => exact ⟨0, _, _, _, by omega, by go_num, rfl, Lib.hid (by simp [GTy.viL]), G0, GF, hne0, Ra0, Lib.hid (by simp [bulkL])⟩
      case round =>
        obtain ⟨j, zs, A, c, hj, rfl, rfl, HZ, HG, HGr, hne, HRa, HZL⟩ := hrel
        have HB := Lib.hid (HGr.out.below hB hBo.out)
        have hca := fun i => HRa.out.cell i
        have hsz := HGr.out.size
        have hra := HRa.out.lt
        by_cases hlt : j < t.kids.length
        · obtain ⟨b, off, A2, c2, eA, hSb, g0, g1, g2, g3, hatk⟩ := GTy.elem (T0.out.below HB.out (Nat.le_refl _)).2.2.2 j hlt
          have HA := Lib.hid hatk
          have HJ := Lib.hid (HKB.out j hlt)
          subst eA
          clear hatk
          obtain ⟨wb, eb⟩ : ∃ wb, wb = wr.alloc (.cells #[.int .i64 (t.kids[j]).op, .int .i64 (t.kids[j]).n, .string (t.kids[j]).s, .slice A2 (t.kids[j]).kids.length c2] 59) := ⟨_, rfl⟩
          have EB := Lib.hid (show Below wr.heap.size wr wb by rw [eb]; exact (Below.refl _ _).alloc (Nat.le_refl _) _)
          have RB := Lib.hid (show Row wb wr.heap.size 59 #[.int .i64 (t.kids[j]).op, .int .i64 (t.kids[j]).n, .string (t.kids[j]).s, .slice A2 (t.kids[j]).kids.length c2] by rw [eb]; exact Row.new' _ _ _ rfl)
          have GB := Lib.hid (HG.out.below EB.out)
          have AB := Lib.hid (HA.out.below (EB.out.mono (by omega)) (Nat.le_refl _))
          have hsb := EB.out.size
          go_wp2_with fail
          rw [← eb]
          clear eb
          have hcb := fun i => RB.out.cell i
          try go_wp2_with fail
          refine (HH.out j hlt A2 c2 zs A c _ (by have := HKK.out; have := HBE.out; have := HJ.out; omega) (by have := H1.out; have := HBE.out; have := HJ.out; have := HZL.out; have := HYL.out; omega) (by omega) GB.out AB.out).mono ?_
          rintro e w1 ⟨A3, c3, rfl, hG1, hGr1⟩
          have HG1 := Lib.hid hG1
          have HGr1 := Lib.hid ((Gr.of_below (v := .slice A zs.length c) EB.out).trans hGr1)
          clear hG1 hGr1 hcb
          go_wp2_with fail
          go_roundw
          case rel => exact ⟨j + 1, _, A3, c3, by omega, by go_num, rfl, Lib.hid (by rw [GTy.viL_take hlt, ← HZ.out]), HG1, Lib.hid (HGr.out.trans HGr1.out), HGr1.out.ne hne hra, Lib.hid (HGr1.out.row HRa.out hne), Lib.hid (by have h1 := GTy.vi_len (t.kids[j]) zs; have h2 := HJ.out; have h3 := HZL.out; omega)⟩
          case measure => simp [intOf]; omega
        · have HY := Lib.hid (show zs = t.vi xs from by rw [HM.out, HZ.out, show j = t.kids.length by omega, List.take_length])
          go_wp2_with fail
          go_ret
          rw [← HY.out]
          exact ⟨A, c, rfl, HG.out, HGr.out⟩
    have ho2 : t.op = 2 := by simpa using o2
    cases ha : xs.any (fun x => x == t.n)
    · have HM := Lib.hid (show t.vi xs = GTy.viL t.kids (xs ++ [t.n]) by rw [HVE.out, if_pos ⟨ho2, ha⟩])
      have HYL := Lib.hid (show (xs ++ [t.n]).length ≤ xs.length + 1 by simp)
      clear ho2
      have HSL := Lib.hid (show Sl w0 (Lt w0.heap.size) 1 Vl vc (xs.map (D.num .i64)) from by obtain ⟨A, c, e, h⟩ := G0.out.sl; cases e; exact h)
      go_enter Try.func120, Try.ntmps120
      go_wp2_with fail
      rw [← e0]
      clear e0
      refine (implIntHas xs Vl vc t.n w0 HSL.out).mono ?_
      rintro e w1 ⟨rfl, hb1⟩
      rw [ha]
      clear ha HSL hca0
      have Ra1 := Lib.hid (Ra0.out.below hb1 Ra0.out.lt)
      have G1 := Lib.hid (G0.out.below hb1)
      have GF1 := Lib.hid (GF.out.trans (Gr.of_below hb1))
      have S1 := hb1.size
      clear hb1
      have hca1 := fun i => Ra1.out.cell i
      have hra1 := Ra1.out.lt
      have EA := Lib.hid (show Below w1.heap.size w1 (w1.alloc (.cells #[.int .i64 t.n] 3)) from (Below.refl _ _).alloc (Nat.le_refl _) _)
      have GA := Lib.hid (G1.out.below EA.out)
      have RA := Lib.hid (Ra1.out.below EA.out hra1)
      have TA := Lib.hid (show Sl (w1.alloc (.cells #[.int .i64 t.n] 3)) (fun b => b < (w1.alloc (.cells #[.int .i64 t.n] 3)).heap.size ∧ (Value.slice Vl xs.length vc).ownBlock ≠ some b) 1 (some ⟨w1.heap.size, 0, none⟩) 1 ([t.n].map (D.num .i64)) from
        (rowI_osl (B := w1.heap.size) (Row.new' w1 3 (rowI [t.n]) rfl) (Nat.le_refl _) (by simp [maxLen]) (by intro x hx; simp at hx; rw [hx]; exact hwn.out)).sl.keep fun b hb => ⟨⟨hb.2, fun e => by have := (G1.out.own b e).2; have := hb.1; omega⟩, rfl⟩)
      have hBA : B ≤ (w1.alloc (.cells #[.int .i64 t.n] 3)).heap.size := Nat.le_trans (by omega) EA.out.size
      have hsA := EA.out.size
      go_wp2_with (first | (at_builtin; refine wpList_append_M (w1.alloc (.cells #[.int .i64 t.n] 3)) rfl (.tmp 17) (.tmp 20) 67 rfl 3 (.int .i64 0) 1 8 Try.underlying67 (by kernel_rfl) rfl (by omega) B (.slice Vl xs.length vc) xs.length _ GA.out (some ⟨w1.heap.size, 0, none⟩) 1 1 _ rfl TA.out hBA (by unfold maxLen; omega) (by omega) rfl rfl ?_; intro A4 c4 w2 G4 hGr4; have R4 := Lib.hid (hGr4.row RA.out hne0); have hca4 := fun i => R4.out.cell i; have G4h := Lib.hid G4; have GR4 := Lib.hid ((GF1.out.trans (Gr.of_below EA.out)).trans hGr4); have NE4 := hGr4.ne hne0 (Nat.lt_of_lt_of_le hra1 hsA); clear G4 hGr4))
      obtain ⟨ys, hys⟩ : ∃ ys, ys = xs ++ [t.n] := ⟨_, rfl⟩
      have e2 : xs.length + 1 = ys.length := by rw [hys]; simp
      rw [← hys] at HM HYL
      have G5 := Lib.hid (show Gre w2 B 3 1 (.slice A4 ys.length c4) ys.length (ys.map (D.num .i64)) from by rw [← e2, hys, List.map_append]; exact G4h.out)
      rw [e2] at GR4 NE4 ⊢
      clear e2 hys hca4 G4h hca1
      skip
      go_loopw [1, 25] (fun v i wr => ∃ (j : Nat) (zs : List Int) (A : Option Addr) (c : Nat), j ≤ t.kids.length ∧ i = .int .i64 j ∧ v = .slice A zs.length c ∧ Hid (zs = GTy.viL (t.kids.take j) ys) ∧ Hid (Gre wr B 3 1 (.slice A zs.length c) zs.length (zs.map (D.num .i64))) ∧ Hid (Gr w wr (.slice Vl xs.length vc) (.slice A zs.length c)) ∧ (Value.slice A zs.length c).ownBlock ≠ some w.heap.size ∧ Hid (Row wr w.heap.size 59 #[.int .i64 t.op, .int .i64 t.n, .string t.s, .slice A1 t.kids.length c1]) ∧ Hid (zs.length ≤ ys.length + bulkL GTy.bulk (t.kids.take j))) (fun _ i _ => t.kids.length - (intOf i).toNat)
      case atStart => exact ⟨0, _, _, _, by omega, by go_num, rfl, Lib.hid (by simp [GTy.viL]), G5, GR4, NE4, R4, Lib.hid (by simp [bulkL])⟩
      case round =>
        obtain ⟨j, zs, A, c, hj, rfl, rfl, HZ, HG, HGr, hne, HRa, HZL⟩ := hrel
        have HB := Lib.hid (HGr.out.below hB hBo.out)
        have hca := fun i => HRa.out.cell i
        have hsz := HGr.out.size
        have hra := HRa.out.lt
        by_cases hlt : j < t.kids.length
        · obtain ⟨b, off, A2, c2, eA, hSb, g0, g1, g2, g3, hatk⟩ := GTy.elem (T0.out.below HB.out (Nat.le_refl _)).2.2.2 j hlt
          have HA := Lib.hid hatk
          have HJ := Lib.hid (HKB.out j hlt)
          subst eA
          clear hatk
          obtain ⟨wb, eb⟩ : ∃ wb, wb = wr.alloc (.cells #[.int .i64 (t.kids[j]).op, .int .i64 (t.kids[j]).n, .string (t.kids[j]).s, .slice A2 (t.kids[j]).kids.length c2] 59) := ⟨_, rfl⟩
          have EB := Lib.hid (show Below wr.heap.size wr wb by rw [eb]; exact (Below.refl _ _).alloc (Nat.le_refl _) _)
          have RB := Lib.hid (show Row wb wr.heap.size 59 #[.int .i64 (t.kids[j]).op, .int .i64 (t.kids[j]).n, .string (t.kids[j]).s, .slice A2 (t.kids[j]).kids.length c2] by rw [eb]; exact Row.new' _ _ _ rfl)
          have GB := Lib.hid (HG.out.below EB.out)
          have AB := Lib.hid (HA.out.below (EB.out.mono (by omega)) (Nat.le_refl _))
          have hsb := EB.out.size
          go_wp2_with fail
          rw [← eb]
          clear eb
          have hcb := fun i => RB.out.cell i
          try go_wp2_with fail
          refine (HH.out j hlt A2 c2 zs A c _ (by have := HKK.out; have := HBE.out; have := HJ.out; omega) (by have := H1.out; have := HBE.out; have := HJ.out; have := HZL.out; have := HYL.out; omega) (by omega) GB.out AB.out).mono ?_
          rintro e w1 ⟨A3, c3, rfl, hG1, hGr1⟩
          have HG1 := Lib.hid hG1
          have HGr1 := Lib.hid ((Gr.of_below (v := .slice A zs.length c) EB.out).trans hGr1)
          clear hG1 hGr1 hcb
          go_wp2_with fail
          go_roundw
          case rel => exact ⟨j + 1, _, A3, c3, by omega, by go_num, rfl, Lib.hid (by rw [GTy.viL_take hlt, ← HZ.out]), HG1, Lib.hid (HGr.out.trans HGr1.out), HGr1.out.ne hne hra, Lib.hid (HGr1.out.row HRa.out hne), Lib.hid (by have h1 := GTy.vi_len (t.kids[j]) zs; have h2 := HJ.out; have h3 := HZL.out; omega)⟩
          case measure => simp [intOf]; omega
        · have HY := Lib.hid (show zs = t.vi xs from by rw [HM.out, HZ.out, show j = t.kids.length by omega, List.take_length])
          go_wp2_with fail
          go_ret
          rw [← HY.out]
          exact ⟨A, c, rfl, HG.out, HGr.out⟩
    · have HM := Lib.hid (show t.vi xs = GTy.viL t.kids xs by rw [HVE.out, if_neg (fun h => by rw [ha] at h; cases h.2)])
      have HYL := Lib.hid (show xs.length ≤ xs.length + 1 by omega)
      clear ho2
      have HSL := Lib.hid (show Sl w0 (Lt w0.heap.size) 1 Vl vc (xs.map (D.num .i64)) from by obtain ⟨A, c, e, h⟩ := G0.out.sl; cases e; exact h)
      go_enter Try.func120, Try.ntmps120
      go_wp2_with fail
      rw [← e0]
      clear e0
      refine (implIntHas xs Vl vc t.n w0 HSL.out).mono ?_
      rintro e w1 ⟨rfl, hb1⟩
      rw [ha]
      clear ha HSL hca0
      have Ra1 := Lib.hid (Ra0.out.below hb1 Ra0.out.lt)
      have G1 := Lib.hid (G0.out.below hb1)
      have GF1 := Lib.hid (GF.out.trans (Gr.of_below hb1))
      have S1 := hb1.size
      clear hb1
      have hca1 := fun i => Ra1.out.cell i
      go_wp2_with fail
      clear hca1
      go_loopw [1, 25] (fun v i wr => ∃ (j : Nat) (zs : List Int) (A : Option Addr) (c : Nat), j ≤ t.kids.length ∧ i = .int .i64 j ∧ v = .slice A zs.length c ∧ Hid (zs = GTy.viL (t.kids.take j) xs) ∧ Hid (Gre wr B 3 1 (.slice A zs.length c) zs.length (zs.map (D.num .i64))) ∧ Hid (Gr w wr (.slice Vl xs.length vc) (.slice A zs.length c)) ∧ (Value.slice A zs.length c).ownBlock ≠ some w.heap.size ∧ Hid (Row wr w.heap.size 59 #[.int .i64 t.op, .int .i64 t.n, .string t.s, .slice A1 t.kids.length c1]) ∧ Hid (zs.length ≤ xs.length + bulkL GTy.bulk (t.kids.take j))) (fun _ i _ => t.kids.length - (intOf i).toNat)
      case atStart => exact ⟨0, _, _, _, by omega, by go_num, rfl, Lib.hid (by simp [GTy.viL]), G1, GF1, hne0, Ra1, Lib.hid (by simp [bulkL])⟩
      case round =>
        obtain ⟨j, zs, A, c, hj, rfl, rfl, HZ, HG, HGr, hne, HRa, HZL⟩ := hrel
        have HB := Lib.hid (HGr.out.below hB hBo.out)
        have hca := fun i => HRa.out.cell i
        have hsz := HGr.out.size
        have hra := HRa.out.lt
        by_cases hlt : j < t.kids.length
        · obtain ⟨b, off, A2, c2, eA, hSb, g0, g1, g2, g3, hatk⟩ := GTy.elem (T0.out.below HB.out (Nat.le_refl _)).2.2.2 j hlt
          have HA := Lib.hid hatk
          have HJ := Lib.hid (HKB.out j hlt)
          subst eA
          clear hatk
          obtain ⟨wb, eb⟩ : ∃ wb, wb = wr.alloc (.cells #[.int .i64 (t.kids[j]).op, .int .i64 (t.kids[j]).n, .string (t.kids[j]).s, .slice A2 (t.kids[j]).kids.length c2] 59) := ⟨_, rfl⟩
          have EB := Lib.hid (show Below wr.heap.size wr wb by rw [eb]; exact (Below.refl _ _).alloc (Nat.le_refl _) _)
          have RB := Lib.hid (show Row wb wr.heap.size 59 #[.int .i64 (t.kids[j]).op, .int .i64 (t.kids[j]).n, .string (t.kids[j]).s, .slice A2 (t.kids[j]).kids.length c2] by rw [eb]; exact Row.new' _ _ _ rfl)
          have GB := Lib.hid (HG.out.below EB.out)
          have AB := Lib.hid (HA.out.below (EB.out.mono (by omega)) (Nat.le_refl _))
          have hsb := EB.out.size
          go_wp2_with fail
          rw [← eb]
          clear eb
          have hcb := fun i => RB.out.cell i
          try go_wp2_with fail
          refine (HH.out j hlt A2 c2 zs A c _ (by have := HKK.out; have := HBE.out; have := HJ.out; omega) (by have := H1.out; have := HBE.out; have := HJ.out; have := HZL.out; have := HYL.out; omega) (by omega) GB.out AB.out).mono ?_
          rintro e w1 ⟨A3, c3, rfl, hG1, hGr1⟩
          have HG1 := Lib.hid hG1
          have HGr1 := Lib.hid ((Gr.of_below (v := .slice A zs.length c) EB.out).trans hGr1)
          clear hG1 hGr1 hcb
          go_wp2_with fail
          go_roundw
          case rel => exact ⟨j + 1, _, A3, c3, by omega, by go_num, rfl, Lib.hid (by rw [GTy.viL_take hlt, ← HZ.out]), HG1, Lib.hid (HGr.out.trans HGr1.out), HGr1.out.ne hne hra, Lib.hid (HGr1.out.row HRa.out hne), Lib.hid (by have h1 := GTy.vi_len (t.kids[j]) zs; have h2 := HJ.out; have h3 := HZL.out; omega)⟩
          case measure => simp [intOf]; omega
        · have HY := Lib.hid (show zs = t.vi xs from by rw [HM.out, HZ.out, show j = t.kids.length by omega, List.take_length])
          go_wp2_with fail
          go_ret
          rw [← HY.out]
          exact ⟨A, c, rfl, HG.out, HGr.out⟩
end Go.Proofs.Ytgbcdfeflgnogaa
