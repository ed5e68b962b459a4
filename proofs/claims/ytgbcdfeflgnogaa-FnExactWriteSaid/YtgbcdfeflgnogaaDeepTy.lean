/- How deep types are. Conditions: none but a bound on the result. -/
import Derived.Test.YtgbcdfeflgnogaaRows
import Derived.Test.YtgbcdfeflgnogaaPw
import Derived.Test.YtgbcdfeflgnogaaGTy
import Derived.Lib.Hide
import Derived.Test.YtgbcdfeflgnogaaMax
namespace Go.Proofs.Ytgbcdfeflgnogaa
open Go.RowKit
set_option linter.unusedVariables false
set_option linter.unusedSimpArgs false
set_option maxHeartbeats 400000

mutual
/-- how many nodes are within each other, itself too -/
def GTy.deep : GTy → Nat | .mk _ _ _ kids => GTy.deepL kids + 1
def GTy.deepL : List GTy → Nat | [] => 0 | t :: r => max t.deep (GTy.deepL r)
end

theorem GTy.deep_eq (t : GTy) : t.deep = GTy.deepL t.kids + 1 := by cases t; simp only [GTy.deep, GTy.kids]

theorem GTy.deepL_take (l : List GTy) (i : Nat) (h : i < l.length) : GTy.deepL (l.take (i + 1)) = max (GTy.deepL (l.take i)) (l[i]).deep := by
  induction l generalizing i with
  | nil => simp at h
  | cons t r ih =>
    match i with
    | 0 => simp [GTy.deepL]
    | i + 1 => simp only [List.take_succ_cons, GTy.deepL, List.getElem_cons_succ]; rw [ih i (by simpa using h)]; omega

theorem GTy.deepL_le (l : List GTy) (i : Nat) : GTy.deepL (l.take i) ≤ GTy.deepL l := by
  induction l generalizing i with
  | nil => simp
  | cons t r ih =>
    match i with
    | 0 => simp [GTy.deepL]
    | i + 1 => simp only [List.take_succ_cons, GTy.deepL]; have := ih i; omega

mutual
theorem GTy.deep_bulk : ∀ t : GTy, t.deep ≤ t.bulk + 1
  | .mk op n s kids => by simp only [GTy.deep, GTy.bulk]; have := GTy.deepL_bulk kids; omega
theorem GTy.deepL_bulk : ∀ l : List GTy, GTy.deepL l ≤ GTy.bulks l
  | [] => by simp [GTy.deepL]
  | t :: r => by simp only [GTy.deepL, GTy.bulks]; have := GTy.deep_bulk t; have := GTy.deepL_bulk r; omega
end

theorem implDeepTy (k : Nat) : ∀ (t : GTy) (A1 : Option Addr) (c1 : Nat) (w : World), t.deep ≤ k → t.deep ≤ 4611686018427387904 → GTy.At w (Lt w.heap.size) A1 c1 t →
    Calls Try.prog 191 #[.agg #[.int .i64 t.op, .int .i64 t.n, .string t.s, .slice A1 t.kids.length c1]] w fun e w' => e = .returned (.int .i64 t.deep) ∧ Below w.heap.size w w' := by
  induction k with
  | zero => intro t A1 c1 w h; rw [GTy.deep_eq] at h; omega
  | succ k ih =>
    intro t A1 c1 w hk hb ht
    obtain ⟨-, -, -, hs⟩ := id ht
    have hlen : t.kids.length ≤ 9223372036854775807 := by simpa using hs.len
    go_enter Try.func191, Try.ntmps191
    go_wp2_with fail
    go_loopw [3, 9] (fun n i wr => ∃ j : Nat, j ≤ t.kids.length ∧ i = .int .i64 j ∧ n = .int .i64 (GTy.deepL (t.kids.take j)) ∧ Below w.heap.size w wr) (fun _ i _ => t.kids.length - (intOf i).toNat)
    case atStart => exact ⟨0, by omega, by go_num, by simp [GTy.deepL], (Below.refl _ _).alloc (Nat.le_refl _) _⟩
    case round =>
      obtain ⟨j, hj, rfl, rfl, hbl⟩ := hrel
      have hsz := hbl.size
      by_cases hlt : j < t.kids.length
      · have htr := GTy.elem (hs.below hbl (Nat.le_refl _)) j hlt
        obtain ⟨b, off, A'1, c'1, rfl, hSb, g0, g1, g2, g3, hat⟩ := htr
        have hs1 := GTy.deepL_take t.kids j hlt
        have hs2 := GTy.deepL_le t.kids (j + 1)
        have hs3 := t.deep_eq
        have Hs := Lib.hid hs1
        have hs4 : GTy.deepL (t.kids.take j) + 0 ≤ 4611686018427387904 := by omega
        have hs5 : (t.kids[j]).deep ≤ k := by omega
        have hs6 : (t.kids[j]).deep ≤ 4611686018427387904 := by omega
        clear hs1 hs2 hs3
        go_wp2_with fail
        refine (ih _ _ _ _ hs5 hs6 (hat.below ((Below.refl _ _).alloc (by omega) _) (by simp; omega))).mono ?_
        rintro e w1 ⟨rfl, hb1⟩
        go_wp2_with fail
        all_goals
          go_roundw
          case rel => exact ⟨j + 1, by omega, by go_num, by rw [Hs.out]; congr 1; omega, hbl.trans (((Below.refl _ _).alloc hsz _).trans (hb1.mono (by simp; omega)))⟩
          case measure => simp [intOf]; omega
      · have hjl : j = t.kids.length := by omega
        have Hj := Lib.hid hjl
        clear hjl
        have hbd := t.deep_eq
        have hbd2 := GTy.deepL_le t.kids j
        have hbd3 : GTy.deepL (t.kids.take j) ≤ 4611686018427387904 := by omega
        clear hbd hbd2
        go_wp2_with fail
        go_ret
        exact ⟨ret_int (by rw [t.deep_eq, Hj.out, List.take_length]; simp), hbl⟩

theorem specDeepTy (k : Nat) : ∀ (t : GTy) (A1 : Option Addr) (c1 : Nat) (w : World), t.deep ≤ k → t.deep ≤ 4611686018427387904 → GTy.At w (Lt w.heap.size) A1 c1 t →
    Calls Try.prog 100 #[.agg #[.int .i64 t.op, .int .i64 t.n, .string t.s, .slice A1 t.kids.length c1]] w fun e w' => e = .returned (.int .i64 t.deep) ∧ Below w.heap.size w w' := by
  induction k with
  | zero => intro t A1 c1 w h; rw [GTy.deep_eq] at h; omega
  | succ k ih =>
    intro t A1 c1 w hk hb ht
    obtain ⟨-, -, -, hs⟩ := id ht
    have hlen : t.kids.length ≤ 9223372036854775807 := by simpa using hs.len
    go_enter Try.func100, Try.ntmps100
    go_wp2_with fail
    go_loopw [3, 4] (fun n i wr => ∃ j : Nat, j ≤ t.kids.length ∧ i = .int .i64 j ∧ n = .int .i64 (GTy.deepL (t.kids.take j)) ∧ Below w.heap.size w wr ∧ Row wr w.heap.size 59 #[.int .i64 t.op, .int .i64 t.n, .string t.s, .slice A1 t.kids.length c1]) (fun _ i _ => t.kids.length - (intOf i).toNat)
    case atStart => exact ⟨0, by omega, by go_num, by simp [GTy.deepL], (Below.refl _ _).alloc (Nat.le_refl _) _, Row.new _ _ _⟩
    case round =>
      obtain ⟨j, hj, rfl, rfl, hbl, hrow⟩ := hrel
      have hsz := hbl.size
      have hgl := hrow.lt
      have hc := fun i => hrow.cell i
      by_cases hlt : j < t.kids.length
      · have htr := GTy.elem (hs.below hbl (Nat.le_refl _)) j hlt
        obtain ⟨b, off, A'1, c'1, rfl, hSb, g0, g1, g2, g3, hat⟩ := htr
        have hs1 := GTy.deepL_take t.kids j hlt
        have hs2 := GTy.deepL_le t.kids (j + 1)
        have hs3 := t.deep_eq
        have Hs := Lib.hid hs1
        have hs4 : GTy.deepL (t.kids.take j) + 0 ≤ 4611686018427387904 := by omega
        have hs5 : (t.kids[j]).deep ≤ k := by omega
        have hs6 : (t.kids[j]).deep ≤ 4611686018427387904 := by omega
        clear hs1 hs2 hs3
        go_wp2_with fail
        refine (ih _ _ _ _ hs5 hs6 (hat.below (Below.refl _ _) (by omega))).mono ?_
        rintro e w1 ⟨rfl, hb1⟩
        go_wp2_with fail
        refine (specMax _ _ _).mono ?_
        rintro e w2 ⟨rfl, rfl⟩
        go_wp2_with fail
        all_goals
          go_roundw
          case rel => exact ⟨j + 1, by omega, by go_num, by rw [Hs.out]; congr 1; omega, hbl.trans (hb1.mono hsz), hrow.below hb1 hgl⟩
          case measure => simp [intOf]; omega
      · have hjl : j = t.kids.length := by omega
        have Hj := Lib.hid hjl
        clear hjl
        have hbd := t.deep_eq
        have hbd2 := GTy.deepL_le t.kids j
        have hbd3 : GTy.deepL (t.kids.take j) ≤ 4611686018427387904 := by omega
        clear hbd hbd2
        go_wp2_with fail
        go_ret
        exact ⟨ret_int (by rw [t.deep_eq, Hj.out, List.take_length]; simp), hbl⟩

end Go.Proofs.Ytgbcdfeflgnogaa
