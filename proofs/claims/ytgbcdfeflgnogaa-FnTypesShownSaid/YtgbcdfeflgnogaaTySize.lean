/- TySize. Conditions: none but a bound on the result. -/
import Derived.Test.YtgbcdfeflgnogaaRows
import Derived.Test.YtgbcdfeflgnogaaPw
import Derived.Test.YtgbcdfeflgnogaaGTy
import Derived.Lib.Hide
namespace Go.Proofs.Ytgbcdfeflgnogaa
open Go.RowKit
set_option linter.unusedVariables false
set_option linter.unusedSimpArgs false
set_option maxHeartbeats 400000

mutual
/-- the number of nodes within a tree, itself too -/
def GTy.nodes : GTy → Nat | .mk _ _ _ kids => 1 + GTy.nodesL kids
def GTy.nodesL : List GTy → Nat | [] => 0 | t :: r => t.nodes + GTy.nodesL r
end

theorem GTy.nodes_eq (t : GTy) : t.nodes = 1 + GTy.nodesL t.kids := by cases t; simp only [GTy.nodes, GTy.kids]

theorem GTy.nodesL_take (l : List GTy) (i : Nat) (h : i < l.length) : GTy.nodesL (l.take (i + 1)) = GTy.nodesL (l.take i) + (l[i]).nodes := by
  induction l generalizing i with
  | nil => simp at h
  | cons t r ih =>
    match i with
    | 0 => simp [GTy.nodesL]
    | i + 1 => simp only [List.take_succ_cons, GTy.nodesL, List.getElem_cons_succ]; rw [ih i (by simpa using h)]; omega

theorem GTy.nodesL_le (l : List GTy) (i : Nat) : GTy.nodesL (l.take i) ≤ GTy.nodesL l := by
  induction l generalizing i with
  | nil => simp
  | cons t r ih =>
    match i with
    | 0 => simp [GTy.nodesL]
    | i + 1 => simp only [List.take_succ_cons, GTy.nodesL]; have := ih i; omega

mutual
theorem GTy.nodes_bulk : ∀ t : GTy, t.nodes ≤ t.bulk + 1
  | .mk op n s kids => by simp only [GTy.nodes, GTy.bulk]; have := GTy.nodesL_bulk kids; omega
theorem GTy.nodesL_bulk : ∀ l : List GTy, GTy.nodesL l ≤ GTy.bulks l
  | [] => by simp [GTy.nodesL]
  | t :: r => by simp only [GTy.nodesL, GTy.bulks]; have := GTy.nodes_bulk t; have := GTy.nodesL_bulk r; omega
end

theorem implTySize (k : Nat) : ∀ (t : GTy) (A1 : Option Addr) (c1 : Nat) (w : World), t.nodes ≤ k → t.nodes ≤ 4611686018427387904 → GTy.At w (Lt w.heap.size) A1 c1 t →
    Calls Try.prog 59 #[.agg #[.int .i64 t.op, .int .i64 t.n, .string t.s, .slice A1 t.kids.length c1]] w fun e w' => e = .returned (.int .i64 t.nodes) ∧ Below w.heap.size w w' := by
  induction k with
  | zero => intro t A1 c1 w h; rw [GTy.nodes_eq] at h; omega
  | succ k ih =>
    intro t A1 c1 w hk hb ht
    obtain ⟨-, -, -, hs⟩ := id ht
    have hlen : t.kids.length ≤ 9223372036854775807 := by simpa using hs.len
    go_enter Try.func59, Try.ntmps59
    go_wp2_with fail
    go_loopw [3, 9] (fun n i wr => ∃ j : Nat, j ≤ t.kids.length ∧ i = .int .i64 j ∧ n = .int .i64 (1 + GTy.nodesL (t.kids.take j)) ∧ Below w.heap.size w wr) (fun _ i _ => t.kids.length - (intOf i).toNat)
    case atStart => exact ⟨0, by omega, by go_num, by simp [GTy.nodesL], (Below.refl _ _).alloc (Nat.le_refl _) _⟩
    case round =>
      obtain ⟨j, hj, rfl, rfl, hbl⟩ := hrel
      have hsz := hbl.size
      by_cases hlt : j < t.kids.length
      · have htr := GTy.elem (hs.below hbl (Nat.le_refl _)) j hlt
        obtain ⟨b, off, A'1, c'1, rfl, hSb, g0, g1, g2, g3, hat⟩ := htr
        have hs1 := GTy.nodesL_take t.kids j hlt
        have hs2 := GTy.nodesL_le t.kids (j + 1)
        have hs3 := t.nodes_eq
        have Hs := Lib.hid hs1
        have hs4 : GTy.nodesL (t.kids.take j) + (t.kids[j]).nodes ≤ 4611686018427387904 := by omega
        have hs5 : (t.kids[j]).nodes ≤ k := by omega
        have hs6 : (t.kids[j]).nodes ≤ 4611686018427387904 := by omega
        clear hs1 hs2 hs3
        go_wp2_with fail
        refine (ih _ _ _ _ hs5 hs6 (hat.below ((Below.refl _ _).alloc (by omega) _) (by simp; omega))).mono ?_
        rintro e w1 ⟨rfl, hb1⟩
        go_wp2_with fail
        go_roundw
        case rel => exact ⟨j + 1, by omega, by go_num, by rw [Hs.out]; congr 1; omega, hbl.trans (((Below.refl _ _).alloc hsz _).trans (hb1.mono (by simp; omega)))⟩
        case measure => simp [intOf]; omega
      · have hjl : j = t.kids.length := by omega
        have Hj := Lib.hid hjl
        clear hjl
        have hbd := t.nodes_eq
        have hbd2 := GTy.nodesL_le t.kids j
        have hbd3 : GTy.nodesL (t.kids.take j) ≤ 4611686018427387904 := by omega
        clear hbd hbd2
        go_wp2_with fail
        go_ret
        exact ⟨ret_int (by rw [t.nodes_eq, Hj.out, List.take_length]; simp), hbl⟩

theorem specTySize (k : Nat) : ∀ (t : GTy) (A1 : Option Addr) (c1 : Nat) (w : World), t.nodes ≤ k → t.nodes ≤ 4611686018427387904 → GTy.At w (Lt w.heap.size) A1 c1 t →
    Calls Try.prog 60 #[.agg #[.int .i64 t.op, .int .i64 t.n, .string t.s, .slice A1 t.kids.length c1]] w fun e w' => e = .returned (.int .i64 t.nodes) ∧ Below w.heap.size w w' := by
  induction k with
  | zero => intro t A1 c1 w h; rw [GTy.nodes_eq] at h; omega
  | succ k ih =>
    intro t A1 c1 w hk hb ht
    obtain ⟨-, -, -, hs⟩ := id ht
    have hlen : t.kids.length ≤ 9223372036854775807 := by simpa using hs.len
    go_enter Try.func60, Try.ntmps60
    go_wp2_with fail
    go_loopw [3, 4] (fun n i wr => ∃ j : Nat, j ≤ t.kids.length ∧ i = .int .i64 j ∧ n = .int .i64 (1 + GTy.nodesL (t.kids.take j)) ∧ Below w.heap.size w wr ∧ Row wr w.heap.size 59 #[.int .i64 t.op, .int .i64 t.n, .string t.s, .slice A1 t.kids.length c1]) (fun _ i _ => t.kids.length - (intOf i).toNat)
    case atStart => exact ⟨0, by omega, by go_num, by simp [GTy.nodesL], (Below.refl _ _).alloc (Nat.le_refl _) _, Row.new _ _ _⟩
    case round =>
      obtain ⟨j, hj, rfl, rfl, hbl, hrow⟩ := hrel
      have hsz := hbl.size
      have hgl := hrow.lt
      have hc := fun i => hrow.cell i
      by_cases hlt : j < t.kids.length
      · have htr := GTy.elem (hs.below hbl (Nat.le_refl _)) j hlt
        obtain ⟨b, off, A'1, c'1, rfl, hSb, g0, g1, g2, g3, hat⟩ := htr
        have hs1 := GTy.nodesL_take t.kids j hlt
        have hs2 := GTy.nodesL_le t.kids (j + 1)
        have hs3 := t.nodes_eq
        have Hs := Lib.hid hs1
        have hs4 : GTy.nodesL (t.kids.take j) + (t.kids[j]).nodes ≤ 4611686018427387904 := by omega
        have hs5 : (t.kids[j]).nodes ≤ k := by omega
        have hs6 : (t.kids[j]).nodes ≤ 4611686018427387904 := by omega
        clear hs1 hs2 hs3
        go_wp2_with fail
        refine (ih _ _ _ _ hs5 hs6 (hat.below (Below.refl _ _) (by omega))).mono ?_
        rintro e w1 ⟨rfl, hb1⟩
        go_wp2_with fail
        go_roundw
        case rel => exact ⟨j + 1, by omega, by go_num, by rw [Hs.out]; congr 1; omega, hbl.trans (hb1.mono hsz), hrow.below hb1 hgl⟩
        case measure => simp [intOf]; omega
      · have hjl : j = t.kids.length := by omega
        have Hj := Lib.hid hjl
        clear hjl
        have hbd := t.nodes_eq
        have hbd2 := GTy.nodesL_le t.kids j
        have hbd3 : GTy.nodesL (t.kids.take j) ≤ 4611686018427387904 := by omega
        clear hbd hbd2
        go_wp2_with fail
        go_ret
        exact ⟨ret_int (by rw [t.nodes_eq, Hj.out, List.take_length]; simp), hbl⟩

end Go.Proofs.Ytgbcdfeflgnogaa
