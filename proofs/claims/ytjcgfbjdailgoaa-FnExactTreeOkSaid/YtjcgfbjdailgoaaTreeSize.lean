/- How many trees are within one. Conditions: none but a bound on the result. -/
import Derived.Test.YtjcgfbjdailgoaaRows
import Derived.Test.YtjcgfbjdailgoaaPw
import Derived.Test.YtjcgfbjdailgoaaGTree
import Derived.Lib.Hide
namespace Go.Proofs.Ytjcgfbjdailgoaa
open Go.RowKit
set_option linter.unusedVariables false
set_option linter.unusedSimpArgs false
set_option maxHeartbeats 400000

mutual
/-- the number of nodes within a tree, itself too -/
def GTree.nodes : GTree → Nat | .mk _ _ _ _ kids => 1 + GTree.nodesL kids
def GTree.nodesL : List GTree → Nat | [] => 0 | t :: r => t.nodes + GTree.nodesL r
end

theorem GTree.nodes_eq (t : GTree) : t.nodes = 1 + GTree.nodesL t.kids := by cases t; simp only [GTree.nodes, GTree.kids]

theorem GTree.nodesL_take (l : List GTree) (i : Nat) (h : i < l.length) : GTree.nodesL (l.take (i + 1)) = GTree.nodesL (l.take i) + (l[i]).nodes := by
  induction l generalizing i with
  | nil => simp at h
  | cons t r ih =>
    match i with
    | 0 => simp [GTree.nodesL]
    | i + 1 => simp only [List.take_succ_cons, GTree.nodesL, List.getElem_cons_succ]; rw [ih i (by simpa using h)]; omega

theorem GTree.nodesL_le (l : List GTree) (i : Nat) : GTree.nodesL (l.take i) ≤ GTree.nodesL l := by
  induction l generalizing i with
  | nil => simp
  | cons t r ih =>
    match i with
    | 0 => simp [GTree.nodesL]
    | i + 1 => simp only [List.take_succ_cons, GTree.nodesL]; have := ih i; omega

mutual
theorem GTree.nodes_bulk : ∀ t : GTree, t.nodes ≤ t.bulk + 1
  | .mk op n path s kids => by simp only [GTree.nodes, GTree.bulk]; have := GTree.nodesL_bulk kids; omega
theorem GTree.nodesL_bulk : ∀ l : List GTree, GTree.nodesL l ≤ GTree.bulks l
  | [] => by simp [GTree.nodesL]
  | t :: r => by simp only [GTree.nodesL, GTree.bulks]; have := GTree.nodes_bulk t; have := GTree.nodesL_bulk r; omega
end

theorem implTreeSize (k : Nat) : ∀ (t : GTree) (A1 : Option Addr) (c1 : Nat) (A2 : Option Addr) (c2 : Nat) (w : World), t.nodes ≤ k → t.nodes ≤ 4611686018427387904 → GTree.At w (Lt w.heap.size) A1 c1 A2 c2 t →
    Calls Try.prog 112 #[.agg #[.int .i64 t.op, .int .i64 t.n, .slice A1 t.path.length c1, .string t.s, .slice A2 t.kids.length c2]] w fun e w' => e = .returned (.int .i64 t.nodes) ∧ Below w.heap.size w w' := by
  induction k with
  | zero => intro t A1 c1 A2 c2 w h; rw [GTree.nodes_eq] at h; omega
  | succ k ih =>
    intro t A1 c1 A2 c2 w hk hb ht
    obtain ⟨-, -, -, -, hs⟩ := id ht
    have hlen : t.kids.length ≤ 9223372036854775807 := by simpa using hs.len
    go_enter Try.func112, Try.ntmps112
    go_wp2_with fail
    go_loopw [3, 9] (fun n i wr => ∃ j : Nat, j ≤ t.kids.length ∧ i = .int .i64 j ∧ n = .int .i64 (1 + GTree.nodesL (t.kids.take j)) ∧ Below w.heap.size w wr) (fun _ i _ => t.kids.length - (intOf i).toNat)
    case atStart => exact ⟨0, by omega, by go_num, by simp [GTree.nodesL], (Below.refl _ _).alloc (Nat.le_refl _) _⟩
    case round =>
      obtain ⟨j, hj, rfl, rfl, hbl⟩ := hrel
      have hsz := hbl.size
      by_cases hlt : j < t.kids.length
      · have htr := GTree.elem (hs.below hbl (Nat.le_refl _)) j hlt
        obtain ⟨b, off, A'1, c'1, A'2, c'2, rfl, hSb, g0, g1, g2, g3, g4, hat⟩ := htr
        have hs1 := GTree.nodesL_take t.kids j hlt
        have hs2 := GTree.nodesL_le t.kids (j + 1)
        have hs3 := t.nodes_eq
        have Hs := Lib.hid hs1
        have hs4 : GTree.nodesL (t.kids.take j) + (t.kids[j]).nodes ≤ 4611686018427387904 := by omega
        have hs5 : (t.kids[j]).nodes ≤ k := by omega
        have hs6 : (t.kids[j]).nodes ≤ 4611686018427387904 := by omega
        clear hs1 hs2 hs3
        go_wp2_with fail
        refine (ih _ _ _ _ _ _ hs5 hs6 (hat.below ((Below.refl _ _).alloc (by omega) _) (by simp; omega))).mono ?_
        rintro e w1 ⟨rfl, hb1⟩
        go_wp2_with fail
        go_roundw
        case rel => exact ⟨j + 1, by omega, by go_num, by rw [Hs.out]; congr 1; omega, hbl.trans (((Below.refl _ _).alloc hsz _).trans (hb1.mono (by simp; omega)))⟩
        case measure => simp [intOf]; omega
      · have hjl : j = t.kids.length := by omega
        have Hj := Lib.hid hjl
        clear hjl
        have hbd := t.nodes_eq
        have hbd2 := GTree.nodesL_le t.kids j
        have hbd3 : GTree.nodesL (t.kids.take j) ≤ 4611686018427387904 := by omega
        clear hbd hbd2
        go_wp2_with fail
        go_ret
        exact ⟨ret_int (by rw [t.nodes_eq, Hj.out, List.take_length]; simp), hbl⟩

theorem specTreeSize (k : Nat) : ∀ (t : GTree) (A1 : Option Addr) (c1 : Nat) (A2 : Option Addr) (c2 : Nat) (w : World), t.nodes ≤ k → t.nodes ≤ 4611686018427387904 → GTree.At w (Lt w.heap.size) A1 c1 A2 c2 t →
    Calls Try.prog 108 #[.agg #[.int .i64 t.op, .int .i64 t.n, .slice A1 t.path.length c1, .string t.s, .slice A2 t.kids.length c2]] w fun e w' => e = .returned (.int .i64 t.nodes) ∧ Below w.heap.size w w' := by
  induction k with
  | zero => intro t A1 c1 A2 c2 w h; rw [GTree.nodes_eq] at h; omega
  | succ k ih =>
    intro t A1 c1 A2 c2 w hk hb ht
    obtain ⟨-, -, -, -, hs⟩ := id ht
    have hlen : t.kids.length ≤ 9223372036854775807 := by simpa using hs.len
    go_enter Try.func108, Try.ntmps108
    go_wp2_with fail
    go_loopw [3, 4] (fun n i wr => ∃ j : Nat, j ≤ t.kids.length ∧ i = .int .i64 j ∧ n = .int .i64 (1 + GTree.nodesL (t.kids.take j)) ∧ Below w.heap.size w wr ∧ Row wr w.heap.size 70 #[.int .i64 t.op, .int .i64 t.n, .slice A1 t.path.length c1, .string t.s, .slice A2 t.kids.length c2]) (fun _ i _ => t.kids.length - (intOf i).toNat)
    case atStart => exact ⟨0, by omega, by go_num, by simp [GTree.nodesL], (Below.refl _ _).alloc (Nat.le_refl _) _, Row.new _ _ _⟩
    case round =>
      obtain ⟨j, hj, rfl, rfl, hbl, hrow⟩ := hrel
      have hsz := hbl.size
      have hgl := hrow.lt
      have hc := fun i => hrow.cell i
      by_cases hlt : j < t.kids.length
      · have htr := GTree.elem (hs.below hbl (Nat.le_refl _)) j hlt
        obtain ⟨b, off, A'1, c'1, A'2, c'2, rfl, hSb, g0, g1, g2, g3, g4, hat⟩ := htr
        have hs1 := GTree.nodesL_take t.kids j hlt
        have hs2 := GTree.nodesL_le t.kids (j + 1)
        have hs3 := t.nodes_eq
        have Hs := Lib.hid hs1
        have hs4 : GTree.nodesL (t.kids.take j) + (t.kids[j]).nodes ≤ 4611686018427387904 := by omega
        have hs5 : (t.kids[j]).nodes ≤ k := by omega
        have hs6 : (t.kids[j]).nodes ≤ 4611686018427387904 := by omega
        clear hs1 hs2 hs3
        go_wp2_with fail
        refine (ih _ _ _ _ _ _ hs5 hs6 (hat.below (Below.refl _ _) (by omega))).mono ?_
        rintro e w1 ⟨rfl, hb1⟩
        go_wp2_with fail
        go_roundw
        case rel => exact ⟨j + 1, by omega, by go_num, by rw [Hs.out]; congr 1; omega, hbl.trans (hb1.mono hsz), hrow.below hb1 hgl⟩
        case measure => simp [intOf]; omega
      · have hjl : j = t.kids.length := by omega
        have Hj := Lib.hid hjl
        clear hjl
        have hbd := t.nodes_eq
        have hbd2 := GTree.nodesL_le t.kids j
        have hbd3 : GTree.nodesL (t.kids.take j) ≤ 4611686018427387904 := by omega
        clear hbd hbd2
        go_wp2_with fail
        go_ret
        exact ⟨ret_int (by rw [t.nodes_eq, Hj.out, List.take_length]; simp), hbl⟩

end Go.Proofs.Ytjcgfbjdailgoaa
