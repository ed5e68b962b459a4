/- IrSize. Conditions: none but a bound on the result. -/
import Derived.Test.YtdcchfpgpdekmaaRows
import Derived.Test.YtdcchfpgpdekmaaPw
import Derived.Test.YtdcchfpgpdekmaaGIr
import Derived.Lib.Hide
namespace Go.Proofs.Ytdcchfpgpdekmaa
open Go.RowKit
set_option linter.unusedVariables false
set_option linter.unusedSimpArgs false
set_option maxHeartbeats 400000

mutual
/-- the number of nodes within a tree, itself too -/
def GIr.nodes : GIr → Nat | .mk _ _ kids => 1 + GIr.nodesL kids
def GIr.nodesL : List GIr → Nat | [] => 0 | t :: r => t.nodes + GIr.nodesL r
end

theorem GIr.nodes_eq (t : GIr) : t.nodes = 1 + GIr.nodesL t.kids := by cases t; simp only [GIr.nodes, GIr.kids]

theorem GIr.nodesL_take (l : List GIr) (i : Nat) (h : i < l.length) : GIr.nodesL (l.take (i + 1)) = GIr.nodesL (l.take i) + (l[i]).nodes := by
  induction l generalizing i with
  | nil => simp at h
  | cons t r ih =>
    match i with
    | 0 => simp [GIr.nodesL]
    | i + 1 => simp only [List.take_succ_cons, GIr.nodesL, List.getElem_cons_succ]; rw [ih i (by simpa using h)]; omega

theorem GIr.nodesL_le (l : List GIr) (i : Nat) : GIr.nodesL (l.take i) ≤ GIr.nodesL l := by
  induction l generalizing i with
  | nil => simp
  | cons t r ih =>
    match i with
    | 0 => simp [GIr.nodesL]
    | i + 1 => simp only [List.take_succ_cons, GIr.nodesL]; have := ih i; omega

mutual
theorem GIr.nodes_bulk : ∀ t : GIr, t.nodes ≤ t.bulk + 1
  | .mk op n kids => by simp only [GIr.nodes, GIr.bulk]; have := GIr.nodesL_bulk kids; omega
theorem GIr.nodesL_bulk : ∀ l : List GIr, GIr.nodesL l ≤ GIr.bulks l
  | [] => by simp [GIr.nodesL]
  | t :: r => by simp only [GIr.nodesL, GIr.bulks]; have := GIr.nodes_bulk t; have := GIr.nodesL_bulk r; omega
end

theorem implIrSize (k : Nat) : ∀ (t : GIr) (A1 : Option Addr) (c1 : Nat) (w : World), t.nodes ≤ k → t.nodes ≤ 4611686018427387904 → GIr.At w (Lt w.heap.size) A1 c1 t →
    Calls Try.prog 23 #[.agg #[.int .i64 t.op, .int .i64 t.n, .slice A1 t.kids.length c1]] w fun e w' => e = .returned (.int .i64 t.nodes) ∧ Below w.heap.size w w' := by
  induction k with
  | zero => intro t A1 c1 w h; rw [GIr.nodes_eq] at h; omega
  | succ k ih =>
    intro t A1 c1 w hk hb ht
    obtain ⟨-, -, hs⟩ := id ht
    have hlen : t.kids.length ≤ 9223372036854775807 := by simpa using hs.len
    go_enter Try.func23, Try.ntmps23
    go_wp2_with fail
    go_loopw [3, 9] (fun n i wr => ∃ j : Nat, j ≤ t.kids.length ∧ i = .int .i64 j ∧ n = .int .i64 (1 + GIr.nodesL (t.kids.take j)) ∧ Below w.heap.size w wr) (fun _ i _ => t.kids.length - (intOf i).toNat)
    case atStart => exact ⟨0, by omega, by go_num, by simp [GIr.nodesL], (Below.refl _ _).alloc (Nat.le_refl _) _⟩
    case round =>
      obtain ⟨j, hj, rfl, rfl, hbl⟩ := hrel
      have hsz := hbl.size
      by_cases hlt : j < t.kids.length
      · have htr := GIr.elem (hs.below hbl (Nat.le_refl _)) j hlt
        obtain ⟨b, off, A'1, c'1, rfl, hSb, g0, g1, g2, hat⟩ := htr
        have hs1 := GIr.nodesL_take t.kids j hlt
        have hs2 := GIr.nodesL_le t.kids (j + 1)
        have hs3 := t.nodes_eq
        have Hs := Lib.hid hs1
        have hs4 : GIr.nodesL (t.kids.take j) + (t.kids[j]).nodes ≤ 4611686018427387904 := by omega
        have hs5 : (t.kids[j]).nodes ≤ k := by omega
        have hs6 : (t.kids[j]).nodes ≤ 4611686018427387904 := by omega
        clear hs1 hs2 hs3
        go_wp2_with fail
        refine (ih _ _ _ _ hs5 hs6 (hat.below ((Below.refl _ _).alloc (by omega) _) (by simp; omega))).mono ?_
        rintro e w1 ⟨rfl, hb1⟩
        go_wp2_with fail
        go_roundw
        case rel => exact ⟨j + 1, by omega, by go_num, by rw [Hs.out]; congr 1; omega, hbl.trans (((Below.refl _ _).alloc hsz _).trans (hb1.mono (by simp; omega)))⟩
        case measure => simp [intOf]; omega
      · have hjl : j = t.kids.length := by omega
        have Hj := Lib.hid hjl
        clear hjl
        have hbd := t.nodes_eq
        have hbd2 := GIr.nodesL_le t.kids j
        have hbd3 : GIr.nodesL (t.kids.take j) ≤ 4611686018427387904 := by omega
        clear hbd hbd2
        go_wp2_with fail
        go_ret
        exact ⟨ret_int (by rw [t.nodes_eq, Hj.out, List.take_length]; simp), hbl⟩

theorem specIrSize (k : Nat) : ∀ (t : GIr) (A1 : Option Addr) (c1 : Nat) (w : World), t.nodes ≤ k → t.nodes ≤ 4611686018427387904 → GIr.At w (Lt w.heap.size) A1 c1 t →
    Calls Try.prog 21 #[.agg #[.int .i64 t.op, .int .i64 t.n, .slice A1 t.kids.length c1]] w fun e w' => e = .returned (.int .i64 t.nodes) ∧ Below w.heap.size w w' := by
  induction k with
  | zero => intro t A1 c1 w h; rw [GIr.nodes_eq] at h; omega
  | succ k ih =>
    intro t A1 c1 w hk hb ht
    obtain ⟨-, -, hs⟩ := id ht
    have hlen : t.kids.length ≤ 9223372036854775807 := by simpa using hs.len
    go_enter Try.func21, Try.ntmps21
    go_wp2_with fail
    go_loopw [3, 4] (fun n i wr => ∃ j : Nat, j ≤ t.kids.length ∧ i = .int .i64 j ∧ n = .int .i64 (1 + GIr.nodesL (t.kids.take j)) ∧ Below w.heap.size w wr ∧ Row wr w.heap.size 38 #[.int .i64 t.op, .int .i64 t.n, .slice A1 t.kids.length c1]) (fun _ i _ => t.kids.length - (intOf i).toNat)
    case atStart => exact ⟨0, by omega, by go_num, by simp [GIr.nodesL], (Below.refl _ _).alloc (Nat.le_refl _) _, Row.new _ _ _⟩
    case round =>
      obtain ⟨j, hj, rfl, rfl, hbl, hrow⟩ := hrel
      have hsz := hbl.size
      have hgl := hrow.lt
      have hc := fun i => hrow.cell i
      by_cases hlt : j < t.kids.length
      · have htr := GIr.elem (hs.below hbl (Nat.le_refl _)) j hlt
        obtain ⟨b, off, A'1, c'1, rfl, hSb, g0, g1, g2, hat⟩ := htr
        have hs1 := GIr.nodesL_take t.kids j hlt
        have hs2 := GIr.nodesL_le t.kids (j + 1)
        have hs3 := t.nodes_eq
        have Hs := Lib.hid hs1
        have hs4 : GIr.nodesL (t.kids.take j) + (t.kids[j]).nodes ≤ 4611686018427387904 := by omega
        have hs5 : (t.kids[j]).nodes ≤ k := by omega
        have hs6 : (t.kids[j]).nodes ≤ 4611686018427387904 := by omega
        clear hs1 hs2 hs3
        go_wp2_with fail
        refine (ih _ _ _ _ hs5 hs6 (hat.below (Below.refl _ _) (by omega))).mono ?_
        rintro e w1 ⟨rfl, hb1⟩
        go_wp2_with fail
        go_roundw
        case rel => exact ⟨j + 1, by omega, by go_num, by rw [Hs.out]; congr 1; omega, hbl.trans (hb1.mono hsz), hrow.below hb1 hgl⟩
        case measure => simp [intOf]; omega
      · have hjl : j = t.kids.length := by omega
        have Hj := Lib.hid hjl
        clear hjl
        have hbd := t.nodes_eq
        have hbd2 := GIr.nodesL_le t.kids j
        have hbd3 : GIr.nodesL (t.kids.take j) ≤ 4611686018427387904 := by omega
        clear hbd hbd2
        go_wp2_with fail
        go_ret
        exact ⟨ret_int (by rw [t.nodes_eq, Hj.out, List.take_length]; simp), hbl⟩

end Go.Proofs.Ytdcchfpgpdekmaa
