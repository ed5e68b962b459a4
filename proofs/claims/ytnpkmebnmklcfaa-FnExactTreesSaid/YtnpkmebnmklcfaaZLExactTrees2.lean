/- Texts of the claim LExactTrees in one: ANode Within CoverA CoverC CoverR TrB TrC TrD TreesQ Slc Take. Conditions: none but bounds on sizes. -/
import Derived.Test.YtnpkmebnmklcfaaRows
import Derived.Test.YtnpkmebnmklcfaaZLExactTrees1
import Derived.Test.YtnpkmebnmklcfaaZLExactTrees0
import Derived.Lib.Hide
import Derived.StillTailTactics
import Derived.BigQuiet
import Derived.Lib.AppendZerosOnto
import Derived.Deep.RegionLaw
import Derived.Deep.DeepMust
import Derived.Deep.RegionHeld3
import Derived.WalkKit
/- The laws' sz, to and eq functions at Node. Conditions: what is counted is at most 1048576. -/
namespace Go.Proofs.Ytnpkmebnmklcfaa
open Go.RowKit
set_option linter.unusedVariables false
set_option linter.unusedSimpArgs false
set_option maxHeartbeats 400000

theorem szNodeS (l : List GNode) (A : Option Addr) (c : Nat) (left : Int) (w : World) (hs : Sl w (Lt w.heap.size) 5 A c (l.map GNode.toD)) (h0 : 0 ≤ left) (h1 : left ≤ 1048576)
    (H : ∀ t, t ∈ l → ∀ (A1 : Option Addr) (c1 : Nat) (left : Int) (w : World), 0 ≤ left → left ≤ 1048576 → GNode.At w (Lt w.heap.size) A1 c1 t →
      Calls Try.prog 18 #[.agg #[.int .i64 t.op, .int .i64 t.n, .string t.s, .string t.t, .slice A1 t.kids.length c1], .int .i64 left] w fun e w' => e = .returned (.int .i64 (szv t.bulk left)) ∧ Below w.heap.size w w') :
    Calls Try.prog 5 #[.slice A l.length c, .int .i64 left] w fun e w' => e = .returned (.int .i64 (szv (bulkL GNode.bulk l) left)) ∧ Below w.heap.size w w' := by
  have hlen : l.length ≤ 9223372036854775807 := by simpa using hs.len
  have HH := Lib.hid H
  clear H
  by_cases hll : left < (l.length : Int)
  · have hg : left - (l.length : Int) < 0 := by omega
    have hv := Lib.hid (szv_gt (b := bulkL GNode.bulk l) (left := left) (by have := bulkL_len GNode.bulk l; omega))
    go_enter Try.func5, Try.ntmps5
    go_wp2_with fail
    go_ret
    exact ⟨ret_int hv.out.symm, Below.refl _ _⟩
  · have hg : 0 ≤ left - (l.length : Int) := by omega
    go_enter Try.func5, Try.ntmps5
    go_wp2_with fail
    go_loopw [1, 5] (fun n i wr => ∃ (j : Nat) (L : Int), j ≤ l.length ∧ i = .int .i64 j ∧ n = .int .i64 L ∧ L = left - l.length - (bulkL GNode.bulk (l.take j) - j) ∧ 0 ≤ L ∧ L ≤ left ∧ Below w.heap.size w wr) (fun _ i _ => l.length - (intOf i).toNat)
    case atStart => exact ⟨0, _, by omega, by go_num, rfl, by simp [bulkL], by omega, by omega, Below.refl _ _⟩
    case round =>
      obtain ⟨j, L, hj, rfl, rfl, hL, hL0, hL1, hb⟩ := hrel
      have HL := Lib.hid hL
      clear hL
      have hsz := hb.size
      by_cases hlt : j < l.length
      · have hel := GNode.elem (hs.below hb (Nat.le_refl _)) j hlt
        obtain ⟨b, off, A1, c1, rfl, hSb, g0, g1, g2, g3, g4, hat⟩ := hel
        have hmem : l[j] ∈ l := List.getElem_mem hlt
        have hts := Lib.hid (bulkL_take_succ GNode.bulk l j hlt)
        have htl := Lib.hid (bulkL_take_le GNode.bulk l (j + 1) (by omega))
        have htg := Lib.hid (bulkL_take_ge GNode.bulk l j (by omega))
        go_wp2_with fail
        refine (HH.out _ hmem _ _ L _ hL0 (by omega) (hat.below (Below.refl _ _) hsz)).mono ?_
        rintro e w1 ⟨rfl, hb1⟩
        by_cases hle : ((l[j]).bulk : Int) ≤ L
        · have hv := szv_le hle
          have hge : 0 ≤ L - ((l[j]).bulk : Int) := by omega
          go_wp2_with fail
          go_roundw
          case rel => exact ⟨j + 1, _, by omega, by go_num, rfl, by rw [hts.out, HL.out]; omega, by omega, by omega, hb.trans (hb1.mono hsz)⟩
          case measure => simp [intOf]; omega
        · have hv := szv_gt (b := (l[j]).bulk) (left := L) (by omega)
          go_wp2_with fail
          go_ret
          refine ⟨ret_int ?_, hb.trans (hb1.mono hsz)⟩
          have e1 := hts.out; have e2 := htl.out; have e3 := htg.out; have e4 := HL.out
          rw [szv_gt (by omega)]
      · have hjl : j = l.length := by omega
        have Hj := Lib.hid hjl
        clear hjl
        go_wp2_with fail
        go_ret
        refine ⟨ret_int ?_, hb⟩
        have e4 := HL.out
        rw [Hj.out, List.take_length] at e4
        have := bulkL_len GNode.bulk l
        rw [szv_le (by omega)]; omega

theorem szNode (k : Nat) : ∀ (t : GNode) (A1 : Option Addr) (c1 : Nat) (left : Int) (w : World), t.bulk < k → 0 ≤ left → left ≤ 1048576 → GNode.At w (Lt w.heap.size) A1 c1 t →
      Calls Try.prog 18 #[.agg #[.int .i64 t.op, .int .i64 t.n, .string t.s, .string t.t, .slice A1 t.kids.length c1], .int .i64 left] w fun e w' => e = .returned (.int .i64 (szv t.bulk left)) ∧ Below w.heap.size w w' := by
  induction k with
  | zero => intro t A1 c1 left w hk; omega
  | succ k ih =>
    intro t A1 c1 left w hk h0 h1 hat
    have hbe := t.bulk_eq
    obtain ⟨k0, k1, k2, k3, k4⟩ := id hat
    have s2 : t.s.size ≤ 9223372036854775807 := by unfold maxLen at k2; omega
    have s3 : t.t.size ≤ 9223372036854775807 := by unfold maxLen at k3; omega
    have H3 := fun (left : Int) (w : World) hs h0 h1 => szNodeS t.kids A1 c1 left w hs h0 h1 (fun u hu A1 c1 left w h0 h1 hat => ih u A1 c1 left w (by have := bulkL_mem GNode.bulk t.kids u hu; omega) h0 h1 hat)
    have HH := Lib.hid H3
    have HE := Lib.hid hbe
    have hat' := Lib.hid hat
    clear hbe hat k0 k1 k2 k3 k4 H3 ih
    have B0 : Below w.heap.size w (w.alloc (.cells #[.int .i64 t.op, .int .i64 t.n, .string t.s, .string t.t, .slice A1 t.kids.length c1] 49)) := (Below.refl _ _).alloc (Nat.le_refl _) _
    have r0 := Lib.hid (Row.new w 49 #[.int .i64 t.op, .int .i64 t.n, .string t.s, .string t.t, .slice A1 t.kids.length c1])
    go_enter Try.func18, Try.ntmps18
    by_cases g2 : ((t.s.size : Nat) : Int) ≤ left
    rotate_left
    · have q2 : left - ((t.s.size : Nat) : Int) < 0 := by omega
      go_wp2_with fail
      go_ret
      refine ⟨ret_int ?_, B0⟩
      have := HE.out
      rw [szv_gt (by omega)]
    have q2 : 0 ≤ left - ((t.s.size : Nat) : Int) := by omega
    by_cases g3 : ((t.t.size : Nat) : Int) ≤ left - ((t.s.size : Nat) : Int)
    rotate_left
    · have q3 : left - ((t.s.size : Nat) : Int) - ((t.t.size : Nat) : Int) < 0 := by omega
      go_wp2_with fail
      go_ret
      refine ⟨ret_int ?_, B0⟩
      have := HE.out
      rw [szv_gt (by omega)]
    have q3 : 0 ≤ left - ((t.s.size : Nat) : Int) - ((t.t.size : Nat) : Int) := by omega
    go_wp2_with fail
    obtain ⟨-, -, -, -, k4⟩ := hat'.out.below B0 B0.size
    refine (HH.out _ _ k4 (by omega) (by omega)).mono ?_
    rintro e w1 ⟨rfl, hb1⟩
    have B1 := B0.trans (hb1.mono B0.size)
    by_cases g4 : ((bulkL GNode.bulk t.kids : Nat) : Int) ≤ left - ((t.s.size : Nat) : Int) - ((t.t.size : Nat) : Int)
    rotate_left
    · have hv := szv_gt (b := bulkL GNode.bulk t.kids) (left := left - ((t.s.size : Nat) : Int) - ((t.t.size : Nat) : Int)) (by omega)
      go_wp2_with fail
      go_ret
      refine ⟨ret_int ?_, B1⟩
      have := HE.out
      rw [szv_gt (by omega)]
    have v4 := szv_le g4
    have q4 : 0 ≤ left - ((t.s.size : Nat) : Int) - ((t.t.size : Nat) : Int) - ((bulkL GNode.bulk t.kids : Nat) : Int) := by omega
    go_wp2_with fail
    go_ret
    refine ⟨ret_int ?_, B1⟩
    have := HE.out
    rw [szv_le (by omega)]; omega

theorem szNode' (t : GNode) (A1 : Option Addr) (c1 : Nat) (left : Int) (w : World) (h0 : 0 ≤ left) (h1 : left ≤ 1048576) (hat : GNode.At w (Lt w.heap.size) A1 c1 t) :
      Calls Try.prog 18 #[.agg #[.int .i64 t.op, .int .i64 t.n, .string t.s, .string t.t, .slice A1 t.kids.length c1], .int .i64 left] w fun e w' => e = .returned (.int .i64 (szv t.bulk left)) ∧ Below w.heap.size w w' :=
  szNode (t.bulk + 1) t A1 c1 left w (by omega) h0 h1 hat

theorem szNodeS' (l : List GNode) (A : Option Addr) (c : Nat) (left : Int) (w : World) (hs : Sl w (Lt w.heap.size) 5 A c (l.map GNode.toD)) (h0 : 0 ≤ left) (h1 : left ≤ 1048576) :
    Calls Try.prog 5 #[.slice A l.length c, .int .i64 left] w fun e w' => e = .returned (.int .i64 (szv (bulkL GNode.bulk l) left)) ∧ Below w.heap.size w w' :=
  szNodeS l A c left w hs h0 h1 (fun u _ A1 c1 left w h0 h1 hat => szNode' u A1 c1 left w h0 h1 hat)

/-- what a to function gives back: a struct of the call's own -/
def ToNode (t : GNode) (w : World) (e : Ending) (w' : World) : Prop := ∃ A1 c1, e = .returned (.agg #[.int .i64 t.op, .int .i64 t.n, .string t.s, .string t.t, .slice A1 t.kids.length c1]) ∧ GNode.Ow w' (Btw w.heap.size w'.heap.size) A1 c1 t ∧ Below w.heap.size w w'
def ToNodeS (l : List GNode) (w : World) (e : Ending) (w' : World) : Prop := ∃ A1 c1, e = .returned (.slice A1 l.length c1) ∧ Osl w' (Btw w.heap.size w'.heap.size) 5 A1 c1 (l.map GNode.toD) ∧ Below w.heap.size w w'

def zNode : Value := .agg #[.int .i64 0, .int .i64 0, .string ⟨#[]⟩, .string ⟨#[]⟩, .slice none 0 0]
theorem mkNode (n : Nat) (hn : n ≤ 1048576) (w : World) : (Instr.makeSlice 34 (.int .i64 (n : Int)) (.int .i64 (n : Int))).run Try.prog w = .ok (.slice (some ⟨w.heap.size, 0, none⟩) n n) (w.alloc (.cells (zr zNode 5 n) 55)) :=
  run_mk 34 55 zNode 5 72 Try.underlying34 (by kernel_rfl) n hn (by omega) w

theorem toNodeS (l : List GNode) (A : Option Addr) (c : Nat) (w : World) (hs : Sl w (Lt w.heap.size) 5 A c (l.map GNode.toD)) (hl : l.length ≤ 1048576)
    (H : ∀ t, t ∈ l → ∀ (A1 : Option Addr) (c1 : Nat) (w : World), GNode.At w (Lt w.heap.size) A1 c1 t →
      Calls Try.prog 24 #[.agg #[.int .i64 t.op, .int .i64 t.n, .string t.s, .string t.t, .slice A1 t.kids.length c1]] w (ToNode t w)) :
    Calls Try.prog 8 #[.slice A l.length c] w (ToNodeS l w) := by
  have HH := Lib.hid H
  clear H
  have hmk := mkNode l.length hl
  go_enter Try.func8, Try.ntmps8
  go_wp2_with fail
  clear hmk
  go_loopw [4] (fun i wr => ∃ (j : Nat) (row : Array Value), j ≤ l.length ∧ i = .int .i64 j ∧ Row wr w.heap.size 55 row ∧ row.size = l.length * 5 ∧
      D.ownR wr 5 w.heap.size ((l.take j).map GNode.toD) (fun b => w.heap.size < b ∧ b < wr.heap.size) 0 ∧ Below w.heap.size w wr) (fun i _ => l.length - (intOf i).toNat)
  case atStart => exact ⟨0, _, by omega, by go_num, Row.new _ _ _, zr_size _ _ _, by simp [D.ownR], (Below.refl _ _).alloc (Nat.le_refl _) _⟩
  case round =>
    obtain ⟨j, row, hj, rfl, hrow, hrs, hown, hb⟩ := hrel
    have hsz := hb.size
    have hgl := hrow.lt
    by_cases hlt : j < l.length
    · have hel := GNode.elem (hs.below hb (Nat.le_refl _)) j hlt
      obtain ⟨b, off, A1, c1, rfl, hSb, g0, g1, g2, g3, g4, hat⟩ := hel
      have hmem : l[j] ∈ l := List.getElem_mem hlt
      go_wp2_with fail
      refine (HH.out _ hmem _ _ _ (hat.below (Below.refl _ _) hsz)).mono ?_
      rintro e w1 ⟨B1, d1, rfl, how, hb1⟩
      have hrow1 := Lib.hid (hrow.below hb1 hgl)
      have hf := fun i => hrow1.out.frozen i
      obtain ⟨v0, y0⟩ := row_some (row := row) (j * 5) (by omega)
      obtain ⟨v1, y1⟩ := row_some (row := row) (j * 5 + 1) (by omega)
      obtain ⟨v2, y2⟩ := row_some (row := row) (j * 5 + 2) (by omega)
      obtain ⟨v3, y3⟩ := row_some (row := row) (j * 5 + 3) (by omega)
      obtain ⟨v4, y4⟩ := row_some (row := row) (j * 5 + 4) (by omega)
      have x0 := (hrow1.out.cell (j * 5)).trans y0
      have x1 := (hrow1.out.cell (j * 5 + 1)).trans y1
      have x2 := (hrow1.out.cell (j * 5 + 2)).trans y2
      have x3 := (hrow1.out.cell (j * 5 + 3)).trans y3
      have x4 := (hrow1.out.cell (j * 5 + 4)).trans y4
      clear y0 y1 y2 y3 y4
      have hst := fill_step hrow1.out (j := j) (m := wr.heap.size) (xs := (l.take j).map GNode.toD) (size := 5) (by simp; omega) (by omega) hgl hb1.size
        (D.ownR_keep 5 _ _ _ _ 0 (fun b hb => ⟨hb, hb1.block b hb.2⟩) (fun i _ => hb1.cell (p := ⟨w.heap.size, i, none⟩) hgl) hown) (GNode.own_mk how) rfl
      have hB := setCells_below (hb.trans (hb1.mono hsz)) w.heap.size (j * 5) (Nat.le_refl _) [.int .i64 l[j].op, .int .i64 l[j].n, .string l[j].s, .string l[j].t, .slice B1 l[j].kids.length d1]
      go_wp2_with fail
      go_roundw
      case rel =>
        obtain ⟨row', p1, p2, p3⟩ := hst
        exact ⟨j + 1, row', by omega, by go_num, p1, by omega, by rw [take_snoc' l j hlt, List.map_append]; exact p3, hB⟩
      case measure => simp [intOf]; omega
    · have hjl : j = l.length := by omega
      have Hj := Lib.hid hjl
      clear hjl
      go_wp2_with fail
      go_ret
      rw [Hj.out, List.take_length] at hown
      exact ⟨_, _, rfl, fill_end hrow (Nat.le_refl _) (by simp) (by unfold maxLen; omega) hown, hb⟩

theorem toNode (k : Nat) : ∀ (t : GNode) (A1 : Option Addr) (c1 : Nat) (w : World), t.bulk < k → t.bulk ≤ 1048576 → GNode.At w (Lt w.heap.size) A1 c1 t →
      Calls Try.prog 24 #[.agg #[.int .i64 t.op, .int .i64 t.n, .string t.s, .string t.t, .slice A1 t.kids.length c1]] w (ToNode t w) := by
  induction k with
  | zero => intro t A1 c1 w hk; omega
  | succ k ih =>
    intro t A1 c1 w hk h1 hat
    have hbe := t.bulk_eq
    have H3 := fun (w : World) hs => toNodeS t.kids A1 c1 w hs (by have := bulkL_len GNode.bulk t.kids; omega) (fun u hu A1 c1 w hat => ih u A1 c1 w (by have := bulkL_mem GNode.bulk t.kids u hu; omega) (by have := bulkL_mem GNode.bulk t.kids u hu; omega) hat)
    have HH := Lib.hid H3
    have hat' := Lib.hid hat
    clear hbe hat H3 ih
    go_enter Try.func24, Try.ntmps24
    go_wp2_with fail
    have W0 : ∃ w0, w0 = ((w.alloc (.cells #[.int .i64 t.op, .int .i64 t.n, .string t.s, .string t.t, .slice A1 t.kids.length c1] 49)).alloc (.cells #[.int .i64 0, .int .i64 0, .string ⟨#[]⟩, .string ⟨#[]⟩, .slice none 0 0] 55)).alloc (.cells #[.int .i64 t.op, .int .i64 t.n, .string t.s, .string t.t, .slice none 0 0] 55) := ⟨_, rfl⟩
    obtain ⟨w0, e0⟩ := W0
    have B0 : Below w.heap.size w w0 := by rw [e0]; exact (((Below.refl _ _).alloc (Nat.le_refl _) _).alloc (by simp) _).alloc (by simp; omega) _
    have S0 : w0.heap.size = w.heap.size + 3 := by rw [e0]; simp
    have Ra0 : Row w0 w.heap.size 49 #[.int .i64 t.op, .int .i64 t.n, .string t.s, .string t.t, .slice A1 t.kids.length c1] := by rw [e0]; exact ((Row.new' _ _ _ rfl).alloc _).alloc _
    have Rz0 : Row w0 (w.heap.size + 1) 55 #[.int .i64 0, .int .i64 0, .string ⟨#[]⟩, .string ⟨#[]⟩, .slice none 0 0] := by rw [e0]; exact (Row.new' _ _ _ (by simp)).alloc _
    have Ro0 : Row w0 (w.heap.size + 1 + 1) 55 #[.int .i64 t.op, .int .i64 t.n, .string t.s, .string t.t, .slice none 0 0] := by rw [e0]; exact Row.new' _ _ _ (by simp)
    rw [← e0]
    clear e0
    obtain ⟨-, -, -, -, q4⟩ := hat'.out.below B0 B0.size
    refine (HH.out (w0) q4).mono ?_
    rintro e w1 ⟨D1, d1, rfl, how4, hb1⟩
    have hs1 := hb1.size
    have X1 := B0.trans (hb1.mono B0.size)
    have Rax1 := Lib.hid (Ra0.below hb1 Ra0.lt)
    have Rzx1 := Lib.hid (Rz0.below hb1 Rz0.lt)
    have Rox1 := Lib.hid (Ro0.below hb1 Ro0.lt)
    have hca1 := fun i => Rax1.out.cell i
    have hcz1 := fun i => Rzx1.out.cell i
    have hco1 := fun i => Rox1.out.cell i
    have hfz1 := fun i => Rzx1.out.frozen i
    have hfo1 := fun i => Rox1.out.frozen i
    have B1 := setCells_below X1 (w.heap.size + 1 + 1) 4 (by omega) [.slice D1 t.kids.length d1]
    have Ra1 : Hid (Row (setCells w1 (w.heap.size + 1 + 1) 4 [.slice D1 t.kids.length d1]) w.heap.size 49 #[.int .i64 t.op, .int .i64 t.n, .string t.s, .string t.t, .slice A1 t.kids.length c1]) := (Rax1.out).far (p := ⟨w.heap.size + 1 + 1, 4, none⟩) (by simp <;> omega) (.slice D1 t.kids.length d1)
    have Rz1 : Hid (Row (setCells w1 (w.heap.size + 1 + 1) 4 [.slice D1 t.kids.length d1]) (w.heap.size + 1) 55 #[.int .i64 0, .int .i64 0, .string ⟨#[]⟩, .string ⟨#[]⟩, .slice none 0 0]) := (Rzx1.out).far (p := ⟨w.heap.size + 1 + 1, 4, none⟩) (by simp <;> omega) (.slice D1 t.kids.length d1)
    have Ro1 : Hid (Row (setCells w1 (w.heap.size + 1 + 1) 4 [.slice D1 t.kids.length d1]) (w.heap.size + 1 + 1) 55 #[.int .i64 t.op, .int .i64 t.n, .string t.s, .string t.t, .slice D1 t.kids.length d1]) := (Rox1.out).set 4 (.slice D1 t.kids.length d1)
    replace how4 := how4.keep (S' := Btw (w0).heap.size (w1).heap.size) (w' := setCells w1 (w.heap.size + 1 + 1) 4 [.slice D1 t.kids.length d1]) fun b hb => ⟨hb, setCells_block _ _ _ _ _ (by have := hb.1; first | omega | (simp only [setCells_size] at *; omega) | (simp only [setCells_size] at *; done))⟩
    have BF := setCells_below B1 (w.heap.size + 1) 0 (by omega) [.int .i64 t.op, .int .i64 t.n, .string t.s, .string t.t, .slice D1 t.kids.length d1]
    have SF : (setCells (setCells w1 (w.heap.size + 1 + 1) 4 [.slice D1 t.kids.length d1]) (w.heap.size + 1) 0 [.int .i64 t.op, .int .i64 t.n, .string t.s, .string t.t, .slice D1 t.kids.length d1]).heap.size = w1.heap.size := by rw [setCells_size, setCells_size]
    replace how4 := how4.keep (S' := Btw w.heap.size (setCells (setCells w1 (w.heap.size + 1 + 1) 4 [.slice D1 t.kids.length d1]) (w.heap.size + 1) 0 [.int .i64 t.op, .int .i64 t.n, .string t.s, .string t.t, .slice D1 t.kids.length d1]).heap.size) (w' := setCells (setCells w1 (w.heap.size + 1 + 1) 4 [.slice D1 t.kids.length d1]) (w.heap.size + 1) 0 [.int .i64 t.op, .int .i64 t.n, .string t.s, .string t.t, .slice D1 t.kids.length d1]) fun b hb => ⟨⟨by have := hb.1; first | omega | (simp only [setCells_size] at *; omega) | (simp only [setCells_size] at *; done), by have := hb.2; have := SF; first | omega | (simp only [setCells_size] at *; omega) | (simp only [setCells_size] at *; done)⟩, setCells_block _ _ _ _ _ (by have := hb.1; first | omega | (simp only [setCells_size] at *; omega) | (simp only [setCells_size] at *; done))⟩
    have qs := hat'.out
    obtain ⟨p0, p1, p2, p3, p4⟩ := qs
    go_wp2_with fail
    exact bodyPost_ret (v := .agg #[.int .i64 t.op, .int .i64 t.n, .string t.s, .string t.t, .slice D1 t.kids.length d1]) (by simp [results, Try.results24, go_sem, hca1, hcz1, hco1]) rfl ⟨D1, d1, rfl, ⟨p0, p1, p2, p3, how4⟩, BF⟩

theorem toNode' (t : GNode) (A1 : Option Addr) (c1 : Nat) (w : World) (h1 : t.bulk ≤ 1048576) (hat : GNode.At w (Lt w.heap.size) A1 c1 t) :
      Calls Try.prog 24 #[.agg #[.int .i64 t.op, .int .i64 t.n, .string t.s, .string t.t, .slice A1 t.kids.length c1]] w (ToNode t w) :=
  toNode (t.bulk + 1) t A1 c1 w (by omega) h1 hat

theorem toNodeS' (l : List GNode) (A : Option Addr) (c : Nat) (w : World) (hs : Sl w (Lt w.heap.size) 5 A c (l.map GNode.toD)) (hl : bulkL GNode.bulk l ≤ 1048576) :
    Calls Try.prog 8 #[.slice A l.length c] w (ToNodeS l w) :=
  toNodeS l A c w hs (by have := bulkL_len GNode.bulk l; omega) (fun u hu A1 c1 w hat => toNode' u A1 c1 w (by have := bulkL_mem GNode.bulk l u hu; omega) hat)

set_option maxRecDepth 20000 in
theorem eqNodeS (l : List GNode) (A B : Option Addr) (c d : Nat) (w : World) (hs : Sl w (Lt w.heap.size) 5 A c (l.map GNode.toD)) (hs' : Sl w (Lt w.heap.size) 5 B d (l.map GNode.toD))
    (H : ∀ t, t ∈ l → ∀ (A1 : Option Addr) (c1 : Nat) (B1 : Option Addr) (d1 : Nat) (w : World), GNode.At w (Lt w.heap.size) A1 c1 t → GNode.At w (Lt w.heap.size) B1 d1 t →
      Calls Try.prog 32 #[.agg #[.int .i64 t.op, .int .i64 t.n, .string t.s, .string t.t, .slice A1 t.kids.length c1], .agg #[.int .i64 t.op, .int .i64 t.n, .string t.s, .string t.t, .slice B1 t.kids.length d1]] w fun e w' => e = .returned (.bool true) ∧ Below w.heap.size w w') :
    Calls Try.prog 12 #[.slice A l.length c, .slice B l.length d] w fun e w' => e = .returned (.bool true) ∧ Below w.heap.size w w' := by
  have hlen : l.length ≤ 9223372036854775807 := by simpa using hs.len
  have HH := Lib.hid H
  clear H
  go_enter Try.func12, Try.ntmps12
  go_wp2_with fail
  go_loopw [5] (fun i wr => ∃ (j : Nat), j ≤ l.length ∧ i = .int .i64 j ∧ Below w.heap.size w wr) (fun i _ => l.length - (intOf i).toNat)
  case atStart => exact ⟨0, by omega, by go_num, Below.refl _ _⟩
  case round =>
    obtain ⟨j, hj, rfl, hb⟩ := hrel
    have hsz := hb.size
    by_cases hlt : j < l.length
    · have hel := GNode.elem (hs.below hb (Nat.le_refl _)) j hlt
      obtain ⟨b, off, A1, c1, rfl, hSb, g0, g1, g2, g3, g4, hat⟩ := hel
      have hel := GNode.elem (hs'.below hb (Nat.le_refl _)) j hlt
      obtain ⟨b', off', B1, d1, rfl, hSb', g0', g1', g2', g3', g4', hat'⟩ := hel
      have hmem : l[j] ∈ l := List.getElem_mem hlt
      go_wp2_with fail
      refine wp_region_still_tail 8 (by kernel_rfl) (by kernel_rfl) ?_
      simp only [List.take_succ_cons, List.take_zero, List.drop_succ_cons, List.drop_zero]
      change wpStill _ _ wr.drew (fun a' => wpList _ _ _ _ a' wr.drew) _ _
      iterate 8 still_step
      refine wpStill_nil ?_
      go_wp2_with fail
      refine (HH.out _ hmem _ _ _ _ wr.drew (hat.keep fun b hb => ⟨Nat.lt_of_lt_of_le hb hsz, rfl⟩) (hat'.keep fun b hb => ⟨Nat.lt_of_lt_of_le hb hsz, rfl⟩)).mono ?_
      rintro e w1 ⟨rfl, hb1⟩
      go_wp2_with fail
      go_roundw
      case rel => exact ⟨j + 1, by omega, by go_num, hb.drew.trans (hb1.mono hsz)⟩
      case measure => simp [intOf]; omega
    · have hjl : j = l.length := by omega
      clear hjl
      go_wp2_with fail
      go_ret
      exact ⟨rfl, hb⟩

set_option maxRecDepth 20000 in
theorem eqNode (k : Nat) : ∀ (t : GNode) (A1 : Option Addr) (c1 : Nat) (B1 : Option Addr) (d1 : Nat) (w : World), t.bulk < k → GNode.At w (Lt w.heap.size) A1 c1 t → GNode.At w (Lt w.heap.size) B1 d1 t →
      Calls Try.prog 32 #[.agg #[.int .i64 t.op, .int .i64 t.n, .string t.s, .string t.t, .slice A1 t.kids.length c1], .agg #[.int .i64 t.op, .int .i64 t.n, .string t.s, .string t.t, .slice B1 t.kids.length d1]] w fun e w' => e = .returned (.bool true) ∧ Below w.heap.size w w' := by
  induction k with
  | zero => intro t A1 c1 B1 d1 w hk; omega
  | succ k ih =>
    intro t A1 c1 B1 d1 w hk hat hat2
    have hbe := t.bulk_eq
    have H3 := fun (w : World) hs hs' => eqNodeS t.kids A1 B1 c1 d1 w hs hs' (fun u hu A1 c1 B1 d1 w hat hat2 => ih u A1 c1 B1 d1 w (by have := bulkL_mem GNode.bulk t.kids u hu; omega) hat hat2)
    have HH := Lib.hid H3
    clear hbe H3 ih
    have hat' := Lib.hid hat
    have hat2' := Lib.hid hat2
    clear hat hat2
    have B0 : Below w.heap.size w ((w.alloc (.cells #[.int .i64 t.op, .int .i64 t.n, .string t.s, .string t.t, .slice A1 t.kids.length c1] 55)).alloc (.cells #[.int .i64 t.op, .int .i64 t.n, .string t.s, .string t.t, .slice B1 t.kids.length d1] 55)) := ((Below.refl _ _).alloc (Nat.le_refl _) _).alloc (by simp) _
    have ra0 := Lib.hid ((Row.new w 55 #[.int .i64 t.op, .int .i64 t.n, .string t.s, .string t.t, .slice A1 t.kids.length c1]).alloc (.cells #[.int .i64 t.op, .int .i64 t.n, .string t.s, .string t.t, .slice B1 t.kids.length d1] 55))
    have rb0 := Lib.hid (Row.new' (w.alloc (.cells #[.int .i64 t.op, .int .i64 t.n, .string t.s, .string t.t, .slice A1 t.kids.length c1] 55)) 55 #[.int .i64 t.op, .int .i64 t.n, .string t.s, .string t.t, .slice B1 t.kids.length d1] (g := w.heap.size + 1) (by simp))
    go_enter Try.func32, Try.ntmps32
    go_wp2_with fail
    obtain ⟨-, -, -, -, q4⟩ := hat'.out.below B0 B0.size
    obtain ⟨-, -, -, -, p4⟩ := hat2'.out.below B0 B0.size
    refine (HH.out _ q4 p4).mono ?_
    rintro e w1 ⟨rfl, hb1⟩
    have B1 := B0.trans (hb1.mono B0.size)
    go_wp2_with fail
    go_ret
    exact ⟨rfl, B1⟩

theorem eqNode' (t : GNode) (A1 : Option Addr) (c1 : Nat) (B1 : Option Addr) (d1 : Nat) (w : World) (hat : GNode.At w (Lt w.heap.size) A1 c1 t) (hat2 : GNode.At w (Lt w.heap.size) B1 d1 t) :
      Calls Try.prog 32 #[.agg #[.int .i64 t.op, .int .i64 t.n, .string t.s, .string t.t, .slice A1 t.kids.length c1], .agg #[.int .i64 t.op, .int .i64 t.n, .string t.s, .string t.t, .slice B1 t.kids.length d1]] w fun e w' => e = .returned (.bool true) ∧ Below w.heap.size w w' :=
  eqNode (t.bulk + 1) t A1 c1 B1 d1 w (by omega) hat hat2

theorem eqNodeS' (l : List GNode) (A B : Option Addr) (c d : Nat) (w : World) (hs : Sl w (Lt w.heap.size) 5 A c (l.map GNode.toD)) (hs' : Sl w (Lt w.heap.size) 5 B d (l.map GNode.toD)) :
    Calls Try.prog 12 #[.slice A l.length c, .slice B l.length d] w fun e w' => e = .returned (.bool true) ∧ Below w.heap.size w w' :=
  eqNodeS l A B c d w hs hs' (fun u _ A1 c1 B1 d1 w hat hat2 => eqNode' u A1 c1 B1 d1 w hat hat2)

end Go.Proofs.Ytnpkmebnmklcfaa

/- within and l1In: a number between two. Conditions: none. -/
namespace Go.Proofs.Ytnpkmebnmklcfaa
open Go.RowKit
set_option linter.unusedVariables false

/-- behind draws -/
theorem belowN {B : Nat} {a w : World} (h : Below B a w) (n : Nat) : Below B a (w.drewN n) := ⟨h.os, h.tape, h.output, h.size, h.block⟩

/-- is a number from one on, up to another? -/
def inB (n lo hi : Int) : Bool := decide (lo ≤ n ∧ n ≤ hi)
theorem inB_true {n lo hi : Int} (h : lo ≤ n ∧ n ≤ hi) : inB n lo hi = true := decide_eq_true h
theorem inB_false {n lo hi : Int} (h : ¬ (lo ≤ n ∧ n ≤ hi)) : inB n lo hi = false := decide_eq_false h


end Go.Proofs.Ytnpkmebnmklcfaa

/- Coverage: so many of anything, and two lists in a row, in both. Conditions: the sizes are bounded. -/
namespace Go.Proofs.Ytnpkmebnmklcfaa
open Go.RowKit
set_option linter.unusedVariables false
set_option linter.unusedSimpArgs false
set_option maxHeartbeats 1000000

/-- cells of anything -/
theorem anySl (X : Nat → Prop) (w : World) (hX : ∀ b, w.heap.size ≤ b → X b) (v : Value) (hv : ∀ g, v.ownBlock = some g → g < w.heap.size) :
    Sl (w.alloc (.cells #[.int .i64 17, .int .i64 0, .string ByteArray.empty, .string ByteArray.empty, .slice none 0 0] 55)) (fun b => b < (w.alloc (.cells #[.int .i64 17, .int .i64 0, .string ByteArray.empty, .string ByteArray.empty, .slice none 0 0] 55)).heap.size ∧ v.ownBlock ≠ some b ∧ X b) 5 (some ⟨w.heap.size, 0, none⟩) 1 ([anyN].map GNode.toD) :=
  slOne (T := 55) (cs := [.int .i64 17, .int .i64 0, .string ByteArray.empty, .string ByteArray.empty, .slice none 0 0]) (Row.new' _ _ _ rfl) (anyN_rd _ _ 0 (Nat.zero_le _) none) rfl ⟨by simp, fun e => by have := hv _ e; omega, hX _ (Nat.le_refl _)⟩

theorem zNode_cells : zNode.cells.size = 5 := rfl
end Go.Proofs.Ytnpkmebnmklcfaa

/- Coverage: slices.Concat of rows. Conditions: the result is bounded. -/
namespace Go.Proofs.Ytnpkmebnmklcfaa
open Go.RowKit
set_option linter.unusedVariables false
set_option linter.unusedSimpArgs false
set_option maxHeartbeats 1000000

theorem Sl.stay {X : Nat → Prop} {w w' : World} {size : Nat} {A : Option Addr} {c : Nat} {xs : List D} (h : Sl w (Lx X w) size A c xs) (hb : Below w.heap.size w w') : Sl w' (Lx X w) size A c xs := h.keep fun b hb' => ⟨hb', hb.block b hb'.1⟩
/-- two rows in a block -/
theorem slTwoRows {X : Nat → Prop} {w w' : World} {g : Nat} {T : TypeId} {A1 A2 : Option Addr} {c1 c2 : Nat} {r1 r2 : List GNode} (hr : Row w' g T #[.slice A1 r1.length c1, .slice A2 r2.length c2]) (hX : X g) (h1 : Sl w' (Lx X w') 5 A1 c1 (r1.map GNode.toD)) (h2 : Sl w' (Lx X w') 5 A2 c2 (r2.map GNode.toD)) :
    Sl w' (Lx X w') 1 (some ⟨g, 0, none⟩) 2 ([r1, r2].map rowD) := by
  refine ⟨by simp, by unfold maxLen; omega, .inr ⟨g, 0, rfl, ⟨hr.lt, hX⟩, ?_⟩⟩
  refine rdC_row [rowD r1, rowD r2] [.slice A1 r1.length c1, .slice A2 r2.length c2] 0 (fun j v hj => ?_) ?_
  · rw [Nat.zero_add, hr.cell]; simpa using hj
  · simp only [rdC]
    refine ⟨[.slice A1 r1.length c1], [.slice A2 r2.length c2], by simp, rfl, ?_, [.slice A2 r2.length c2], [], by simp, rfl, ?_, rfl⟩
    · unfold rowD; rw [D.rd_sl]; exact ⟨A1, c1, by simp, h1⟩
    · unfold rowD; rw [D.rd_sl]; exact ⟨A2, c2, by simp, h2⟩
/-- where the rest of a row lies -/
def tailA (b off size c : Nat) : Option Addr := if c = 1 then some ⟨b, off, none⟩ else some ⟨b, off + size, none⟩
theorem run_tail {P : Program} (T e : TypeId) (size : Nat) (ht : P.underlying T = some (.slice e)) (hi : (P.info? e).map (fun i => i.size) = some size) (b off n c : Nat) (hn : n < c) (w : World) :
    (Instr.slice T (.slice (some ⟨b, off, none⟩) (n + 1) c) (some (.int .i64 1)) none none).run P w = .ok (.slice (tailA b off size c) n (c - 1)) w := by
  have he : P.elem T = e := by simp [Program.elem, ht]
  obtain ⟨i, h1, h2⟩ := Option.map_eq_some_iff.1 hi
  subst h2
  rw [run_slice_l w T (some ⟨b, off, none⟩) (n + 1) c (by rw [he]; exact ht) .i64 1 (by omega) (by omega)]
  rw [he]
  simp only [sizeOf, typeInfo, Sem.run_bind, h1, Result.andThen_ok, Sem.run_pure, sliced, tailA]
  by_cases hc : c = 1
  · subst hc
    simp [h1, Result.andThen]
  · simp [h1, Result.andThen, hc, Addr.add]
theorem rowTail {w : World} {S : Nat → Prop} {b off c : Nat} {q : GNode} {t : List GNode} (h : Sl w S 5 (some ⟨b, off, none⟩) c ((q :: t).map GNode.toD)) : Sl w S 5 (tailA b off 5 c) (c - 1) (t.map GNode.toD) := by
  obtain ⟨b', off', A1, c1, e, _, _, _, _, _, _, _, _, _, h1, h2⟩ := row_head h
  obtain ⟨rfl, rfl⟩ : b = b' ∧ off = off' := by simpa using e
  unfold tailA
  split
  · rename_i hc
    rw [show c - 1 = 0 by omega]
    exact h2 hc
  · exact h1
theorem ret_sl {A : Option Addr} {n m c : Nat} (h : n = m) : Ending.returned (.slice A n c) = .returned (.slice A m c) := by rw [h]
theorem flat_take {α : Type} (ls : List (List α)) {j : Nat} (h : j < ls.length) : (ls.take (j + 1)).flatten = (ls.take j).flatten ++ ls[j] := by
  rw [take_snoc' ls j h, List.flatten_append]; simp
theorem flat_le {α : Type} (ls : List (List α)) (j : Nat) : (ls.take j).flatten.length ≤ ls.flatten.length := by
  conv => rhs; rw [← List.take_append_drop j ls]
  rw [List.flatten_append, List.length_append]; omega

end Go.Proofs.Ytnpkmebnmklcfaa

/- Coverage: the rows that fit, and the rest of rows, in the program and in the reference. Conditions: the sizes are bounded. -/
namespace Go.Proofs.Ytnpkmebnmklcfaa
open Go.RowKit
set_option linter.unusedVariables false
set_option linter.unusedSimpArgs false
set_option maxHeartbeats 1000000

theorem isAny_ne {p : GNode} (h1 : (p.op == 20) = false) (h2 : (p.op == 19) = false) : isAnyB p = true := by unfold isAnyB; simp [bne, h1, h2]
theorem isAny_con {p : GNode} (h1 : (p.op == 20) = true) : isAnyB p = false := by unfold isAnyB; simp [bne, h1]
theorem isAny_num {p : GNode} (h1 : (p.op == 19) = true) : isAnyB p = false := by unfold isAnyB; simp [bne, h1]
theorem implIsAny (p : GNode) (A1 : Option Addr) (c1 : Nat) (w : World) :
    Calls Try.prog 49 #[.agg #[.int .i64 p.op, .int .i64 p.n, .string p.s, .string p.t, .slice A1 p.kids.length c1]] w fun e w' => e = .returned (.bool (isAnyB p)) ∧ Below w.heap.size w w' := by
  have B := Lib.hid (show Below w.heap.size w (w.alloc (.cells #[.int .i64 p.op, .int .i64 p.n, .string p.s, .string p.t, .slice A1 p.kids.length c1] 55)) from (Below.refl _ _).alloc (Nat.le_refl _) _)
  cases h20 : (p.op == 20)
  case' true =>
    have HV := Lib.hid (isAny_con h20)
    have n20 : (p.op != 20) = false := by simp [bne, h20]
  case' false =>
    have n20 : (p.op != 20) = true := by simp [bne, h20]
    cases h19 : (p.op == 19)
    case' true =>
      have HV := Lib.hid (isAny_num h19)
      have n19 : (p.op != 19) = false := by simp [bne, h19]
    case' false =>
      have HV := Lib.hid (isAny_ne h20 h19)
      have n19 : (p.op != 19) = true := by simp [bne, h19]
  all_goals
    go_enter Try.func49, Try.ntmps49
    go_wp2_with fail
    go_ret
    exact ⟨ret_bool HV.out.symm, B.out⟩

def zRow : Value := .slice none 0 0
/-- a row in a block of its own, ahead of its append -/
theorem oneRow {X : Nat → Prop} {w w' : World} {A1 : Option Addr} {c1 : Nat} {r : List GNode} {T : TypeId} (v : Value) (hv : ∀ g, v.ownBlock = some g → g < w.heap.size) (hX : X w.heap.size) (e : w' = w.alloc (.cells #[.slice A1 r.length c1] T)) (hs : Sl w (fun b => b < w.heap.size ∧ v.ownBlock ≠ some b ∧ X b) 5 A1 c1 (r.map GNode.toD)) :
    Sl w' (fun b => b < w'.heap.size ∧ v.ownBlock ≠ some b ∧ X b) 1 (some ⟨w.heap.size, 0, none⟩) 1 ([r].map rowD) := by
  subst e
  have hB : Below w.heap.size w (w.alloc (.cells #[.slice A1 r.length c1] T)) := (Below.refl _ _).alloc (Nat.le_refl _) _
  exact slOneRow (Row.new w T #[.slice A1 r.length c1]) (hs.keep fun b hb => ⟨⟨Nat.lt_of_lt_of_le hb.1 hB.size, hb.2⟩, hB.block b hb.1⟩) ⟨by simp, fun h => by have := hv _ h; omega, hX⟩
/-- what does not lie in a growing slice's own row -/
def Xo (v : Value) (X : Nat → Prop) : Nat → Prop := fun b => v.ownBlock ≠ some b ∧ X b
theorem Xo.mk {v : Value} {X : Nat → Prop} {n : Nat} (hv : ∀ g, v.ownBlock = some g → g < n) (hX : ∀ b, n ≤ b → X b) : ∀ b, n ≤ b → Xo v X b := fun b hb => ⟨fun e => by have := hv b e; omega, hX b hb⟩
theorem restR_take {rows : List (List GNode)} {j : Nat} (h : j < rows.length) : restR (rows.take (j + 1)) = restR (rows.take j) ++ (rest1 rows[j]).toList := by
  unfold restR; rw [take_snoc' rows j h, List.filterMap_append]; cases hr : rest1 rows[j] <;> simp [hr]
theorem intoR_take {p : GNode} {rows : List (List GNode)} {j : Nat} (h : j < rows.length) : intoR p (rows.take (j + 1)) = intoR p (rows.take j) ++ (into1 p rows[j]).toList := by
  unfold intoR; rw [take_snoc' rows j h, List.filterMap_append]; cases hr : into1 p rows[j] <;> simp [hr]

theorem alikeB_def (q p : GNode) : alikeB q p = (q.op == p.op && q.s.toList == p.s.toList && q.n == p.n && q.kids.length == p.kids.length) := rfl
end Go.Proofs.Ytnpkmebnmklcfaa

/- Trees of cases: a row without what asks nothing, the place of a path, in the reference. Conditions: the sizes are bounded. -/
namespace Go.Proofs.Ytnpkmebnmklcfaa
open Go.RowKit
set_option linter.unusedVariables false
set_option linter.unusedSimpArgs false
set_option maxHeartbeats 1000000

/-- asks that are handed back in a row -/
def ToRow (r : GTrow) (w : World) (e : Ending) (w' : World) : Prop := ∃ A1 c1, e = .returned (.agg #[.int .i64 r.alt, .slice A1 r.asks.length c1]) ∧ Sl w' (Lt w'.heap.size) 6 A1 c1 (r.asks.map GAsk.toD) ∧ Below w.heap.size w w'
theorem Grx.keepX {X : Nat → Prop} {w w' : World} {B : Nat} {e : TypeId} {size : Nat} {v : Value} {n : Nat} {xs : List D} (h : Grx X w B e size v n xs) (hs : w.heap.size ≤ w'.heap.size) (hk : ∀ b, b < w.heap.size → X b ∨ B ≤ b → w'.heap[b]? = w.heap[b]?) : Grx X w' B e size v n xs := by
  have ho := h.own
  obtain ⟨h1, cs, h2, h4⟩ := h
  refine ⟨h1, cs, ⟨h2.1, ?_⟩, rdC_keep (fun b hb => ⟨⟨Nat.lt_of_lt_of_le hb.1 hs, hb.2⟩, hk b hb.1 (.inl hb.2.2)⟩) xs cs h4⟩
  rcases h2.2 with h | ⟨g, cap, cur, rfl, a1, a2, a3⟩
  · exact .inl h
  · exact .inr ⟨g, cap, cur, rfl, a1, (hk g (ho g rfl).2 (.inr a1)).trans a2, a3⟩
theorem Grx.slX {X : Nat → Prop} {w : World} {B : Nat} {e : TypeId} {size : Nat} {v : Value} {n : Nat} {xs : List D} (h : Grx X w B e size v n xs) : ∃ A c, v = .slice A n c ∧ Sl w (Lt w.heap.size) size A c xs := by
  have hlt := h.own
  obtain ⟨h1, cs, h2, h4⟩ := h
  rcases h2.2 with ⟨rfl, h⟩ | ⟨g, cap, cur, rfl, a1, a2, a3, a4, a5, a6⟩
  · have : xs = [] := List.eq_nil_of_length_eq_zero (by omega)
    subst this
    exact ⟨none, 0, by rw [h], Sl.nil (by unfold maxLen; omega)⟩
  · refine ⟨_, cap, rfl, by omega, a4, .inr ⟨g, 0, rfl, (hlt g rfl).2, ?_⟩⟩
    refine rdC_row xs cs 0 (fun j v hj => ?_) (rdC_keep (fun b hb => ⟨hb.1, rfl⟩) xs cs h4)
    rw [Nat.zero_add, Row.cell (t := e) (cs := cur) a2]
    rw [← a6, List.getElem?_take] at hj
    split at hj
    · simpa using hj
    · cases hj
theorem Grx.slY {X Y : Nat → Prop} {w : World} {B : Nat} {e : TypeId} {size : Nat} {v : Value} {n : Nat} {xs : List D} (h : Grx X w B e size v n xs) (hX : ∀ b, X b → Y b) (hB : ∀ b, B ≤ b → Y b) : ∃ A c, v = .slice A n c ∧ Sl w (fun b => Y b ∧ b < w.heap.size) size A c xs := by
  have hlt := h.own
  obtain ⟨h1, cs, h2, h4⟩ := h
  rcases h2.2 with ⟨rfl, h⟩ | ⟨g, cap, cur, rfl, a1, a2, a3, a4, a5, a6⟩
  · have : xs = [] := List.eq_nil_of_length_eq_zero (by omega)
    subst this
    exact ⟨none, 0, by rw [h], Sl.nil (by unfold maxLen; omega)⟩
  · refine ⟨_, cap, rfl, by omega, a4, .inr ⟨g, 0, rfl, ⟨hB _ (hlt g rfl).1, (hlt g rfl).2⟩, ?_⟩⟩
    refine rdC_row xs cs 0 (fun j v hj => ?_) (rdC_keep (fun b hb => ⟨⟨hX _ hb.2.2, hb.1⟩, rfl⟩) xs cs h4)
    rw [Nat.zero_add, Row.cell (t := e) (cs := cur) a2]
    rw [← a6, List.getElem?_take] at hj
    split at hj
    · simpa using hj
    · cases hj
/-- asks that are handed back in a row; they lie where the argument lay, or in new blocks -/
def ToRowS (S : Nat → Prop) (r : GTrow) (w : World) (e : Ending) (w' : World) : Prop := ∃ A1 c1, e = .returned (.agg #[.int .i64 r.alt, .slice A1 r.asks.length c1]) ∧ Sl w' (fun b => (S b ∨ w.heap.size ≤ b) ∧ b < w'.heap.size) 6 A1 c1 (r.asks.map GAsk.toD) ∧ Below w.heap.size w w'
theorem bareA_take {asks : List GAsk} {j : Nat} (h : j < asks.length) : bareA (asks.take (j + 1)) = bareA (asks.take j) ++ (if isAnyB asks[j].pat = true then [] else [asks[j]]) := by
  unfold bareA; rw [take_snoc' asks j h, List.filter_append]; cases hr : isAnyB asks[j].pat <;> simp [hr]
/-- what is not among the first three new blocks -/
def Xq (S : Nat → Prop) (B : Nat) : Nat → Prop := fun b => S b ∨ B + 3 ≤ b
def zAsk : Value := .agg #[.slice none 0 0, .int .i64 0, .int .i64 0, .string ⟨#[]⟩, .string ⟨#[]⟩, .slice none 0 0]
/-- an ask in a block of its own, ahead of its append -/
theorem oneAsk {X : Nat → Prop} {w w' : World} {A1 : Option Addr} {c1 : Nat} {A2 : Option Addr} {c2 : Nat} {r : GAsk} {T : TypeId} (v : Value) (hv : ∀ g, v.ownBlock = some g → g < w.heap.size) (hX : X w.heap.size) (hr : Row w' w.heap.size T #[.slice A1 r.path.length c1, .int .i64 r.pat.op, .int .i64 r.pat.n, .string r.pat.s, .string r.pat.t, .slice A2 r.pat.kids.length c2]) (hB : Below w.heap.size w w') (hs : GAsk.At w (fun b => b < w.heap.size ∧ v.ownBlock ≠ some b ∧ X b) A1 c1 A2 c2 r) :
    Sl w' (fun b => b < w'.heap.size ∧ v.ownBlock ≠ some b ∧ X b) 6 (some ⟨w.heap.size, 0, none⟩) 1 [r.toD] :=
  slOne (T := T) (cs := [.slice A1 r.path.length c1, .int .i64 r.pat.op, .int .i64 r.pat.n, .string r.pat.s, .string r.pat.t, .slice A2 r.pat.kids.length c2]) hr (GAsk.rd_mk (hs.keep fun b hb => ⟨⟨Nat.lt_of_lt_of_le hb.1 hB.size, hb.2⟩, hB.block b hb.1⟩)) rfl ⟨hr.lt, fun h => by have := hv _ h; omega, hX⟩

set_option maxRecDepth 20000 in
theorem specBareS (S : Nat → Prop) (r : GTrow) (A : Option Addr) (c : Nat) (w : World) (hl : r.asks.length ≤ 1048576) (hS : ∀ b, S b → b < w.heap.size) (hs : Sl w S 6 A c (r.asks.map GAsk.toD)) :
    Calls Try.prog 21 #[.agg #[.int .i64 r.alt, .slice A r.asks.length c]] w (ToRowS S ⟨r.alt, bareA r.asks⟩ w) := by
  have HS := Lib.hid hs
  have HSL := Lib.hid hS
  have HX3 := Lib.hid (fun q (hq : Xq S w.heap.size q ∨ w.heap.size + 3 ≤ q) => show q < w.heap.size ∨ w.heap.size + 3 ≤ q from by
    rcases hq with (h | h) | h
    · exact .inl (hS q h)
    · exact .inr h
    · exact .inr h)
  clear hs hS
  obtain ⟨w0, e0⟩ : ∃ w0, w0 = ((w.alloc (.cells #[.int .i64 r.alt, .slice A r.asks.length c] 58)).alloc (.cells #[.int .i64 0, .slice none 0 0] 58)).alloc (.cells #[.int .i64 r.alt, .slice none 0 0] 58) := ⟨_, rfl⟩
  have HB0 := Lib.hid (show Below w.heap.size w w0 by rw [e0]; exact (((Below.refl _ _).alloc (Nat.le_refl _) _).alloc (by simp) _).alloc (by simp; omega) _)
  have hs0 : w.heap.size + 3 ≤ w0.heap.size := by rw [e0]; simp
  have HRa0 := Lib.hid (show Row w0 w.heap.size 58 #[.int .i64 r.alt, .slice A r.asks.length c] by rw [e0]; exact ((Row.new' _ _ _ rfl).alloc _).alloc _)
  have HRz0 := Lib.hid (show Row w0 (w.heap.size + 1) 58 #[.int .i64 0, .slice none 0 0] by rw [e0]; exact (Row.new' _ _ _ (by simp)).alloc _)
  have HRo0 := Lib.hid (show Row w0 (w.heap.size + 1 + 1) 58 #[.int .i64 r.alt, .slice none 0 0] by rw [e0]; exact Row.new' _ _ _ (by simp))
  go_enter Try.func21, Try.ntmps21
  go_wp2_with fail
  rw [← e0]
  clear e0
  go_loopw [4] (fun i wr => ∃ (j m : Nat) (A' : Option Addr) (c' : Nat), j ≤ r.asks.length ∧ i = .int .i64 j ∧ m ≤ j ∧ Hid (Grx (Xq S w.heap.size) wr (w.heap.size + 3) 61 6 (.slice A' m c') m ((bareA (r.asks.take j)).map GAsk.toD)) ∧ Hid (Row wr w.heap.size 58 #[.int .i64 r.alt, .slice A r.asks.length c]) ∧ Hid (Row wr (w.heap.size + 1) 58 #[.int .i64 0, .slice none 0 0]) ∧ Hid (Row wr (w.heap.size + 1 + 1) 58 #[.int .i64 r.alt, .slice A' m c']) ∧ w.heap.size + 3 ≤ wr.heap.size ∧ Below w.heap.size w wr) (fun i _ => r.asks.length - (intOf i).toNat)
  case atStart => exact ⟨0, 0, none, 0, by omega, by go_num, by omega, Lib.hid (Grx.nil _ _ _ _ _), HRa0, HRz0, HRo0, hs0, HB0.out⟩
  case round =>
    clear HRa0 HRz0 HRo0 HB0 hs0
    obtain ⟨j, m, A', c', hj, rfl, hm, HG, HRa, HRz, HRo, hs3, hbl⟩ := hrel
    have hsz := hbl.size
    have hca := fun i => HRa.out.cell i
    have hco := fun i => HRo.out.cell i
    by_cases hlt : j < r.asks.length
    · obtain ⟨b, off, A1, c1, A2, c2, rfl, hSb, g0, g1, g2, g3, g4, g5, hat⟩ := GAsk.elem (HS.out.keep (w' := wr) (S' := S) fun q hq => ⟨hq, hbl.block q (HSL.out q hq)⟩) j hlt
      have hSb' : b < w.heap.size := HSL.out b hSb
      have hblt : b < wr.heap.size := Nat.lt_of_lt_of_le hSb' hsz
      have d1 : decide ((j : Int) < (r.asks.length : Int)) = true := decide_eq_true (by omega)
      have HT := Lib.hid (bareA_take (asks := r.asks) (j := j) hlt)
      have HAT := Lib.hid hat
      clear hat
      cases h20 : (r.asks[j].pat.op == 20)
      case' true =>
        have HV := Lib.hid (show bareA (r.asks.take (j + 1)) = bareA (r.asks.take j) ++ [r.asks[j]] by rw [HT.out, isAny_con h20]; simp)
      case' false =>
        cases h19 : (r.asks[j].pat.op == 19)
        case' true =>
          have HV := Lib.hid (show bareA (r.asks.take (j + 1)) = bareA (r.asks.take j) ++ [r.asks[j]] by rw [HT.out, isAny_num h19]; simp)
        case' false =>
          have HV := Lib.hid (show bareA (r.asks.take (j + 1)) = bareA (r.asks.take j) by rw [HT.out, isAny_ne h20 h19]; simp)
      case false.false =>
        go_wp2_with fail
        go_roundw
        case rel => exact ⟨j + 1, m, A', c', by omega, by go_num, by omega, Lib.hid (by rw [HV.out]; exact HG.out), HRa, HRz, HRo, hs3, hbl⟩
        case measure => simp [intOf]; omega
      all_goals
        have HOW := Lib.hid (fun g (hg : (Value.slice A' m c').ownBlock = some g) => HG.out.own g hg)
        obtain ⟨w5, e5⟩ : ∃ w5, w5 = (wr.alloc (.cells #[.slice A1 r.asks[j].path.length c1, .int .i64 r.asks[j].pat.op, .int .i64 r.asks[j].pat.n, .string r.asks[j].pat.s, .string r.asks[j].pat.t, .slice A2 r.asks[j].pat.kids.length c2] 61)).drew := ⟨_, rfl⟩
        have E5 := Lib.hid (show Below wr.heap.size wr w5 by rw [e5]; exact ((Below.refl _ _).alloc (Nat.le_refl _) _).drew)
        have T5 := Lib.hid (oneAsk (X := Xq S w.heap.size) (w := wr) (Value.slice A' m c') (fun g hg => (HOW.out g hg).2) (.inr hs3) (show Row w5 wr.heap.size 61 _ by rw [e5]; exact Row.new wr _ _) E5.out (HAT.out.keep (w' := wr) fun b hb => ⟨⟨Nat.lt_of_lt_of_le (HSL.out b hb) hsz, fun e => by have := (HOW.out b e).1; have h4 := HSL.out b hb; omega, .inl hb⟩, rfl⟩))
        have G5 := Lib.hid (HG.out.below E5.out)
        have hs5 := Nat.le_trans hs3 E5.out.size
        have hla := HRa.out.lt
        have hlo := HRo.out.lt
        go_wp2_with fail
        go_region_law (first
          | (rw [← e5]
             refine step_append_X w5 rfl (.tmp 34) (.tmp 40) 56 rfl 61 zAsk 6 96 Try.underlying56 (by kernel_rfl) rfl (by omega) (w.heap.size + 3) (.slice A' m c') m ((bareA (r.asks.take j)).map GAsk.toD) G5.out (some ⟨wr.heap.size, 0, none⟩) 1 1 [r.asks[j].toD] rfl T5.out hs5 (by unfold maxLen; omega) (by omega) rfl rfl ?_
             intro A6 c6 w6 G6 hGr6
             have G6h := Lib.hid G6
             have B6 := Lib.hid ((E5.out.mono hsz).trans (hGr6.below (B := w.heap.size) (by omega) (fun g hg => by have := (HOW.out g hg).1; omega)))
             have Z6 := Lib.hid hGr6.size
             have Ra6 := Lib.hid (hGr6.row (HRa.out.below E5.out (by omega)) (fun e => by have := (HOW.out _ e).1; omega))
             have Rz6 := Lib.hid (hGr6.row (HRz.out.below E5.out (by omega)) (fun e => by have := (HOW.out _ e).1; omega))
             have Ro6 := Lib.hid (hGr6.row (HRo.out.below E5.out (by omega)) (fun e => by have := (HOW.out _ e).1; omega))
             have hco6 := fun i => Ro6.out.cell i
             have hfo6 := fun i => Ro6.out.frozen i
             clear G6 hGr6))
        all_goals
          go_wp2_with fail
          go_roundw
          case rel =>
            have BB := hbl.trans (B6.out)
            have hz6 := Nat.le_trans E5.out.size Z6.out
            refine ⟨j + 1, m + 1, A6, c6, by omega, by go_num, by omega, Lib.hid ?_, Lib.hid ((Ra6.out).far (p := ⟨w.heap.size + 1 + 1, 1, none⟩) (by simp <;> omega) _), Lib.hid ((Rz6.out).far (p := ⟨w.heap.size + 1 + 1, 1, none⟩) (by simp <;> omega) _), Lib.hid (Ro6.out.set 1 _), ?_, BB.setCell (p := ⟨w.heap.size + 1 + 1, 1, none⟩) (by simp <;> omega) _⟩
            · rw [HV.out, List.map_append]
              exact G6h.out.keepX (by simp [World.setCell]) (fun q hq hq2 => Below.heap_setCell _ ⟨w.heap.size + 1 + 1, 1, none⟩ _ q (by rcases HX3.out q hq2 with h | h <;> simp <;> omega))
            · simp [World.setCell]; omega
          case measure => simp [intOf]; omega
    · have hjl : j = r.asks.length := by omega
      have d1 : decide ((j : Int) < (r.asks.length : Int)) = false := decide_eq_false (by omega)
      have HLE := Lib.hid (show r.asks.take j = r.asks by rw [hjl, List.take_length])
      have hl5 := HG.out.1
      rw [HLE.out, List.length_map] at hl5
      have hG := HG.out
      rw [HLE.out] at hG
      have hcz := fun i => HRz.out.cell i
      have hfz := fun i => HRz.out.frozen i
      have hG2 := hG.keepX (w' := setCells wr (w.heap.size + 1) 0 [.int .i64 r.alt, .slice A' m c']) (by rw [setCells_size]; exact Nat.le_refl _) (fun q hq hq2 => setCells_block _ _ _ _ _ (by rcases HX3.out q hq2 with h | h <;> omega))
      have BF := Lib.hid (setCells_below hbl (w.heap.size + 1) 0 (by omega) [.int .i64 r.alt, .slice A' m c'])
      have hsl := hG2.slY (Y := fun b => S b ∨ w.heap.size ≤ b) (fun b h => h.elim .inl (fun h => .inr (by omega))) (fun b h => .inr (by omega))
      have HSL := Lib.hid hsl
      clear hsl hG2 hG hjl
      go_wp2_with fail
      obtain ⟨A5, c5, e5, hs5⟩ := HSL.out
      obtain ⟨rfl, rfl⟩ : A' = A5 ∧ c' = c5 := by simpa using e5
      exact bodyPost_ret (v := .agg #[.int .i64 r.alt, .slice A' m c']) (by simp [results, Try.results21, go_sem, hca, hcz, hco]) rfl ⟨A', c', by rw [← hl5], hs5, BF.out⟩
theorem specBare (r : GTrow) (A : Option Addr) (c : Nat) (w : World) (hl : r.asks.length ≤ 1048576) (hs : Sl w (Lt w.heap.size) 6 A c (r.asks.map GAsk.toD)) :
    Calls Try.prog 21 #[.agg #[.int .i64 r.alt, .slice A r.asks.length c]] w (ToRow ⟨r.alt, bareA r.asks⟩ w) :=
  (specBareS (Lt w.heap.size) r A c w hl (fun _ h => h) hs).mono fun e w' ⟨A1, c1, e1, h1, h2⟩ => ⟨A1, c1, e1, h1.keep fun b hb => ⟨hb.2, rfl⟩, h2⟩
end Go.Proofs.Ytnpkmebnmklcfaa

/- Trees of cases: the place of a path among asks, and whether two ask the same, in the reference. Conditions: the sizes are bounded. -/
namespace Go.Proofs.Ytnpkmebnmklcfaa
open Go.RowKit
set_option linter.unusedVariables false
set_option linter.unusedSimpArgs false
set_option maxHeartbeats 1000000

set_option maxRecDepth 20000 in
theorem specFind (r : GTrow) (path : List Int) (A : Option Addr) (c : Nat) (B : Option Addr) (d : Nat) (w : World) (hl : r.asks.length ≤ 1048576) (hs : Sl w (Lt w.heap.size) 6 A c (r.asks.map GAsk.toD)) (hp : Sl w (Lt w.heap.size) 1 B d (path.map (D.num .i64))) :
    Calls Try.prog 56 #[.agg #[.int .i64 r.alt, .slice A r.asks.length c], .slice B path.length d] w fun e w' => e = .returned (.int .i64 (findA r.asks path)) ∧ Below w.heap.size w w' := by
  have HS := Lib.hid hs
  have HP := Lib.hid hp
  clear hs hp
  obtain ⟨w0, e0⟩ : ∃ w0, w0 = w.alloc (.cells #[.int .i64 r.alt, .slice A r.asks.length c] 58) := ⟨_, rfl⟩
  have HB0 := Lib.hid (show Below w.heap.size w w0 by rw [e0]; exact (Below.refl _ _).alloc (Nat.le_refl _) _)
  have HRa0 := Lib.hid (show Row w0 w.heap.size 58 #[.int .i64 r.alt, .slice A r.asks.length c] by rw [e0]; exact Row.new' _ _ _ rfl)
  go_enter Try.func56, Try.ntmps56
  go_wp2_with fail
  rw [← e0]
  clear e0
  go_loopw [5] (fun i wr => ∃ (j : Nat), j ≤ r.asks.length ∧ i = .int .i64 j ∧ Hid (noneTo (fun a : GAsk => a.path == path) r.asks j) ∧ Hid (Row wr w.heap.size 58 #[.int .i64 r.alt, .slice A r.asks.length c]) ∧ Below w.heap.size w wr) (fun i _ => r.asks.length - (intOf i).toNat)
  case atStart => exact ⟨0, by omega, by go_num, Lib.hid (noneTo_zero _ _), HRa0, HB0.out⟩
  case round =>
    clear HRa0 HB0
    obtain ⟨j, hj, rfl, HE, HRa, hbl⟩ := hrel
    have hsz := hbl.size
    have hca := fun i => HRa.out.cell i
    by_cases hlt : j < r.asks.length
    · obtain ⟨b, off, A1, c1, A2, c2, rfl, hSb, g0, g1, g2, g3, g4, g5, hat⟩ := GAsk.elem (HS.out.below hbl (Nat.le_refl _)) j hlt
      have d1 : decide ((j : Int) < (r.asks.length : Int)) = true := decide_eq_true (by omega)
      have HC := Lib.hid (specPathEq r.asks[j].path path A1 c1 B d wr (hat.1.keep fun q hq => ⟨Nat.lt_of_lt_of_le hq hsz, rfl⟩) (HP.out.below hbl hsz))
      clear hat
      go_wp2_with fail
      refine HC.out.mono ?_
      rintro e w2 ⟨rfl, hb2⟩
      have B2 := Lib.hid (hbl.trans (hb2.mono hsz))
      have R2 := Lib.hid (HRa.out.below hb2 HRa.out.lt)
      clear hb2
      cases he : (r.asks[j].path == path)
      · have HE2 := Lib.hid (noneTo_succ HE.out hlt he)
        clear he
        go_wp2_with fail
        go_roundw
        case rel => exact ⟨j + 1, by omega, by go_num, HE2, R2, B2.out⟩
        case measure => simp [intOf]; omega
      · have HV := Lib.hid (show findA r.asks path = (j : Int) from idxI_at HE.out hlt he)
        clear he
        go_wp2_with fail
        go_ret
        exact ⟨by rw [HV.out]; rfl, B2.out⟩
    · have d1 : decide ((j : Int) < (r.asks.length : Int)) = false := decide_eq_false (by omega)
      have hjl : j = r.asks.length := by omega
      have HV := Lib.hid (show findA r.asks path = -1 from idxI_none (hjl ▸ HE.out))
      clear hjl
      go_wp2_with fail
      go_ret
      exact ⟨by rw [HV.out]; rfl, hbl⟩
theorem sameP_def (p q : GNode) : sameP p q = (p.op == q.op && (p.s.toList == q.s.toList && p.n == q.n)) := rfl
theorem specAskAlike (p q : GNode) (A : Option Addr) (c : Nat) (B : Option Addr) (d : Nat) (w : World) :
    Calls Try.prog 57 #[.agg #[.int .i64 p.op, .int .i64 p.n, .string p.s, .string p.t, .slice A p.kids.length c], .agg #[.int .i64 q.op, .int .i64 q.n, .string q.s, .string q.t, .slice B q.kids.length d]] w fun e w' => e = .returned (.bool (sameP p q)) ∧ Below w.heap.size w w' := by
  have B := Lib.hid (show Below w.heap.size w ((w.alloc (.cells #[.int .i64 p.op, .int .i64 p.n, .string p.s, .string p.t, .slice A p.kids.length c] 55)).alloc (.cells #[.int .i64 q.op, .int .i64 q.n, .string q.s, .string q.t, .slice B q.kids.length d] 55)) from ((Below.refl _ _).alloc (Nat.le_refl _) _).alloc (by simp) _)
  cases h1 : (p.op == q.op)
  case' true => cases h2 : (p.s.toList == q.s.toList)
  case' true.true => cases h3 : (p.n == q.n)
  all_goals
    go_enter Try.func57, Try.ntmps57
    go_wp2_with fail
    go_ret
    exact ⟨ret_bool (by rw [sameP_def]; simp [*]), B.out⟩
end Go.Proofs.Ytnpkmebnmklcfaa

/- Trees of cases: the rows where an ask does not hold, in the reference. Conditions: the sizes are bounded. -/
namespace Go.Proofs.Ytnpkmebnmklcfaa
open Go.RowKit
set_option linter.unusedVariables false
set_option linter.unusedSimpArgs false
set_option maxHeartbeats 1000000

/-- rows that are handed back -/
def ToTrows (rows : List GTrow) (w : World) (e : Ending) (w' : World) : Prop := ∃ A1 c1, e = .returned (.slice A1 rows.length c1) ∧ Sl w' (Lt w'.heap.size) 2 A1 c1 (rows.map GTrow.toD) ∧ Below w.heap.size w w'
/-- what lies in S, or in new blocks -/
def Xs (S : Nat → Prop) (B : Nat) : Nat → Prop := fun b => S b ∨ B ≤ b
/-- rows that are handed back; they lie where the argument lay, or in new blocks -/
def ToTrowsS (S : Nat → Prop) (rows : List GTrow) (w : World) (e : Ending) (w' : World) : Prop := ∃ A1 c1, e = .returned (.slice A1 rows.length c1) ∧ Sl w' (fun b => Xs S w.heap.size b ∧ b < w'.heap.size) 2 A1 c1 (rows.map GTrow.toD) ∧ Below w.heap.size w w'
def zTrow : Value := .agg #[.int .i64 0, .slice none 0 0]
def askC (a : GAsk) (A1 : Option Addr) (c1 : Nat) (A2 : Option Addr) (c2 : Nat) : Array Value := #[.slice A1 a.path.length c1, .int .i64 a.pat.op, .int .i64 a.pat.n, .string a.pat.s, .string a.pat.t, .slice A2 a.pat.kids.length c2]
theorem noR_take {a : GAsk} {rows : List GTrow} {j : Nat} (h : j < rows.length) : noR a (rows.take (j + 1)) = noR a (rows.take j) ++ (if no1 a rows[j] = true then [rows[j]] else []) := by
  unfold noR; rw [take_snoc' rows j h, List.filter_append]; cases hr : no1 a rows[j] <;> simp [hr]

set_option maxRecDepth 20000 in
theorem specNo (S : Nat → Prop) (a : GAsk) (rows : List GTrow) (A : Option Addr) (c : Nat) (A1 : Option Addr) (c1 : Nat) (A2 : Option Addr) (c2 : Nat) (w : World) (hl : rows.length ≤ 1048576) (hb : ∀ r ∈ rows, r.asks.length ≤ 1048576) (hS : ∀ b, S b → b < w.heap.size) (hs : Sl w S 2 A c (rows.map GTrow.toD)) (ha : GAsk.At w (Lt w.heap.size) A1 c1 A2 c2 a) :
    Calls Try.prog 42 #[.slice A rows.length c, .agg (askC a A1 c1 A2 c2)] w (ToTrowsS S (noR a rows) w) := by
  unfold askC
  have HS := Lib.hid hs
  have HA := Lib.hid ha
  have HBD := Lib.hid hb
  have HSL := Lib.hid hS
  clear hs ha hb hS
  obtain ⟨w0, e0⟩ : ∃ w0, w0 = (w.alloc (.cells #[.slice A1 a.path.length c1, .int .i64 a.pat.op, .int .i64 a.pat.n, .string a.pat.s, .string a.pat.t, .slice A2 a.pat.kids.length c2] 61)).alloc (.cells #[] 58) := ⟨_, rfl⟩
  have HB0 := Lib.hid (show Below w.heap.size w w0 by rw [e0]; exact ((Below.refl _ _).alloc (Nat.le_refl _) _).alloc (by simp) _)
  have HRa0 := Lib.hid (show Row w0 w.heap.size 61 #[.slice A1 a.path.length c1, .int .i64 a.pat.op, .int .i64 a.pat.n, .string a.pat.s, .string a.pat.t, .slice A2 a.pat.kids.length c2] by rw [e0]; exact (Row.new' _ _ _ rfl).alloc _)
  have G0 := Lib.hid (show Grx (Xs S w.heap.size) w0 (w.heap.size + 1) 58 2 (.slice (some ⟨w.heap.size + 1, 0, none⟩) 0 0) 0 [] from Grx.made (by rw [e0]; exact Row.new' _ _ _ (by simp)) (Nat.le_refl _))
  have hs0 : w.heap.size + 1 ≤ w0.heap.size := by rw [e0]; simp
  go_enter Try.func42, Try.ntmps42
  go_wp2_with fail
  rw [← e0]
  clear e0
  go_loopw [5, 6] (fun v i wr => ∃ (j m : Nat) (A' : Option Addr) (c' : Nat), j ≤ rows.length ∧ i = .int .i64 j ∧ v = .slice A' m c' ∧ m ≤ j ∧ Hid (Grx (Xs S w.heap.size) wr (w.heap.size + 1) 58 2 (.slice A' m c') m ((noR a (rows.take j)).map GTrow.toD)) ∧ Hid (Row wr w.heap.size 61 #[.slice A1 a.path.length c1, .int .i64 a.pat.op, .int .i64 a.pat.n, .string a.pat.s, .string a.pat.t, .slice A2 a.pat.kids.length c2]) ∧ w.heap.size + 1 ≤ wr.heap.size ∧ Hid (Below w.heap.size w wr)) (fun _ i _ => rows.length - (intOf i).toNat)
  case atStart => exact ⟨0, 0, _, _, by omega, by go_num, rfl, by omega, G0, HRa0, hs0, HB0⟩
  case round =>
    clear HRa0 HB0 G0 hs0
    obtain ⟨j, m, A', c', hj, rfl, rfl, hm, HG, HRa, hs1, HB⟩ := hrel
    have hsz := HB.out.size
    have hca := fun i => HRa.out.cell i
    have HOW := Lib.hid (fun g (hg : (Value.slice A' m c').ownBlock = some g) => HG.out.own g hg)
    by_cases hlt : j < rows.length
    · obtain ⟨b, off, B1, d1, rfl, hSb, g0, g1, hat⟩ := GTrow.elem (HS.out.keep (w' := wr) (S' := S) fun q hq => ⟨hq, HB.out.block q (HSL.out q hq)⟩) j hlt
      have hSb' : b < w.heap.size := HSL.out b hSb
      have hbl : b < wr.heap.size := Nat.lt_of_lt_of_le hSb' hsz
      have dl : decide ((j : Int) < (rows.length : Int)) = true := decide_eq_true (by omega)
      have HAT := Lib.hid hat
      obtain ⟨fi, hfi⟩ : ∃ fi, findA rows[j].asks a.path = fi := ⟨_, rfl⟩
      have hff := specFind rows[j] a.path B1 d1 A1 c1 wr.drew (HBD.out _ (List.getElem_mem hlt)) (hat.2.keep fun q hq => ⟨Nat.lt_of_lt_of_le (HSL.out q hq) hsz, rfl⟩) ((HA.out.1.below HB.out (Nat.le_refl _)).keep fun q hq => ⟨Nat.lt_of_lt_of_le hq hsz, rfl⟩)
      rw [hfi] at hff
      have HF := Lib.hid hff
      have HFI := Lib.hid hfi
      clear hff hfi
      have HT := Lib.hid (noR_take (a := a) (rows := rows) (j := j) hlt)
      clear hat
      go_wp2_with fail
      go_region_law (first
        | (go_simp
           go_at_call 56
           go_must (
             refine HF.out.mono ?_
             rintro e w2 ⟨rfl, hb2⟩
             have E2 := Lib.hid (((Below.refl wr.heap.size wr).drew).trans hb2)
             have R2 := Lib.hid (HRa.out.below E2.out HRa.out.lt)
             have hca2 := fun i => R2.out.cell i
             clear hb2)))
      all_goals
        have B2 := Lib.hid (HB.out.trans (E2.out.mono hsz))
        have hs2 := Nat.le_trans hs1 E2.out.size
        have G2 := Lib.hid (HG.out.below E2.out)
        have k0 : w2.cell? ⟨b, off + j * 2, none⟩ = some (.int .i64 rows[j].alt) := (E2.out.cell (p := ⟨b, off + j * 2, none⟩) hbl).trans g0
        have k1 : w2.cell? ⟨b, off + j * 2 + 1, none⟩ = some (.slice B1 rows[j].asks.length d1) := (E2.out.cell (p := ⟨b, off + j * 2 + 1, none⟩) hbl).trans g1
        clear g0 g1 hca
        by_cases hn : fi < 0
        · have HV := Lib.hid (show noR a (rows.take (j + 1)) = noR a (rows.take j) ++ [rows[j]] by rw [HT.out]; unfold no1; rw [HFI.out]; simp [hn])
          have dn : decide (fi < 0) = true := decide_eq_true hn
          have HN := Lib.hid hn
          clear hn
          go_wp2_with fail
          go_simp
          go_big_quiet (fail)
          obtain ⟨w3, e3⟩ : ∃ w3, w3 = w2.drewN nq := ⟨_, rfl⟩
          have E3 := Lib.hid (show Below w2.heap.size w2 w3 by rw [e3]; exact ⟨rfl, rfl, rfl, Nat.le_refl _, fun _ _ => rfl⟩)
          have c0 : w3.cell? ⟨b, off + j * 2, none⟩ = some (.int .i64 rows[j].alt) := by rw [e3]; exact k0
          have c1 : w3.cell? ⟨b, off + j * 2 + 1, none⟩ = some (.slice B1 rows[j].asks.length d1) := by rw [e3]; exact k1
          rw [← e3]
          clear e3
          obtain ⟨w5, e5⟩ : ∃ w5, w5 = w3.alloc (.cells #[.int .i64 rows[j].alt, .slice B1 rows[j].asks.length d1] 58) := ⟨_, rfl⟩
          have E5 := Lib.hid (show Below w2.heap.size w2 w5 by rw [e5]; exact E3.out.alloc E3.out.size _)
          have hs3 := Nat.le_trans hs2 E3.out.size
          have hs5 := Nat.le_trans hs2 E5.out.size
          have G5 := Lib.hid (G2.out.below E5.out)
          have B5 := Lib.hid (B2.out.trans (E5.out.mono (Nat.le_trans (Nat.le_succ _) hs2)))
          have T5 := Lib.hid (show Sl w5 (fun b => b < w5.heap.size ∧ (Value.slice A' m c').ownBlock ≠ some b ∧ Xs S w.heap.size b) 2 (some ⟨w3.heap.size, 0, none⟩) 1 [(rows[j]).toD] from
            slOne (T := 58) (cs := [.int .i64 rows[j].alt, .slice B1 rows[j].asks.length d1]) (by rw [e5]; exact Row.new' _ _ _ rfl) (GTrow.rd_mk (HAT.out.keep fun q hq => ⟨⟨Nat.lt_of_lt_of_le (HSL.out q hq) B5.out.size, fun e => by have := (HOW.out q e).1; have h4 := HSL.out q hq; omega, .inl hq⟩, ((E2.out.trans (E5.out.mono E2.out.size)).block q (Nat.lt_of_lt_of_le (HSL.out q hq) hsz))⟩)) rfl ⟨by rw [e5]; simp, fun e => by have := (HOW.out _ e).2; have := E2.out.size; have := E3.out.size; omega, .inr (by have := E2.out.size; have := E3.out.size; omega)⟩)
          go_wp2_with (first
            | (at_builtin
               rw [← e5]
               refine wpList_append_X w5 rfl (.tmp 39) (.tmp 44) 50 rfl 58 zTrow 2 32 Try.underlying50 (by kernel_rfl) rfl (by omega) (w.heap.size + 1) (.slice A' m c') m _ G5.out (some ⟨w3.heap.size, 0, none⟩) 1 1 _ rfl T5.out hs5 (by unfold maxLen; omega) (by omega) rfl rfl ?_
               intro A6 c6 w6 G6 hGr6
               have G6h := Lib.hid G6
               have Z6 := Lib.hid (Nat.le_trans hs5 hGr6.size)
               have Ra6 := Lib.hid (hGr6.row (R2.out.below E5.out R2.out.lt) (fun e => by have := (HOW.out _ e).1; omega))
               have B6 := Lib.hid (B5.out.trans (hGr6.below (B := w.heap.size) (by omega) (fun g hg => by have := (HOW.out g hg).1; omega)))
               clear G6 hGr6))
          go_roundw
          case rel => exact ⟨j + 1, m + 1, A6, c6, by omega, by go_num, rfl, by omega, Lib.hid (by rw [HV.out, List.map_append]; exact G6h.out), Ra6, Z6.out, B6⟩
          case measure => simp [intOf]; omega
        · obtain ⟨k, hk, ek, hpk, -⟩ := idxI_spec (p := fun x : GAsk => x.path == a.path) (l := rows[j].asks) (show 0 ≤ findA rows[j].asks a.path by rw [HFI.out]; omega)
          obtain rfl : fi = (k : Int) := by rw [← HFI.out]; exact ek
          obtain ⟨b2, off2, D1, f1, D2, f2, rfl, hSb2, q0, q1, q2, q3, q4, q5, hatk⟩ := GAsk.elem (HAT.out.2.keep (w' := w2) (S' := Lt wr.heap.size) fun q hq => ⟨Nat.lt_of_lt_of_le (HSL.out q hq) hsz, E2.out.block q (Nat.lt_of_lt_of_le (HSL.out q hq) hsz)⟩) k hk
          have hSb2' : b2 < wr.heap.size := hSb2
          have hkl := HBD.out _ (List.getElem_mem hlt)
          have dn : decide ((k : Int) < 0) = false := decide_eq_false hn
          have HNO := Lib.hid (show no1 a rows[j] = !sameP rows[j].asks[k].pat a.pat by
            unfold no1
            rw [HFI.out, if_neg hn]
            simp [hk])
          have HAL := Lib.hid (fun x : World => specAskAlike rows[j].asks[k].pat a.pat D2 f2 A2 c2 x)
          have hbw2 := Nat.lt_of_lt_of_le hbl E2.out.size
          have hb2w := Nat.lt_of_lt_of_le hSb2' E2.out.size
          clear hpk ek hn hatk
          go_wp2_with fail
          go_simp
          go_region_held3 (fun w' => (∀ i, w'.cell? ⟨w.heap.size, i, none⟩ = (#[.slice A1 a.path.length c1, .int .i64 a.pat.op, .int .i64 a.pat.n, .string a.pat.s, .string a.pat.t, .slice A2 a.pat.kids.length c2] : Array Value)[i]?) ∧ w'.cell? ⟨b, off + j * 2 + 1, none⟩ = some (.slice (some ⟨b2, off2, none⟩) rows[j].asks.length d1) ∧ w'.cell? ⟨b2, off2 + k * 6 + 1, none⟩ = some (.int .i64 rows[j].asks[k].pat.op) ∧ w'.cell? ⟨b2, off2 + k * 6 + 1 + 1, none⟩ = some (.int .i64 rows[j].asks[k].pat.n) ∧ w'.cell? ⟨b2, off2 + k * 6 + 1 + 2, none⟩ = some (.string rows[j].asks[k].pat.s) ∧ w'.cell? ⟨b2, off2 + k * 6 + 1 + 3, none⟩ = some (.string rows[j].asks[k].pat.t) ∧ w'.cell? ⟨b2, off2 + k * 6 + 1 + 4, none⟩ = some (.slice D2 rows[j].asks[k].pat.kids.length f2)) (first | exact ⟨hca2, k1, q1, q2, q3, q4, q5⟩ | exact ⟨hca3, l1, r1, r2, r3, r4, r5⟩) (first
            | (go_at_call 57
               go_must (
                 refine (HAL.out w2.drew).mono ?_
                 rintro e w3 ⟨rfl, hb3⟩
                 have E3 := Lib.hid (((Below.refl w2.heap.size w2).drew).trans hb3)
                 have R3 := Lib.hid (R2.out.below E3.out R2.out.lt)
                 have hca3 := fun i => R3.out.cell i
                 have l1 := (E3.out.cell (p := ⟨b, off + j * 2 + 1, none⟩) hbw2).trans k1
                 have r1 := (E3.out.cell (p := ⟨b2, off2 + k * 6 + 1, none⟩) hb2w).trans q1
                 have r2 := (E3.out.cell (p := ⟨b2, off2 + k * 6 + 1 + 1, none⟩) hb2w).trans q2
                 have r3 := (E3.out.cell (p := ⟨b2, off2 + k * 6 + 1 + 2, none⟩) hb2w).trans q3
                 have r4 := (E3.out.cell (p := ⟨b2, off2 + k * 6 + 1 + 3, none⟩) hb2w).trans q4
                 have r5 := (E3.out.cell (p := ⟨b2, off2 + k * 6 + 1 + 4, none⟩) hb2w).trans q5
                 clear hb3)))
          all_goals
            cases hsp : sameP rows[j].asks[k].pat a.pat
            · have HV := Lib.hid (show noR a (rows.take (j + 1)) = noR a (rows.take j) ++ [rows[j]] by rw [HT.out, HNO.out, hsp]; rfl)
              have c0 : w3.cell? ⟨b, off + j * 2, none⟩ = some (.int .i64 rows[j].alt) := (E3.out.cell (p := ⟨b, off + j * 2, none⟩) hbw2).trans k0
              have hs3 := Nat.le_trans hs2 E3.out.size
              clear hsp k0 k1 q0 q1 q2 q3 q4 q5 r1 r2 r3 r4 r5 hca2 hca3
              obtain ⟨w5, e5⟩ : ∃ w5, w5 = w3.alloc (.cells #[.int .i64 rows[j].alt, .slice (some ⟨b2, off2, none⟩) rows[j].asks.length d1] 58) := ⟨_, rfl⟩
              have E5 := Lib.hid (show Below w2.heap.size w2 w5 by rw [e5]; exact E3.out.alloc E3.out.size _)
              have hs5 := Nat.le_trans hs2 E5.out.size
              have G5 := Lib.hid (G2.out.below E5.out)
              have B5 := Lib.hid (B2.out.trans (E5.out.mono (Nat.le_trans (Nat.le_succ _) hs2)))
              have T5 := Lib.hid (show Sl w5 (fun b => b < w5.heap.size ∧ (Value.slice A' m c').ownBlock ≠ some b ∧ Xs S w.heap.size b) 2 (some ⟨w3.heap.size, 0, none⟩) 1 [(rows[j]).toD] from
                slOne (T := 58) (cs := [.int .i64 rows[j].alt, .slice (some ⟨b2, off2, none⟩) rows[j].asks.length d1]) (by rw [e5]; exact Row.new' _ _ _ rfl) (GTrow.rd_mk (HAT.out.keep fun q hq => ⟨⟨Nat.lt_of_lt_of_le (HSL.out q hq) B5.out.size, fun e => by have := (HOW.out q e).1; have h4 := HSL.out q hq; omega, .inl hq⟩, ((E2.out.trans (E5.out.mono E2.out.size)).block q (Nat.lt_of_lt_of_le (HSL.out q hq) hsz))⟩)) rfl ⟨by rw [e5]; simp, fun e => by have := (HOW.out _ e).2; have := E2.out.size; have := E3.out.size; omega, .inr (by have := E2.out.size; have := E3.out.size; omega)⟩)
              go_wp2_with (first
                | (at_builtin
                   rw [← e5]
                   refine wpList_append_X w5 rfl (.tmp 39) (.tmp 44) 50 rfl 58 zTrow 2 32 Try.underlying50 (by kernel_rfl) rfl (by omega) (w.heap.size + 1) (.slice A' m c') m _ G5.out (some ⟨w3.heap.size, 0, none⟩) 1 1 _ rfl T5.out hs5 (by unfold maxLen; omega) (by omega) rfl rfl ?_
                   intro A6 c6 w6 G6 hGr6
                   have G6h := Lib.hid G6
                   have Z6 := Lib.hid (Nat.le_trans hs5 hGr6.size)
                   have Ra6 := Lib.hid (hGr6.row (R2.out.below E5.out R2.out.lt) (fun e => by have := (HOW.out _ e).1; omega))
                   have B6 := Lib.hid (B5.out.trans (hGr6.below (B := w.heap.size) (by omega) (fun g hg => by have := (HOW.out g hg).1; omega)))
                   clear G6 hGr6))
              go_roundw
              case rel => exact ⟨j + 1, m + 1, A6, c6, by omega, by go_num, rfl, by omega, Lib.hid (by rw [HV.out, List.map_append]; exact G6h.out), Ra6, Z6.out, B6⟩
              case measure => simp [intOf]; omega
            · have HV := Lib.hid (show noR a (rows.take (j + 1)) = noR a (rows.take j) by rw [HT.out, HNO.out, hsp]; simp)
              have B3 := Lib.hid (B2.out.trans (E3.out.mono (Nat.le_trans (Nat.le_succ _) hs2)))
              have G3 := Lib.hid (G2.out.below E3.out)
              have hs3 := Nat.le_trans hs2 E3.out.size
              clear hsp k0 k1 q0 q1 q2 q3 q4 q5 r1 r2 r3 r4 r5 hca2 hca3
              go_wp2_with fail
              go_roundw
              case rel => exact ⟨j + 1, m, A', c', by omega, by go_num, rfl, by omega, Lib.hid (by rw [HV.out]; exact G3.out), R3, hs3, B3⟩
              case measure => simp [intOf]; omega
    · have hje : j = rows.length := by omega
      have HLE := Lib.hid (show rows.take j = rows by rw [hje, List.take_length])
      have dl : decide ((j : Int) < (rows.length : Int)) = false := decide_eq_false (by omega)
      clear hje
      go_wp2_with fail
      go_ret
      have hG := HG.out
      rw [HLE.out] at hG
      obtain ⟨A5, c5, e5, hs5⟩ := hG.slY (Y := Xs S w.heap.size) (fun _ h => h) (fun b h => .inr (by omega))
      have hl5 := hG.1
      obtain ⟨rfl, rfl⟩ : A' = A5 ∧ c' = c5 := by simpa using e5
      exact ⟨A', c', ret_sl (by rw [← hl5]; simp), hs5, HB.out⟩
end Go.Proofs.Ytnpkmebnmklcfaa

/- Trees of cases: how much rows of asks hold (no program in sight). Conditions: none. -/
namespace Go.Proofs.Ytnpkmebnmklcfaa
open Go.RowKit
set_option linter.unusedVariables false
set_option linter.unusedSimpArgs false

/-- how much the patterns of asks hold -/
def asksM (l : List GAsk) : Nat := bulkL (fun x : GAsk => x.pat.bulk) l
theorem asksM_nil : asksM [] = 0 := rfl
theorem asksM_cons (x : GAsk) (l : List GAsk) : asksM (x :: l) = 1 + x.pat.bulk + asksM l := rfl
theorem asksM_append : ∀ (a b : List GAsk), asksM (a ++ b) = asksM a + asksM b
  | [], b => by simp [asksM_nil]
  | x :: a, b => by rw [List.cons_append, asksM_cons, asksM_cons, asksM_append a b]; omega
theorem asksM_len (l : List GAsk) : l.length ≤ asksM l := bulkL_len _ l
theorem asksM_mem {l : List GAsk} {x : GAsk} (h : x ∈ l) : x.pat.bulk + 1 ≤ asksM l := bulkL_mem (fun x : GAsk => x.pat.bulk) l x h
theorem asksM_bare : ∀ (l : List GAsk), asksM (bareA l) ≤ asksM l
  | [] => Nat.le_refl _
  | x :: l => by
    have h := asksM_bare l
    unfold bareA at h ⊢
    rw [List.filter_cons]
    split
    · rw [asksM_cons, asksM_cons]; omega
    · rw [asksM_cons]; omega
theorem kidsA_len (p : List Int) : ∀ (i : Nat) (l : List GNode), (kidsA p i l).length = l.length
  | _, [] => rfl
  | i, k :: r => by show (kidsA p (i + 1) r).length + 1 = r.length + 1; rw [kidsA_len p (i + 1) r]
theorem kidsA_M (p : List Int) : ∀ (i : Nat) (l : List GNode), asksM (kidsA p i l) = bulkL GNode.bulk l
  | _, [] => rfl
  | i, k :: r => by show 1 + k.bulk + asksM (kidsA p (i + 1) r) = 1 + k.bulk + bulkL GNode.bulk r; rw [kidsA_M p (i + 1) r]
theorem kidsA_snoc (p : List Int) (x : GNode) : ∀ (i : Nat) (l : List GNode), kidsA p i (l ++ [x]) = kidsA p i l ++ [⟨p ++ [((i + l.length : Nat) : Int)], x⟩]
  | i, [] => rfl
  | i, k :: r => by
    show ⟨p ++ [(i : Int)], k⟩ :: kidsA p (i + 1) (r ++ [x]) = ⟨p ++ [(i : Int)], k⟩ :: (kidsA p (i + 1) r ++ [⟨p ++ [((i + (r.length + 1) : Nat) : Int)], x⟩])
    rw [kidsA_snoc p x (i + 1) r, show i + 1 + r.length = i + (r.length + 1) by omega]
theorem kidsA_take (p : List Int) (l : List GNode) (i : Nat) (h : i < l.length) : kidsA p 0 (l.take (i + 1)) = kidsA p 0 (l.take i) ++ [⟨p ++ [(i : Int)], l[i]⟩] := by
  rw [take_snoc' l i h, kidsA_snoc]
  simp [Nat.min_eq_left (Nat.le_of_lt h)]
theorem kidsA_mem (p : List Int) : ∀ (i : Nat) (l : List GNode) (x : GAsk), x ∈ kidsA p i l → x.path.length = p.length + 1 ∧ x.pat ∈ l
  | _, [], x, h => by cases h
  | i, k :: r, x, h => by
    have h2 : x ∈ (⟨p ++ [(i : Int)], k⟩ : GAsk) :: kidsA p (i + 1) r := h
    rcases List.mem_cons.1 h2 with rfl | h3
    · simp
    · have := kidsA_mem p (i + 1) r x h3
      exact ⟨this.1, List.mem_cons_of_mem _ this.2⟩
theorem asksM_split (l : List GAsk) (k : Nat) (h : k < l.length) : asksM l = asksM (l.take k) + (1 + l[k].pat.bulk) + asksM (l.drop (k + 1)) := by
  have h1 : l = l.take k ++ (l[k] :: l.drop (k + 1)) := by rw [← List.drop_eq_getElem_cons h, List.take_append_drop]
  calc asksM l = asksM (l.take k ++ (l[k] :: l.drop (k + 1))) := by rw [← h1]
    _ = _ := by rw [asksM_append, asksM_cons]; omega
/-- what stands where an ask held -/
theorem asksM_turned (l : List GAsk) (k : Nat) (h : k < l.length) (p : List Int) : asksM (l.take k ++ kidsA p 0 l[k].pat.kids ++ l.drop (k + 1)) ≤ asksM l := by
  rw [asksM_append, asksM_append, kidsA_M, asksM_split l k h]
  have := GNode.bulk_eq l[k].pat
  omega
theorem bareA_all {l : List GAsk} (h : ∀ x ∈ l, isAnyB x.pat = false) : bareA l = l := by
  unfold bareA
  rw [List.filter_eq_self]
  intro x hx
  simp [h x hx]
theorem bareA_append (a b : List GAsk) : bareA (a ++ b) = bareA a ++ bareA b := by unfold bareA; exact List.filter_append ..
theorem bareA_turned {l : List GAsk} (h : ∀ x ∈ l, isAnyB x.pat = false) (k : Nat) (m : List GAsk) : bareA (l.take k ++ m ++ l.drop (k + 1)) = l.take k ++ bareA m ++ l.drop (k + 1) := by
  rw [bareA_append, bareA_append, bareA_all fun x hx => h x (List.mem_of_mem_take hx), bareA_all fun x hx => h x (List.mem_of_mem_drop hx)]
/-- rows that may be split: all their asks ask, and none lies deeper than n -/
def RowsOk (n : Nat) (rows : List GTrow) : Prop := ∀ r ∈ rows, asksM r.asks ≤ 1048576 ∧ ∀ x ∈ r.asks, isAnyB x.pat = false ∧ x.path.length ≤ n
theorem RowsOk.mono {n m : Nat} {rows : List GTrow} (h : RowsOk n rows) (hm : n ≤ m) : RowsOk m rows := fun r hr => ⟨(h r hr).1, fun x hx => ⟨((h r hr).2 x hx).1, Nat.le_trans ((h r hr).2 x hx).2 hm⟩⟩
theorem RowsOk.no {n : Nat} {rows : List GTrow} (h : RowsOk n rows) (a : GAsk) : RowsOk n (noR a rows) := fun r hr => h r ((List.mem_filter.1 hr).1)
theorem RowsOk.yes {n : Nat} {rows : List GTrow} (h : RowsOk n rows) (a : GAsk) (ha : a.path.length ≤ n) : RowsOk (n + 1) (yesR a rows) := by
  intro r hr
  unfold yesR at hr
  obtain ⟨r0, h0, h1⟩ := List.mem_filterMap.1 hr
  have H := h r0 h0
  unfold yes1 at h1
  split at h1
  · obtain rfl := Option.some.inj h1
    exact ⟨H.1, fun x hx => ⟨(H.2 x hx).1, Nat.le_succ_of_le (H.2 x hx).2⟩⟩
  · rename_i hf
    split at h1
    · rename_i x hx
      split at h1
      · obtain rfl := Option.some.inj h1
        obtain ⟨hk, rfl⟩ := List.getElem?_eq_some_iff.1 hx
        refine ⟨?_, fun y hy => ?_⟩
        · have h2 := asksM_turned r0.asks (findA r0.asks a.path).toNat hk a.path
          have h3 := asksM_bare (kidsA a.path 0 r0.asks[(findA r0.asks a.path).toNat].pat.kids)
          have h4 := H.1
          rw [asksM_append, asksM_append] at h2 ⊢
          omega
        · rcases List.mem_append.1 hy with hy | hy
          · rcases List.mem_append.1 hy with hy | hy
            · have := H.2 y (List.mem_of_mem_take hy)
              exact ⟨this.1, Nat.le_succ_of_le this.2⟩
            · unfold bareA at hy
              have h5 := List.mem_filter.1 hy
              have h6 := kidsA_mem _ _ _ _ h5.1
              exact ⟨by simpa using h5.2, by omega⟩
          · have := H.2 y (List.mem_of_mem_drop hy)
            exact ⟨this.1, Nat.le_succ_of_le this.2⟩
      · cases h1
    · cases h1
end Go.Proofs.Ytnpkmebnmklcfaa

/- Parts of a slice: what lies ahead of a place, and from a place on (no program in sight). Conditions: none. -/
namespace Go.Proofs.Ytnpkmebnmklcfaa
open Go.RowKit
set_option linter.unusedVariables false
set_option linter.unusedSimpArgs false
/-- where the part from the k-th on lies -/
def restAt (b off size k c : Nat) : Option Addr := if c = k then some ⟨b, off, none⟩ else some ⟨b, off + k * size, none⟩
theorem run_restAt {P : Program} (T e : TypeId) (size : Nat) (ht : P.underlying T = some (.slice e)) (hi : (P.info? e).map (fun i => i.size) = some size) (b off n c k : Nat) (i : Int) (hik : i = (k : Int)) (hk : k ≤ n) (hn : n ≤ c) (w : World) :
    (Instr.slice T (.slice (some ⟨b, off, none⟩) n c) (some (.int .i64 i)) none none).run P w = .ok (.slice (restAt b off size k c) (n - k) (c - k)) w := by
  subst hik
  have he : P.elem T = e := by simp [Program.elem, ht]
  obtain ⟨i, h1, h2⟩ := Option.map_eq_some_iff.1 hi
  subst h2
  rw [run_slice_l w T (some ⟨b, off, none⟩) n c (by rw [he]; exact ht) .i64 k (by omega) (by omega)]
  rw [he]
  simp only [sizeOf, typeInfo, Sem.run_bind, h1, Result.andThen_ok, Sem.run_pure, sliced, restAt]
  by_cases hc : c = k
  · subst hc
    simp [h1, Result.andThen]
  · simp [h1, Result.andThen, hc, Addr.add]
theorem run_headAt {P : Program} (T e : TypeId) (size : Nat) (ht : P.underlying T = some (.slice e)) (hi : (P.info? e).map (fun i => i.size) = some size) (b off n c k : Nat) (i : Int) (hik : i = (k : Int)) (hk : k ≤ c) (w : World) :
    (Instr.slice T (.slice (some ⟨b, off, none⟩) n c) none (some (.int .i64 i)) none).run P w = .ok (.slice (some ⟨b, off, none⟩) k c) w := by
  subst hik
  have he : P.elem T = e := by simp [Program.elem, ht]
  obtain ⟨i, h1, h2⟩ := Option.map_eq_some_iff.1 hi
  subst h2
  rw [run_slice_h w T (some ⟨b, off, none⟩) n c (by rw [he]; exact ht) .i64 k (by omega) (by omega)]
  rw [he]
  simp only [sizeOf, typeInfo, Sem.run_bind, h1, Result.andThen_ok, Sem.run_pure, sliced]
  simp [h1, Result.andThen, Addr.add]
theorem Sl.restAt {w : World} {S : Nat → Prop} {size b off c k : Nat} {xs : List D} (h : Sl w S size (some ⟨b, off, none⟩) c xs) (hk : k ≤ xs.length) : Sl w S size (restAt b off size k c) (c - k) (xs.drop k) := by
  have hl := h.1
  unfold Go.Proofs.Ytnpkmebnmklcfaa.restAt
  split
  · rename_i hc
    have hcl : c ≤ maxLen := h.2.1
    have : xs.drop k = [] := List.drop_eq_nil_of_le (by omega)
    rw [this]
    exact Sl.nil (by omega)
  · exact Sl.drop h k hk
end Go.Proofs.Ytnpkmebnmklcfaa

/- A region that draws its order and ends in a store into a cell that it loads: the loads taken first, for what holds of the world till the store. Conditions: none. -/
namespace Go.Proofs.Ytnpkmebnmklcfaa
open Go Go.RowKit
set_option linter.unusedVariables false
set_option linter.unusedSimpArgs false

section
variable {P : Program} {ops : Array Oper} {Q : Exit → Act → World → Prop} {md : Region.Mode} {S : World → Prop} {n : Nat}

/-- In whatever order; behind each operation but number n S holds. -/
def wpAnyT (P : Program) (md : Region.Mode) (ops : Array Oper) (Q : Exit → Act → World → Prop) (S : World → Prop) (n : Nat) : Nat → Array Bool → Act → World → Prop
  | 0, listed, a, w => Region.ready md ops listed = [] ∧ Q .normal a w
  | fuel + 1, listed, a, w =>
    (Region.ready md ops listed = [] → Q .normal a w) ∧
    ∀ i ∈ Region.ready md ops listed, wpOp P ops Q i (fun a' w' => (i = n ∨ S w') ∧ wpAnyT P md ops Q S n fuel (listed.setIfInBounds i true) a' w') a w

theorem wpAny_of_T : ∀ (fuel : Nat) (listed : Array Bool) (a : Act) (w : World), wpAnyT P md ops Q S n fuel listed a w → wpAny P md ops Q fuel listed a w
  | 0, _, _, _, h => h
  | fuel + 1, _, _, _, h => ⟨h.1, fun i hi => wpOp_mono (fun a' w' h' => wpAny_of_T fuel _ a' w' h'.2) (h.2 i hi)⟩

/-- does number n wait for number i? -/
def lastWaits (md : Region.Mode) (ops : Array Oper) (n i : Nat) : Bool :=
  match ops[n]? with
  | some o => o.after.any fun e => Region.binds md e && e.on == i
  | none => true
theorem lastWaits_spec {i : Nat} (h : lastWaits md ops n i = true) (oj : Oper) (hj : ops[n]? = some oj) (hno : ∀ e ∈ oj.after, Region.binds md e = true → e.on ≠ i) : False := by
  unfold lastWaits at h
  simp only [hj] at h
  obtain ⟨e, he, hb⟩ := Array.any_eq_true'.1 h
  simp only [Bool.and_eq_true, beq_iff_eq] at hb
  exact hno e he hb.1 hb.2

theorem wpAnyT_first {i : Nat} {oi : Oper} {v : Value} (hi : ops[i]? = some oi) (hsel : ∀ (j : Nat) (o : Oper) cs b, ops[j]? = some o → o.op ≠ .select cs b)
    (hQ : ∀ c a w, Q (.panic c) (a.put oi.dst v) w → Q (.panic c) a w) (hn : lastWaits md ops n i = true) :
    ∀ (fuel : Nat) (listed : Array Bool) (a : Act) (w : World),
      (∀ j oj, ops[j]? = some oj → j ≠ i → listed.getD j true = false → (∀ e ∈ oj.after, Region.binds md e = true → e.on ≠ i) → oi.apart ops oj = true) →
      i ∈ Region.ready md ops listed → YieldsIf P ops S oi v a → S w →
      wpAnyT P md ops Q S n fuel (listed.setIfInBounds i true) (a.put oi.dst v) w → wpAnyT P md ops Q S n (fuel + 1) listed a w := by
  intro fuel
  induction fuel with
  | zero =>
    intro listed a w _ hr hy hS H
    refine ⟨fun h => (by rw [h] at hr; cases hr), fun j hj => ?_⟩
    by_cases hji : j = i
    · subst hji; exact hy.wpOp hi hS ⟨.inr hS, H⟩
    · have := ready_mono hj hji
      rw [H.1] at this
      cases this
  | succ fuel ih =>
    intro listed a w hfree hr hy hS H
    refine ⟨fun h => (by rw [h] at hr; cases hr), fun j hj => ?_⟩
    by_cases hji : j = i
    · subst hji; exact hy.wpOp hi hS ⟨.inr hS, H⟩
    · have h1 := H.2 j (ready_mono hj hji)
      obtain ⟨hjun, oj, hoj, hall⟩ := mem_ready.1 hj
      have hnot : ∀ e ∈ oj.after, Region.binds md e = true → e.on ≠ i := fun e he hb heq => by
        have h1 := hall e he hb
        have h0 := (mem_ready.1 hr).1
        rw [heq] at h1
        rcases Nat.lt_or_ge i listed.size with h' | h'
        · simp [h'] at h0 h1; rw [h0] at h1; cases h1
        · simp [Array.getElem?_eq_none h'] at h1
      have hjn : j ≠ n := fun e => lastWaits_spec hn oj (e ▸ hoj) hnot
      have h2 := wpOp_putIf hoj (hfree j oj hoj hji hjun hnot) (fun cs b => hsel i oi cs b hi) (fun cs b => hsel j oj cs b hoj) hQ hy h1
      have hfree' : ∀ k ok, ops[k]? = some ok → k ≠ i → (listed.setIfInBounds j true).getD k true = false →
          (∀ e ∈ ok.after, Region.binds md e = true → e.on ≠ i) → oi.apart ops ok = true := fun k ok hk hki hun hno => by
        refine hfree k ok hk hki ?_ hno
        by_cases hjk : j = k
        · subst hjk; exact hjun
        · rw [getD_set_ne true hjk] at hun; exact hun
      refine wpOp_mono (fun a' w' h3 => ?_) h2
      have hS' := h3.2.1.resolve_left hjn
      refine ⟨.inr hS', ih (listed.setIfInBounds j true) a' w' hfree' (ready_mono hr (Ne.symm hji)) h3.1 hS' ?_⟩
      rw [Array.setIfInBounds_comm _ _ hji]
      exact h3.2.2

theorem wpAnyT_take {i : Nat} {oi : Oper} {v : Value} {fuel : Nat} {listed : Array Bool} {a : Act} {w : World} (hi : ops[i]? = some oi)
    (hs : Region.noSelect ops = true) (hf : Region.free md ops listed i = true) (hr : (Region.ready md ops listed).contains i = true) (hn : lastWaits md ops n i = true)
    (hQ : ∀ c a w, Q (.panic c) (a.put oi.dst v) w → Q (.panic c) a w) (hy : YieldsIf P ops S oi v a) (hS : S w)
    (h : wpAnyT P md ops Q S n fuel (listed.setIfInBounds i true) (a.put oi.dst v) w) : wpAnyT P md ops Q S n (fuel + 1) listed a w :=
  wpAnyT_first hi (Region.noSelect_spec hs) hQ hn fuel listed a w (Region.free_spec hi hf) (by simpa using hr) hy hS h

/-- one alone may come up -/
theorem wpAnyT_step {i : Nat} {o : Oper} {fuel : Nat} {listed : Array Bool} {a : Act} {w : World} (hr : Region.ready md ops listed = [i]) (ho : ops[i]? = some o)
    (h : ∀ K' : Act → World → Prop, Shut (∀ a w, S w → (S w → wpAnyT P md ops Q S n fuel (listed.setIfInBounds i true) a w) → K' a w) → if Region.wanted o (yielded ops a.tmps) = true then Oper.wp P o a w K' Q else K' (a.put o.dst undef) w) : wpAnyT P md ops Q S n (fuel + 1) listed a w :=
  ⟨fun h0 => (by rw [hr] at h0; cases h0), fun j hj => by
    rw [hr] at hj
    obtain rfl := List.mem_singleton.1 hj
    exact wpOp_step ho (fun K' hK => h K' (fun a w hS hW => hK a w ⟨.inr hS, hW hS⟩))⟩

/-- one of two may come up -/
theorem wpAnyT_two {i j : Nat} {o o' : Oper} {fuel : Nat} {listed : Array Bool} {a : Act} {w : World} (hr : Region.ready md ops listed = [i, j]) (ho : ops[i]? = some o) (ho' : ops[j]? = some o')
    (h : ∀ K' : Act → World → Prop, Shut (∀ a w, S w → (S w → wpAnyT P md ops Q S n fuel (listed.setIfInBounds i true) a w) → K' a w) → if Region.wanted o (yielded ops a.tmps) = true then Oper.wp P o a w K' Q else K' (a.put o.dst undef) w)
    (h' : ∀ K' : Act → World → Prop, Shut (∀ a w, S w → (S w → wpAnyT P md ops Q S n fuel (listed.setIfInBounds j true) a w) → K' a w) → if Region.wanted o' (yielded ops a.tmps) = true then Oper.wp P o' a w K' Q else K' (a.put o'.dst undef) w) : wpAnyT P md ops Q S n (fuel + 1) listed a w :=
  ⟨fun h0 => (by rw [hr] at h0; cases h0), fun q hq => by
    rw [hr] at hq
    rcases List.mem_cons.1 hq with rfl | hq
    · exact wpOp_step ho (fun K' hK => h K' (fun a w hS hW => hK a w ⟨.inr hS, hW hS⟩))
    · obtain rfl := List.mem_singleton.1 hq
      exact wpOp_step ho' (fun K' hK => h' K' (fun a w hS hW => hK a w ⟨.inr hS, hW hS⟩))⟩

/-- all have come up -/
theorem wpAnyT_done {listed : Array Bool} {a : Act} {w : World} (hr : Region.ready md ops listed = []) (h : Q .normal a w) : ∀ fuel, wpAnyT P md ops Q S n fuel listed a w
  | 0 => ⟨hr, h⟩
  | _ + 1 => ⟨fun _ => h, by rw [hr]; simp⟩

/-- number n comes up, the last -/
theorem wpAnyT_last {o : Oper} {fuel : Nat} {listed : Array Bool} {a : Act} {w : World} (hr : Region.ready md ops listed = [n]) (hr2 : Region.ready md ops (listed.setIfInBounds n true) = []) (ho : ops[n]? = some o)
    (h : ∀ K' : Act → World → Prop, Shut (∀ a w, Q .normal a w → K' a w) → if Region.wanted o (yielded ops a.tmps) = true then Oper.wp P o a w K' Q else K' (a.put o.dst undef) w) : wpAnyT P md ops Q S n (fuel + 1) listed a w :=
  ⟨fun h0 => (by rw [hr] at h0; cases h0), fun j hj => by
    rw [hr] at hj
    obtain rfl := List.mem_singleton.1 hj
    refine wpOp_step ho (fun K' hK => h K' (fun a w hq => hK a w ⟨.inl rfl, ?_⟩))
    cases fuel with
    | zero => exact ⟨hr2, hq⟩
    | succ f => exact ⟨fun _ => hq, by rw [hr2]; simp⟩⟩

theorem wp_region_T (S : World → Prop) (n : Nat) {id : Nat} {a : Act} {w : World} (hm : P.follows .mixedOrders = true)
    (h : wpAnyT P .any ops Q S n ops.size (Array.replicate ops.size false) a w.drew) : (Code.region id ops true).wp P Q a w :=
  wp_region_any hm (wpAny_of_T _ _ _ _ h)
end
end Go.Proofs.Ytnpkmebnmklcfaa
