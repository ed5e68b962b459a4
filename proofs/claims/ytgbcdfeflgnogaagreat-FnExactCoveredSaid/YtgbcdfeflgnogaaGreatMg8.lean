/- Several texts of this claim in one: ANode CoverA CoverC CoverR. Conditions: none but bounds on sizes. -/
import Derived.Test.YtgbcdfeflgnogaaGreatRows
import Derived.Test.YtgbcdfeflgnogaaGreatMg0
import Derived.Test.YtgbcdfeflgnogaaGreatMg2
import Derived.Lib.Hide
import Derived.StillTailTactics
import Derived.Test.YtgbcdfeflgnogaaGreatMg7
import Derived.Test.YtgbcdfeflgnogaaGreatMg1
import Derived.Lib.AppendZerosOnto
import Derived.BigQuiet
import Derived.Deep.RegionLaw
import Derived.Deep.DeepMust
import Derived.Deep.RegionHeld3
/- The laws' sz, to and eq functions at Node. Conditions: what is counted is at most 1048576. -/
namespace Go.Proofs.YtgbcdfeflgnogaaGreat
open Go.RowKit
set_option linter.unusedVariables false
set_option linter.unusedSimpArgs false
set_option maxHeartbeats 400000

theorem szNodeS (l : List GNode) (A : Option Addr) (c : Nat) (left : Int) (w : World) (hs : Sl w (Lt w.heap.size) 5 A c (l.map GNode.toD)) (h0 : 0 ≤ left) (h1 : left ≤ 1048576)
    (H : ∀ t, t ∈ l → ∀ (A1 : Option Addr) (c1 : Nat) (left : Int) (w : World), 0 ≤ left → left ≤ 1048576 → GNode.At w (Lt w.heap.size) A1 c1 t →
      Calls Tryz.prog 10 #[.agg #[.int .i64 t.op, .int .i64 t.n, .string t.s, .string t.t, .slice A1 t.kids.length c1], .int .i64 left] w fun e w' => e = .returned (.int .i64 (szv t.bulk left)) ∧ Below w.heap.size w w') :
    Calls Tryz.prog 20 #[.slice A l.length c, .int .i64 left] w fun e w' => e = .returned (.int .i64 (szv (bulkL GNode.bulk l) left)) ∧ Below w.heap.size w w' := by
  have hlen : l.length ≤ 9223372036854775807 := by simpa using hs.len
  have HH := Lib.hid H
  clear H
  by_cases hll : left < (l.length : Int)
  · have hg : left - (l.length : Int) < 0 := by omega
    have hv := Lib.hid (szv_gt (b := bulkL GNode.bulk l) (left := left) (by have := bulkL_len GNode.bulk l; omega))
    go_enter Tryz.func20, Tryz.ntmps20
    go_wp2_with fail
    go_ret
    exact ⟨ret_int hv.out.symm, Below.refl _ _⟩
  · have hg : 0 ≤ left - (l.length : Int) := by omega
    go_enter Tryz.func20, Tryz.ntmps20
    go_wp2_with fail
    go_loopw [1, 5] (fun n i wr => ∃ (j : Nat) (L : Int), j ≤ l.length ∧ i = .int .i64 j ∧ n = .int .i64 L ∧ L = left - l.length - (bulkL GNode.bulk (l.take j) - j) ∧ 0 ≤ L ∧ L ≤ left ∧ Below w.heap.size w wr) (fun _ i _ => l.length - (intOf i).toNat)
    case atStart => exact ⟨0, _, by omega, by go_num, rfl, by simp [bulkL], by omega, by omega, Below.refl _ _⟩
    case round =>
      obtain ⟨j, L, hj, rfl, rfl, hL, hL0, hL1, hb⟩ := hrel
      have HL := Lib.hid hL
      clear hL
      have hsz := hb.size
      by_cases hlt : j < l.length
      · have hel := GNode.elem (hs.below hb (Nat.le_refl _)) j hlt
        obtain ⟨b, off, A1, c1, rfl, hSb, g0, g1, g2, g3, g4, hat⟩ := hel
        have hmem : l[j] ∈ l := List.getElem_mem hlt
        have hts := Lib.hid (bulkL_take_succ GNode.bulk l j hlt)
        have htl := Lib.hid (bulkL_take_le GNode.bulk l (j + 1) (by omega))
        have htg := Lib.hid (bulkL_take_ge GNode.bulk l j (by omega))
        go_wp2_with fail
        refine (HH.out _ hmem _ _ L _ hL0 (by omega) (hat.below (Below.refl _ _) hsz)).mono ?_
        rintro e w1 ⟨rfl, hb1⟩
        by_cases hle : ((l[j]).bulk : Int) ≤ L
        · have hv := szv_le hle
          have hge : 0 ≤ L - ((l[j]).bulk : Int) := by omega
          go_wp2_with fail
          go_roundw
          case rel => exact ⟨j + 1, _, by omega, by go_num, rfl, by rw [hts.out, HL.out]; omega, by omega, by omega, hb.trans (hb1.mono hsz)⟩
          case measure => simp [intOf]; omega
        · have hv := szv_gt (b := (l[j]).bulk) (left := L) (by omega)
          go_wp2_with fail
          go_ret
          refine ⟨ret_int ?_, hb.trans (hb1.mono hsz)⟩
          have e1 := hts.out; have e2 := htl.out; have e3 := htg.out; have e4 := HL.out
          rw [szv_gt (by omega)]
      · have hjl : j = l.length := by omega
        have Hj := Lib.hid hjl
        clear hjl
        go_wp2_with fail
        go_ret
        refine ⟨ret_int ?_, hb⟩
        have e4 := HL.out
        rw [Hj.out, List.take_length] at e4
        have := bulkL_len GNode.bulk l
        rw [szv_le (by omega)]; omega

theorem szNode (k : Nat) : ∀ (t : GNode) (A1 : Option Addr) (c1 : Nat) (left : Int) (w : World), t.bulk < k → 0 ≤ left → left ≤ 1048576 → GNode.At w (Lt w.heap.size) A1 c1 t →
      Calls Tryz.prog 10 #[.agg #[.int .i64 t.op, .int .i64 t.n, .string t.s, .string t.t, .slice A1 t.kids.length c1], .int .i64 left] w fun e w' => e = .returned (.int .i64 (szv t.bulk left)) ∧ Below w.heap.size w w' := by
  induction k with
  | zero => intro t A1 c1 left w hk; omega
  | succ k ih =>
    intro t A1 c1 left w hk h0 h1 hat
    have hbe := t.bulk_eq
    obtain ⟨k0, k1, k2, k3, k4⟩ := id hat
    have s2 : t.s.size ≤ 9223372036854775807 := by unfold maxLen at k2; omega
    have s3 : t.t.size ≤ 9223372036854775807 := by unfold maxLen at k3; omega
    have H3 := fun (left : Int) (w : World) hs h0 h1 => szNodeS t.kids A1 c1 left w hs h0 h1 (fun u hu A1 c1 left w h0 h1 hat => ih u A1 c1 left w (by have := bulkL_mem GNode.bulk t.kids u hu; omega) h0 h1 hat)
    have HH := Lib.hid H3
    have HE := Lib.hid hbe
    have hat' := Lib.hid hat
    clear hbe hat k0 k1 k2 k3 k4 H3 ih
    have B0 : Below w.heap.size w (w.alloc (.cells #[.int .i64 t.op, .int .i64 t.n, .string t.s, .string t.t, .slice A1 t.kids.length c1] 25)) := (Below.refl _ _).alloc (Nat.le_refl _) _
    have r0 := Lib.hid (Row.new w 25 #[.int .i64 t.op, .int .i64 t.n, .string t.s, .string t.t, .slice A1 t.kids.length c1])
    go_enter Tryz.func10, Tryz.ntmps10
    by_cases g2 : ((t.s.size : Nat) : Int) ≤ left
    rotate_left
    · have q2 : left - ((t.s.size : Nat) : Int) < 0 := by omega
      go_wp2_with fail
      go_ret
      refine ⟨ret_int ?_, B0⟩
      have := HE.out
      rw [szv_gt (by omega)]
    have q2 : 0 ≤ left - ((t.s.size : Nat) : Int) := by omega
    by_cases g3 : ((t.t.size : Nat) : Int) ≤ left - ((t.s.size : Nat) : Int)
    rotate_left
    · have q3 : left - ((t.s.size : Nat) : Int) - ((t.t.size : Nat) : Int) < 0 := by omega
      go_wp2_with fail
      go_ret
      refine ⟨ret_int ?_, B0⟩
      have := HE.out
      rw [szv_gt (by omega)]
    have q3 : 0 ≤ left - ((t.s.size : Nat) : Int) - ((t.t.size : Nat) : Int) := by omega
    go_wp2_with fail
    obtain ⟨-, -, -, -, k4⟩ := hat'.out.below B0 B0.size
    refine (HH.out _ _ k4 (by omega) (by omega)).mono ?_
    rintro e w1 ⟨rfl, hb1⟩
    have B1 := B0.trans (hb1.mono B0.size)
    by_cases g4 : ((bulkL GNode.bulk t.kids : Nat) : Int) ≤ left - ((t.s.size : Nat) : Int) - ((t.t.size : Nat) : Int)
    rotate_left
    · have hv := szv_gt (b := bulkL GNode.bulk t.kids) (left := left - ((t.s.size : Nat) : Int) - ((t.t.size : Nat) : Int)) (by omega)
      go_wp2_with fail
      go_ret
      refine ⟨ret_int ?_, B1⟩
      have := HE.out
      rw [szv_gt (by omega)]
    have v4 := szv_le g4
    have q4 : 0 ≤ left - ((t.s.size : Nat) : Int) - ((t.t.size : Nat) : Int) - ((bulkL GNode.bulk t.kids : Nat) : Int) := by omega
    go_wp2_with fail
    go_ret
    refine ⟨ret_int ?_, B1⟩
    have := HE.out
    rw [szv_le (by omega)]; omega

theorem szNode' (t : GNode) (A1 : Option Addr) (c1 : Nat) (left : Int) (w : World) (h0 : 0 ≤ left) (h1 : left ≤ 1048576) (hat : GNode.At w (Lt w.heap.size) A1 c1 t) :
      Calls Tryz.prog 10 #[.agg #[.int .i64 t.op, .int .i64 t.n, .string t.s, .string t.t, .slice A1 t.kids.length c1], .int .i64 left] w fun e w' => e = .returned (.int .i64 (szv t.bulk left)) ∧ Below w.heap.size w w' :=
  szNode (t.bulk + 1) t A1 c1 left w (by omega) h0 h1 hat

theorem szNodeS' (l : List GNode) (A : Option Addr) (c : Nat) (left : Int) (w : World) (hs : Sl w (Lt w.heap.size) 5 A c (l.map GNode.toD)) (h0 : 0 ≤ left) (h1 : left ≤ 1048576) :
    Calls Tryz.prog 20 #[.slice A l.length c, .int .i64 left] w fun e w' => e = .returned (.int .i64 (szv (bulkL GNode.bulk l) left)) ∧ Below w.heap.size w w' :=
  szNodeS l A c left w hs h0 h1 (fun u _ A1 c1 left w h0 h1 hat => szNode' u A1 c1 left w h0 h1 hat)

/-- what a to function gives back: a struct of the call's own -/
def ToNode (t : GNode) (w : World) (e : Ending) (w' : World) : Prop := ∃ A1 c1, e = .returned (.agg #[.int .i64 t.op, .int .i64 t.n, .string t.s, .string t.t, .slice A1 t.kids.length c1]) ∧ GNode.Ow w' (Btw w.heap.size w'.heap.size) A1 c1 t ∧ Below w.heap.size w w'
def ToNodeS (l : List GNode) (w : World) (e : Ending) (w' : World) : Prop := ∃ A1 c1, e = .returned (.slice A1 l.length c1) ∧ Osl w' (Btw w.heap.size w'.heap.size) 5 A1 c1 (l.map GNode.toD) ∧ Below w.heap.size w w'

def zNode : Value := .agg #[.int .i64 0, .int .i64 0, .string ⟨#[]⟩, .string ⟨#[]⟩, .slice none 0 0]
theorem mkNode (n : Nat) (hn : n ≤ 1048576) (w : World) : (Instr.makeSlice 31 (.int .i64 (n : Int)) (.int .i64 (n : Int))).run Tryz.prog w = .ok (.slice (some ⟨w.heap.size, 0, none⟩) n n) (w.alloc (.cells (zr zNode 5 n) 33)) :=
  run_mk 31 33 zNode 5 72 Tryz.underlying31 (by kernel_rfl) n hn (by omega) w

theorem toNodeS (l : List GNode) (A : Option Addr) (c : Nat) (w : World) (hs : Sl w (Lt w.heap.size) 5 A c (l.map GNode.toD)) (hl : l.length ≤ 1048576)
    (H : ∀ t, t ∈ l → ∀ (A1 : Option Addr) (c1 : Nat) (w : World), GNode.At w (Lt w.heap.size) A1 c1 t →
      Calls Tryz.prog 14 #[.agg #[.int .i64 t.op, .int .i64 t.n, .string t.s, .string t.t, .slice A1 t.kids.length c1]] w (ToNode t w)) :
    Calls Tryz.prog 29 #[.slice A l.length c] w (ToNodeS l w) := by
  have HH := Lib.hid H
  clear H
  have hmk := mkNode l.length hl
  go_enter Tryz.func29, Tryz.ntmps29
  go_wp2_with fail
  clear hmk
  go_loopw [4] (fun i wr => ∃ (j : Nat) (row : Array Value), j ≤ l.length ∧ i = .int .i64 j ∧ Row wr w.heap.size 33 row ∧ row.size = l.length * 5 ∧
      D.ownR wr 5 w.heap.size ((l.take j).map GNode.toD) (fun b => w.heap.size < b ∧ b < wr.heap.size) 0 ∧ Below w.heap.size w wr) (fun i _ => l.length - (intOf i).toNat)
  case atStart => exact ⟨0, _, by omega, by go_num, Row.new _ _ _, zr_size _ _ _, by simp [D.ownR], (Below.refl _ _).alloc (Nat.le_refl _) _⟩
  case round =>
    obtain ⟨j, row, hj, rfl, hrow, hrs, hown, hb⟩ := hrel
    have hsz := hb.size
    have hgl := hrow.lt
    by_cases hlt : j < l.length
    · have hel := GNode.elem (hs.below hb (Nat.le_refl _)) j hlt
      obtain ⟨b, off, A1, c1, rfl, hSb, g0, g1, g2, g3, g4, hat⟩ := hel
      have hmem : l[j] ∈ l := List.getElem_mem hlt
      go_wp2_with fail
      refine (HH.out _ hmem _ _ _ (hat.below (Below.refl _ _) hsz)).mono ?_
      rintro e w1 ⟨B1, d1, rfl, how, hb1⟩
      have hrow1 := Lib.hid (hrow.below hb1 hgl)
      have hf := fun i => hrow1.out.frozen i
      obtain ⟨v0, y0⟩ := row_some (row := row) (j * 5) (by omega)
      obtain ⟨v1, y1⟩ := row_some (row := row) (j * 5 + 1) (by omega)
      obtain ⟨v2, y2⟩ := row_some (row := row) (j * 5 + 2) (by omega)
      obtain ⟨v3, y3⟩ := row_some (row := row) (j * 5 + 3) (by omega)
      obtain ⟨v4, y4⟩ := row_some (row := row) (j * 5 + 4) (by omega)
      have x0 := (hrow1.out.cell (j * 5)).trans y0
      have x1 := (hrow1.out.cell (j * 5 + 1)).trans y1
      have x2 := (hrow1.out.cell (j * 5 + 2)).trans y2
      have x3 := (hrow1.out.cell (j * 5 + 3)).trans y3
      have x4 := (hrow1.out.cell (j * 5 + 4)).trans y4
      clear y0 y1 y2 y3 y4
      have hst := fill_step hrow1.out (j := j) (m := wr.heap.size) (xs := (l.take j).map GNode.toD) (size := 5) (by simp; omega) (by omega) hgl hb1.size
        (D.ownR_keep 5 _ _ _ _ 0 (fun b hb => ⟨hb, hb1.block b hb.2⟩) (fun i _ => hb1.cell (p := ⟨w.heap.size, i, none⟩) hgl) hown) (GNode.own_mk how) rfl
      have hB := setCells_below (hb.trans (hb1.mono hsz)) w.heap.size (j * 5) (Nat.le_refl _) [.int .i64 l[j].op, .int .i64 l[j].n, .string l[j].s, .string l[j].t, .slice B1 l[j].kids.length d1]
      go_wp2_with fail
      go_roundw
      case rel =>
        obtain ⟨row', p1, p2, p3⟩ := hst
        exact ⟨j + 1, row', by omega, by go_num, p1, by omega, by rw [take_snoc' l j hlt, List.map_append]; exact p3, hB⟩
      case measure => simp [intOf]; omega
    · have hjl : j = l.length := by omega
      have Hj := Lib.hid hjl
      clear hjl
      go_wp2_with fail
      go_ret
      rw [Hj.out, List.take_length] at hown
      exact ⟨_, _, rfl, fill_end hrow (Nat.le_refl _) (by simp) (by unfold maxLen; omega) hown, hb⟩

theorem toNode (k : Nat) : ∀ (t : GNode) (A1 : Option Addr) (c1 : Nat) (w : World), t.bulk < k → t.bulk ≤ 1048576 → GNode.At w (Lt w.heap.size) A1 c1 t →
      Calls Tryz.prog 14 #[.agg #[.int .i64 t.op, .int .i64 t.n, .string t.s, .string t.t, .slice A1 t.kids.length c1]] w (ToNode t w) := by
  induction k with
  | zero => intro t A1 c1 w hk; omega
  | succ k ih =>
    intro t A1 c1 w hk h1 hat
    have hbe := t.bulk_eq
    have H3 := fun (w : World) hs => toNodeS t.kids A1 c1 w hs (by have := bulkL_len GNode.bulk t.kids; omega) (fun u hu A1 c1 w hat => ih u A1 c1 w (by have := bulkL_mem GNode.bulk t.kids u hu; omega) (by have := bulkL_mem GNode.bulk t.kids u hu; omega) hat)
    have HH := Lib.hid H3
    have hat' := Lib.hid hat
    clear hbe hat H3 ih
    go_enter Tryz.func14, Tryz.ntmps14
    go_wp2_with fail
    have W0 : ∃ w0, w0 = ((w.alloc (.cells #[.int .i64 t.op, .int .i64 t.n, .string t.s, .string t.t, .slice A1 t.kids.length c1] 25)).alloc (.cells #[.int .i64 0, .int .i64 0, .string ⟨#[]⟩, .string ⟨#[]⟩, .slice none 0 0] 33)).alloc (.cells #[.int .i64 t.op, .int .i64 t.n, .string t.s, .string t.t, .slice none 0 0] 33) := ⟨_, rfl⟩
    obtain ⟨w0, e0⟩ := W0
    have B0 : Below w.heap.size w w0 := by rw [e0]; exact (((Below.refl _ _).alloc (Nat.le_refl _) _).alloc (by simp) _).alloc (by simp; omega) _
    have S0 : w0.heap.size = w.heap.size + 3 := by rw [e0]; simp
    have Ra0 : Row w0 w.heap.size 25 #[.int .i64 t.op, .int .i64 t.n, .string t.s, .string t.t, .slice A1 t.kids.length c1] := by rw [e0]; exact ((Row.new' _ _ _ rfl).alloc _).alloc _
    have Rz0 : Row w0 (w.heap.size + 1) 33 #[.int .i64 0, .int .i64 0, .string ⟨#[]⟩, .string ⟨#[]⟩, .slice none 0 0] := by rw [e0]; exact (Row.new' _ _ _ (by simp)).alloc _
    have Ro0 : Row w0 (w.heap.size + 1 + 1) 33 #[.int .i64 t.op, .int .i64 t.n, .string t.s, .string t.t, .slice none 0 0] := by rw [e0]; exact Row.new' _ _ _ (by simp)
    rw [← e0]
    clear e0
    obtain ⟨-, -, -, -, q4⟩ := hat'.out.below B0 B0.size
    refine (HH.out (w0) q4).mono ?_
    rintro e w1 ⟨D1, d1, rfl, how4, hb1⟩
    have hs1 := hb1.size
    have X1 := B0.trans (hb1.mono B0.size)
    have Rax1 := Lib.hid (Ra0.below hb1 Ra0.lt)
    have Rzx1 := Lib.hid (Rz0.below hb1 Rz0.lt)
    have Rox1 := Lib.hid (Ro0.below hb1 Ro0.lt)
    have hca1 := fun i => Rax1.out.cell i
    have hcz1 := fun i => Rzx1.out.cell i
    have hco1 := fun i => Rox1.out.cell i
    have hfz1 := fun i => Rzx1.out.frozen i
    have hfo1 := fun i => Rox1.out.frozen i
    have B1 := setCells_below X1 (w.heap.size + 1 + 1) 4 (by omega) [.slice D1 t.kids.length d1]
    have Ra1 : Hid (Row (setCells w1 (w.heap.size + 1 + 1) 4 [.slice D1 t.kids.length d1]) w.heap.size 25 #[.int .i64 t.op, .int .i64 t.n, .string t.s, .string t.t, .slice A1 t.kids.length c1]) := (Rax1.out).far (p := ⟨w.heap.size + 1 + 1, 4, none⟩) (by simp <;> omega) (.slice D1 t.kids.length d1)
    have Rz1 : Hid (Row (setCells w1 (w.heap.size + 1 + 1) 4 [.slice D1 t.kids.length d1]) (w.heap.size + 1) 33 #[.int .i64 0, .int .i64 0, .string ⟨#[]⟩, .string ⟨#[]⟩, .slice none 0 0]) := (Rzx1.out).far (p := ⟨w.heap.size + 1 + 1, 4, none⟩) (by simp <;> omega) (.slice D1 t.kids.length d1)
    have Ro1 : Hid (Row (setCells w1 (w.heap.size + 1 + 1) 4 [.slice D1 t.kids.length d1]) (w.heap.size + 1 + 1) 33 #[.int .i64 t.op, .int .i64 t.n, .string t.s, .string t.t, .slice D1 t.kids.length d1]) := (Rox1.out).set 4 (.slice D1 t.kids.length d1)
    replace how4 := how4.keep (S' := Btw (w0).heap.size (w1).heap.size) (w' := setCells w1 (w.heap.size + 1 + 1) 4 [.slice D1 t.kids.length d1]) fun b hb => ⟨hb, setCells_block _ _ _ _ _ (by have := hb.1; first | omega | (simp only [setCells_size] at *; omega) | (simp only [setCells_size] at *; done))⟩
    have BF := setCells_below B1 (w.heap.size + 1) 0 (by omega) [.int .i64 t.op, .int .i64 t.n, .string t.s, .string t.t, .slice D1 t.kids.length d1]
    have SF : (setCells (setCells w1 (w.heap.size + 1 + 1) 4 [.slice D1 t.kids.length d1]) (w.heap.size + 1) 0 [.int .i64 t.op, .int .i64 t.n, .string t.s, .string t.t, .slice D1 t.kids.length d1]).heap.size = w1.heap.size := by rw [setCells_size, setCells_size]
    replace how4 := how4.keep (S' := Btw w.heap.size (setCells (setCells w1 (w.heap.size + 1 + 1) 4 [.slice D1 t.kids.length d1]) (w.heap.size + 1) 0 [.int .i64 t.op, .int .i64 t.n, .string t.s, .string t.t, .slice D1 t.kids.length d1]).heap.size) (w' := setCells (setCells w1 (w.heap.size + 1 + 1) 4 [.slice D1 t.kids.length d1]) (w.heap.size + 1) 0 [.int .i64 t.op, .int .i64 t.n, .string t.s, .string t.t, .slice D1 t.kids.length d1]) fun b hb => ⟨⟨by have := hb.1; first | omega | (simp only [setCells_size] at *; omega) | (simp only [setCells_size] at *; done), by have := hb.2; have := SF; first | omega | (simp only [setCells_size] at *; omega) | (simp only [setCells_size] at *; done)⟩, setCells_block _ _ _ _ _ (by have := hb.1; first | omega | (simp only [setCells_size] at *; omega) | (simp only [setCells_size] at *; done))⟩
    have qs := hat'.out
    obtain ⟨p0, p1, p2, p3, p4⟩ := qs
    go_wp2_with fail
    exact bodyPost_ret (v := .agg #[.int .i64 t.op, .int .i64 t.n, .string t.s, .string t.t, .slice D1 t.kids.length d1]) (by simp [results, Tryz.results14, go_sem, hca1, hcz1, hco1]) rfl ⟨D1, d1, rfl, ⟨p0, p1, p2, p3, how4⟩, BF⟩

theorem toNode' (t : GNode) (A1 : Option Addr) (c1 : Nat) (w : World) (h1 : t.bulk ≤ 1048576) (hat : GNode.At w (Lt w.heap.size) A1 c1 t) :
      Calls Tryz.prog 14 #[.agg #[.int .i64 t.op, .int .i64 t.n, .string t.s, .string t.t, .slice A1 t.kids.length c1]] w (ToNode t w) :=
  toNode (t.bulk + 1) t A1 c1 w (by omega) h1 hat

theorem toNodeS' (l : List GNode) (A : Option Addr) (c : Nat) (w : World) (hs : Sl w (Lt w.heap.size) 5 A c (l.map GNode.toD)) (hl : bulkL GNode.bulk l ≤ 1048576) :
    Calls Tryz.prog 29 #[.slice A l.length c] w (ToNodeS l w) :=
  toNodeS l A c w hs (by have := bulkL_len GNode.bulk l; omega) (fun u hu A1 c1 w hat => toNode' u A1 c1 w (by have := bulkL_mem GNode.bulk l u hu; omega) hat)

set_option maxRecDepth 20000 in
theorem eqNodeS (l : List GNode) (A B : Option Addr) (c d : Nat) (w : World) (hs : Sl w (Lt w.heap.size) 5 A c (l.map GNode.toD)) (hs' : Sl w (Lt w.heap.size) 5 B d (l.map GNode.toD))
    (H : ∀ t, t ∈ l → ∀ (A1 : Option Addr) (c1 : Nat) (B1 : Option Addr) (d1 : Nat) (w : World), GNode.At w (Lt w.heap.size) A1 c1 t → GNode.At w (Lt w.heap.size) B1 d1 t →
      Calls Tryz.prog 18 #[.agg #[.int .i64 t.op, .int .i64 t.n, .string t.s, .string t.t, .slice A1 t.kids.length c1], .agg #[.int .i64 t.op, .int .i64 t.n, .string t.s, .string t.t, .slice B1 t.kids.length d1]] w fun e w' => e = .returned (.bool true) ∧ Below w.heap.size w w') :
    Calls Tryz.prog 39 #[.slice A l.length c, .slice B l.length d] w fun e w' => e = .returned (.bool true) ∧ Below w.heap.size w w' := by
  have hlen : l.length ≤ 9223372036854775807 := by simpa using hs.len
  have HH := Lib.hid H
  clear H
  go_enter Tryz.func39, Tryz.ntmps39
  go_wp2_with fail
  go_loopw [5] (fun i wr => ∃ (j : Nat), j ≤ l.length ∧ i = .int .i64 j ∧ Below w.heap.size w wr) (fun i _ => l.length - (intOf i).toNat)
  case atStart => exact ⟨0, by omega, by go_num, Below.refl _ _⟩
  case round =>
    obtain ⟨j, hj, rfl, hb⟩ := hrel
    have hsz := hb.size
    by_cases hlt : j < l.length
    · have hel := GNode.elem (hs.below hb (Nat.le_refl _)) j hlt
      obtain ⟨b, off, A1, c1, rfl, hSb, g0, g1, g2, g3, g4, hat⟩ := hel
      have hel := GNode.elem (hs'.below hb (Nat.le_refl _)) j hlt
      obtain ⟨b', off', B1, d1, rfl, hSb', g0', g1', g2', g3', g4', hat'⟩ := hel
      have hmem : l[j] ∈ l := List.getElem_mem hlt
      go_wp2_with fail
      refine wp_region_still_tail 8 (by kernel_rfl) (by kernel_rfl) ?_
      simp only [List.take_succ_cons, List.take_zero, List.drop_succ_cons, List.drop_zero]
      change wpStill _ _ wr.drew (fun a' => wpList _ _ _ _ a' wr.drew) _ _
      iterate 8 still_step
      refine wpStill_nil ?_
      go_wp2_with fail
      refine (HH.out _ hmem _ _ _ _ wr.drew (hat.keep fun b hb => ⟨Nat.lt_of_lt_of_le hb hsz, rfl⟩) (hat'.keep fun b hb => ⟨Nat.lt_of_lt_of_le hb hsz, rfl⟩)).mono ?_
      rintro e w1 ⟨rfl, hb1⟩
      go_wp2_with fail
      go_roundw
      case rel => exact ⟨j + 1, by omega, by go_num, hb.drew.trans (hb1.mono hsz)⟩
      case measure => simp [intOf]; omega
    · have hjl : j = l.length := by omega
      clear hjl
      go_wp2_with fail
      go_ret
      exact ⟨rfl, hb⟩

set_option maxRecDepth 20000 in
theorem eqNode (k : Nat) : ∀ (t : GNode) (A1 : Option Addr) (c1 : Nat) (B1 : Option Addr) (d1 : Nat) (w : World), t.bulk < k → GNode.At w (Lt w.heap.size) A1 c1 t → GNode.At w (Lt w.heap.size) B1 d1 t →
      Calls Tryz.prog 18 #[.agg #[.int .i64 t.op, .int .i64 t.n, .string t.s, .string t.t, .slice A1 t.kids.length c1], .agg #[.int .i64 t.op, .int .i64 t.n, .string t.s, .string t.t, .slice B1 t.kids.length d1]] w fun e w' => e = .returned (.bool true) ∧ Below w.heap.size w w' := by
  induction k with
  | zero => intro t A1 c1 B1 d1 w hk; omega
  | succ k ih =>
    intro t A1 c1 B1 d1 w hk hat hat2
    have hbe := t.bulk_eq
    have H3 := fun (w : World) hs hs' => eqNodeS t.kids A1 B1 c1 d1 w hs hs' (fun u hu A1 c1 B1 d1 w hat hat2 => ih u A1 c1 B1 d1 w (by have := bulkL_mem GNode.bulk t.kids u hu; omega) hat hat2)
    have HH := Lib.hid H3
    clear hbe H3 ih
    have hat' := Lib.hid hat
    have hat2' := Lib.hid hat2
    clear hat hat2
    have B0 : Below w.heap.size w ((w.alloc (.cells #[.int .i64 t.op, .int .i64 t.n, .string t.s, .string t.t, .slice A1 t.kids.length c1] 33)).alloc (.cells #[.int .i64 t.op, .int .i64 t.n, .string t.s, .string t.t, .slice B1 t.kids.length d1] 33)) := ((Below.refl _ _).alloc (Nat.le_refl _) _).alloc (by simp) _
    have ra0 := Lib.hid ((Row.new w 33 #[.int .i64 t.op, .int .i64 t.n, .string t.s, .string t.t, .slice A1 t.kids.length c1]).alloc (.cells #[.int .i64 t.op, .int .i64 t.n, .string t.s, .string t.t, .slice B1 t.kids.length d1] 33))
    have rb0 := Lib.hid (Row.new' (w.alloc (.cells #[.int .i64 t.op, .int .i64 t.n, .string t.s, .string t.t, .slice A1 t.kids.length c1] 33)) 33 #[.int .i64 t.op, .int .i64 t.n, .string t.s, .string t.t, .slice B1 t.kids.length d1] (g := w.heap.size + 1) (by simp))
    go_enter Tryz.func18, Tryz.ntmps18
    go_wp2_with fail
    obtain ⟨-, -, -, -, q4⟩ := hat'.out.below B0 B0.size
    obtain ⟨-, -, -, -, p4⟩ := hat2'.out.below B0 B0.size
    refine (HH.out _ q4 p4).mono ?_
    rintro e w1 ⟨rfl, hb1⟩
    have B1 := B0.trans (hb1.mono B0.size)
    go_wp2_with fail
    go_ret
    exact ⟨rfl, B1⟩

theorem eqNode' (t : GNode) (A1 : Option Addr) (c1 : Nat) (B1 : Option Addr) (d1 : Nat) (w : World) (hat : GNode.At w (Lt w.heap.size) A1 c1 t) (hat2 : GNode.At w (Lt w.heap.size) B1 d1 t) :
      Calls Tryz.prog 18 #[.agg #[.int .i64 t.op, .int .i64 t.n, .string t.s, .string t.t, .slice A1 t.kids.length c1], .agg #[.int .i64 t.op, .int .i64 t.n, .string t.s, .string t.t, .slice B1 t.kids.length d1]] w fun e w' => e = .returned (.bool true) ∧ Below w.heap.size w w' :=
  eqNode (t.bulk + 1) t A1 c1 B1 d1 w (by omega) hat hat2

theorem eqNodeS' (l : List GNode) (A B : Option Addr) (c d : Nat) (w : World) (hs : Sl w (Lt w.heap.size) 5 A c (l.map GNode.toD)) (hs' : Sl w (Lt w.heap.size) 5 B d (l.map GNode.toD)) :
    Calls Tryz.prog 39 #[.slice A l.length c, .slice B l.length d] w fun e w' => e = .returned (.bool true) ∧ Below w.heap.size w w' :=
  eqNodeS l A B c d w hs hs' (fun u _ A1 c1 B1 d1 w hat hat2 => eqNode' u A1 c1 B1 d1 w hat hat2)

end Go.Proofs.YtgbcdfeflgnogaaGreat

/- Coverage: so many of anything, and two lists in a row, in both. Conditions: the sizes are bounded. -/
namespace Go.Proofs.YtgbcdfeflgnogaaGreat
open Go.RowKit
set_option linter.unusedVariables false
set_option linter.unusedSimpArgs false
set_option maxHeartbeats 1000000

/-- cells of anything -/
theorem anySl (X : Nat → Prop) (w : World) (hX : ∀ b, w.heap.size ≤ b → X b) (v : Value) (hv : ∀ g, v.ownBlock = some g → g < w.heap.size) :
    Sl (w.alloc (.cells #[.int .i64 17, .int .i64 0, .string ByteArray.empty, .string ByteArray.empty, .slice none 0 0] 33)) (fun b => b < (w.alloc (.cells #[.int .i64 17, .int .i64 0, .string ByteArray.empty, .string ByteArray.empty, .slice none 0 0] 33)).heap.size ∧ v.ownBlock ≠ some b ∧ X b) 5 (some ⟨w.heap.size, 0, none⟩) 1 ([anyN].map GNode.toD) :=
  slOne (T := 33) (cs := [.int .i64 17, .int .i64 0, .string ByteArray.empty, .string ByteArray.empty, .slice none 0 0]) (Row.new' _ _ _ rfl) (anyN_rd _ _ 0 (Nat.zero_le _) none) rfl ⟨by simp, fun e => by have := hv _ e; omega, hX _ (Nat.le_refl _)⟩

set_option maxRecDepth 20000 in
theorem specAny (X : Nat → Prop) (n : Nat) (row : List GNode) (A : Option Addr) (c : Nat) (w : World) (hX : ∀ b, w.heap.size ≤ b → X b) (hn : n + row.length ≤ 1099511627776) (hs : Sl w (Lx X w) 5 A c (row.map GNode.toD)) :
    Calls Tryz.prog 89 #[.int .i64 n, .slice A row.length c] w (LTo X (List.replicate n anyN ++ row) w) := by
  have HX := Lib.hid hX
  have HS := Lib.hid hs
  obtain ⟨w0, e0⟩ : ∃ w0, w0 = w.alloc (.cells #[] 33) := ⟨_, rfl⟩
  have E0 := Lib.hid (show Below w.heap.size w w0 by rw [e0]; exact (Below.refl _ _).alloc (Nat.le_refl _) _)
  have G0 := Lib.hid (show Grx X w0 w.heap.size 33 5 (.slice (some ⟨w.heap.size, 0, none⟩) 0 0) 0 [] from Grx.made (by rw [e0]; exact Row.new' _ _ _ rfl) (Nat.le_refl _))
  clear hX hs
  go_enter Tryz.func89, Tryz.ntmps89
  go_wp2_with fail
  rw [← e0]
  clear e0
  go_loopw [5, 6] (fun v i wr => ∃ (j : Nat) (A : Option Addr) (c : Nat), j ≤ n ∧ i = .int .i64 j ∧ v = .slice A j c ∧ Hid (Grx X wr w.heap.size 33 5 (.slice A j c) j ((List.replicate j anyN).map GNode.toD)) ∧ Hid (Below w.heap.size w wr)) (fun _ i _ => n - (intOf i).toNat)
  case atStart => exact ⟨0, _, _, by omega, by go_num, rfl, G0, E0⟩
  case round =>
    obtain ⟨j, A', c', hj, rfl, rfl, HG, HB⟩ := hrel
    have hsz := HB.out.size
    have HOW := Lib.hid (fun g (hg : (Value.slice A' j c').ownBlock = some g) => HG.out.own g hg)
    by_cases hlt : j < n
    · have hji : (j : Int) < (n : Int) := by omega
      have EA := Lib.hid (show Below wr.heap.size wr (wr.alloc (.cells #[.int .i64 17, .int .i64 0, .string ByteArray.empty, .string ByteArray.empty, .slice none 0 0] 33)) from (Below.refl _ _).alloc (Nat.le_refl _) _)
      have GA := Lib.hid (HG.out.below EA.out)
      have TA := Lib.hid (anySl X wr (fun b hb => HX.out b (Nat.le_trans hsz hb)) (.slice A' j c') (fun g hg => (HOW.out g hg).2))
      have hBA := Nat.le_trans hsz EA.out.size
      go_wp2_with (first | (at_builtin; refine wpList_append_X (wr.alloc (.cells #[.int .i64 17, .int .i64 0, .string ByteArray.empty, .string ByteArray.empty, .slice none 0 0] 33)) rfl (.tmp 13) (.tmp 15) 31 rfl 33 zNode 5 72 Tryz.underlying31 (by kernel_rfl) rfl (by omega) w.heap.size (.slice A' j c') j _ GA.out (some ⟨wr.heap.size, 0, none⟩) 1 1 _ rfl TA.out hBA (by unfold maxLen; omega) (by omega) rfl rfl ?_; intro A4 c4 w4 G4 hGr4; have G4h := Lib.hid G4; have B4 := Lib.hid ((HB.out.trans (EA.out.mono hsz)).trans (hGr4.below hBA (fun g hg => (HOW.out g hg).1))); clear G4 hGr4))
      go_roundw
      case rel => exact ⟨j + 1, A4, c4, by omega, by go_num, rfl, Lib.hid (by rw [List.replicate_succ', List.map_append]; exact G4h.out), B4⟩
      case measure => simp [intOf]; omega
    · have hjn : j = n := by omega
      have HJ := Lib.hid hjn
      have TA := Lib.hid (show Sl wr (fun b => b < wr.heap.size ∧ (Value.slice A' j c').ownBlock ≠ some b ∧ X b) 5 A c (row.map GNode.toD) from HS.out.keep fun b hb => ⟨⟨Nat.lt_of_lt_of_le hb.1 hsz, fun e => by have := (HOW.out b e).1; have := hb.1; omega, hb.2⟩, HB.out.block b hb.1⟩)
      clear hjn
      go_wp2_with (first | (at_builtin; refine wpList_append_X wr rfl (.tmp 17) (.tmp 18) 31 rfl 33 zNode 5 72 Tryz.underlying31 (by kernel_rfl) rfl (by omega) w.heap.size (.slice A' j c') j _ HG.out A c row.length _ (by simp) TA.out hsz (by unfold maxLen; omega) (by omega) rfl rfl ?_; intro A4 c4 w4 G4 hGr4; have G4h := Lib.hid G4; have B4 := Lib.hid (HB.out.trans (hGr4.below hsz (fun g hg => (HOW.out g hg).1))); clear G4 hGr4))
      go_ret
      obtain ⟨A5, c5, e5, hs5⟩ := G4h.out.sl HX.out
      obtain ⟨rfl, rfl⟩ : A4 = A5 ∧ c4 = c5 := by simpa using e5
      refine ⟨A4, c4, by rw [HJ.out]; simp, ?_, B4.out⟩
      rw [List.map_append, ← HJ.out]
      exact hs5
set_option maxRecDepth 20000 in
theorem implAnything (X : Nat → Prop) (n : Nat) (w : World) (hX : ∀ b, w.heap.size ≤ b → X b) (hn : n ≤ 1099511627776) :
    Calls Tryz.prog 100 #[.int .i64 n] w (LTo X (List.replicate n anyN) w) := by
  have HX := Lib.hid hX
  obtain ⟨w0, e0⟩ : ∃ w0, w0 = w.alloc (.cells #[] 33) := ⟨_, rfl⟩
  have E0 := Lib.hid (show Below w.heap.size w w0 by rw [e0]; exact (Below.refl _ _).alloc (Nat.le_refl _) _)
  have G0 := Lib.hid (show Grx X w0 w.heap.size 33 5 (.slice (some ⟨w.heap.size, 0, none⟩) 0 0) 0 [] from Grx.made (by rw [e0]; exact Row.new' _ _ _ rfl) (Nat.le_refl _))
  clear hX
  go_enter Tryz.func100, Tryz.ntmps100
  go_wp2_with fail
  rw [← e0]
  clear e0
  go_loopw [3, 6] (fun v i wr => ∃ (j : Nat) (A : Option Addr) (c : Nat), j ≤ n ∧ i = .int .i64 j ∧ v = .slice A j c ∧ Hid (Grx X wr w.heap.size 33 5 (.slice A j c) j ((List.replicate j anyN).map GNode.toD)) ∧ Hid (Below w.heap.size w wr)) (fun _ i _ => n - (intOf i).toNat)
  case atStart => exact ⟨0, _, _, by omega, by go_num, rfl, G0, E0⟩
  case round =>
    obtain ⟨j, A', c', hj, rfl, rfl, HG, HB⟩ := hrel
    have hsz := HB.out.size
    have HOW := Lib.hid (fun g (hg : (Value.slice A' j c').ownBlock = some g) => HG.out.own g hg)
    by_cases hlt : j < n
    · have hji : (j : Int) < (n : Int) := by omega
      have EA := Lib.hid (show Below wr.heap.size wr (wr.alloc (.cells #[.int .i64 17, .int .i64 0, .string ByteArray.empty, .string ByteArray.empty, .slice none 0 0] 33)) from (Below.refl _ _).alloc (Nat.le_refl _) _)
      have GA := Lib.hid (HG.out.below EA.out)
      have TA := Lib.hid (anySl X wr (fun b hb => HX.out b (Nat.le_trans hsz hb)) (.slice A' j c') (fun g hg => (HOW.out g hg).2))
      have hBA := Nat.le_trans hsz EA.out.size
      go_wp2_with (first | (at_builtin; refine wpList_append_X (wr.alloc (.cells #[.int .i64 17, .int .i64 0, .string ByteArray.empty, .string ByteArray.empty, .slice none 0 0] 33)) rfl (.tmp 8) (.tmp 10) 31 rfl 33 zNode 5 72 Tryz.underlying31 (by kernel_rfl) rfl (by omega) w.heap.size (.slice A' j c') j _ GA.out (some ⟨wr.heap.size, 0, none⟩) 1 1 _ rfl TA.out hBA (by unfold maxLen; omega) (by omega) rfl rfl ?_; intro A4 c4 w4 G4 hGr4; have G4h := Lib.hid G4; have B4 := Lib.hid ((HB.out.trans (EA.out.mono hsz)).trans (hGr4.below hBA (fun g hg => (HOW.out g hg).1))); clear G4 hGr4))
      go_roundw
      case rel => exact ⟨j + 1, A4, c4, by omega, by go_num, rfl, Lib.hid (by rw [List.replicate_succ', List.map_append]; exact G4h.out), B4⟩
      case measure => simp [intOf]; omega
    · have hjn : j = n := by omega
      have HJ := Lib.hid hjn
      clear hjn
      go_wp2_with fail
      go_ret
      obtain ⟨A5, c5, e5, hs5⟩ := HG.out.sl HX.out
      obtain ⟨rfl, rfl⟩ : A' = A5 ∧ c' = c5 := by simpa using e5
      refine ⟨A', c', by rw [HJ.out]; simp, ?_, HB.out⟩
      rw [← HJ.out]
      exact hs5

theorem zNode_cells : zNode.cells.size = 5 := rfl
set_option maxRecDepth 20000 in
theorem implGrow (X : Nat → Prop) (n : Nat) (w : World) (hn : n ≤ 1099511627776) :
    Calls Tryz.prog 107 #[.slice none 0 0, .int .i64 n] w (fun e w' => ∃ A c, e = .returned (.slice A 0 c) ∧ Grx X w' w.heap.size 33 5 (.slice A 0 c) 0 [] ∧ Below w.heap.size w w') := by
  by_cases h0 : n = 0
  · subst h0
    go_enter Tryz.func107, Tryz.ntmps107
    go_wp2_with fail
    go_ret
    exact ⟨none, 0, rfl, Grx.nil _ _ _ _ _, Below.refl _ _⟩
  · obtain ⟨i, hi⟩ : ∃ i, Tryz.prog.info? 33 = some i := Option.isSome_iff_exists.1 (by kernel_rfl)
    have hp : (Tryz.prog.info? 33).map (fun i => (i.zero, i.size, i.bytes)) = some (some zNode, 5, 72) := by kernel_rfl
    obtain ⟨i', i1, i2, i3, i4⟩ := info_parts hp
    have hold : (Builtin.firstCells i'.size 0 (.slice none 0 0)).run Tryz.prog w.drew = .ok ([] : List Value).toArray w.drew := run_firstCells_none w.drew i'.size 0 0 0
    have hrz := fun ty => Lib.run_append_grow_zeros (P := Tryz.prog) w 31 3 ty 33 i' zNode .i64 .i64 Tryz.underlying31 (by kernel_rfl) i1 i2 none 0 0 [] hold n (by omega) (by rw [i3]; omega) (by omega) (by omega) (by rw [i4]; omega) (by rw [i4]; exact growslice_fits (by omega) (by omega))
    rw [Nat.zero_add] at hrz
    obtain ⟨G, hG⟩ : ∃ G, G = grownCap w n 0 33 := ⟨_, rfl⟩
    rw [← hG] at hrz
    have hGn : n ≤ G := by rw [hG]; exact grownCap_ge w _ _ _
    have hG63 : G ≤ maxLen := by rw [hG]; exact grownCap_le_maxLen w n 0 _ (by unfold maxLen; omega)
    have hG64 : G ≤ 9223372036854775807 := hG63
    have hni : (0 : Int) < n := by omega
    have h1 : ¬ ((n : Int) < 0) := by omega
    have h2 : wrap64 ((n : Int) - 0) = (n : Int) := by unfold wrap64; omega
    have h4 : (n : Int) > 0 := by omega
    obtain ⟨cs, hcs⟩ : ∃ cs : Array Value, cs = ([] : List Value).toArray ++ Builtin.zeroCells zNode.cells n ++ Builtin.zeroCells zNode.cells (G - n) := ⟨_, rfl⟩
    rw [← hcs] at hrz
    have HC := Lib.hid (show cs.size = G * 5 by rw [hcs]; simp [Builtin.zeroCells, zNode_cells]; omega)
    have HG63 := Lib.hid hG63
    obtain ⟨w1, e1⟩ : ∃ w1, w1 = w.drew.alloc (.cells cs 33) := ⟨_, rfl⟩
    have B1 := Lib.hid (show Below w.heap.size w w1 by rw [e1]; exact (Below.refl w.heap.size w).drew.alloc (Nat.le_refl _) _)
    have R1 := Lib.hid (show Row w1 w.heap.size 33 cs by rw [e1]; exact Row.new' _ _ _ rfl)
    rw [← e1] at hrz
    clear hold hG hcs e1 i1 i2 i3 i4 hp hi
    go_enter Tryz.func107, Tryz.ntmps107
    go_wp2_with (at_builtin; refine Lib.wpList_append_run _ rfl _ _ _ _ rfl _ _ rfl rfl _ _ (hrz _) ?_)
    go_ret
    exact ⟨some ⟨w.heap.size, 0, none⟩, G, rfl, Grx.roomy R1.out (Nat.le_refl _) HG63.out HC.out, B1.out⟩
end Go.Proofs.YtgbcdfeflgnogaaGreat

/- Coverage: slices.Concat of rows. Conditions: the result is bounded. -/
namespace Go.Proofs.YtgbcdfeflgnogaaGreat
open Go.RowKit
set_option linter.unusedVariables false
set_option linter.unusedSimpArgs false
set_option maxHeartbeats 1000000

theorem Sl.stay {X : Nat → Prop} {w w' : World} {size : Nat} {A : Option Addr} {c : Nat} {xs : List D} (h : Sl w (Lx X w) size A c xs) (hb : Below w.heap.size w w') : Sl w' (Lx X w) size A c xs := h.keep fun b hb' => ⟨hb', hb.block b hb'.1⟩
/-- two rows in a block -/
theorem slTwoRows {X : Nat → Prop} {w w' : World} {g : Nat} {T : TypeId} {A1 A2 : Option Addr} {c1 c2 : Nat} {r1 r2 : List GNode} (hr : Row w' g T #[.slice A1 r1.length c1, .slice A2 r2.length c2]) (hX : X g) (h1 : Sl w' (Lx X w') 5 A1 c1 (r1.map GNode.toD)) (h2 : Sl w' (Lx X w') 5 A2 c2 (r2.map GNode.toD)) :
    Sl w' (Lx X w') 1 (some ⟨g, 0, none⟩) 2 ([r1, r2].map rowD) := by
  refine ⟨by simp, by unfold maxLen; omega, .inr ⟨g, 0, rfl, ⟨hr.lt, hX⟩, ?_⟩⟩
  refine rdC_row [rowD r1, rowD r2] [.slice A1 r1.length c1, .slice A2 r2.length c2] 0 (fun j v hj => ?_) ?_
  · rw [Nat.zero_add, hr.cell]; simpa using hj
  · simp only [rdC]
    refine ⟨[.slice A1 r1.length c1], [.slice A2 r2.length c2], by simp, rfl, ?_, [.slice A2 r2.length c2], [], by simp, rfl, ?_, rfl⟩
    · unfold rowD; rw [D.rd_sl]; exact ⟨A1, c1, by simp, h1⟩
    · unfold rowD; rw [D.rd_sl]; exact ⟨A2, c2, by simp, h2⟩
/-- where the rest of a row lies -/
def tailA (b off size c : Nat) : Option Addr := if c = 1 then some ⟨b, off, none⟩ else some ⟨b, off + size, none⟩
theorem run_tail {P : Program} (T e : TypeId) (size : Nat) (ht : P.underlying T = some (.slice e)) (hi : (P.info? e).map (fun i => i.size) = some size) (b off n c : Nat) (hn : n < c) (w : World) :
    (Instr.slice T (.slice (some ⟨b, off, none⟩) (n + 1) c) (some (.int .i64 1)) none none).run P w = .ok (.slice (tailA b off size c) n (c - 1)) w := by
  have he : P.elem T = e := by simp [Program.elem, ht]
  obtain ⟨i, h1, h2⟩ := Option.map_eq_some_iff.1 hi
  subst h2
  rw [run_slice_l w T (some ⟨b, off, none⟩) (n + 1) c (by rw [he]; exact ht) .i64 1 (by omega) (by omega)]
  rw [he]
  simp only [sizeOf, typeInfo, Sem.run_bind, h1, Result.andThen_ok, Sem.run_pure, sliced, tailA]
  by_cases hc : c = 1
  · subst hc
    simp [h1, Result.andThen]
  · simp [h1, Result.andThen, hc, Addr.add]
theorem rowTail {w : World} {S : Nat → Prop} {b off c : Nat} {q : GNode} {t : List GNode} (h : Sl w S 5 (some ⟨b, off, none⟩) c ((q :: t).map GNode.toD)) : Sl w S 5 (tailA b off 5 c) (c - 1) (t.map GNode.toD) := by
  obtain ⟨b', off', A1, c1, e, _, _, _, _, _, _, _, _, _, h1, h2⟩ := row_head h
  obtain ⟨rfl, rfl⟩ : b = b' ∧ off = off' := by simpa using e
  unfold tailA
  split
  · rename_i hc
    rw [show c - 1 = 0 by omega]
    exact h2 hc
  · exact h1
theorem ret_sl {A : Option Addr} {n m c : Nat} (h : n = m) : Ending.returned (.slice A n c) = .returned (.slice A m c) := by rw [h]
theorem flat_take {α : Type} (ls : List (List α)) {j : Nat} (h : j < ls.length) : (ls.take (j + 1)).flatten = (ls.take j).flatten ++ ls[j] := by
  rw [take_snoc' ls j h, List.flatten_append]; simp
theorem flat_le {α : Type} (ls : List (List α)) (j : Nat) : (ls.take j).flatten.length ≤ ls.flatten.length := by
  conv => rhs; rw [← List.take_append_drop j ls]
  rw [List.flatten_append, List.length_append]; omega

set_option maxRecDepth 20000 in
theorem implConcat (X : Nat → Prop) (ls : List (List GNode)) (A : Option Addr) (c : Nat) (w : World) (hX : ∀ b, w.heap.size ≤ b → X b) (hn : ls.flatten.length ≤ 1099511627776) (hs : Sl w (Lx X w) 1 A c (ls.map rowD)) :
    Calls Tryz.prog 97 #[.slice A ls.length c] w (LTo X ls.flatten w) := by
  have HX := Lib.hid hX
  have hlen : ls.length ≤ 9223372036854775807 := by simpa using hs.len
  have HS := Lib.hid hs
  have HF := Lib.hid (fun (j : Nat) (h : j < ls.length) => flat_take ls h)
  have HL := Lib.hid (fun (j : Nat) => Nat.le_trans (flat_le ls j) hn)
  clear hX hs hn
  go_enter Tryz.func97, Tryz.ntmps97
  go_wp2_with fail
  go_loopw [3, 11] (fun s i wr => ∃ (j n : Nat), j ≤ ls.length ∧ i = .int .i64 j ∧ s = .int .i64 n ∧ n ≤ 1099511627776 ∧ Hid (n = (ls.take j).flatten.length) ∧ Hid (Below w.heap.size w wr)) (fun _ i _ => ls.length - (intOf i).toNat)
  case atStart => exact ⟨0, 0, by omega, by go_num, by go_num, by omega, Lib.hid (by simp), Lib.hid (Below.refl _ _)⟩
  case round =>
    obtain ⟨j, n, hj, rfl, rfl, hn, HN, HB⟩ := hrel
    have hsz := HB.out.size
    by_cases hlt : j < ls.length
    · obtain ⟨b, off, A1, c1, rfl, hSb, g0, hs1⟩ := rowD_elem (HS.out.stay HB.out) j hlt
      have hl1 : n + (ls[j]).length ≤ 1099511627776 := by
        have h1 := HL.out (j + 1)
        rw [HF.out j hlt, List.length_append, ← HN.out] at h1
        exact h1
      have hn0 : ¬ ((n : Int) + ((ls[j]).length : Int) < 0) := by omega
      clear hs1
      go_wp2_with fail
      go_roundw
      case rel => exact ⟨j + 1, n + (ls[j]).length, by omega, by go_num, by go_num, hl1, Lib.hid (by rw [HF.out j hlt, List.length_append, ← HN.out]), HB⟩
      case measure => simp [intOf]; omega
    · have hje : j = ls.length := by omega
      have HNN := Lib.hid (show n = ls.flatten.length by rw [HN.out, hje, List.take_length])
      clear hje
      go_wp2_with fail
      refine (implGrow X n _ hn).mono ?_
      rintro e w1 ⟨A1, c1, rfl, hG, hb1⟩
      have HG := Lib.hid (show Grx X w1 w.heap.size 33 5 (.slice A1 0 c1) 0 [] from by
        obtain ⟨h1, cs, h2, h3⟩ := hG
        refine ⟨h1, cs, ⟨h2.1, ?_⟩, h3⟩
        rcases h2.2 with h | ⟨g, cap, cur, r1, r2, r3⟩
        · exact .inl h
        · exact .inr ⟨g, cap, cur, r1, by omega, r3⟩)
      have HB1 := Lib.hid (HB.out.trans (hb1.mono hsz))
      clear hG hb1 hlt
      go_wp2_with fail
      go_loopw [6, 27] (fun v i wr => ∃ (j n : Nat) (A : Option Addr) (c : Nat), j ≤ ls.length ∧ i = .int .i64 j ∧ v = .slice A n c ∧ n ≤ 1099511627776 ∧ Hid (n = (ls.take j).flatten.length) ∧ Hid (Grx X wr w.heap.size 33 5 (.slice A n c) n ((ls.take j).flatten.map GNode.toD)) ∧ Hid (Below w.heap.size w wr)) (fun _ i _ => ls.length - (intOf i).toNat)
      case atStart => exact ⟨0, 0, A1, c1, by omega, by go_num, rfl, by omega, Lib.hid (by simp), HG, HB1⟩
      case round =>
        obtain ⟨i, m, A2, c2, hi, rfl, rfl, hm, HM, HG2, HB2⟩ := hrel
        have hsz2 := HB2.out.size
        have HOW := Lib.hid (fun g (hg : (Value.slice A2 m c2).ownBlock = some g) => HG2.out.own g hg)
        by_cases hlt : i < ls.length
        · obtain ⟨b, off, A3, c3, rfl, hSb, g0, hs1⟩ := rowD_elem (HS.out.stay HB2.out) i hlt
          have TA := Lib.hid (show Sl wr (fun b => b < wr.heap.size ∧ (Value.slice A2 m c2).ownBlock ≠ some b ∧ X b) 5 A3 c3 (ls[i].map GNode.toD) from hs1.keep fun b hb => ⟨⟨Nat.lt_of_lt_of_le hb.1 hsz2, fun e => by have := (HOW.out b e).1; have := hb.1; omega, hb.2⟩, rfl⟩)
          have hl1 : m + (ls[i]).length ≤ 1099511627776 := by
            have h1 := HL.out (i + 1)
            rw [HF.out i hlt, List.length_append, ← HM.out] at h1
            exact h1
          clear hs1
          go_wp2_with (first | (at_builtin; refine wpList_append_X wr rfl (.tmp 31) (.tmp 32) 31 rfl 33 zNode 5 72 Tryz.underlying31 (by kernel_rfl) rfl (by omega) w.heap.size (.slice A2 m c2) m _ HG2.out A3 c3 (ls[i]).length _ (by simp) TA.out hsz2 (by unfold maxLen; omega) (by omega) rfl rfl ?_; intro A5 c5 w5 G5 hGr5; have G5h := Lib.hid G5; have B5 := Lib.hid (HB2.out.trans (hGr5.below hsz2 (fun g hg => (HOW.out g hg).1))); clear G5 hGr5))
          go_roundw
          case rel => exact ⟨i + 1, m + (ls[i]).length, A5, c5, by omega, by go_num, rfl, hl1, Lib.hid (by rw [HF.out i hlt, List.length_append, ← HM.out]), Lib.hid (by rw [HF.out i hlt, List.map_append]; exact G5h.out), B5⟩
          case measure => simp [intOf]; omega
        · have hie : i = ls.length := by omega
          have HME := Lib.hid (show m = ls.flatten.length by rw [HM.out, hie, List.take_length])
          have HLE := Lib.hid (show ls.take i = ls by rw [hie, List.take_length])
          clear hie
          go_wp2_with fail
          go_ret
          obtain ⟨A5, c5, e5, hs5⟩ := HG2.out.sl HX.out
          obtain ⟨rfl, rfl⟩ : A2 = A5 ∧ c2 = c5 := by simpa using e5
          rw [HLE.out] at hs5
          exact ⟨A2, c2, ret_sl HME.out, hs5, HB2.out⟩
end Go.Proofs.YtgbcdfeflgnogaaGreat

/- Coverage: the rows that fit, and the rest of rows, in the program and in the reference. Conditions: the sizes are bounded. -/
namespace Go.Proofs.YtgbcdfeflgnogaaGreat
open Go.RowKit
set_option linter.unusedVariables false
set_option linter.unusedSimpArgs false
set_option maxHeartbeats 1000000

theorem isAny_ne {p : GNode} (h1 : (p.op == 20) = false) (h2 : (p.op == 19) = false) : isAnyB p = true := by unfold isAnyB; simp [bne, h1, h2]
theorem isAny_con {p : GNode} (h1 : (p.op == 20) = true) : isAnyB p = false := by unfold isAnyB; simp [bne, h1]
theorem isAny_num {p : GNode} (h1 : (p.op == 19) = true) : isAnyB p = false := by unfold isAnyB; simp [bne, h1]
theorem implIsAny (p : GNode) (A1 : Option Addr) (c1 : Nat) (w : World) :
    Calls Tryz.prog 95 #[.agg #[.int .i64 p.op, .int .i64 p.n, .string p.s, .string p.t, .slice A1 p.kids.length c1]] w fun e w' => e = .returned (.bool (isAnyB p)) ∧ Below w.heap.size w w' := by
  have B := Lib.hid (show Below w.heap.size w (w.alloc (.cells #[.int .i64 p.op, .int .i64 p.n, .string p.s, .string p.t, .slice A1 p.kids.length c1] 33)) from (Below.refl _ _).alloc (Nat.le_refl _) _)
  cases h20 : (p.op == 20)
  case' true =>
    have HV := Lib.hid (isAny_con h20)
    have n20 : (p.op != 20) = false := by simp [bne, h20]
  case' false =>
    have n20 : (p.op != 20) = true := by simp [bne, h20]
    cases h19 : (p.op == 19)
    case' true =>
      have HV := Lib.hid (isAny_num h19)
      have n19 : (p.op != 19) = false := by simp [bne, h19]
    case' false =>
      have HV := Lib.hid (isAny_ne h20 h19)
      have n19 : (p.op != 19) = true := by simp [bne, h19]
  all_goals
    go_enter Tryz.func95, Tryz.ntmps95
    go_wp2_with fail
    go_ret
    exact ⟨ret_bool HV.out.symm, B.out⟩

def zRow : Value := .slice none 0 0
/-- a row in a block of its own, ahead of its append -/
theorem oneRow {X : Nat → Prop} {w w' : World} {A1 : Option Addr} {c1 : Nat} {r : List GNode} {T : TypeId} (v : Value) (hv : ∀ g, v.ownBlock = some g → g < w.heap.size) (hX : X w.heap.size) (e : w' = w.alloc (.cells #[.slice A1 r.length c1] T)) (hs : Sl w (fun b => b < w.heap.size ∧ v.ownBlock ≠ some b ∧ X b) 5 A1 c1 (r.map GNode.toD)) :
    Sl w' (fun b => b < w'.heap.size ∧ v.ownBlock ≠ some b ∧ X b) 1 (some ⟨w.heap.size, 0, none⟩) 1 ([r].map rowD) := by
  subst e
  have hB : Below w.heap.size w (w.alloc (.cells #[.slice A1 r.length c1] T)) := (Below.refl _ _).alloc (Nat.le_refl _) _
  exact slOneRow (Row.new w T #[.slice A1 r.length c1]) (hs.keep fun b hb => ⟨⟨Nat.lt_of_lt_of_le hb.1 hB.size, hb.2⟩, hB.block b hb.1⟩) ⟨by simp, fun h => by have := hv _ h; omega, hX⟩
/-- what does not lie in a growing slice's own row -/
def Xo (v : Value) (X : Nat → Prop) : Nat → Prop := fun b => v.ownBlock ≠ some b ∧ X b
theorem Xo.mk {v : Value} {X : Nat → Prop} {n : Nat} (hv : ∀ g, v.ownBlock = some g → g < n) (hX : ∀ b, n ≤ b → X b) : ∀ b, n ≤ b → Xo v X b := fun b hb => ⟨fun e => by have := hv b e; omega, hX b hb⟩
theorem restR_take {rows : List (List GNode)} {j : Nat} (h : j < rows.length) : restR (rows.take (j + 1)) = restR (rows.take j) ++ (rest1 rows[j]).toList := by
  unfold restR; rw [take_snoc' rows j h, List.filterMap_append]; cases hr : rest1 rows[j] <;> simp [hr]
theorem intoR_take {p : GNode} {rows : List (List GNode)} {j : Nat} (h : j < rows.length) : intoR p (rows.take (j + 1)) = intoR p (rows.take j) ++ (into1 p rows[j]).toList := by
  unfold intoR; rw [take_snoc' rows j h, List.filterMap_append]; cases hr : into1 p rows[j] <;> simp [hr]

set_option maxRecDepth 20000 in
theorem implOthers (X : Nat → Prop) (rows : List (List GNode)) (A : Option Addr) (c : Nat) (w : World) (hX : ∀ b, w.heap.size ≤ b → X b) (hr : rows.length ≤ 1048576) (hn : ∀ r ∈ rows, 0 < r.length) (hs : Sl w (Lx X w) 1 A c (rows.map rowD)) :
    Calls Tryz.prog 99 #[.slice A rows.length c] w (RTo X (restR rows) w) := by
  have HX := Lib.hid hX
  have HS := Lib.hid hs
  have HN := Lib.hid hn
  have HT := Lib.hid (fun (j : Nat) (h : j < rows.length) => restR_take h)
  have hrun := fun (b off n c : Nat) (hn : n < c) (w : World) => run_tail (P := Tryz.prog) 31 33 5 Tryz.underlying31 (by kernel_rfl) b off n c hn w
  have HR := Lib.hid hrun
  obtain ⟨w0, e0⟩ : ∃ w0, w0 = w.alloc (.cells #[] 31) := ⟨_, rfl⟩
  have E0 := Lib.hid (show Below w.heap.size w w0 by rw [e0]; exact (Below.refl _ _).alloc (Nat.le_refl _) _)
  have G0 := Lib.hid (show Grx X w0 w.heap.size 31 1 (.slice (some ⟨w.heap.size, 0, none⟩) 0 0) 0 [] from Grx.made (by rw [e0]; exact Row.new' _ _ _ rfl) (Nat.le_refl _))
  clear hX hs hn hrun
  go_enter Tryz.func99, Tryz.ntmps99
  go_wp2_with fail
  rw [← e0]
  clear e0
  go_loopw [3, 9] (fun v i wr => ∃ (j m : Nat) (A : Option Addr) (c : Nat), j ≤ rows.length ∧ i = .int .i64 j ∧ v = .slice A m c ∧ m ≤ j ∧ Hid (Grx X wr w.heap.size 31 1 (.slice A m c) m ((restR (rows.take j)).map rowD)) ∧ Hid (Below w.heap.size w wr)) (fun _ i _ => rows.length - (intOf i).toNat)
  case atStart => exact ⟨0, 0, _, _, by omega, by go_num, rfl, by omega, G0, E0⟩
  case round =>
    obtain ⟨j, m, A', c', hj, rfl, rfl, hm, HG, HB⟩ := hrel
    have hsz := HB.out.size
    have HOW := Lib.hid (fun g (hg : (Value.slice A' m c').ownBlock = some g) => HG.out.own g hg)
    by_cases hlt : j < rows.length
    · obtain ⟨b, off, A1, c1, rfl, hSb, g0, hs1⟩ := rowD_elem (HS.out.stay HB.out) j hlt
      obtain ⟨q, t, hqt⟩ := List.exists_cons_of_length_pos (HN.out _ (List.getElem_mem hlt))
      have HTJ := Lib.hid (HT.out j hlt)
      rw [hqt] at g0 hs1
      rw [List.length_cons] at g0
      obtain ⟨b1, off1, A2, c2, rfl, hSb1, hlc, hcm, q0, q1, q2, q3, q4, hat, -, -⟩ := row_head hs1
      have HTL := Lib.hid (rowTail hs1)
      have htl := HR.out b1 off1 t.length c1 (by omega)
      have HQ := Lib.hid hqt
      clear hqt hat hs1
      go_wp2_with fail
      refine (implIsAny q A2 c2 _).mono ?_
      rintro e w2 ⟨rfl, hb2⟩
      have HB2 := Lib.hid (HB.out.trans (hb2.mono hsz))
      have HG2 := Lib.hid (HG.out.below hb2)
      have HBx := Lib.hid hb2
      clear hb2
      cases hq : isAnyB q
      · have HV := Lib.hid (show restR (rows.take (j + 1)) = restR (rows.take j) by rw [HTJ.out, HQ.out, rest1_cons, hq]; simp)
        clear hq
        go_wp2_with fail
        go_roundw
        case rel => exact ⟨j + 1, m, A', c', by omega, by go_num, rfl, by omega, Lib.hid (by rw [HV.out]; exact HG2.out), HB2⟩
        case measure => simp [intOf]; omega
      · have HV := Lib.hid (show restR (rows.take (j + 1)) = restR (rows.take j) ++ [t] by rw [HTJ.out, HQ.out, rest1_cons, hq]; simp)
        clear hq
        obtain ⟨w3, e3⟩ : ∃ w3, w3 = w2.alloc (.cells #[.slice (tailA b1 off1 5 c1) t.length (c1 - 1)] 31) := ⟨_, rfl⟩
        have E3 := Lib.hid (show Below w2.heap.size w2 w3 by rw [e3]; exact (Below.refl _ _).alloc (Nat.le_refl _) _)
        have hs2 := HB2.out.size
        have T3 := Lib.hid (oneRow (X := X) (Value.slice A' m c') (fun g hg => (HG2.out.own g hg).2) (HX.out _ hs2) e3 (HTL.out.keep (w' := w2) fun b hb => ⟨⟨Nat.lt_of_lt_of_le hb.1 hs2, fun e => by have := (HG2.out.own b e).1; have := hb.1; omega, hb.2⟩, HBx.out.block b (Nat.lt_of_lt_of_le hb.1 hsz)⟩))
        have G3 := Lib.hid (HG2.out.below E3.out)
        have hs3 := Nat.le_trans hs2 E3.out.size
        go_wp2_with (first | (at_builtin; rw [← e3]; refine wpList_append_X w3 rfl (.tmp 17) (.tmp 20) 78 rfl 31 zRow 1 24 Tryz.underlying78 (by kernel_rfl) rfl (by omega) w.heap.size (.slice A' m c') m _ G3.out (some ⟨w2.heap.size, 0, none⟩) 1 1 _ rfl T3.out hs3 (by unfold maxLen; omega) (by omega) rfl rfl ?_; intro A4 c4 w4 G4 hGr4; have G4h := Lib.hid G4; have B4 := Lib.hid ((HB2.out.trans (E3.out.mono hs2)).trans (hGr4.below hs3 (fun g hg => (HOW.out g hg).1))); clear G4 hGr4))
        go_roundw
        case rel => exact ⟨j + 1, m + 1, A4, c4, by omega, by go_num, rfl, by omega, Lib.hid (by rw [HV.out, List.map_append]; exact G4h.out), B4⟩
        case measure => simp [intOf]; omega
    · have hje : j = rows.length := by omega
      have HLE := Lib.hid (show rows.take j = rows by rw [hje, List.take_length])
      clear hje
      go_wp2_with fail
      go_ret
      have hG := HG.out
      rw [HLE.out] at hG
      obtain ⟨A5, c5, e5, hs5⟩ := hG.sl HX.out
      have hl5 := hG.1
      obtain ⟨rfl, rfl⟩ : A' = A5 ∧ c' = c5 := by simpa using e5
      exact ⟨A', c', ret_sl (by rw [← hl5]; simp), hs5, HB.out⟩

theorem alikeB_def (q p : GNode) : alikeB q p = (q.op == p.op && q.s.toList == p.s.toList && q.n == p.n && q.kids.length == p.kids.length) := rfl
theorem implAlike (q p : GNode) (A1 : Option Addr) (c1 : Nat) (A2 : Option Addr) (c2 : Nat) (w : World) :
    Calls Tryz.prog 106 #[.agg #[.int .i64 q.op, .int .i64 q.n, .string q.s, .string q.t, .slice A1 q.kids.length c1], .agg #[.int .i64 p.op, .int .i64 p.n, .string p.s, .string p.t, .slice A2 p.kids.length c2]] w fun e w' => e = .returned (.bool (alikeB q p)) ∧ Below w.heap.size w w' := by
  have B := Lib.hid (show Below w.heap.size w ((w.alloc (.cells #[.int .i64 q.op, .int .i64 q.n, .string q.s, .string q.t, .slice A1 q.kids.length c1] 33)).alloc (.cells #[.int .i64 p.op, .int .i64 p.n, .string p.s, .string p.t, .slice A2 p.kids.length c2] 33)) from ((Below.refl _ _).alloc (Nat.le_refl _) _).alloc (by simp) _)
  cases h1 : (q.op == p.op)
  case' true => cases h2 : (q.s.toList == p.s.toList)
  case' true.true => cases h3 : (q.n == p.n)
  case' true.true.true => cases h4 : (q.kids.length == p.kids.length)
  all_goals
    go_enter Tryz.func106, Tryz.ntmps106
    go_wp2_with fail
    go_ret
    exact ⟨ret_bool (by rw [alikeB_def]; simp [*] <;> (simp only [beq_iff_eq, beq_eq_false_iff_ne] at h4; omega)), B.out⟩

set_option maxRecDepth 20000 in
theorem implOpened (X : Nat → Prop) (M : Nat) (p : GNode) (A0 : Option Addr) (c0 : Nat) (rows : List (List GNode)) (A : Option Addr) (c : Nat) (w : World) (hX : ∀ b, w.heap.size ≤ b → X b) (hr : rows.length ≤ 1048576) (hn : ∀ r ∈ rows, 0 < r.length ∧ r.length + M ≤ 1099511627776) (hp : p.kids.length ≤ M) (hs : Sl w (Lx X w) 1 A c (rows.map rowD)) :
    Calls Tryz.prog 96 #[.slice A rows.length c, .agg #[.int .i64 p.op, .int .i64 p.n, .string p.s, .string p.t, .slice A0 p.kids.length c0]] w (RTo X (intoR p rows) w) := by
  have HX := Lib.hid hX
  have HS := Lib.hid hs
  have HN := Lib.hid hn
  have HT := Lib.hid (fun (j : Nat) (h : j < rows.length) => intoR_take (p := p) h)
  have HR := Lib.hid (fun (b off n c : Nat) (hn : n < c) (w : World) => run_tail (P := Tryz.prog) 31 33 5 Tryz.underlying31 (by kernel_rfl) b off n c hn w)
  obtain ⟨w0, e0⟩ : ∃ w0, w0 = (w.alloc (.cells #[.int .i64 p.op, .int .i64 p.n, .string p.s, .string p.t, .slice A0 p.kids.length c0] 33)).alloc (.cells #[] 31) := ⟨_, rfl⟩
  have E0 := Lib.hid (show Below w.heap.size w w0 by rw [e0]; exact ((Below.refl _ _).alloc (Nat.le_refl _) _).alloc (by simp) _)
  have P0 := Lib.hid (show Row w0 w.heap.size 33 #[.int .i64 p.op, .int .i64 p.n, .string p.s, .string p.t, .slice A0 p.kids.length c0] by rw [e0]; exact (Row.new' _ _ _ rfl).alloc _)
  have G0 := Lib.hid (show Grx X w0 (w.heap.size + 1) 31 1 (.slice (some ⟨w.heap.size + 1, 0, none⟩) 0 0) 0 [] from Grx.made (by rw [e0]; exact Row.new' _ _ _ (by simp)) (Nat.le_refl _))
  have hs0 : w.heap.size + 1 ≤ w0.heap.size := by rw [e0]; simp
  clear hX hs hn
  go_enter Tryz.func96, Tryz.ntmps96
  go_wp2_with fail
  rw [← e0]
  clear e0
  go_loopw [5, 11] (fun v i wr => ∃ (j m : Nat) (A : Option Addr) (c : Nat), j ≤ rows.length ∧ i = .int .i64 j ∧ v = .slice A m c ∧ m ≤ j ∧ Hid (Grx X wr (w.heap.size + 1) 31 1 (.slice A m c) m ((intoR p (rows.take j)).map rowD)) ∧ Hid (Row wr w.heap.size 33 #[.int .i64 p.op, .int .i64 p.n, .string p.s, .string p.t, .slice A0 p.kids.length c0]) ∧ w.heap.size + 1 ≤ wr.heap.size ∧ Hid (Below w.heap.size w wr)) (fun _ i _ => rows.length - (intOf i).toNat)
  case atStart => exact ⟨0, 0, _, _, by omega, by go_num, rfl, by omega, G0, P0, hs0, E0⟩
  case round =>
    clear G0 P0 hs0 E0
    obtain ⟨j, m, A', c', hj, rfl, rfl, hm, HG, HP, hz1, HB⟩ := hrel
    have hsz := HB.out.size
    by_cases hlt : j < rows.length
    · obtain ⟨b, off, A1, c1, rfl, hSb, g0, hs1⟩ := rowD_elem (HS.out.stay HB.out) j hlt
      have hnj := HN.out _ (List.getElem_mem hlt)
      obtain ⟨q, t, hqt⟩ := List.exists_cons_of_length_pos hnj.1
      have HTJ := Lib.hid (HT.out j hlt)
      rw [hqt] at g0 hs1 hnj
      rw [List.length_cons] at g0 hnj
      have htM : t.length + M ≤ 1099511627776 := by omega
      obtain ⟨b1, off1, A2, c2, rfl, hSb1, hlc, hcm, q0, q1, q2, q3, q4, hat, -, -⟩ := row_head hs1
      have HTL := Lib.hid (rowTail hs1)
      have HKL := Lib.hid hat.2.2.2.2
      have htl := HR.out b1 off1 t.length c1 (by omega)
      have HQ := Lib.hid hqt
      clear hqt hat hs1 hnj
      go_wp2_with fail
      refine (implIsAny q A2 c2 _).mono ?_
      rintro e w2 ⟨rfl, hb2⟩
      have HB2 := Lib.hid (HB.out.trans (hb2.mono hsz))
      have HG2 := Lib.hid (HG.out.below hb2)
      have HP2 := Lib.hid (HP.out.below hb2 (by omega))
      have HTL2 := Lib.hid (HTL.out.keep (w' := w2) (S' := Lx X w) fun b hb => ⟨hb, hb2.block b (Nat.lt_of_lt_of_le hb.1 hsz)⟩)
      have HKL2 := Lib.hid (HKL.out.keep (w' := w2) (S' := Lx X w) fun b hb => ⟨hb, hb2.block b (Nat.lt_of_lt_of_le hb.1 hsz)⟩)
      have hs2 := HB2.out.size
      have hz2 := Nat.le_trans hz1 hb2.size
      have hcp := fun i => HP2.out.cell i
      have k0 := (hb2.cell (p := ⟨b1, off1, none⟩) (Nat.lt_of_lt_of_le hSb1.1 hsz)).trans q0
      have k1 := (hb2.cell (p := ⟨b1, off1 + 1, none⟩) (Nat.lt_of_lt_of_le hSb1.1 hsz)).trans q1
      have k2 := (hb2.cell (p := ⟨b1, off1 + 2, none⟩) (Nat.lt_of_lt_of_le hSb1.1 hsz)).trans q2
      have k3 := (hb2.cell (p := ⟨b1, off1 + 3, none⟩) (Nat.lt_of_lt_of_le hSb1.1 hsz)).trans q3
      have k4 := (hb2.cell (p := ⟨b1, off1 + 4, none⟩) (Nat.lt_of_lt_of_le hSb1.1 hsz)).trans q4
      clear hb2 q0 q1 q2 q3 q4 HTL HKL HG HP HB g0
      cases hq : isAnyB q
      · have hc : intoR p (rows.take (j + 1)) = intoR p (rows.take j) ++ (if alikeB q p = true then some (q.kids ++ t) else none).toList := by rw [HTJ.out, HQ.out, into1_cons, if_neg (by rw [hq]; simp)]
        have HC := Lib.hid hc
        have HAL := Lib.hid (implAlike q p A2 c2 A0 c0 w2.drew)
        clear hq hc
        go_wp2_with fail
        go_region_held3 (fun w' => (∀ i, w'.cell? ⟨w.heap.size, i, none⟩ = (#[.int .i64 p.op, .int .i64 p.n, .string p.s, .string p.t, .slice A0 p.kids.length c0] : Array Value)[i]?) ∧ w'.cell? ⟨b1, off1, none⟩ = some (.int .i64 q.op) ∧ w'.cell? ⟨b1, off1 + 1, none⟩ = some (.int .i64 q.n) ∧ w'.cell? ⟨b1, off1 + 2, none⟩ = some (.string q.s) ∧ w'.cell? ⟨b1, off1 + 3, none⟩ = some (.string q.t) ∧ w'.cell? ⟨b1, off1 + 4, none⟩ = some (.slice A2 q.kids.length c2)) (first | exact ⟨hcp, k0, k1, k2, k3, k4⟩ | exact ⟨hcp3, l0, l1, l2, l3, l4⟩) (first
          | (go_at_call 106
             go_must (
               refine HAL.out.mono ?_
               rintro e w3 ⟨rfl, hb3⟩
               have E3 := Lib.hid (((Below.refl w2.heap.size w2).drew).trans hb3)
               have HP3 := Lib.hid (HP2.out.below E3.out (by omega))
               have hcp3 := fun i => HP3.out.cell i
               have l0 := (E3.out.cell (p := ⟨b1, off1, none⟩) (Nat.lt_of_lt_of_le hSb1.1 hs2)).trans k0
               have l1 := (E3.out.cell (p := ⟨b1, off1 + 1, none⟩) (Nat.lt_of_lt_of_le hSb1.1 hs2)).trans k1
               have l2 := (E3.out.cell (p := ⟨b1, off1 + 2, none⟩) (Nat.lt_of_lt_of_le hSb1.1 hs2)).trans k2
               have l3 := (E3.out.cell (p := ⟨b1, off1 + 3, none⟩) (Nat.lt_of_lt_of_le hSb1.1 hs2)).trans k3
               have l4 := (E3.out.cell (p := ⟨b1, off1 + 4, none⟩) (Nat.lt_of_lt_of_le hSb1.1 hs2)).trans k4
               clear hb3)))
        all_goals
          clear k0 k1 k2 k3 k4 l0 l1 l2 l3 hcp3 hcp
          have HG3 := Lib.hid (HG2.out.below E3.out)
          have HB3 := Lib.hid (HB2.out.trans (E3.out.mono hs2))
          have hs3 := HB3.out.size
          have hz3 := Nat.le_trans hz2 E3.out.size
          have HTL3 := Lib.hid (HTL2.out.keep (w' := w3) (S' := fun b => b < w3.heap.size ∧ Xo (Value.slice A' m c') X b) fun b hb => ⟨⟨Nat.lt_of_lt_of_le hb.1 hs3, fun e => by have := (HG2.out.own b e).1; have := hb.1; omega, hb.2⟩, E3.out.block b (Nat.lt_of_lt_of_le hb.1 hs2)⟩)
          have HKL3 := Lib.hid (HKL2.out.keep (w' := w3) (S' := fun b => b < w3.heap.size ∧ Xo (Value.slice A' m c') X b) fun b hb => ⟨⟨Nat.lt_of_lt_of_le hb.1 hs3, fun e => by have := (HG2.out.own b e).1; have := hb.1; omega, hb.2⟩, E3.out.block b (Nat.lt_of_lt_of_le hb.1 hs2)⟩)
          have HXb := Lib.hid (Xo.mk (X := X) (v := Value.slice A' m c') (n := w3.heap.size) (fun g hg => (HG3.out.own g hg).2) (fun b hb => HX.out b (Nat.le_trans hs3 hb)))
          cases hal : alikeB q p
          · have HV := Lib.hid (show intoR p (rows.take (j + 1)) = intoR p (rows.take j) by rw [HC.out, hal]; simp)
            clear hal
            go_wp2_with fail
            go_roundw
            case rel => exact ⟨j + 1, m, A', c', by omega, by go_num, rfl, by omega, Lib.hid (by rw [HV.out]; exact HG3.out), HP3, hz3, HB3⟩
            case measure => simp [intOf]; omega
          · have HV := Lib.hid (show intoR p (rows.take (j + 1)) = intoR p (rows.take j) ++ [q.kids ++ t] by rw [HC.out, hal]; simp)
            have hkl : q.kids.length ≤ M := by
              rw [alikeB_def] at hal
              simp only [Bool.and_eq_true, beq_iff_eq] at hal
              omega
            have HLL := Lib.hid (show (q.kids ++ t).length = q.kids.length + t.length by simp)
            clear hal
            go_wp2_with fail
            go_region_law (first
              | (rw [← e8]
                 refine step_append_X w8 rfl (.tmp 37) (.tmp 46) 78 rfl 31 zRow 1 24 Tryz.underlying78 (by kernel_rfl) rfl (by omega) (w.heap.size + 1) (.slice A' m c') m _ G8.out (some ⟨w7.heap.size, 0, none⟩) 1 1 _ rfl T8.out hs8 (by unfold maxLen; omega) (by omega) rfl rfl ?_
                 intro A4 c4 w4 G4 hGr4
                 have G4h := Lib.hid G4
                 have B4 := Lib.hid (HB8.out.trans (hGr4.below (by omega) (fun g hg => (by have := (G8.out.own g hg).1; omega))))
                 have P4 := Lib.hid (hGr4.row P8.out (fun e => by have := (G8.out.own _ e).1; omega))
                 have hz4 := Nat.le_trans hs8 hGr4.size
                 clear G4 hGr4)
              | (go_simp
                 go_at_call 97
                 go_must (
                   obtain ⟨w6, e6⟩ : ∃ w6, w6 = (w3.alloc (.cells #[.slice A2 q.kids.length c2, .slice (tailA b1 off1 5 c1) t.length (c1 - 1)] 31)).drew := ⟨_, rfl⟩
                   have E6 := Lib.hid (show Below w3.heap.size w3 w6 by rw [e6]; exact ((Below.refl _ _).alloc (Nat.le_refl _) _).drew)
                   have S6 := Lib.hid (slTwoRows (X := Xo (Value.slice A' m c') X) (w := w3) (w' := w6) (g := w3.heap.size) (T := 31) (r1 := q.kids) (r2 := t) (by rw [e6]; exact Row.new w3 _ _) (HXb.out _ (Nat.le_refl _)) (Sl.lx HKL3.out E6.out) (Sl.lx HTL3.out E6.out))
                   have HB6 := Lib.hid (HB3.out.trans (E6.out.mono hs3))
                   have hs6 := HB6.out.size
                   have hz6 := Nat.le_trans hz3 E6.out.size
                   rw [← e6]
                   refine (implConcat (Xo (Value.slice A' m c') X) [q.kids, t] (some ⟨w3.heap.size, 0, none⟩) 2 w6 (fun b hb => HXb.out b (Nat.le_trans E6.out.size hb)) ?_ S6.out).mono ?_
                   · simp; omega
                   rintro e w7 ⟨A7, c7, rfl, hs7, hb7⟩
                   rw [show [q.kids, t].flatten = q.kids ++ t by simp] at hs7 ⊢
                   have G7 := Lib.hid ((HG3.out.below E6.out).below hb7)
                   have HB7 := Lib.hid (HB6.out.trans (hb7.mono hs6))
                   have hs77 := HB7.out.size
                   have P7 := Lib.hid ((HP3.out.below E6.out (by omega)).below hb7 (by omega))
                   obtain ⟨w8, e8⟩ : ∃ w8, w8 = w7.alloc (.cells #[.slice A7 (q.kids.length + t.length) c7] 31) := ⟨_, rfl⟩
                   have E8 := Lib.hid (show Below w7.heap.size w7 w8 by rw [e8]; exact (Below.refl _ _).alloc (Nat.le_refl _) _)
                   have hs8 := Nat.le_trans (Nat.le_trans hz6 hb7.size) E8.out.size
                   have e8x : w8 = w7.alloc (.cells #[.slice A7 (q.kids ++ t).length c7] 31) := by rw [e8, HLL.out]
                   have T8 := Lib.hid (oneRow (X := X) (Value.slice A' m c') (fun g hg => (G7.out.own g hg).2) (HX.out _ hs77) e8x hs7)
                   have G8 := Lib.hid (G7.out.below E8.out)
                   have P8 := Lib.hid (P7.out.below E8.out (by have := hb7.size; omega))
                   have HB8 := Lib.hid (HB7.out.trans (E8.out.mono hs77))
                   clear hs7 hb7 e8x)))
            all_goals
              go_wp2_with fail
              go_roundw
              case rel => exact ⟨j + 1, m + 1, A4, c4, by omega, by go_num, rfl, by omega, Lib.hid (by rw [HV.out, List.map_append]; exact G4h.out), P4, hz4, B4⟩
              case measure => simp [intOf]; omega
      · have HV := Lib.hid (show intoR p (rows.take (j + 1)) = intoR p (rows.take j) ++ [List.replicate p.kids.length anyN ++ t] by rw [HTJ.out, HQ.out, into1_cons, if_pos hq]; simp)
        have hll : (List.replicate p.kids.length anyN ++ t).length = p.kids.length + t.length := by simp
        have HLL := Lib.hid hll
        have HX2 := Lib.hid (show ∀ b, w2.heap.size ≤ b → (Value.slice A' m c').ownBlock ≠ some b ∧ X b from fun b hb => ⟨fun e => by have := (HG2.out.own b e).2; omega, HX.out b (Nat.le_trans hs2 hb)⟩)
        have HT2 := Lib.hid (show Sl w2 (fun b => b < w2.heap.size ∧ (Value.slice A' m c').ownBlock ≠ some b ∧ X b) 5 (tailA b1 off1 5 c1) (c1 - 1) (t.map GNode.toD) from HTL2.out.keep fun b hb => ⟨⟨Nat.lt_of_lt_of_le hb.1 hs2, fun e => by have := (HG2.out.own b e).1; have := hb.1; omega, hb.2⟩, rfl⟩)
        clear hq hll
        go_wp2_with fail
        go_region_law (first
          | (rw [← e8]
             refine step_append_X w8 rfl (.tmp 20) (.tmp 29) 78 rfl 31 zRow 1 24 Tryz.underlying78 (by kernel_rfl) rfl (by omega) (w.heap.size + 1) (.slice A' m c') m _ G8.out (some ⟨w7.heap.size, 0, none⟩) 1 1 _ rfl T8.out hs8 (by unfold maxLen; omega) (by omega) rfl rfl ?_
             intro A4 c4 w4 G4 hGr4
             have G4h := Lib.hid G4
             have B4 := Lib.hid (HB8.out.trans (hGr4.below (by omega) (fun g hg => (by have := (G8.out.own g hg).1; omega))))
             have P4 := Lib.hid (hGr4.row P8.out (fun e => by have := (G8.out.own _ e).1; omega))
             have hz4 := Nat.le_trans hs8 hGr4.size
             clear G4 hGr4)
          | (go_simp
             go_at_call 100
             go_must (
               refine (implAnything (fun b => (Value.slice A' m c').ownBlock ≠ some b ∧ X b) p.kids.length w2.drew HX2.out (by omega)).mono ?_
               rintro e w5 ⟨A5, c5, rfl, hs5, hb5⟩
               have E5 := Lib.hid (((Below.refl w2.heap.size w2).drew).trans hb5)
               have HB5 := Lib.hid (HB2.out.trans (E5.out.mono hs2))
               have hs55 := HB5.out.size
               obtain ⟨w6, e6⟩ : ∃ w6, w6 = w5.alloc (.cells #[.slice A5 p.kids.length c5, .slice (tailA b1 off1 5 c1) t.length (c1 - 1)] 31) := ⟨_, rfl⟩
               have E6 := Lib.hid (show Below w5.heap.size w5 w6 by rw [e6]; exact (Below.refl _ _).alloc (Nat.le_refl _) _)
               have hs6 := Nat.le_trans hs55 E6.out.size
               have HB6 := Lib.hid (HB5.out.trans (E6.out.mono hs55))
               have S6 := Lib.hid (slTwoRows (X := fun b => (Value.slice A' m c').ownBlock ≠ some b ∧ X b) (w := w5) (w' := w6) (g := w5.heap.size) (T := 31) (r1 := List.replicate p.kids.length anyN) (r2 := t) (by rw [e6, List.length_replicate]; exact Row.new' _ _ _ rfl) (HX2.out _ E5.out.size) (hs5.lx E6.out) ((HT2.out.lx E5.out).lx E6.out))
               have G6 := Lib.hid ((HG2.out.below E5.out).below E6.out)
               have P6 := Lib.hid ((HP2.out.below E5.out (by omega)).below E6.out (by have := E5.out.size; omega))
               have hz6 := Nat.le_trans hz2 (Nat.le_trans E5.out.size E6.out.size)
               clear hs5 hb5))
          | (go_simp
             go_at_call 97
             go_must (
               rw [← e6]
               refine (implConcat (fun b => (Value.slice A' m c').ownBlock ≠ some b ∧ X b) [List.replicate p.kids.length anyN, t] (some ⟨w5.heap.size, 0, none⟩) 2 w6 (fun b hb => HX2.out b (Nat.le_trans (Nat.le_trans E5.out.size E6.out.size) hb)) (by have := HLL.out; simp at this ⊢; omega) S6.out).mono ?_
               rintro e w7 ⟨A7, c7, rfl, hs7, hb7⟩
               rw [show [List.replicate p.kids.length anyN, t].flatten = List.replicate p.kids.length anyN ++ t by simp] at hs7 ⊢
               have G7 := Lib.hid (G6.out.below hb7)
               have HB7 := Lib.hid (HB6.out.trans (hb7.mono hs6))
               have hs77 := HB7.out.size
               have P7 := Lib.hid (P6.out.below hb7 (by omega))
               obtain ⟨w8, e8⟩ : ∃ w8, w8 = w7.alloc (.cells #[.slice A7 (p.kids.length + t.length) c7] 31) := ⟨_, rfl⟩
               have E8 := Lib.hid (show Below w7.heap.size w7 w8 by rw [e8]; exact (Below.refl _ _).alloc (Nat.le_refl _) _)
               have hs8 := Nat.le_trans (Nat.le_trans hz6 hb7.size) E8.out.size
               have e8x : w8 = w7.alloc (.cells #[.slice A7 (List.replicate p.kids.length anyN ++ t).length c7] 31) := by rw [e8, HLL.out]
               have T8 := Lib.hid (oneRow (X := X) (Value.slice A' m c') (fun g hg => (G7.out.own g hg).2) (HX.out _ hs77) e8x hs7)
               have G8 := Lib.hid (G7.out.below E8.out)
               have P8 := Lib.hid (P7.out.below E8.out (by have := hb7.size; omega))
               have HB8 := Lib.hid (HB7.out.trans (E8.out.mono hs77))
               clear hs7 hb7)))
        all_goals
          go_wp2_with fail
          go_roundw
          case rel => exact ⟨j + 1, m + 1, A4, c4, by omega, by go_num, rfl, by omega, Lib.hid (by rw [HV.out, List.map_append]; exact G4h.out), P4, hz4, B4⟩
          case measure => simp [intOf]; omega
    · have hje : j = rows.length := by omega
      have HLE := Lib.hid (show rows.take j = rows by rw [hje, List.take_length])
      clear hje
      go_wp2_with fail
      go_ret
      have hG := HG.out
      rw [HLE.out] at hG
      obtain ⟨A5, c5, e5, hs5⟩ := hG.sl (fun b hb => HX.out b (by omega))
      have hl5 := hG.1
      obtain ⟨rfl, rfl⟩ : A' = A5 ∧ c' = c5 := by simpa using e5
      exact ⟨A', c', ret_sl (by rw [← hl5]; simp), hs5, HB.out⟩
end Go.Proofs.YtgbcdfeflgnogaaGreat
