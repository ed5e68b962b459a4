/- The laws' sz, to and eq functions at Tree. Conditions: what is counted is at most 1048576. -/
import Derived.Test.YtjcgfbjdailgoaaRows
import Derived.Test.YtjcgfbjdailgoaaPw
import Derived.Test.YtjcgfbjdailgoaaGTree
import Derived.Lib.Hide
import Derived.StillTailTactics
import Derived.Test.YtjcgfbjdailgoaaAInt
namespace Go.Proofs.Ytjcgfbjdailgoaa
open Go.RowKit
set_option linter.unusedVariables false
set_option linter.unusedSimpArgs false
set_option maxHeartbeats 400000

theorem szTreeS (l : List GTree) (A : Option Addr) (c : Nat) (left : Int) (w : World) (hs : Sl w (Lt w.heap.size) 5 A c (l.map GTree.toD)) (h0 : 0 ≤ left) (h1 : left ≤ 1048576)
    (H : ∀ t, t ∈ l → ∀ (A1 : Option Addr) (c1 : Nat) (A2 : Option Addr) (c2 : Nat) (left : Int) (w : World), 0 ≤ left → left ≤ 1048576 → GTree.At w (Lt w.heap.size) A1 c1 A2 c2 t →
      Calls Try.prog 36 #[.agg #[.int .i64 t.op, .int .i64 t.n, .slice A1 t.path.length c1, .string t.s, .slice A2 t.kids.length c2], .int .i64 left] w fun e w' => e = .returned (.int .i64 (szv t.bulk left)) ∧ Below w.heap.size w w') :
    Calls Try.prog 107 #[.slice A l.length c, .int .i64 left] w fun e w' => e = .returned (.int .i64 (szv (bulkL GTree.bulk l) left)) ∧ Below w.heap.size w w' := by
  have hlen : l.length ≤ 9223372036854775807 := by simpa using hs.len
  have HH := Lib.hid H
  clear H
  by_cases hll : left < (l.length : Int)
  · have hg : left - (l.length : Int) < 0 := by omega
    have hv := Lib.hid (szv_gt (b := bulkL GTree.bulk l) (left := left) (by have := bulkL_len GTree.bulk l; omega))
    go_enter Try.func107, Try.ntmps107
    go_wp2_with fail
    go_ret
    exact ⟨ret_int hv.out.symm, Below.refl _ _⟩
  · have hg : 0 ≤ left - (l.length : Int) := by omega
    go_enter Try.func107, Try.ntmps107
    go_wp2_with fail
    go_loopw [1, 5] (fun n i wr => ∃ (j : Nat) (L : Int), j ≤ l.length ∧ i = .int .i64 j ∧ n = .int .i64 L ∧ L = left - l.length - (bulkL GTree.bulk (l.take j) - j) ∧ 0 ≤ L ∧ L ≤ left ∧ Below w.heap.size w wr) (fun _ i _ => l.length - (intOf i).toNat)
    case atStart => exact ⟨0, _, by omega, by go_num, rfl, by simp [bulkL], by omega, by omega, Below.refl _ _⟩
    case round =>
      obtain ⟨j, L, hj, rfl, rfl, hL, hL0, hL1, hb⟩ := hrel
      have HL := Lib.hid hL
      clear hL
      have hsz := hb.size
      by_cases hlt : j < l.length
      · have hel := GTree.elem (hs.below hb (Nat.le_refl _)) j hlt
        obtain ⟨b, off, A1, c1, A2, c2, rfl, hSb, g0, g1, g2, g3, g4, hat⟩ := hel
        have hmem : l[j] ∈ l := List.getElem_mem hlt
        have hts := Lib.hid (bulkL_take_succ GTree.bulk l j hlt)
        have htl := Lib.hid (bulkL_take_le GTree.bulk l (j + 1) (by omega))
        have htg := Lib.hid (bulkL_take_ge GTree.bulk l j (by omega))
        go_wp2_with fail
        refine (HH.out _ hmem _ _ _ _ L _ hL0 (by omega) (hat.below (Below.refl _ _) hsz)).mono ?_
        rintro e w1 ⟨rfl, hb1⟩
        by_cases hle : ((l[j]).bulk : Int) ≤ L
        · have hv := szv_le hle
          have hge : 0 ≤ L - ((l[j]).bulk : Int) := by omega
          go_wp2_with fail
          go_roundw
          case rel => exact ⟨j + 1, _, by omega, by go_num, rfl, by rw [hts.out, HL.out]; omega, by omega, by omega, hb.trans (hb1.mono hsz)⟩
          case measure => simp [intOf]; omega
        · have hv := szv_gt (b := (l[j]).bulk) (left := L) (by omega)
          go_wp2_with fail
          go_ret
          refine ⟨ret_int ?_, hb.trans (hb1.mono hsz)⟩
          have e1 := hts.out; have e2 := htl.out; have e3 := htg.out; have e4 := HL.out
          rw [szv_gt (by omega)]
      · have hjl : j = l.length := by omega
        have Hj := Lib.hid hjl
        clear hjl
        go_wp2_with fail
        go_ret
        refine ⟨ret_int ?_, hb⟩
        have e4 := HL.out
        rw [Hj.out, List.take_length] at e4
        have := bulkL_len GTree.bulk l
        rw [szv_le (by omega)]; omega

theorem szTree (k : Nat) : ∀ (t : GTree) (A1 : Option Addr) (c1 : Nat) (A2 : Option Addr) (c2 : Nat) (left : Int) (w : World), t.bulk < k → 0 ≤ left → left ≤ 1048576 → GTree.At w (Lt w.heap.size) A1 c1 A2 c2 t →
      Calls Try.prog 36 #[.agg #[.int .i64 t.op, .int .i64 t.n, .slice A1 t.path.length c1, .string t.s, .slice A2 t.kids.length c2], .int .i64 left] w fun e w' => e = .returned (.int .i64 (szv t.bulk left)) ∧ Below w.heap.size w w' := by
  induction k with
  | zero => intro t A1 c1 A2 c2 left w hk; omega
  | succ k ih =>
    intro t A1 c1 A2 c2 left w hk h0 h1 hat
    have hbe := t.bulk_eq
    obtain ⟨k0, k1, k2, k3, k4⟩ := id hat
    have s3 : t.s.size ≤ 9223372036854775807 := by unfold maxLen at k3; omega
    have H3 := fun (left : Int) (w : World) hs h0 h1 => szTreeS t.kids A2 c2 left w hs h0 h1 (fun u hu A1 c1 A2 c2 left w h0 h1 hat => ih u A1 c1 A2 c2 left w (by have := bulkL_mem GTree.bulk t.kids u hu; omega) h0 h1 hat)
    have HH := Lib.hid H3
    have HE := Lib.hid hbe
    have hat' := Lib.hid hat
    clear hbe hat k0 k1 k2 k3 k4 H3 ih
    have B0 : Below w.heap.size w (w.alloc (.cells #[.int .i64 t.op, .int .i64 t.n, .slice A1 t.path.length c1, .string t.s, .slice A2 t.kids.length c2] 62)) := (Below.refl _ _).alloc (Nat.le_refl _) _
    have r0 := Lib.hid (Row.new w 62 #[.int .i64 t.op, .int .i64 t.n, .slice A1 t.path.length c1, .string t.s, .slice A2 t.kids.length c2])
    go_enter Try.func36, Try.ntmps36
    go_wp2_with fail
    obtain ⟨-, -, k2, -, -⟩ := hat'.out.below B0 B0.size
    refine (szIntS t.path A1 c1 _ _ k2 (by omega) (by omega)).mono ?_
    rintro e w1 ⟨rfl, hb1⟩
    have B1 := B0.trans (hb1.mono B0.size)
    have r1 := Lib.hid (r0.out.below hb1 r0.out.lt)
    have hc1 := fun i => r1.out.cell i
    by_cases g2 : ((t.path.length : Nat) : Int) ≤ left
    rotate_left
    · have hv := szv_gt (b := t.path.length) (left := left) (by omega)
      go_wp2_with fail
      go_ret
      refine ⟨ret_int ?_, B1⟩
      have := HE.out
      rw [szv_gt (by omega)]
    have v2 := szv_le g2
    have q2 : 0 ≤ left - ((t.path.length : Nat) : Int) := by omega
    by_cases g3 : ((t.s.size : Nat) : Int) ≤ left - ((t.path.length : Nat) : Int)
    rotate_left
    · have q3 : left - ((t.path.length : Nat) : Int) - ((t.s.size : Nat) : Int) < 0 := by omega
      go_wp2_with fail
      go_ret
      refine ⟨ret_int ?_, B1⟩
      have := HE.out
      rw [szv_gt (by omega)]
    have q3 : 0 ≤ left - ((t.path.length : Nat) : Int) - ((t.s.size : Nat) : Int) := by omega
    go_wp2_with fail
    obtain ⟨-, -, -, -, k4⟩ := hat'.out.below B1 B1.size
    refine (HH.out _ _ k4 (by omega) (by omega)).mono ?_
    rintro e w2 ⟨rfl, hb2⟩
    have B2 := B1.trans (hb2.mono B1.size)
    by_cases g4 : ((bulkL GTree.bulk t.kids : Nat) : Int) ≤ left - ((t.path.length : Nat) : Int) - ((t.s.size : Nat) : Int)
    rotate_left
    · have hv := szv_gt (b := bulkL GTree.bulk t.kids) (left := left - ((t.path.length : Nat) : Int) - ((t.s.size : Nat) : Int)) (by omega)
      go_wp2_with fail
      go_ret
      refine ⟨ret_int ?_, B2⟩
      have := HE.out
      rw [szv_gt (by omega)]
    have v4 := szv_le g4
    have q4 : 0 ≤ left - ((t.path.length : Nat) : Int) - ((t.s.size : Nat) : Int) - ((bulkL GTree.bulk t.kids : Nat) : Int) := by omega
    go_wp2_with fail
    go_ret
    refine ⟨ret_int ?_, B2⟩
    have := HE.out
    rw [szv_le (by omega)]; omega

theorem szTree' (t : GTree) (A1 : Option Addr) (c1 : Nat) (A2 : Option Addr) (c2 : Nat) (left : Int) (w : World) (h0 : 0 ≤ left) (h1 : left ≤ 1048576) (hat : GTree.At w (Lt w.heap.size) A1 c1 A2 c2 t) :
      Calls Try.prog 36 #[.agg #[.int .i64 t.op, .int .i64 t.n, .slice A1 t.path.length c1, .string t.s, .slice A2 t.kids.length c2], .int .i64 left] w fun e w' => e = .returned (.int .i64 (szv t.bulk left)) ∧ Below w.heap.size w w' :=
  szTree (t.bulk + 1) t A1 c1 A2 c2 left w (by omega) h0 h1 hat

theorem szTreeS' (l : List GTree) (A : Option Addr) (c : Nat) (left : Int) (w : World) (hs : Sl w (Lt w.heap.size) 5 A c (l.map GTree.toD)) (h0 : 0 ≤ left) (h1 : left ≤ 1048576) :
    Calls Try.prog 107 #[.slice A l.length c, .int .i64 left] w fun e w' => e = .returned (.int .i64 (szv (bulkL GTree.bulk l) left)) ∧ Below w.heap.size w w' :=
  szTreeS l A c left w hs h0 h1 (fun u _ A1 c1 A2 c2 left w h0 h1 hat => szTree' u A1 c1 A2 c2 left w h0 h1 hat)

/-- what a to function gives back: a struct of the call's own -/
def ToTree (t : GTree) (w : World) (e : Ending) (w' : World) : Prop := ∃ A1 c1 A2 c2, e = .returned (.agg #[.int .i64 t.op, .int .i64 t.n, .slice A1 t.path.length c1, .string t.s, .slice A2 t.kids.length c2]) ∧ GTree.Ow w' (Btw w.heap.size w'.heap.size) A1 c1 A2 c2 t ∧ Below w.heap.size w w'
def ToTreeS (l : List GTree) (w : World) (e : Ending) (w' : World) : Prop := ∃ A1 c1, e = .returned (.slice A1 l.length c1) ∧ Osl w' (Btw w.heap.size w'.heap.size) 5 A1 c1 (l.map GTree.toD) ∧ Below w.heap.size w w'

def zTree : Value := .agg #[.int .i64 0, .int .i64 0, .slice none 0 0, .string ⟨#[]⟩, .slice none 0 0]
theorem mkTree (n : Nat) (hn : n ≤ 1048576) (w : World) : (Instr.makeSlice 68 (.int .i64 (n : Int)) (.int .i64 (n : Int))).run Try.prog w = .ok (.slice (some ⟨w.heap.size, 0, none⟩) n n) (w.alloc (.cells (zr zTree 5 n) 70)) :=
  run_mk 68 70 zTree 5 80 Try.underlying68 (by kernel_rfl) n hn (by omega) w

theorem toTreeS (l : List GTree) (A : Option Addr) (c : Nat) (w : World) (hs : Sl w (Lt w.heap.size) 5 A c (l.map GTree.toD)) (hl : l.length ≤ 1048576)
    (H : ∀ t, t ∈ l → ∀ (A1 : Option Addr) (c1 : Nat) (A2 : Option Addr) (c2 : Nat) (w : World), GTree.At w (Lt w.heap.size) A1 c1 A2 c2 t →
      Calls Try.prog 39 #[.agg #[.int .i64 t.op, .int .i64 t.n, .slice A1 t.path.length c1, .string t.s, .slice A2 t.kids.length c2]] w (ToTree t w)) :
    Calls Try.prog 111 #[.slice A l.length c] w (ToTreeS l w) := by
  have HH := Lib.hid H
  clear H
  have hmk := mkTree l.length hl
  go_enter Try.func111, Try.ntmps111
  go_wp2_with fail
  clear hmk
  go_loopw [4] (fun i wr => ∃ (j : Nat) (row : Array Value), j ≤ l.length ∧ i = .int .i64 j ∧ Row wr w.heap.size 70 row ∧ row.size = l.length * 5 ∧
      D.ownR wr 5 w.heap.size ((l.take j).map GTree.toD) (fun b => w.heap.size < b ∧ b < wr.heap.size) 0 ∧ Below w.heap.size w wr) (fun i _ => l.length - (intOf i).toNat)
  case atStart => exact ⟨0, _, by omega, by go_num, Row.new _ _ _, zr_size _ _ _, by simp [D.ownR], (Below.refl _ _).alloc (Nat.le_refl _) _⟩
  case round =>
    obtain ⟨j, row, hj, rfl, hrow, hrs, hown, hb⟩ := hrel
    have hsz := hb.size
    have hgl := hrow.lt
    by_cases hlt : j < l.length
    · have hel := GTree.elem (hs.below hb (Nat.le_refl _)) j hlt
      obtain ⟨b, off, A1, c1, A2, c2, rfl, hSb, g0, g1, g2, g3, g4, hat⟩ := hel
      have hmem : l[j] ∈ l := List.getElem_mem hlt
      go_wp2_with fail
      refine (HH.out _ hmem _ _ _ _ _ (hat.below (Below.refl _ _) hsz)).mono ?_
      rintro e w1 ⟨B1, d1, B2, d2, rfl, how, hb1⟩
      have hrow1 := Lib.hid (hrow.below hb1 hgl)
      have hf := fun i => hrow1.out.frozen i
      obtain ⟨v0, y0⟩ := row_some (row := row) (j * 5) (by omega)
      obtain ⟨v1, y1⟩ := row_some (row := row) (j * 5 + 1) (by omega)
      obtain ⟨v2, y2⟩ := row_some (row := row) (j * 5 + 2) (by omega)
      obtain ⟨v3, y3⟩ := row_some (row := row) (j * 5 + 3) (by omega)
      obtain ⟨v4, y4⟩ := row_some (row := row) (j * 5 + 4) (by omega)
      have x0 := (hrow1.out.cell (j * 5)).trans y0
      have x1 := (hrow1.out.cell (j * 5 + 1)).trans y1
      have x2 := (hrow1.out.cell (j * 5 + 2)).trans y2
      have x3 := (hrow1.out.cell (j * 5 + 3)).trans y3
      have x4 := (hrow1.out.cell (j * 5 + 4)).trans y4
      clear y0 y1 y2 y3 y4
      have hst := fill_step hrow1.out (j := j) (m := wr.heap.size) (xs := (l.take j).map GTree.toD) (size := 5) (by simp; omega) (by omega) hgl hb1.size
        (D.ownR_keep 5 _ _ _ _ 0 (fun b hb => ⟨hb, hb1.block b hb.2⟩) (fun i _ => hb1.cell (p := ⟨w.heap.size, i, none⟩) hgl) hown) (GTree.own_mk how) rfl
      have hB := setCells_below (hb.trans (hb1.mono hsz)) w.heap.size (j * 5) (Nat.le_refl _) [.int .i64 l[j].op, .int .i64 l[j].n, .slice B1 l[j].path.length d1, .string l[j].s, .slice B2 l[j].kids.length d2]
      go_wp2_with fail
      go_roundw
      case rel =>
        obtain ⟨row', p1, p2, p3⟩ := hst
        exact ⟨j + 1, row', by omega, by go_num, p1, by omega, by rw [take_snoc' l j hlt, List.map_append]; exact p3, hB⟩
      case measure => simp [intOf]; omega
    · have hjl : j = l.length := by omega
      have Hj := Lib.hid hjl
      clear hjl
      go_wp2_with fail
      go_ret
      rw [Hj.out, List.take_length] at hown
      exact ⟨_, _, rfl, fill_end hrow (Nat.le_refl _) (by simp) (by unfold maxLen; omega) hown, hb⟩

theorem toTree (k : Nat) : ∀ (t : GTree) (A1 : Option Addr) (c1 : Nat) (A2 : Option Addr) (c2 : Nat) (w : World), t.bulk < k → t.bulk ≤ 1048576 → GTree.At w (Lt w.heap.size) A1 c1 A2 c2 t →
      Calls Try.prog 39 #[.agg #[.int .i64 t.op, .int .i64 t.n, .slice A1 t.path.length c1, .string t.s, .slice A2 t.kids.length c2]] w (ToTree t w) := by
  induction k with
  | zero => intro t A1 c1 A2 c2 w hk; omega
  | succ k ih =>
    intro t A1 c1 A2 c2 w hk h1 hat
    have hbe := t.bulk_eq
    have H3 := fun (w : World) hs => toTreeS t.kids A2 c2 w hs (by have := bulkL_len GTree.bulk t.kids; omega) (fun u hu A1 c1 A2 c2 w hat => ih u A1 c1 A2 c2 w (by have := bulkL_mem GTree.bulk t.kids u hu; omega) (by have := bulkL_mem GTree.bulk t.kids u hu; omega) hat)
    have HH := Lib.hid H3
    have m2 : t.path.length ≤ 1048576 := by omega
    have hat' := Lib.hid hat
    clear hbe hat H3 ih
    go_enter Try.func39, Try.ntmps39
    go_wp2_with fail
    have W0 : ∃ w0, w0 = ((w.alloc (.cells #[.int .i64 t.op, .int .i64 t.n, .slice A1 t.path.length c1, .string t.s, .slice A2 t.kids.length c2] 62)).alloc (.cells #[.int .i64 0, .int .i64 0, .slice none 0 0, .string ⟨#[]⟩, .slice none 0 0] 70)).alloc (.cells #[.int .i64 t.op, .int .i64 t.n, .slice none 0 0, .string ⟨#[]⟩, .slice none 0 0] 70) := ⟨_, rfl⟩
    obtain ⟨w0, e0⟩ := W0
    have B0 : Below w.heap.size w w0 := by rw [e0]; exact (((Below.refl _ _).alloc (Nat.le_refl _) _).alloc (by simp) _).alloc (by simp; omega) _
    have S0 : w0.heap.size = w.heap.size + 3 := by rw [e0]; simp
    have Ra0 : Row w0 w.heap.size 62 #[.int .i64 t.op, .int .i64 t.n, .slice A1 t.path.length c1, .string t.s, .slice A2 t.kids.length c2] := by rw [e0]; exact ((Row.new' _ _ _ rfl).alloc _).alloc _
    have Rz0 : Row w0 (w.heap.size + 1) 70 #[.int .i64 0, .int .i64 0, .slice none 0 0, .string ⟨#[]⟩, .slice none 0 0] := by rw [e0]; exact (Row.new' _ _ _ (by simp)).alloc _
    have Ro0 : Row w0 (w.heap.size + 1 + 1) 70 #[.int .i64 t.op, .int .i64 t.n, .slice none 0 0, .string ⟨#[]⟩, .slice none 0 0] := by rw [e0]; exact Row.new' _ _ _ (by simp)
    rw [← e0]
    clear e0
    obtain ⟨-, -, q2, -, -⟩ := hat'.out.below B0 B0.size
    refine (toIntS t.path A1 c1 (w0) q2 m2).mono ?_
    rintro e w1 ⟨D1, d1, rfl, how2, hb1⟩
    have hs1 := hb1.size
    have X1 := B0.trans (hb1.mono B0.size)
    have Rax1 := Lib.hid (Ra0.below hb1 Ra0.lt)
    have Rzx1 := Lib.hid (Rz0.below hb1 Rz0.lt)
    have Rox1 := Lib.hid (Ro0.below hb1 Ro0.lt)
    have hca1 := fun i => Rax1.out.cell i
    have hcz1 := fun i => Rzx1.out.cell i
    have hco1 := fun i => Rox1.out.cell i
    have hfz1 := fun i => Rzx1.out.frozen i
    have hfo1 := fun i => Rox1.out.frozen i
    have B1 := setCells_below X1 (w.heap.size + 1 + 1) 2 (by omega) [.slice D1 t.path.length d1, .string t.s]
    have Ra1 : Hid (Row (setCells w1 (w.heap.size + 1 + 1) 2 [.slice D1 t.path.length d1, .string t.s]) w.heap.size 62 #[.int .i64 t.op, .int .i64 t.n, .slice A1 t.path.length c1, .string t.s, .slice A2 t.kids.length c2]) := ((Rax1.out).far (p := ⟨w.heap.size + 1 + 1, 2, none⟩) (by simp <;> omega) (.slice D1 t.path.length d1)).far (p := ⟨w.heap.size + 1 + 1, 3, none⟩) (by simp <;> omega) (.string t.s)
    have Rz1 : Hid (Row (setCells w1 (w.heap.size + 1 + 1) 2 [.slice D1 t.path.length d1, .string t.s]) (w.heap.size + 1) 70 #[.int .i64 0, .int .i64 0, .slice none 0 0, .string ⟨#[]⟩, .slice none 0 0]) := ((Rzx1.out).far (p := ⟨w.heap.size + 1 + 1, 2, none⟩) (by simp <;> omega) (.slice D1 t.path.length d1)).far (p := ⟨w.heap.size + 1 + 1, 3, none⟩) (by simp <;> omega) (.string t.s)
    have Ro1 : Hid (Row (setCells w1 (w.heap.size + 1 + 1) 2 [.slice D1 t.path.length d1, .string t.s]) (w.heap.size + 1 + 1) 70 #[.int .i64 t.op, .int .i64 t.n, .slice D1 t.path.length d1, .string t.s, .slice none 0 0]) := ((Rox1.out).set 2 (.slice D1 t.path.length d1)).set 3 (.string t.s)
    replace how2 := how2.keep (S' := Btw (w0).heap.size (w1).heap.size) (w' := setCells w1 (w.heap.size + 1 + 1) 2 [.slice D1 t.path.length d1, .string t.s]) fun b hb => ⟨hb, setCells_block _ _ _ _ _ (by have := hb.1; first | omega | (simp only [setCells_size] at *; omega) | (simp only [setCells_size] at *; done))⟩
    go_wp2_with fail
    obtain ⟨-, -, -, -, q4⟩ := hat'.out.below B1 B1.size
    refine (HH.out (setCells w1 (w.heap.size + 1 + 1) 2 [.slice D1 t.path.length d1, .string t.s]) q4).mono ?_
    rintro e w2 ⟨D2, d2, rfl, how4, hb2⟩
    have hs2 := hb2.size
    have X2 := B1.trans (hb2.mono B1.size)
    have Rax2 := Lib.hid (Ra1.out.below hb2 Ra1.out.lt)
    have Rzx2 := Lib.hid (Rz1.out.below hb2 Rz1.out.lt)
    have Rox2 := Lib.hid (Ro1.out.below hb2 Ro1.out.lt)
    have hca2 := fun i => Rax2.out.cell i
    have hcz2 := fun i => Rzx2.out.cell i
    have hco2 := fun i => Rox2.out.cell i
    have hfz2 := fun i => Rzx2.out.frozen i
    have hfo2 := fun i => Rox2.out.frozen i
    replace how2 := how2.keep (S' := Btw (w0).heap.size (w1).heap.size) fun b hb => ⟨hb, hb2.block b (by have := hb.2; have := hs2; first | omega | (simp only [setCells_size] at *; omega) | (simp only [setCells_size] at *; done))⟩
    have B2 := setCells_below X2 (w.heap.size + 1 + 1) 4 (by omega) [.slice D2 t.kids.length d2]
    have Ra2 : Hid (Row (setCells w2 (w.heap.size + 1 + 1) 4 [.slice D2 t.kids.length d2]) w.heap.size 62 #[.int .i64 t.op, .int .i64 t.n, .slice A1 t.path.length c1, .string t.s, .slice A2 t.kids.length c2]) := (Rax2.out).far (p := ⟨w.heap.size + 1 + 1, 4, none⟩) (by simp <;> omega) (.slice D2 t.kids.length d2)
    have Rz2 : Hid (Row (setCells w2 (w.heap.size + 1 + 1) 4 [.slice D2 t.kids.length d2]) (w.heap.size + 1) 70 #[.int .i64 0, .int .i64 0, .slice none 0 0, .string ⟨#[]⟩, .slice none 0 0]) := (Rzx2.out).far (p := ⟨w.heap.size + 1 + 1, 4, none⟩) (by simp <;> omega) (.slice D2 t.kids.length d2)
    have Ro2 : Hid (Row (setCells w2 (w.heap.size + 1 + 1) 4 [.slice D2 t.kids.length d2]) (w.heap.size + 1 + 1) 70 #[.int .i64 t.op, .int .i64 t.n, .slice D1 t.path.length d1, .string t.s, .slice D2 t.kids.length d2]) := (Rox2.out).set 4 (.slice D2 t.kids.length d2)
    replace how2 := how2.keep (S' := Btw (w0).heap.size (w1).heap.size) (w' := setCells w2 (w.heap.size + 1 + 1) 4 [.slice D2 t.kids.length d2]) fun b hb => ⟨hb, setCells_block _ _ _ _ _ (by have := hb.1; first | omega | (simp only [setCells_size] at *; omega) | (simp only [setCells_size] at *; done))⟩
    replace how4 := how4.keep (S' := Btw (setCells w1 (w.heap.size + 1 + 1) 2 [.slice D1 t.path.length d1, .string t.s]).heap.size (w2).heap.size) (w' := setCells w2 (w.heap.size + 1 + 1) 4 [.slice D2 t.kids.length d2]) fun b hb => ⟨hb, setCells_block _ _ _ _ _ (by have := hb.1; first | omega | (simp only [setCells_size] at *; omega) | (simp only [setCells_size] at *; done))⟩
    have BF := setCells_below B2 (w.heap.size + 1) 0 (by omega) [.int .i64 t.op, .int .i64 t.n, .slice D1 t.path.length d1, .string t.s, .slice D2 t.kids.length d2]
    have SF : (setCells (setCells w2 (w.heap.size + 1 + 1) 4 [.slice D2 t.kids.length d2]) (w.heap.size + 1) 0 [.int .i64 t.op, .int .i64 t.n, .slice D1 t.path.length d1, .string t.s, .slice D2 t.kids.length d2]).heap.size = w2.heap.size := by rw [setCells_size, setCells_size]
    replace how2 := how2.keep (S' := Btw (w0).heap.size (w1).heap.size) (w' := setCells (setCells w2 (w.heap.size + 1 + 1) 4 [.slice D2 t.kids.length d2]) (w.heap.size + 1) 0 [.int .i64 t.op, .int .i64 t.n, .slice D1 t.path.length d1, .string t.s, .slice D2 t.kids.length d2]) fun b hb => ⟨hb, setCells_block _ _ _ _ _ (by have := hb.1; first | omega | (simp only [setCells_size] at *; omega) | (simp only [setCells_size] at *; done))⟩
    replace how4 := how4.keep (S' := Btw (setCells w1 (w.heap.size + 1 + 1) 2 [.slice D1 t.path.length d1, .string t.s]).heap.size (w2).heap.size) (w' := setCells (setCells w2 (w.heap.size + 1 + 1) 4 [.slice D2 t.kids.length d2]) (w.heap.size + 1) 0 [.int .i64 t.op, .int .i64 t.n, .slice D1 t.path.length d1, .string t.s, .slice D2 t.kids.length d2]) fun b hb => ⟨hb, setCells_block _ _ _ _ _ (by have := hb.1; first | omega | (simp only [setCells_size] at *; omega) | (simp only [setCells_size] at *; done))⟩
    have qs := hat'.out
    obtain ⟨p0, p1, p2, p3, p4⟩ := qs
    go_wp2_with fail
    exact bodyPost_ret (v := .agg #[.int .i64 t.op, .int .i64 t.n, .slice D1 t.path.length d1, .string t.s, .slice D2 t.kids.length d2]) (by simp [results, Try.results39, go_sem, hca2, hcz2, hco2]) rfl ⟨D1, d1, D2, d2, rfl, ⟨Btw (w0).heap.size (w1).heap.size, Btw (setCells w1 (w.heap.size + 1 + 1) 2 [.slice D1 t.path.length d1, .string t.s]).heap.size (w2).heap.size, fun x hx => ⟨by have := hx.1; first | omega | (simp only [setCells_size] at *; omega) | (simp only [setCells_size] at *; done), by have := hx.2; have := SF; first | omega | (have h3 := SF; exact Nat.lt_of_lt_of_le (by first | omega | (simp only [setCells_size] at *; omega)) (Nat.le_of_eq h3.symm)) | (simp only [setCells_size] at *; omega) | (simp only [setCells_size] at *; done)⟩, fun x hx => ⟨by have := hx.1; first | omega | (simp only [setCells_size] at *; omega) | (simp only [setCells_size] at *; done), by have := hx.2; have := SF; first | omega | (have h3 := SF; exact Nat.lt_of_lt_of_le (by first | omega | (simp only [setCells_size] at *; omega)) (Nat.le_of_eq h3.symm)) | (simp only [setCells_size] at *; omega) | (simp only [setCells_size] at *; done)⟩, fun x hx hy => by have := hx.2; have := hy.1; first | omega | (simp only [setCells_size] at *; omega) | (simp only [setCells_size] at *; done), p0, p1, how2, p3, how4⟩, BF⟩

theorem toTree' (t : GTree) (A1 : Option Addr) (c1 : Nat) (A2 : Option Addr) (c2 : Nat) (w : World) (h1 : t.bulk ≤ 1048576) (hat : GTree.At w (Lt w.heap.size) A1 c1 A2 c2 t) :
      Calls Try.prog 39 #[.agg #[.int .i64 t.op, .int .i64 t.n, .slice A1 t.path.length c1, .string t.s, .slice A2 t.kids.length c2]] w (ToTree t w) :=
  toTree (t.bulk + 1) t A1 c1 A2 c2 w (by omega) h1 hat

theorem toTreeS' (l : List GTree) (A : Option Addr) (c : Nat) (w : World) (hs : Sl w (Lt w.heap.size) 5 A c (l.map GTree.toD)) (hl : bulkL GTree.bulk l ≤ 1048576) :
    Calls Try.prog 111 #[.slice A l.length c] w (ToTreeS l w) :=
  toTreeS l A c w hs (by have := bulkL_len GTree.bulk l; omega) (fun u hu A1 c1 A2 c2 w hat => toTree' u A1 c1 A2 c2 w (by have := bulkL_mem GTree.bulk l u hu; omega) hat)

set_option maxRecDepth 20000 in
theorem eqTreeS (l : List GTree) (A B : Option Addr) (c d : Nat) (w : World) (hs : Sl w (Lt w.heap.size) 5 A c (l.map GTree.toD)) (hs' : Sl w (Lt w.heap.size) 5 B d (l.map GTree.toD))
    (H : ∀ t, t ∈ l → ∀ (A1 : Option Addr) (c1 : Nat) (A2 : Option Addr) (c2 : Nat) (B1 : Option Addr) (d1 : Nat) (B2 : Option Addr) (d2 : Nat) (w : World), GTree.At w (Lt w.heap.size) A1 c1 A2 c2 t → GTree.At w (Lt w.heap.size) B1 d1 B2 d2 t →
      Calls Try.prog 42 #[.agg #[.int .i64 t.op, .int .i64 t.n, .slice A1 t.path.length c1, .string t.s, .slice A2 t.kids.length c2], .agg #[.int .i64 t.op, .int .i64 t.n, .slice B1 t.path.length d1, .string t.s, .slice B2 t.kids.length d2]] w fun e w' => e = .returned (.bool true) ∧ Below w.heap.size w w') :
    Calls Try.prog 115 #[.slice A l.length c, .slice B l.length d] w fun e w' => e = .returned (.bool true) ∧ Below w.heap.size w w' := by
  have hlen : l.length ≤ 9223372036854775807 := by simpa using hs.len
  have HH := Lib.hid H
  clear H
  go_enter Try.func115, Try.ntmps115
  go_wp2_with fail
  go_loopw [5] (fun i wr => ∃ (j : Nat), j ≤ l.length ∧ i = .int .i64 j ∧ Below w.heap.size w wr) (fun i _ => l.length - (intOf i).toNat)
  case atStart => exact ⟨0, by omega, by go_num, Below.refl _ _⟩
  case round =>
    obtain ⟨j, hj, rfl, hb⟩ := hrel
    have hsz := hb.size
    by_cases hlt : j < l.length
    · have hel := GTree.elem (hs.below hb (Nat.le_refl _)) j hlt
      obtain ⟨b, off, A1, c1, A2, c2, rfl, hSb, g0, g1, g2, g3, g4, hat⟩ := hel
      have hel := GTree.elem (hs'.below hb (Nat.le_refl _)) j hlt
      obtain ⟨b', off', B1, d1, B2, d2, rfl, hSb', g0', g1', g2', g3', g4', hat'⟩ := hel
      have hmem : l[j] ∈ l := List.getElem_mem hlt
      go_wp2_with fail
      refine wp_region_still_tail 8 (by kernel_rfl) (by kernel_rfl) ?_
      simp only [List.take_succ_cons, List.take_zero, List.drop_succ_cons, List.drop_zero]
      change wpStill _ _ wr.drew (fun a' => wpList _ _ _ _ a' wr.drew) _ _
      iterate 8 still_step
      refine wpStill_nil ?_
      go_wp2_with fail
      refine (HH.out _ hmem _ _ _ _ _ _ _ _ wr.drew (hat.keep fun b hb => ⟨Nat.lt_of_lt_of_le hb hsz, rfl⟩) (hat'.keep fun b hb => ⟨Nat.lt_of_lt_of_le hb hsz, rfl⟩)).mono ?_
      rintro e w1 ⟨rfl, hb1⟩
      go_wp2_with fail
      go_roundw
      case rel => exact ⟨j + 1, by omega, by go_num, hb.drew.trans (hb1.mono hsz)⟩
      case measure => simp [intOf]; omega
    · have hjl : j = l.length := by omega
      clear hjl
      go_wp2_with fail
      go_ret
      exact ⟨rfl, hb⟩

set_option maxRecDepth 20000 in
theorem eqTree (k : Nat) : ∀ (t : GTree) (A1 : Option Addr) (c1 : Nat) (A2 : Option Addr) (c2 : Nat) (B1 : Option Addr) (d1 : Nat) (B2 : Option Addr) (d2 : Nat) (w : World), t.bulk < k → GTree.At w (Lt w.heap.size) A1 c1 A2 c2 t → GTree.At w (Lt w.heap.size) B1 d1 B2 d2 t →
      Calls Try.prog 42 #[.agg #[.int .i64 t.op, .int .i64 t.n, .slice A1 t.path.length c1, .string t.s, .slice A2 t.kids.length c2], .agg #[.int .i64 t.op, .int .i64 t.n, .slice B1 t.path.length d1, .string t.s, .slice B2 t.kids.length d2]] w fun e w' => e = .returned (.bool true) ∧ Below w.heap.size w w' := by
  induction k with
  | zero => intro t A1 c1 A2 c2 B1 d1 B2 d2 w hk; omega
  | succ k ih =>
    intro t A1 c1 A2 c2 B1 d1 B2 d2 w hk hat hat2
    have hbe := t.bulk_eq
    have H3 := fun (w : World) hs hs' => eqTreeS t.kids A2 B2 c2 d2 w hs hs' (fun u hu A1 c1 A2 c2 B1 d1 B2 d2 w hat hat2 => ih u A1 c1 A2 c2 B1 d1 B2 d2 w (by have := bulkL_mem GTree.bulk t.kids u hu; omega) hat hat2)
    have HH := Lib.hid H3
    clear hbe H3 ih
    have hat' := Lib.hid hat
    have hat2' := Lib.hid hat2
    clear hat hat2
    have B0 : Below w.heap.size w ((w.alloc (.cells #[.int .i64 t.op, .int .i64 t.n, .slice A1 t.path.length c1, .string t.s, .slice A2 t.kids.length c2] 70)).alloc (.cells #[.int .i64 t.op, .int .i64 t.n, .slice B1 t.path.length d1, .string t.s, .slice B2 t.kids.length d2] 70)) := ((Below.refl _ _).alloc (Nat.le_refl _) _).alloc (by simp) _
    have ra0 := Lib.hid ((Row.new w 70 #[.int .i64 t.op, .int .i64 t.n, .slice A1 t.path.length c1, .string t.s, .slice A2 t.kids.length c2]).alloc (.cells #[.int .i64 t.op, .int .i64 t.n, .slice B1 t.path.length d1, .string t.s, .slice B2 t.kids.length d2] 70))
    have rb0 := Lib.hid (Row.new' (w.alloc (.cells #[.int .i64 t.op, .int .i64 t.n, .slice A1 t.path.length c1, .string t.s, .slice A2 t.kids.length c2] 70)) 70 #[.int .i64 t.op, .int .i64 t.n, .slice B1 t.path.length d1, .string t.s, .slice B2 t.kids.length d2] (g := w.heap.size + 1) (by simp))
    go_enter Try.func42, Try.ntmps42
    go_wp2_with fail
    obtain ⟨-, -, q2, -, -⟩ := hat'.out.below B0 B0.size
    obtain ⟨-, -, p2, -, -⟩ := hat2'.out.below B0 B0.size
    refine (eqIntS t.path A1 B1 c1 d1 _ q2 p2).mono ?_
    rintro e w1 ⟨rfl, hb1⟩
    have B1 := B0.trans (hb1.mono B0.size)
    have ra1 := Lib.hid (ra0.out.below hb1 ra0.out.lt)
    have rb1 := Lib.hid (rb0.out.below hb1 rb0.out.lt)
    have ha1 := fun i => ra1.out.cell i
    have hq1 := fun i => rb1.out.cell i
    go_wp2_with fail
    obtain ⟨-, -, -, -, q4⟩ := hat'.out.below B1 B1.size
    obtain ⟨-, -, -, -, p4⟩ := hat2'.out.below B1 B1.size
    refine (HH.out _ q4 p4).mono ?_
    rintro e w2 ⟨rfl, hb2⟩
    have B2 := B1.trans (hb2.mono B1.size)
    go_wp2_with fail
    go_ret
    exact ⟨rfl, B2⟩

theorem eqTree' (t : GTree) (A1 : Option Addr) (c1 : Nat) (A2 : Option Addr) (c2 : Nat) (B1 : Option Addr) (d1 : Nat) (B2 : Option Addr) (d2 : Nat) (w : World) (hat : GTree.At w (Lt w.heap.size) A1 c1 A2 c2 t) (hat2 : GTree.At w (Lt w.heap.size) B1 d1 B2 d2 t) :
      Calls Try.prog 42 #[.agg #[.int .i64 t.op, .int .i64 t.n, .slice A1 t.path.length c1, .string t.s, .slice A2 t.kids.length c2], .agg #[.int .i64 t.op, .int .i64 t.n, .slice B1 t.path.length d1, .string t.s, .slice B2 t.kids.length d2]] w fun e w' => e = .returned (.bool true) ∧ Below w.heap.size w w' :=
  eqTree (t.bulk + 1) t A1 c1 A2 c2 B1 d1 B2 d2 w (by omega) hat hat2

theorem eqTreeS' (l : List GTree) (A B : Option Addr) (c d : Nat) (w : World) (hs : Sl w (Lt w.heap.size) 5 A c (l.map GTree.toD)) (hs' : Sl w (Lt w.heap.size) 5 B d (l.map GTree.toD)) :
    Calls Try.prog 115 #[.slice A l.length c, .slice B l.length d] w fun e w' => e = .returned (.bool true) ∧ Below w.heap.size w w' :=
  eqTreeS l A B c d w hs hs' (fun u _ A1 c1 A2 c2 B1 d1 B2 d2 w hat hat2 => eqTree' u A1 c1 A2 c2 B1 d1 B2 d2 w hat hat2)

end Go.Proofs.Ytjcgfbjdailgoaa
