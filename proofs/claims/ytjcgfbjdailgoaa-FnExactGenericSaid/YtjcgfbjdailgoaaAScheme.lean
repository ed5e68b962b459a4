/- The laws' sz, to and eq functions at Scheme. Conditions: what is counted is at most 1048576. -/
import Derived.Test.YtjcgfbjdailgoaaRows
import Derived.Test.YtjcgfbjdailgoaaPw
import Derived.Test.YtjcgfbjdailgoaaGScheme
import Derived.Lib.Hide
import Derived.StillTailTactics
import Derived.Test.YtjcgfbjdailgoaaATy
import Derived.Test.YtjcgfbjdailgoaaAInt
namespace Go.Proofs.Ytjcgfbjdailgoaa
open Go.RowKit
set_option linter.unusedVariables false
set_option linter.unusedSimpArgs false
set_option maxHeartbeats 400000

theorem szSchemeS (l : List GScheme) (A : Option Addr) (c : Nat) (left : Int) (w : World) (hs : Sl w (Lt w.heap.size) 5 A c (l.map GScheme.toD)) (h0 : 0 ≤ left) (h1 : left ≤ 1048576)
    (H : ∀ t, t ∈ l → ∀ (A1 : Option Addr) (c1 : Nat) (A2 : Option Addr) (c2 : Nat) (left : Int) (w : World), 0 ≤ left → left ≤ 1048576 → GScheme.At w (Lt w.heap.size) A1 c1 A2 c2 t →
      Calls Try.prog 147 #[.agg #[.slice A1 t.vars.length c1, .int .i64 t.ty.op, .int .i64 t.ty.n, .string t.ty.s, .slice A2 t.ty.kids.length c2], .int .i64 left] w fun e w' => e = .returned (.int .i64 (szv t.bulk left)) ∧ Below w.heap.size w w') :
    Calls Try.prog 71 #[.slice A l.length c, .int .i64 left] w fun e w' => e = .returned (.int .i64 (szv (bulkL GScheme.bulk l) left)) ∧ Below w.heap.size w w' := by
  have hlen : l.length ≤ 9223372036854775807 := by simpa using hs.len
  have HH := Lib.hid H
  clear H
  by_cases hll : left < (l.length : Int)
  · have hg : left - (l.length : Int) < 0 := by omega
    have hv := Lib.hid (szv_gt (b := bulkL GScheme.bulk l) (left := left) (by have := bulkL_len GScheme.bulk l; omega))
    go_enter Try.func71, Try.ntmps71
    go_wp2_with fail
    go_ret
    exact ⟨ret_int hv.out.symm, Below.refl _ _⟩
  · have hg : 0 ≤ left - (l.length : Int) := by omega
    go_enter Try.func71, Try.ntmps71
    go_wp2_with fail
    go_loopw [1, 5] (fun n i wr => ∃ (j : Nat) (L : Int), j ≤ l.length ∧ i = .int .i64 j ∧ n = .int .i64 L ∧ L = left - l.length - (bulkL GScheme.bulk (l.take j) - j) ∧ 0 ≤ L ∧ L ≤ left ∧ Below w.heap.size w wr) (fun _ i _ => l.length - (intOf i).toNat)
    case atStart => exact ⟨0, _, by omega, by go_num, rfl, by simp [bulkL], by omega, by omega, Below.refl _ _⟩
    case round =>
      obtain ⟨j, L, hj, rfl, rfl, hL, hL0, hL1, hb⟩ := hrel
      have HL := Lib.hid hL
      clear hL
      have hsz := hb.size
      by_cases hlt : j < l.length
      · have hel := GScheme.elem (hs.below hb (Nat.le_refl _)) j hlt
        obtain ⟨b, off, A1, c1, A2, c2, rfl, hSb, g0, g1, g2, g3, g4, hat⟩ := hel
        have hmem : l[j] ∈ l := List.getElem_mem hlt
        have hts := Lib.hid (bulkL_take_succ GScheme.bulk l j hlt)
        have htl := Lib.hid (bulkL_take_le GScheme.bulk l (j + 1) (by omega))
        have htg := Lib.hid (bulkL_take_ge GScheme.bulk l j (by omega))
        go_wp2_with fail
        refine (HH.out _ hmem _ _ _ _ L _ hL0 (by omega) (hat.below (Below.refl _ _) hsz)).mono ?_
        rintro e w1 ⟨rfl, hb1⟩
        by_cases hle : ((l[j]).bulk : Int) ≤ L
        · have hv := szv_le hle
          have hge : 0 ≤ L - ((l[j]).bulk : Int) := by omega
          go_wp2_with fail
          go_roundw
          case rel => exact ⟨j + 1, _, by omega, by go_num, rfl, by rw [hts.out, HL.out]; omega, by omega, by omega, hb.trans (hb1.mono hsz)⟩
          case measure => simp [intOf]; omega
        · have hv := szv_gt (b := (l[j]).bulk) (left := L) (by omega)
          go_wp2_with fail
          go_ret
          refine ⟨ret_int ?_, hb.trans (hb1.mono hsz)⟩
          have e1 := hts.out; have e2 := htl.out; have e3 := htg.out; have e4 := HL.out
          rw [szv_gt (by omega)]
      · have hjl : j = l.length := by omega
        have Hj := Lib.hid hjl
        clear hjl
        go_wp2_with fail
        go_ret
        refine ⟨ret_int ?_, hb⟩
        have e4 := HL.out
        rw [Hj.out, List.take_length] at e4
        have := bulkL_len GScheme.bulk l
        rw [szv_le (by omega)]; omega

theorem szScheme (t : GScheme) (A1 : Option Addr) (c1 : Nat) (A2 : Option Addr) (c2 : Nat) (left : Int) (w : World) (h0 : 0 ≤ left) (h1 : left ≤ 1048576) (hat : GScheme.At w (Lt w.heap.size) A1 c1 A2 c2 t) :
      Calls Try.prog 147 #[.agg #[.slice A1 t.vars.length c1, .int .i64 t.ty.op, .int .i64 t.ty.n, .string t.ty.s, .slice A2 t.ty.kids.length c2], .int .i64 left] w fun e w' => e = .returned (.int .i64 (szv t.bulk left)) ∧ Below w.heap.size w w' := by
  have hbe := t.bulk_eq
  obtain ⟨k0, k1⟩ := id hat
  have HE := Lib.hid hbe
  have hat' := Lib.hid hat
  clear hbe hat k0 k1
  have B0 : Below w.heap.size w (w.alloc (.cells #[.slice A1 t.vars.length c1, .int .i64 t.ty.op, .int .i64 t.ty.n, .string t.ty.s, .slice A2 t.ty.kids.length c2] 206)) := (Below.refl _ _).alloc (Nat.le_refl _) _
  have r0 := Lib.hid (Row.new w 206 #[.slice A1 t.vars.length c1, .int .i64 t.ty.op, .int .i64 t.ty.n, .string t.ty.s, .slice A2 t.ty.kids.length c2])
  go_enter Try.func147, Try.ntmps147
  go_wp2_with fail
  obtain ⟨k0, -⟩ := hat'.out.below B0 B0.size
  refine (szIntS t.vars A1 c1 _ _ k0 (by omega) (by omega)).mono ?_
  rintro e w1 ⟨rfl, hb1⟩
  have B1 := B0.trans (hb1.mono B0.size)
  have r1 := Lib.hid (r0.out.below hb1 r0.out.lt)
  have hc1 := fun i => r1.out.cell i
  by_cases g0 : ((t.vars.length : Nat) : Int) ≤ left
  rotate_left
  · have hv := szv_gt (b := t.vars.length) (left := left) (by omega)
    go_wp2_with fail
    go_ret
    refine ⟨ret_int ?_, B1⟩
    have := HE.out
    rw [szv_gt (by omega)]
  have v0 := szv_le g0
  have q0 : 0 ≤ left - ((t.vars.length : Nat) : Int) := by omega
  go_wp2_with fail
  obtain ⟨-, k1⟩ := hat'.out.below B1 B1.size
  refine (szTy' t.ty A2 c2 _ _ (by omega) (by omega) k1).mono ?_
  rintro e w2 ⟨rfl, hb2⟩
  have B2 := B1.trans (hb2.mono B1.size)
  by_cases g1 : ((t.ty.bulk : Nat) : Int) ≤ left - ((t.vars.length : Nat) : Int)
  rotate_left
  · have hv := szv_gt (b := t.ty.bulk) (left := left - ((t.vars.length : Nat) : Int)) (by omega)
    go_wp2_with fail
    go_ret
    refine ⟨ret_int ?_, B2⟩
    have := HE.out
    rw [szv_gt (by omega)]
  have v1 := szv_le g1
  have q1 : 0 ≤ left - ((t.vars.length : Nat) : Int) - ((t.ty.bulk : Nat) : Int) := by omega
  go_wp2_with fail
  go_ret
  refine ⟨ret_int ?_, B2⟩
  have := HE.out
  rw [szv_le (by omega)]; omega

theorem szScheme' (t : GScheme) (A1 : Option Addr) (c1 : Nat) (A2 : Option Addr) (c2 : Nat) (left : Int) (w : World) (h0 : 0 ≤ left) (h1 : left ≤ 1048576) (hat : GScheme.At w (Lt w.heap.size) A1 c1 A2 c2 t) :
      Calls Try.prog 147 #[.agg #[.slice A1 t.vars.length c1, .int .i64 t.ty.op, .int .i64 t.ty.n, .string t.ty.s, .slice A2 t.ty.kids.length c2], .int .i64 left] w fun e w' => e = .returned (.int .i64 (szv t.bulk left)) ∧ Below w.heap.size w w' :=
  szScheme t A1 c1 A2 c2 left w h0 h1 hat

theorem szSchemeS' (l : List GScheme) (A : Option Addr) (c : Nat) (left : Int) (w : World) (hs : Sl w (Lt w.heap.size) 5 A c (l.map GScheme.toD)) (h0 : 0 ≤ left) (h1 : left ≤ 1048576) :
    Calls Try.prog 71 #[.slice A l.length c, .int .i64 left] w fun e w' => e = .returned (.int .i64 (szv (bulkL GScheme.bulk l) left)) ∧ Below w.heap.size w w' :=
  szSchemeS l A c left w hs h0 h1 (fun u _ A1 c1 A2 c2 left w h0 h1 hat => szScheme' u A1 c1 A2 c2 left w h0 h1 hat)

/-- what a to function gives back: a struct of the call's own -/
def ToScheme (t : GScheme) (w : World) (e : Ending) (w' : World) : Prop := ∃ A1 c1 A2 c2, e = .returned (.agg #[.slice A1 t.vars.length c1, .int .i64 t.ty.op, .int .i64 t.ty.n, .string t.ty.s, .slice A2 t.ty.kids.length c2]) ∧ GScheme.Ow w' (Btw w.heap.size w'.heap.size) A1 c1 A2 c2 t ∧ Below w.heap.size w w'
def ToSchemeS (l : List GScheme) (w : World) (e : Ending) (w' : World) : Prop := ∃ A1 c1, e = .returned (.slice A1 l.length c1) ∧ Osl w' (Btw w.heap.size w'.heap.size) 5 A1 c1 (l.map GScheme.toD) ∧ Below w.heap.size w w'

def zScheme : Value := .agg #[.slice none 0 0, .int .i64 0, .int .i64 0, .string ⟨#[]⟩, .slice none 0 0]
theorem mkScheme (n : Nat) (hn : n ≤ 1048576) (w : World) : (Instr.makeSlice 116 (.int .i64 (n : Int)) (.int .i64 (n : Int))).run Try.prog w = .ok (.slice (some ⟨w.heap.size, 0, none⟩) n n) (w.alloc (.cells (zr zScheme 5 n) 208)) :=
  run_mk 116 208 zScheme 5 80 Try.underlying116 (by kernel_rfl) n hn (by omega) w

theorem toSchemeS (l : List GScheme) (A : Option Addr) (c : Nat) (w : World) (hs : Sl w (Lt w.heap.size) 5 A c (l.map GScheme.toD)) (hl : l.length ≤ 1048576)
    (H : ∀ t, t ∈ l → ∀ (A1 : Option Addr) (c1 : Nat) (A2 : Option Addr) (c2 : Nat) (w : World), GScheme.At w (Lt w.heap.size) A1 c1 A2 c2 t →
      Calls Try.prog 149 #[.agg #[.slice A1 t.vars.length c1, .int .i64 t.ty.op, .int .i64 t.ty.n, .string t.ty.s, .slice A2 t.ty.kids.length c2]] w (ToScheme t w)) :
    Calls Try.prog 73 #[.slice A l.length c] w (ToSchemeS l w) := by
  have HH := Lib.hid H
  clear H
  have hmk := mkScheme l.length hl
  go_enter Try.func73, Try.ntmps73
  go_wp2_with fail
  clear hmk
  go_loopw [4] (fun i wr => ∃ (j : Nat) (row : Array Value), j ≤ l.length ∧ i = .int .i64 j ∧ Row wr w.heap.size 208 row ∧ row.size = l.length * 5 ∧
      D.ownR wr 5 w.heap.size ((l.take j).map GScheme.toD) (fun b => w.heap.size < b ∧ b < wr.heap.size) 0 ∧ Below w.heap.size w wr) (fun i _ => l.length - (intOf i).toNat)
  case atStart => exact ⟨0, _, by omega, by go_num, Row.new _ _ _, zr_size _ _ _, by simp [D.ownR], (Below.refl _ _).alloc (Nat.le_refl _) _⟩
  case round =>
    obtain ⟨j, row, hj, rfl, hrow, hrs, hown, hb⟩ := hrel
    have hsz := hb.size
    have hgl := hrow.lt
    by_cases hlt : j < l.length
    · have hel := GScheme.elem (hs.below hb (Nat.le_refl _)) j hlt
      obtain ⟨b, off, A1, c1, A2, c2, rfl, hSb, g0, g1, g2, g3, g4, hat⟩ := hel
      have hmem : l[j] ∈ l := List.getElem_mem hlt
      go_wp2_with fail
      refine (HH.out _ hmem _ _ _ _ _ (hat.below (Below.refl _ _) hsz)).mono ?_
      rintro e w1 ⟨B1, d1, B2, d2, rfl, how, hb1⟩
      have hrow1 := Lib.hid (hrow.below hb1 hgl)
      have hf := fun i => hrow1.out.frozen i
      obtain ⟨v0, y0⟩ := row_some (row := row) (j * 5) (by omega)
      obtain ⟨v1, y1⟩ := row_some (row := row) (j * 5 + 1) (by omega)
      obtain ⟨v2, y2⟩ := row_some (row := row) (j * 5 + 2) (by omega)
      obtain ⟨v3, y3⟩ := row_some (row := row) (j * 5 + 3) (by omega)
      obtain ⟨v4, y4⟩ := row_some (row := row) (j * 5 + 4) (by omega)
      have x0 := (hrow1.out.cell (j * 5)).trans y0
      have x1 := (hrow1.out.cell (j * 5 + 1)).trans y1
      have x2 := (hrow1.out.cell (j * 5 + 2)).trans y2
      have x3 := (hrow1.out.cell (j * 5 + 3)).trans y3
      have x4 := (hrow1.out.cell (j * 5 + 4)).trans y4
      clear y0 y1 y2 y3 y4
      have hst := fill_step hrow1.out (j := j) (m := wr.heap.size) (xs := (l.take j).map GScheme.toD) (size := 5) (by simp; omega) (by omega) hgl hb1.size
        (D.ownR_keep 5 _ _ _ _ 0 (fun b hb => ⟨hb, hb1.block b hb.2⟩) (fun i _ => hb1.cell (p := ⟨w.heap.size, i, none⟩) hgl) hown) (GScheme.own_mk how) rfl
      have hB := setCells_below (hb.trans (hb1.mono hsz)) w.heap.size (j * 5) (Nat.le_refl _) [.slice B1 l[j].vars.length d1, .int .i64 l[j].ty.op, .int .i64 l[j].ty.n, .string l[j].ty.s, .slice B2 l[j].ty.kids.length d2]
      go_wp2_with fail
      go_roundw
      case rel =>
        obtain ⟨row', p1, p2, p3⟩ := hst
        exact ⟨j + 1, row', by omega, by go_num, p1, by omega, by rw [take_snoc' l j hlt, List.map_append]; exact p3, hB⟩
      case measure => simp [intOf]; omega
    · have hjl : j = l.length := by omega
      have Hj := Lib.hid hjl
      clear hjl
      go_wp2_with fail
      go_ret
      rw [Hj.out, List.take_length] at hown
      exact ⟨_, _, rfl, fill_end hrow (Nat.le_refl _) (by simp) (by unfold maxLen; omega) hown, hb⟩

theorem toScheme (t : GScheme) (A1 : Option Addr) (c1 : Nat) (A2 : Option Addr) (c2 : Nat) (w : World) (h1 : t.bulk ≤ 1048576) (hat : GScheme.At w (Lt w.heap.size) A1 c1 A2 c2 t) :
      Calls Try.prog 149 #[.agg #[.slice A1 t.vars.length c1, .int .i64 t.ty.op, .int .i64 t.ty.n, .string t.ty.s, .slice A2 t.ty.kids.length c2]] w (ToScheme t w) := by
  have hbe := t.bulk_eq
  have m0 : t.vars.length ≤ 1048576 := by omega
  have m1 : t.ty.bulk ≤ 1048576 := by omega
  have hat' := Lib.hid hat
  clear hbe hat
  go_enter Try.func149, Try.ntmps149
  go_wp2_with fail
  have W0 : ∃ w0, w0 = ((w.alloc (.cells #[.slice A1 t.vars.length c1, .int .i64 t.ty.op, .int .i64 t.ty.n, .string t.ty.s, .slice A2 t.ty.kids.length c2] 206)).alloc (.cells #[.slice none 0 0, .int .i64 0, .int .i64 0, .string ⟨#[]⟩, .slice none 0 0] 208)).alloc (.cells #[.slice none 0 0, .int .i64 0, .int .i64 0, .string ⟨#[]⟩, .slice none 0 0] 208) := ⟨_, rfl⟩
  obtain ⟨w0, e0⟩ := W0
  have B0 : Below w.heap.size w w0 := by rw [e0]; exact (((Below.refl _ _).alloc (Nat.le_refl _) _).alloc (by simp) _).alloc (by simp; omega) _
  have S0 : w0.heap.size = w.heap.size + 3 := by rw [e0]; simp
  have Ra0 : Row w0 w.heap.size 206 #[.slice A1 t.vars.length c1, .int .i64 t.ty.op, .int .i64 t.ty.n, .string t.ty.s, .slice A2 t.ty.kids.length c2] := by rw [e0]; exact ((Row.new' _ _ _ rfl).alloc _).alloc _
  have Rz0 : Row w0 (w.heap.size + 1) 208 #[.slice none 0 0, .int .i64 0, .int .i64 0, .string ⟨#[]⟩, .slice none 0 0] := by rw [e0]; exact (Row.new' _ _ _ (by simp)).alloc _
  have Ro0 : Row w0 (w.heap.size + 1 + 1) 208 #[.slice none 0 0, .int .i64 0, .int .i64 0, .string ⟨#[]⟩, .slice none 0 0] := by rw [e0]; exact Row.new' _ _ _ (by simp)
  rw [← e0]
  clear e0
  obtain ⟨q0, -⟩ := hat'.out.below B0 B0.size
  refine (toIntS t.vars A1 c1 (w0) q0 m0).mono ?_
  rintro e w1 ⟨D1, d1, rfl, how0, hb1⟩
  have hs1 := hb1.size
  have X1 := B0.trans (hb1.mono B0.size)
  have Rax1 := Lib.hid (Ra0.below hb1 Ra0.lt)
  have Rzx1 := Lib.hid (Rz0.below hb1 Rz0.lt)
  have Rox1 := Lib.hid (Ro0.below hb1 Ro0.lt)
  have hca1 := fun i => Rax1.out.cell i
  have hcz1 := fun i => Rzx1.out.cell i
  have hco1 := fun i => Rox1.out.cell i
  have hfz1 := fun i => Rzx1.out.frozen i
  have hfo1 := fun i => Rox1.out.frozen i
  have B1 := setCells_below X1 (w.heap.size + 1 + 1) 0 (by omega) [.slice D1 t.vars.length d1]
  have Ra1 : Hid (Row (setCells w1 (w.heap.size + 1 + 1) 0 [.slice D1 t.vars.length d1]) w.heap.size 206 #[.slice A1 t.vars.length c1, .int .i64 t.ty.op, .int .i64 t.ty.n, .string t.ty.s, .slice A2 t.ty.kids.length c2]) := (Rax1.out).far (p := ⟨w.heap.size + 1 + 1, 0, none⟩) (by simp <;> omega) (.slice D1 t.vars.length d1)
  have Rz1 : Hid (Row (setCells w1 (w.heap.size + 1 + 1) 0 [.slice D1 t.vars.length d1]) (w.heap.size + 1) 208 #[.slice none 0 0, .int .i64 0, .int .i64 0, .string ⟨#[]⟩, .slice none 0 0]) := (Rzx1.out).far (p := ⟨w.heap.size + 1 + 1, 0, none⟩) (by simp <;> omega) (.slice D1 t.vars.length d1)
  have Ro1 : Hid (Row (setCells w1 (w.heap.size + 1 + 1) 0 [.slice D1 t.vars.length d1]) (w.heap.size + 1 + 1) 208 #[.slice D1 t.vars.length d1, .int .i64 0, .int .i64 0, .string ⟨#[]⟩, .slice none 0 0]) := (Rox1.out).set 0 (.slice D1 t.vars.length d1)
  replace how0 := how0.keep (S' := Btw (w0).heap.size (w1).heap.size) (w' := setCells w1 (w.heap.size + 1 + 1) 0 [.slice D1 t.vars.length d1]) fun b hb => ⟨hb, setCells_block _ _ _ _ _ (by have := hb.1; first | omega | (simp only [setCells_size] at *; omega) | (simp only [setCells_size] at *; done))⟩
  go_wp2_with fail
  obtain ⟨-, q1⟩ := hat'.out.below B1 B1.size
  refine (toTy' t.ty A2 c2 (setCells w1 (w.heap.size + 1 + 1) 0 [.slice D1 t.vars.length d1]) m1 q1).mono ?_
  rintro e w2 ⟨D2, d2, rfl, how1, hb2⟩
  have hs2 := hb2.size
  have X2 := B1.trans (hb2.mono B1.size)
  have Rax2 := Lib.hid (Ra1.out.below hb2 Ra1.out.lt)
  have Rzx2 := Lib.hid (Rz1.out.below hb2 Rz1.out.lt)
  have Rox2 := Lib.hid (Ro1.out.below hb2 Ro1.out.lt)
  have hca2 := fun i => Rax2.out.cell i
  have hcz2 := fun i => Rzx2.out.cell i
  have hco2 := fun i => Rox2.out.cell i
  have hfz2 := fun i => Rzx2.out.frozen i
  have hfo2 := fun i => Rox2.out.frozen i
  replace how0 := how0.keep (S' := Btw (w0).heap.size (w1).heap.size) fun b hb => ⟨hb, hb2.block b (by have := hb.2; have := hs2; first | omega | (simp only [setCells_size] at *; omega) | (simp only [setCells_size] at *; done))⟩
  have B2 := setCells_below X2 (w.heap.size + 1 + 1) 1 (by omega) [.int .i64 t.ty.op, .int .i64 t.ty.n, .string t.ty.s, .slice D2 t.ty.kids.length d2]
  have Ra2 : Hid (Row (setCells w2 (w.heap.size + 1 + 1) 1 [.int .i64 t.ty.op, .int .i64 t.ty.n, .string t.ty.s, .slice D2 t.ty.kids.length d2]) w.heap.size 206 #[.slice A1 t.vars.length c1, .int .i64 t.ty.op, .int .i64 t.ty.n, .string t.ty.s, .slice A2 t.ty.kids.length c2]) := ((((Rax2.out).far (p := ⟨w.heap.size + 1 + 1, 1, none⟩) (by simp <;> omega) (.int .i64 t.ty.op)).far (p := ⟨w.heap.size + 1 + 1, 2, none⟩) (by simp <;> omega) (.int .i64 t.ty.n)).far (p := ⟨w.heap.size + 1 + 1, 3, none⟩) (by simp <;> omega) (.string t.ty.s)).far (p := ⟨w.heap.size + 1 + 1, 4, none⟩) (by simp <;> omega) (.slice D2 t.ty.kids.length d2)
  have Rz2 : Hid (Row (setCells w2 (w.heap.size + 1 + 1) 1 [.int .i64 t.ty.op, .int .i64 t.ty.n, .string t.ty.s, .slice D2 t.ty.kids.length d2]) (w.heap.size + 1) 208 #[.slice none 0 0, .int .i64 0, .int .i64 0, .string ⟨#[]⟩, .slice none 0 0]) := ((((Rzx2.out).far (p := ⟨w.heap.size + 1 + 1, 1, none⟩) (by simp <;> omega) (.int .i64 t.ty.op)).far (p := ⟨w.heap.size + 1 + 1, 2, none⟩) (by simp <;> omega) (.int .i64 t.ty.n)).far (p := ⟨w.heap.size + 1 + 1, 3, none⟩) (by simp <;> omega) (.string t.ty.s)).far (p := ⟨w.heap.size + 1 + 1, 4, none⟩) (by simp <;> omega) (.slice D2 t.ty.kids.length d2)
  have Ro2 : Hid (Row (setCells w2 (w.heap.size + 1 + 1) 1 [.int .i64 t.ty.op, .int .i64 t.ty.n, .string t.ty.s, .slice D2 t.ty.kids.length d2]) (w.heap.size + 1 + 1) 208 #[.slice D1 t.vars.length d1, .int .i64 t.ty.op, .int .i64 t.ty.n, .string t.ty.s, .slice D2 t.ty.kids.length d2]) := ((((Rox2.out).set 1 (.int .i64 t.ty.op)).set 2 (.int .i64 t.ty.n)).set 3 (.string t.ty.s)).set 4 (.slice D2 t.ty.kids.length d2)
  replace how0 := how0.keep (S' := Btw (w0).heap.size (w1).heap.size) (w' := setCells w2 (w.heap.size + 1 + 1) 1 [.int .i64 t.ty.op, .int .i64 t.ty.n, .string t.ty.s, .slice D2 t.ty.kids.length d2]) fun b hb => ⟨hb, setCells_block _ _ _ _ _ (by have := hb.1; first | omega | (simp only [setCells_size] at *; omega) | (simp only [setCells_size] at *; done))⟩
  replace how1 := how1.keep (S' := Btw (setCells w1 (w.heap.size + 1 + 1) 0 [.slice D1 t.vars.length d1]).heap.size (w2).heap.size) (w' := setCells w2 (w.heap.size + 1 + 1) 1 [.int .i64 t.ty.op, .int .i64 t.ty.n, .string t.ty.s, .slice D2 t.ty.kids.length d2]) fun b hb => ⟨hb, setCells_block _ _ _ _ _ (by have := hb.1; first | omega | (simp only [setCells_size] at *; omega) | (simp only [setCells_size] at *; done))⟩
  have BF := setCells_below B2 (w.heap.size + 1) 0 (by omega) [.slice D1 t.vars.length d1, .int .i64 t.ty.op, .int .i64 t.ty.n, .string t.ty.s, .slice D2 t.ty.kids.length d2]
  have SF : (setCells (setCells w2 (w.heap.size + 1 + 1) 1 [.int .i64 t.ty.op, .int .i64 t.ty.n, .string t.ty.s, .slice D2 t.ty.kids.length d2]) (w.heap.size + 1) 0 [.slice D1 t.vars.length d1, .int .i64 t.ty.op, .int .i64 t.ty.n, .string t.ty.s, .slice D2 t.ty.kids.length d2]).heap.size = w2.heap.size := by rw [setCells_size, setCells_size]
  replace how0 := how0.keep (S' := Btw (w0).heap.size (w1).heap.size) (w' := setCells (setCells w2 (w.heap.size + 1 + 1) 1 [.int .i64 t.ty.op, .int .i64 t.ty.n, .string t.ty.s, .slice D2 t.ty.kids.length d2]) (w.heap.size + 1) 0 [.slice D1 t.vars.length d1, .int .i64 t.ty.op, .int .i64 t.ty.n, .string t.ty.s, .slice D2 t.ty.kids.length d2]) fun b hb => ⟨hb, setCells_block _ _ _ _ _ (by have := hb.1; first | omega | (simp only [setCells_size] at *; omega) | (simp only [setCells_size] at *; done))⟩
  replace how1 := how1.keep (S' := Btw (setCells w1 (w.heap.size + 1 + 1) 0 [.slice D1 t.vars.length d1]).heap.size (w2).heap.size) (w' := setCells (setCells w2 (w.heap.size + 1 + 1) 1 [.int .i64 t.ty.op, .int .i64 t.ty.n, .string t.ty.s, .slice D2 t.ty.kids.length d2]) (w.heap.size + 1) 0 [.slice D1 t.vars.length d1, .int .i64 t.ty.op, .int .i64 t.ty.n, .string t.ty.s, .slice D2 t.ty.kids.length d2]) fun b hb => ⟨hb, setCells_block _ _ _ _ _ (by have := hb.1; first | omega | (simp only [setCells_size] at *; omega) | (simp only [setCells_size] at *; done))⟩
  have qs := hat'.out
  obtain ⟨p0, p1⟩ := qs
  go_wp2_with fail
  exact bodyPost_ret (v := .agg #[.slice D1 t.vars.length d1, .int .i64 t.ty.op, .int .i64 t.ty.n, .string t.ty.s, .slice D2 t.ty.kids.length d2]) (by simp [results, Try.results149, go_sem, hca2, hcz2, hco2]) rfl ⟨D1, d1, D2, d2, rfl, ⟨Btw (w0).heap.size (w1).heap.size, Btw (setCells w1 (w.heap.size + 1 + 1) 0 [.slice D1 t.vars.length d1]).heap.size (w2).heap.size, fun x hx => ⟨by have := hx.1; first | omega | (simp only [setCells_size] at *; omega) | (simp only [setCells_size] at *; done), by have := hx.2; have := SF; first | omega | (have h3 := SF; exact Nat.lt_of_lt_of_le (by first | omega | (simp only [setCells_size] at *; omega)) (Nat.le_of_eq h3.symm)) | (simp only [setCells_size] at *; omega) | (simp only [setCells_size] at *; done)⟩, fun x hx => ⟨by have := hx.1; first | omega | (simp only [setCells_size] at *; omega) | (simp only [setCells_size] at *; done), by have := hx.2; have := SF; first | omega | (have h3 := SF; exact Nat.lt_of_lt_of_le (by first | omega | (simp only [setCells_size] at *; omega)) (Nat.le_of_eq h3.symm)) | (simp only [setCells_size] at *; omega) | (simp only [setCells_size] at *; done)⟩, fun x hx hy => by have := hx.2; have := hy.1; first | omega | (simp only [setCells_size] at *; omega) | (simp only [setCells_size] at *; done), how0, how1⟩, BF⟩

theorem toScheme' (t : GScheme) (A1 : Option Addr) (c1 : Nat) (A2 : Option Addr) (c2 : Nat) (w : World) (h1 : t.bulk ≤ 1048576) (hat : GScheme.At w (Lt w.heap.size) A1 c1 A2 c2 t) :
      Calls Try.prog 149 #[.agg #[.slice A1 t.vars.length c1, .int .i64 t.ty.op, .int .i64 t.ty.n, .string t.ty.s, .slice A2 t.ty.kids.length c2]] w (ToScheme t w) :=
  toScheme t A1 c1 A2 c2 w h1 hat

theorem toSchemeS' (l : List GScheme) (A : Option Addr) (c : Nat) (w : World) (hs : Sl w (Lt w.heap.size) 5 A c (l.map GScheme.toD)) (hl : bulkL GScheme.bulk l ≤ 1048576) :
    Calls Try.prog 73 #[.slice A l.length c] w (ToSchemeS l w) :=
  toSchemeS l A c w hs (by have := bulkL_len GScheme.bulk l; omega) (fun u hu A1 c1 A2 c2 w hat => toScheme' u A1 c1 A2 c2 w (by have := bulkL_mem GScheme.bulk l u hu; omega) hat)

set_option maxRecDepth 20000 in
theorem eqSchemeS (l : List GScheme) (A B : Option Addr) (c d : Nat) (w : World) (hs : Sl w (Lt w.heap.size) 5 A c (l.map GScheme.toD)) (hs' : Sl w (Lt w.heap.size) 5 B d (l.map GScheme.toD))
    (H : ∀ t, t ∈ l → ∀ (A1 : Option Addr) (c1 : Nat) (A2 : Option Addr) (c2 : Nat) (B1 : Option Addr) (d1 : Nat) (B2 : Option Addr) (d2 : Nat) (w : World), GScheme.At w (Lt w.heap.size) A1 c1 A2 c2 t → GScheme.At w (Lt w.heap.size) B1 d1 B2 d2 t →
      Calls Try.prog 155 #[.agg #[.slice A1 t.vars.length c1, .int .i64 t.ty.op, .int .i64 t.ty.n, .string t.ty.s, .slice A2 t.ty.kids.length c2], .agg #[.slice B1 t.vars.length d1, .int .i64 t.ty.op, .int .i64 t.ty.n, .string t.ty.s, .slice B2 t.ty.kids.length d2]] w fun e w' => e = .returned (.bool true) ∧ Below w.heap.size w w') :
    Calls Try.prog 75 #[.slice A l.length c, .slice B l.length d] w fun e w' => e = .returned (.bool true) ∧ Below w.heap.size w w' := by
  have hlen : l.length ≤ 9223372036854775807 := by simpa using hs.len
  have HH := Lib.hid H
  clear H
  go_enter Try.func75, Try.ntmps75
  go_wp2_with fail
  go_loopw [5] (fun i wr => ∃ (j : Nat), j ≤ l.length ∧ i = .int .i64 j ∧ Below w.heap.size w wr) (fun i _ => l.length - (intOf i).toNat)
  case atStart => exact ⟨0, by omega, by go_num, Below.refl _ _⟩
  case round =>
    obtain ⟨j, hj, rfl, hb⟩ := hrel
    have hsz := hb.size
    by_cases hlt : j < l.length
    · have hel := GScheme.elem (hs.below hb (Nat.le_refl _)) j hlt
      obtain ⟨b, off, A1, c1, A2, c2, rfl, hSb, g0, g1, g2, g3, g4, hat⟩ := hel
      have hel := GScheme.elem (hs'.below hb (Nat.le_refl _)) j hlt
      obtain ⟨b', off', B1, d1, B2, d2, rfl, hSb', g0', g1', g2', g3', g4', hat'⟩ := hel
      have hmem : l[j] ∈ l := List.getElem_mem hlt
      go_wp2_with fail
      refine wp_region_still_tail 8 (by kernel_rfl) (by kernel_rfl) ?_
      simp only [List.take_succ_cons, List.take_zero, List.drop_succ_cons, List.drop_zero]
      change wpStill _ _ wr.drew (fun a' => wpList _ _ _ _ a' wr.drew) _ _
      iterate 8 still_step
      refine wpStill_nil ?_
      go_wp2_with fail
      refine (HH.out _ hmem _ _ _ _ _ _ _ _ wr.drew (hat.keep fun b hb => ⟨Nat.lt_of_lt_of_le hb hsz, rfl⟩) (hat'.keep fun b hb => ⟨Nat.lt_of_lt_of_le hb hsz, rfl⟩)).mono ?_
      rintro e w1 ⟨rfl, hb1⟩
      go_wp2_with fail
      go_roundw
      case rel => exact ⟨j + 1, by omega, by go_num, hb.drew.trans (hb1.mono hsz)⟩
      case measure => simp [intOf]; omega
    · have hjl : j = l.length := by omega
      clear hjl
      go_wp2_with fail
      go_ret
      exact ⟨rfl, hb⟩

set_option maxRecDepth 20000 in
theorem eqScheme (t : GScheme) (A1 : Option Addr) (c1 : Nat) (A2 : Option Addr) (c2 : Nat) (B1 : Option Addr) (d1 : Nat) (B2 : Option Addr) (d2 : Nat) (w : World) (hat : GScheme.At w (Lt w.heap.size) A1 c1 A2 c2 t) (hat2 : GScheme.At w (Lt w.heap.size) B1 d1 B2 d2 t) :
      Calls Try.prog 155 #[.agg #[.slice A1 t.vars.length c1, .int .i64 t.ty.op, .int .i64 t.ty.n, .string t.ty.s, .slice A2 t.ty.kids.length c2], .agg #[.slice B1 t.vars.length d1, .int .i64 t.ty.op, .int .i64 t.ty.n, .string t.ty.s, .slice B2 t.ty.kids.length d2]] w fun e w' => e = .returned (.bool true) ∧ Below w.heap.size w w' := by
  have hat' := Lib.hid hat
  have hat2' := Lib.hid hat2
  clear hat hat2
  have B0 : Below w.heap.size w ((w.alloc (.cells #[.slice A1 t.vars.length c1, .int .i64 t.ty.op, .int .i64 t.ty.n, .string t.ty.s, .slice A2 t.ty.kids.length c2] 208)).alloc (.cells #[.slice B1 t.vars.length d1, .int .i64 t.ty.op, .int .i64 t.ty.n, .string t.ty.s, .slice B2 t.ty.kids.length d2] 208)) := ((Below.refl _ _).alloc (Nat.le_refl _) _).alloc (by simp) _
  have ra0 := Lib.hid ((Row.new w 208 #[.slice A1 t.vars.length c1, .int .i64 t.ty.op, .int .i64 t.ty.n, .string t.ty.s, .slice A2 t.ty.kids.length c2]).alloc (.cells #[.slice B1 t.vars.length d1, .int .i64 t.ty.op, .int .i64 t.ty.n, .string t.ty.s, .slice B2 t.ty.kids.length d2] 208))
  have rb0 := Lib.hid (Row.new' (w.alloc (.cells #[.slice A1 t.vars.length c1, .int .i64 t.ty.op, .int .i64 t.ty.n, .string t.ty.s, .slice A2 t.ty.kids.length c2] 208)) 208 #[.slice B1 t.vars.length d1, .int .i64 t.ty.op, .int .i64 t.ty.n, .string t.ty.s, .slice B2 t.ty.kids.length d2] (g := w.heap.size + 1) (by simp))
  go_enter Try.func155, Try.ntmps155
  go_wp2_with fail
  obtain ⟨q0, -⟩ := hat'.out.below B0 B0.size
  obtain ⟨p0, -⟩ := hat2'.out.below B0 B0.size
  refine (eqIntS t.vars A1 B1 c1 d1 _ q0 p0).mono ?_
  rintro e w1 ⟨rfl, hb1⟩
  have B1 := B0.trans (hb1.mono B0.size)
  have ra1 := Lib.hid (ra0.out.below hb1 ra0.out.lt)
  have rb1 := Lib.hid (rb0.out.below hb1 rb0.out.lt)
  have ha1 := fun i => ra1.out.cell i
  have hq1 := fun i => rb1.out.cell i
  go_wp2_with fail
  obtain ⟨-, q1⟩ := hat'.out.below B1 B1.size
  obtain ⟨-, p1⟩ := hat2'.out.below B1 B1.size
  refine (eqTy' t.ty A2 c2 B2 d2 _ q1 p1).mono ?_
  rintro e w2 ⟨rfl, hb2⟩
  have B2 := B1.trans (hb2.mono B1.size)
  go_wp2_with fail
  go_ret
  exact ⟨rfl, B2⟩

theorem eqScheme' (t : GScheme) (A1 : Option Addr) (c1 : Nat) (A2 : Option Addr) (c2 : Nat) (B1 : Option Addr) (d1 : Nat) (B2 : Option Addr) (d2 : Nat) (w : World) (hat : GScheme.At w (Lt w.heap.size) A1 c1 A2 c2 t) (hat2 : GScheme.At w (Lt w.heap.size) B1 d1 B2 d2 t) :
      Calls Try.prog 155 #[.agg #[.slice A1 t.vars.length c1, .int .i64 t.ty.op, .int .i64 t.ty.n, .string t.ty.s, .slice A2 t.ty.kids.length c2], .agg #[.slice B1 t.vars.length d1, .int .i64 t.ty.op, .int .i64 t.ty.n, .string t.ty.s, .slice B2 t.ty.kids.length d2]] w fun e w' => e = .returned (.bool true) ∧ Below w.heap.size w w' :=
  eqScheme t A1 c1 A2 c2 B1 d1 B2 d2 w hat hat2

theorem eqSchemeS' (l : List GScheme) (A B : Option Addr) (c d : Nat) (w : World) (hs : Sl w (Lt w.heap.size) 5 A c (l.map GScheme.toD)) (hs' : Sl w (Lt w.heap.size) 5 B d (l.map GScheme.toD)) :
    Calls Try.prog 75 #[.slice A l.length c, .slice B l.length d] w fun e w' => e = .returned (.bool true) ∧ Below w.heap.size w w' :=
  eqSchemeS l A B c d w hs hs' (fun u _ A1 c1 A2 c2 B1 d1 B2 d2 w hat hat2 => eqScheme' u A1 c1 A2 c2 B1 d1 B2 d2 w hat hat2)

end Go.Proofs.Ytjcgfbjdailgoaa
