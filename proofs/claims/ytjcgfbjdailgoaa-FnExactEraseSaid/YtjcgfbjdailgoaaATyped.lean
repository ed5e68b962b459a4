/- The laws' sz, to and eq functions at Typed. Conditions: what is counted is at most 1048576. -/
import Derived.Test.YtjcgfbjdailgoaaRows
import Derived.Test.YtjcgfbjdailgoaaPw
import Derived.Test.YtjcgfbjdailgoaaGTyped
import Derived.Lib.Hide
import Derived.StillTailTactics
import Derived.Test.YtjcgfbjdailgoaaATy
import Derived.Test.YtjcgfbjdailgoaaAInt
namespace Go.Proofs.Ytjcgfbjdailgoaa
open Go.RowKit
set_option linter.unusedVariables false
set_option linter.unusedSimpArgs false
set_option maxHeartbeats 400000

theorem szTypedS (l : List GTyped) (A : Option Addr) (c : Nat) (left : Int) (w : World) (hs : Sl w (Lt w.heap.size) 11 A c (l.map GTyped.toD)) (h0 : 0 ≤ left) (h1 : left ≤ 1048576)
    (H : ∀ t, t ∈ l → ∀ (A1 : Option Addr) (c1 : Nat) (A2 : Option Addr) (c2 : Nat) (A3 : Option Addr) (c3 : Nat) (A4 : Option Addr) (c4 : Nat) (left : Int) (w : World), 0 ≤ left → left ≤ 1048576 → GTyped.At w (Lt w.heap.size) A1 c1 A2 c2 A3 c3 A4 c4 t →
      Calls Try.prog 15 #[.agg #[.int .i64 t.op, .int .i64 t.n, .string t.s, .string t.t, .int .i64 t.ty.op, .int .i64 t.ty.n, .string t.ty.s, .slice A1 t.ty.kids.length c1, .slice A2 t.inst.length c2, .slice A3 t.vars.length c3, .slice A4 t.kids.length c4], .int .i64 left] w fun e w' => e = .returned (.int .i64 (szv t.bulk left)) ∧ Below w.heap.size w w') :
    Calls Try.prog 85 #[.slice A l.length c, .int .i64 left] w fun e w' => e = .returned (.int .i64 (szv (bulkL GTyped.bulk l) left)) ∧ Below w.heap.size w w' := by
  have hlen : l.length ≤ 9223372036854775807 := by simpa using hs.len
  have HH := Lib.hid H
  clear H
  by_cases hll : left < (l.length : Int)
  · have hg : left - (l.length : Int) < 0 := by omega
    have hv := Lib.hid (szv_gt (b := bulkL GTyped.bulk l) (left := left) (by have := bulkL_len GTyped.bulk l; omega))
    go_enter Try.func85, Try.ntmps85
    go_wp2_with fail
    go_ret
    exact ⟨ret_int hv.out.symm, Below.refl _ _⟩
  · have hg : 0 ≤ left - (l.length : Int) := by omega
    go_enter Try.func85, Try.ntmps85
    go_wp2_with fail
    go_loopw [1, 5] (fun n i wr => ∃ (j : Nat) (L : Int), j ≤ l.length ∧ i = .int .i64 j ∧ n = .int .i64 L ∧ L = left - l.length - (bulkL GTyped.bulk (l.take j) - j) ∧ 0 ≤ L ∧ L ≤ left ∧ Below w.heap.size w wr) (fun _ i _ => l.length - (intOf i).toNat)
    case atStart => exact ⟨0, _, by omega, by go_num, rfl, by simp [bulkL], by omega, by omega, Below.refl _ _⟩
    case round =>
      obtain ⟨j, L, hj, rfl, rfl, hL, hL0, hL1, hb⟩ := hrel
      have HL := Lib.hid hL
      clear hL
      have hsz := hb.size
      by_cases hlt : j < l.length
      · have hel := GTyped.elem (hs.below hb (Nat.le_refl _)) j hlt
        obtain ⟨b, off, A1, c1, A2, c2, A3, c3, A4, c4, rfl, hSb, g0, g1, g2, g3, g4, g5, g6, g7, g8, g9, g10, hat⟩ := hel
        have hmem : l[j] ∈ l := List.getElem_mem hlt
        have hts := Lib.hid (bulkL_take_succ GTyped.bulk l j hlt)
        have htl := Lib.hid (bulkL_take_le GTyped.bulk l (j + 1) (by omega))
        have htg := Lib.hid (bulkL_take_ge GTyped.bulk l j (by omega))
        go_wp2_with fail
        refine (HH.out _ hmem _ _ _ _ _ _ _ _ L _ hL0 (by omega) (hat.below (Below.refl _ _) hsz)).mono ?_
        rintro e w1 ⟨rfl, hb1⟩
        by_cases hle : ((l[j]).bulk : Int) ≤ L
        · have hv := szv_le hle
          have hge : 0 ≤ L - ((l[j]).bulk : Int) := by omega
          go_wp2_with fail
          go_roundw
          case rel => exact ⟨j + 1, _, by omega, by go_num, rfl, by rw [hts.out, HL.out]; omega, by omega, by omega, hb.trans (hb1.mono hsz)⟩
          case measure => simp [intOf]; omega
        · have hv := szv_gt (b := (l[j]).bulk) (left := L) (by omega)
          go_wp2_with fail
          go_ret
          refine ⟨ret_int ?_, hb.trans (hb1.mono hsz)⟩
          have e1 := hts.out; have e2 := htl.out; have e3 := htg.out; have e4 := HL.out
          rw [szv_gt (by omega)]
      · have hjl : j = l.length := by omega
        have Hj := Lib.hid hjl
        clear hjl
        go_wp2_with fail
        go_ret
        refine ⟨ret_int ?_, hb⟩
        have e4 := HL.out
        rw [Hj.out, List.take_length] at e4
        have := bulkL_len GTyped.bulk l
        rw [szv_le (by omega)]; omega

theorem szTyped (k : Nat) : ∀ (t : GTyped) (A1 : Option Addr) (c1 : Nat) (A2 : Option Addr) (c2 : Nat) (A3 : Option Addr) (c3 : Nat) (A4 : Option Addr) (c4 : Nat) (left : Int) (w : World), t.bulk < k → 0 ≤ left → left ≤ 1048576 → GTyped.At w (Lt w.heap.size) A1 c1 A2 c2 A3 c3 A4 c4 t →
      Calls Try.prog 15 #[.agg #[.int .i64 t.op, .int .i64 t.n, .string t.s, .string t.t, .int .i64 t.ty.op, .int .i64 t.ty.n, .string t.ty.s, .slice A1 t.ty.kids.length c1, .slice A2 t.inst.length c2, .slice A3 t.vars.length c3, .slice A4 t.kids.length c4], .int .i64 left] w fun e w' => e = .returned (.int .i64 (szv t.bulk left)) ∧ Below w.heap.size w w' := by
  induction k with
  | zero => intro t A1 c1 A2 c2 A3 c3 A4 c4 left w hk; omega
  | succ k ih =>
    intro t A1 c1 A2 c2 A3 c3 A4 c4 left w hk h0 h1 hat
    have hbe := t.bulk_eq
    obtain ⟨k0, k1, k2, k3, k4, k5, k6, k7⟩ := id hat
    have s2 : t.s.size ≤ 9223372036854775807 := by unfold maxLen at k2; omega
    have s3 : t.t.size ≤ 9223372036854775807 := by unfold maxLen at k3; omega
    have H3 := fun (left : Int) (w : World) hs h0 h1 => szTypedS t.kids A4 c4 left w hs h0 h1 (fun u hu A1 c1 A2 c2 A3 c3 A4 c4 left w h0 h1 hat => ih u A1 c1 A2 c2 A3 c3 A4 c4 left w (by have := bulkL_mem GTyped.bulk t.kids u hu; omega) h0 h1 hat)
    have HH := Lib.hid H3
    have HE := Lib.hid hbe
    have hat' := Lib.hid hat
    clear hbe hat k0 k1 k2 k3 k4 k5 k6 k7 H3 ih
    have B0 : Below w.heap.size w (w.alloc (.cells #[.int .i64 t.op, .int .i64 t.n, .string t.s, .string t.t, .int .i64 t.ty.op, .int .i64 t.ty.n, .string t.ty.s, .slice A1 t.ty.kids.length c1, .slice A2 t.inst.length c2, .slice A3 t.vars.length c3, .slice A4 t.kids.length c4] 28)) := (Below.refl _ _).alloc (Nat.le_refl _) _
    have r0 := Lib.hid (Row.new w 28 #[.int .i64 t.op, .int .i64 t.n, .string t.s, .string t.t, .int .i64 t.ty.op, .int .i64 t.ty.n, .string t.ty.s, .slice A1 t.ty.kids.length c1, .slice A2 t.inst.length c2, .slice A3 t.vars.length c3, .slice A4 t.kids.length c4])
    go_enter Try.func15, Try.ntmps15
    by_cases g2 : ((t.s.size : Nat) : Int) ≤ left
    rotate_left
    · have q2 : left - ((t.s.size : Nat) : Int) < 0 := by omega
      go_wp2_with fail
      go_ret
      refine ⟨ret_int ?_, B0⟩
      have := HE.out
      rw [szv_gt (by omega)]
    have q2 : 0 ≤ left - ((t.s.size : Nat) : Int) := by omega
    by_cases g3 : ((t.t.size : Nat) : Int) ≤ left - ((t.s.size : Nat) : Int)
    rotate_left
    · have q3 : left - ((t.s.size : Nat) : Int) - ((t.t.size : Nat) : Int) < 0 := by omega
      go_wp2_with fail
      go_ret
      refine ⟨ret_int ?_, B0⟩
      have := HE.out
      rw [szv_gt (by omega)]
    have q3 : 0 ≤ left - ((t.s.size : Nat) : Int) - ((t.t.size : Nat) : Int) := by omega
    go_wp2_with fail
    obtain ⟨-, -, -, -, k4, -, -, -⟩ := hat'.out.below B0 B0.size
    refine (szTy' t.ty A1 c1 _ _ (by omega) (by omega) k4).mono ?_
    rintro e w1 ⟨rfl, hb1⟩
    have B1 := B0.trans (hb1.mono B0.size)
    have r1 := Lib.hid (r0.out.below hb1 r0.out.lt)
    have hc1 := fun i => r1.out.cell i
    by_cases g4 : ((t.ty.bulk : Nat) : Int) ≤ left - ((t.s.size : Nat) : Int) - ((t.t.size : Nat) : Int)
    rotate_left
    · have hv := szv_gt (b := t.ty.bulk) (left := left - ((t.s.size : Nat) : Int) - ((t.t.size : Nat) : Int)) (by omega)
      go_wp2_with fail
      go_ret
      refine ⟨ret_int ?_, B1⟩
      have := HE.out
      rw [szv_gt (by omega)]
    have v4 := szv_le g4
    have q4 : 0 ≤ left - ((t.s.size : Nat) : Int) - ((t.t.size : Nat) : Int) - ((t.ty.bulk : Nat) : Int) := by omega
    go_wp2_with fail
    obtain ⟨-, -, -, -, -, k5, -, -⟩ := hat'.out.below B1 B1.size
    refine (szTyS' t.inst A2 c2 _ _ k5 (by omega) (by omega)).mono ?_
    rintro e w2 ⟨rfl, hb2⟩
    have B2 := B1.trans (hb2.mono B1.size)
    have r2 := Lib.hid (r1.out.below hb2 r1.out.lt)
    have hc2 := fun i => r2.out.cell i
    by_cases g5 : ((bulkL GTy.bulk t.inst : Nat) : Int) ≤ left - ((t.s.size : Nat) : Int) - ((t.t.size : Nat) : Int) - ((t.ty.bulk : Nat) : Int)
    rotate_left
    · have hv := szv_gt (b := bulkL GTy.bulk t.inst) (left := left - ((t.s.size : Nat) : Int) - ((t.t.size : Nat) : Int) - ((t.ty.bulk : Nat) : Int)) (by omega)
      go_wp2_with fail
      go_ret
      refine ⟨ret_int ?_, B2⟩
      have := HE.out
      rw [szv_gt (by omega)]
    have v5 := szv_le g5
    have q5 : 0 ≤ left - ((t.s.size : Nat) : Int) - ((t.t.size : Nat) : Int) - ((t.ty.bulk : Nat) : Int) - ((bulkL GTy.bulk t.inst : Nat) : Int) := by omega
    go_wp2_with fail
    obtain ⟨-, -, -, -, -, -, k6, -⟩ := hat'.out.below B2 B2.size
    refine (szIntS t.vars A3 c3 _ _ k6 (by omega) (by omega)).mono ?_
    rintro e w3 ⟨rfl, hb3⟩
    have B3 := B2.trans (hb3.mono B2.size)
    have r3 := Lib.hid (r2.out.below hb3 r2.out.lt)
    have hc3 := fun i => r3.out.cell i
    by_cases g6 : ((t.vars.length : Nat) : Int) ≤ left - ((t.s.size : Nat) : Int) - ((t.t.size : Nat) : Int) - ((t.ty.bulk : Nat) : Int) - ((bulkL GTy.bulk t.inst : Nat) : Int)
    rotate_left
    · have hv := szv_gt (b := t.vars.length) (left := left - ((t.s.size : Nat) : Int) - ((t.t.size : Nat) : Int) - ((t.ty.bulk : Nat) : Int) - ((bulkL GTy.bulk t.inst : Nat) : Int)) (by omega)
      go_wp2_with fail
      go_ret
      refine ⟨ret_int ?_, B3⟩
      have := HE.out
      rw [szv_gt (by omega)]
    have v6 := szv_le g6
    have q6 : 0 ≤ left - ((t.s.size : Nat) : Int) - ((t.t.size : Nat) : Int) - ((t.ty.bulk : Nat) : Int) - ((bulkL GTy.bulk t.inst : Nat) : Int) - ((t.vars.length : Nat) : Int) := by omega
    go_wp2_with fail
    obtain ⟨-, -, -, -, -, -, -, k7⟩ := hat'.out.below B3 B3.size
    refine (HH.out _ _ k7 (by omega) (by omega)).mono ?_
    rintro e w4 ⟨rfl, hb4⟩
    have B4 := B3.trans (hb4.mono B3.size)
    by_cases g7 : ((bulkL GTyped.bulk t.kids : Nat) : Int) ≤ left - ((t.s.size : Nat) : Int) - ((t.t.size : Nat) : Int) - ((t.ty.bulk : Nat) : Int) - ((bulkL GTy.bulk t.inst : Nat) : Int) - ((t.vars.length : Nat) : Int)
    rotate_left
    · have hv := szv_gt (b := bulkL GTyped.bulk t.kids) (left := left - ((t.s.size : Nat) : Int) - ((t.t.size : Nat) : Int) - ((t.ty.bulk : Nat) : Int) - ((bulkL GTy.bulk t.inst : Nat) : Int) - ((t.vars.length : Nat) : Int)) (by omega)
      go_wp2_with fail
      go_ret
      refine ⟨ret_int ?_, B4⟩
      have := HE.out
      rw [szv_gt (by omega)]
    have v7 := szv_le g7
    have q7 : 0 ≤ left - ((t.s.size : Nat) : Int) - ((t.t.size : Nat) : Int) - ((t.ty.bulk : Nat) : Int) - ((bulkL GTy.bulk t.inst : Nat) : Int) - ((t.vars.length : Nat) : Int) - ((bulkL GTyped.bulk t.kids : Nat) : Int) := by omega
    go_wp2_with fail
    go_ret
    refine ⟨ret_int ?_, B4⟩
    have := HE.out
    rw [szv_le (by omega)]; omega

theorem szTyped' (t : GTyped) (A1 : Option Addr) (c1 : Nat) (A2 : Option Addr) (c2 : Nat) (A3 : Option Addr) (c3 : Nat) (A4 : Option Addr) (c4 : Nat) (left : Int) (w : World) (h0 : 0 ≤ left) (h1 : left ≤ 1048576) (hat : GTyped.At w (Lt w.heap.size) A1 c1 A2 c2 A3 c3 A4 c4 t) :
      Calls Try.prog 15 #[.agg #[.int .i64 t.op, .int .i64 t.n, .string t.s, .string t.t, .int .i64 t.ty.op, .int .i64 t.ty.n, .string t.ty.s, .slice A1 t.ty.kids.length c1, .slice A2 t.inst.length c2, .slice A3 t.vars.length c3, .slice A4 t.kids.length c4], .int .i64 left] w fun e w' => e = .returned (.int .i64 (szv t.bulk left)) ∧ Below w.heap.size w w' :=
  szTyped (t.bulk + 1) t A1 c1 A2 c2 A3 c3 A4 c4 left w (by omega) h0 h1 hat

theorem szTypedS' (l : List GTyped) (A : Option Addr) (c : Nat) (left : Int) (w : World) (hs : Sl w (Lt w.heap.size) 11 A c (l.map GTyped.toD)) (h0 : 0 ≤ left) (h1 : left ≤ 1048576) :
    Calls Try.prog 85 #[.slice A l.length c, .int .i64 left] w fun e w' => e = .returned (.int .i64 (szv (bulkL GTyped.bulk l) left)) ∧ Below w.heap.size w w' :=
  szTypedS l A c left w hs h0 h1 (fun u _ A1 c1 A2 c2 A3 c3 A4 c4 left w h0 h1 hat => szTyped' u A1 c1 A2 c2 A3 c3 A4 c4 left w h0 h1 hat)

/-- what a to function gives back: a struct of the call's own -/
def ToTyped (t : GTyped) (w : World) (e : Ending) (w' : World) : Prop := ∃ A1 c1 A2 c2 A3 c3 A4 c4, e = .returned (.agg #[.int .i64 t.op, .int .i64 t.n, .string t.s, .string t.t, .int .i64 t.ty.op, .int .i64 t.ty.n, .string t.ty.s, .slice A1 t.ty.kids.length c1, .slice A2 t.inst.length c2, .slice A3 t.vars.length c3, .slice A4 t.kids.length c4]) ∧ GTyped.Ow w' (Btw w.heap.size w'.heap.size) A1 c1 A2 c2 A3 c3 A4 c4 t ∧ Below w.heap.size w w'
def ToTypedS (l : List GTyped) (w : World) (e : Ending) (w' : World) : Prop := ∃ A1 c1, e = .returned (.slice A1 l.length c1) ∧ Osl w' (Btw w.heap.size w'.heap.size) 11 A1 c1 (l.map GTyped.toD) ∧ Below w.heap.size w w'

def zTyped : Value := .agg #[.int .i64 0, .int .i64 0, .string ⟨#[]⟩, .string ⟨#[]⟩, .int .i64 0, .int .i64 0, .string ⟨#[]⟩, .slice none 0 0, .slice none 0 0, .slice none 0 0, .slice none 0 0]
theorem mkTyped (n : Nat) (hn : n ≤ 1048576) (w : World) : (Instr.makeSlice 37 (.int .i64 (n : Int)) (.int .i64 (n : Int))).run Try.prog w = .ok (.slice (some ⟨w.heap.size, 0, none⟩) n n) (w.alloc (.cells (zr zTyped 11 n) 39)) :=
  run_mk 37 39 zTyped 11 176 Try.underlying37 (by kernel_rfl) n hn (by omega) w

theorem toTypedS (l : List GTyped) (A : Option Addr) (c : Nat) (w : World) (hs : Sl w (Lt w.heap.size) 11 A c (l.map GTyped.toD)) (hl : l.length ≤ 1048576)
    (H : ∀ t, t ∈ l → ∀ (A1 : Option Addr) (c1 : Nat) (A2 : Option Addr) (c2 : Nat) (A3 : Option Addr) (c3 : Nat) (A4 : Option Addr) (c4 : Nat) (w : World), GTyped.At w (Lt w.heap.size) A1 c1 A2 c2 A3 c3 A4 c4 t →
      Calls Try.prog 17 #[.agg #[.int .i64 t.op, .int .i64 t.n, .string t.s, .string t.t, .int .i64 t.ty.op, .int .i64 t.ty.n, .string t.ty.s, .slice A1 t.ty.kids.length c1, .slice A2 t.inst.length c2, .slice A3 t.vars.length c3, .slice A4 t.kids.length c4]] w (ToTyped t w)) :
    Calls Try.prog 88 #[.slice A l.length c] w (ToTypedS l w) := by
  have HH := Lib.hid H
  clear H
  have hmk := mkTyped l.length hl
  go_enter Try.func88, Try.ntmps88
  go_wp2_with fail
  clear hmk
  go_loopw [4] (fun i wr => ∃ (j : Nat) (row : Array Value), j ≤ l.length ∧ i = .int .i64 j ∧ Row wr w.heap.size 39 row ∧ row.size = l.length * 11 ∧
      D.ownR wr 11 w.heap.size ((l.take j).map GTyped.toD) (fun b => w.heap.size < b ∧ b < wr.heap.size) 0 ∧ Below w.heap.size w wr) (fun i _ => l.length - (intOf i).toNat)
  case atStart => exact ⟨0, _, by omega, by go_num, Row.new _ _ _, zr_size _ _ _, by simp [D.ownR], (Below.refl _ _).alloc (Nat.le_refl _) _⟩
  case round =>
    obtain ⟨j, row, hj, rfl, hrow, hrs, hown, hb⟩ := hrel
    have hsz := hb.size
    have hgl := hrow.lt
    by_cases hlt : j < l.length
    · have hel := GTyped.elem (hs.below hb (Nat.le_refl _)) j hlt
      obtain ⟨b, off, A1, c1, A2, c2, A3, c3, A4, c4, rfl, hSb, g0, g1, g2, g3, g4, g5, g6, g7, g8, g9, g10, hat⟩ := hel
      have hmem : l[j] ∈ l := List.getElem_mem hlt
      go_wp2_with fail
      refine (HH.out _ hmem _ _ _ _ _ _ _ _ _ (hat.below (Below.refl _ _) hsz)).mono ?_
      rintro e w1 ⟨B1, d1, B2, d2, B3, d3, B4, d4, rfl, how, hb1⟩
      have hrow1 := Lib.hid (hrow.below hb1 hgl)
      have hf := fun i => hrow1.out.frozen i
      obtain ⟨v0, y0⟩ := row_some (row := row) (j * 11) (by omega)
      obtain ⟨v1, y1⟩ := row_some (row := row) (j * 11 + 1) (by omega)
      obtain ⟨v2, y2⟩ := row_some (row := row) (j * 11 + 2) (by omega)
      obtain ⟨v3, y3⟩ := row_some (row := row) (j * 11 + 3) (by omega)
      obtain ⟨v4, y4⟩ := row_some (row := row) (j * 11 + 4) (by omega)
      obtain ⟨v5, y5⟩ := row_some (row := row) (j * 11 + 5) (by omega)
      obtain ⟨v6, y6⟩ := row_some (row := row) (j * 11 + 6) (by omega)
      obtain ⟨v7, y7⟩ := row_some (row := row) (j * 11 + 7) (by omega)
      obtain ⟨v8, y8⟩ := row_some (row := row) (j * 11 + 8) (by omega)
      obtain ⟨v9, y9⟩ := row_some (row := row) (j * 11 + 9) (by omega)
      obtain ⟨v10, y10⟩ := row_some (row := row) (j * 11 + 10) (by omega)
      have x0 := (hrow1.out.cell (j * 11)).trans y0
      have x1 := (hrow1.out.cell (j * 11 + 1)).trans y1
      have x2 := (hrow1.out.cell (j * 11 + 2)).trans y2
      have x3 := (hrow1.out.cell (j * 11 + 3)).trans y3
      have x4 := (hrow1.out.cell (j * 11 + 4)).trans y4
      have x5 := (hrow1.out.cell (j * 11 + 5)).trans y5
      have x6 := (hrow1.out.cell (j * 11 + 6)).trans y6
      have x7 := (hrow1.out.cell (j * 11 + 7)).trans y7
      have x8 := (hrow1.out.cell (j * 11 + 8)).trans y8
      have x9 := (hrow1.out.cell (j * 11 + 9)).trans y9
      have x10 := (hrow1.out.cell (j * 11 + 10)).trans y10
      clear y0 y1 y2 y3 y4 y5 y6 y7 y8 y9 y10
      have hst := fill_step hrow1.out (j := j) (m := wr.heap.size) (xs := (l.take j).map GTyped.toD) (size := 11) (by simp; omega) (by omega) hgl hb1.size
        (D.ownR_keep 11 _ _ _ _ 0 (fun b hb => ⟨hb, hb1.block b hb.2⟩) (fun i _ => hb1.cell (p := ⟨w.heap.size, i, none⟩) hgl) hown) (GTyped.own_mk how) rfl
      have hB := setCells_below (hb.trans (hb1.mono hsz)) w.heap.size (j * 11) (Nat.le_refl _) [.int .i64 l[j].op, .int .i64 l[j].n, .string l[j].s, .string l[j].t, .int .i64 l[j].ty.op, .int .i64 l[j].ty.n, .string l[j].ty.s, .slice B1 l[j].ty.kids.length d1, .slice B2 l[j].inst.length d2, .slice B3 l[j].vars.length d3, .slice B4 l[j].kids.length d4]
      go_wp2_with fail
      go_roundw
      case rel =>
        obtain ⟨row', p1, p2, p3⟩ := hst
        exact ⟨j + 1, row', by omega, by go_num, p1, by omega, by rw [take_snoc' l j hlt, List.map_append]; exact p3, hB⟩
      case measure => simp [intOf]; omega
    · have hjl : j = l.length := by omega
      have Hj := Lib.hid hjl
      clear hjl
      go_wp2_with fail
      go_ret
      rw [Hj.out, List.take_length] at hown
      exact ⟨_, _, rfl, fill_end hrow (Nat.le_refl _) (by simp) (by unfold maxLen; omega) hown, hb⟩

theorem toTyped (k : Nat) : ∀ (t : GTyped) (A1 : Option Addr) (c1 : Nat) (A2 : Option Addr) (c2 : Nat) (A3 : Option Addr) (c3 : Nat) (A4 : Option Addr) (c4 : Nat) (w : World), t.bulk < k → t.bulk ≤ 1048576 → GTyped.At w (Lt w.heap.size) A1 c1 A2 c2 A3 c3 A4 c4 t →
      Calls Try.prog 17 #[.agg #[.int .i64 t.op, .int .i64 t.n, .string t.s, .string t.t, .int .i64 t.ty.op, .int .i64 t.ty.n, .string t.ty.s, .slice A1 t.ty.kids.length c1, .slice A2 t.inst.length c2, .slice A3 t.vars.length c3, .slice A4 t.kids.length c4]] w (ToTyped t w) := by
  induction k with
  | zero => intro t A1 c1 A2 c2 A3 c3 A4 c4 w hk; omega
  | succ k ih =>
    intro t A1 c1 A2 c2 A3 c3 A4 c4 w hk h1 hat
    have hbe := t.bulk_eq
    have H3 := fun (w : World) hs => toTypedS t.kids A4 c4 w hs (by have := bulkL_len GTyped.bulk t.kids; omega) (fun u hu A1 c1 A2 c2 A3 c3 A4 c4 w hat => ih u A1 c1 A2 c2 A3 c3 A4 c4 w (by have := bulkL_mem GTyped.bulk t.kids u hu; omega) (by have := bulkL_mem GTyped.bulk t.kids u hu; omega) hat)
    have HH := Lib.hid H3
    have m4 : t.ty.bulk ≤ 1048576 := by omega
    have m5 : bulkL GTy.bulk t.inst ≤ 1048576 := by omega
    have m6 : t.vars.length ≤ 1048576 := by omega
    have hat' := Lib.hid hat
    clear hbe hat H3 ih
    go_enter Try.func17, Try.ntmps17
    go_wp2_with fail
    have W0 : ∃ w0, w0 = ((w.alloc (.cells #[.int .i64 t.op, .int .i64 t.n, .string t.s, .string t.t, .int .i64 t.ty.op, .int .i64 t.ty.n, .string t.ty.s, .slice A1 t.ty.kids.length c1, .slice A2 t.inst.length c2, .slice A3 t.vars.length c3, .slice A4 t.kids.length c4] 28)).alloc (.cells #[.int .i64 0, .int .i64 0, .string ⟨#[]⟩, .string ⟨#[]⟩, .int .i64 0, .int .i64 0, .string ⟨#[]⟩, .slice none 0 0, .slice none 0 0, .slice none 0 0, .slice none 0 0] 39)).alloc (.cells #[.int .i64 t.op, .int .i64 t.n, .string t.s, .string t.t, .int .i64 0, .int .i64 0, .string ⟨#[]⟩, .slice none 0 0, .slice none 0 0, .slice none 0 0, .slice none 0 0] 39) := ⟨_, rfl⟩
    obtain ⟨w0, e0⟩ := W0
    have B0 : Below w.heap.size w w0 := by rw [e0]; exact (((Below.refl _ _).alloc (Nat.le_refl _) _).alloc (by simp) _).alloc (by simp; omega) _
    have S0 : w0.heap.size = w.heap.size + 3 := by rw [e0]; simp
    have Ra0 : Row w0 w.heap.size 28 #[.int .i64 t.op, .int .i64 t.n, .string t.s, .string t.t, .int .i64 t.ty.op, .int .i64 t.ty.n, .string t.ty.s, .slice A1 t.ty.kids.length c1, .slice A2 t.inst.length c2, .slice A3 t.vars.length c3, .slice A4 t.kids.length c4] := by rw [e0]; exact ((Row.new' _ _ _ rfl).alloc _).alloc _
    have Rz0 : Row w0 (w.heap.size + 1) 39 #[.int .i64 0, .int .i64 0, .string ⟨#[]⟩, .string ⟨#[]⟩, .int .i64 0, .int .i64 0, .string ⟨#[]⟩, .slice none 0 0, .slice none 0 0, .slice none 0 0, .slice none 0 0] := by rw [e0]; exact (Row.new' _ _ _ (by simp)).alloc _
    have Ro0 : Row w0 (w.heap.size + 1 + 1) 39 #[.int .i64 t.op, .int .i64 t.n, .string t.s, .string t.t, .int .i64 0, .int .i64 0, .string ⟨#[]⟩, .slice none 0 0, .slice none 0 0, .slice none 0 0, .slice none 0 0] := by rw [e0]; exact Row.new' _ _ _ (by simp)
    rw [← e0]
    clear e0
    obtain ⟨-, -, -, -, q4, -, -, -⟩ := hat'.out.below B0 B0.size
    refine (toTy' t.ty A1 c1 (w0) m4 q4).mono ?_
    rintro e w1 ⟨D1, d1, rfl, how4, hb1⟩
    have hs1 := hb1.size
    have X1 := B0.trans (hb1.mono B0.size)
    have Rax1 := Lib.hid (Ra0.below hb1 Ra0.lt)
    have Rzx1 := Lib.hid (Rz0.below hb1 Rz0.lt)
    have Rox1 := Lib.hid (Ro0.below hb1 Ro0.lt)
    have hca1 := fun i => Rax1.out.cell i
    have hcz1 := fun i => Rzx1.out.cell i
    have hco1 := fun i => Rox1.out.cell i
    have hfz1 := fun i => Rzx1.out.frozen i
    have hfo1 := fun i => Rox1.out.frozen i
    have B1 := setCells_below X1 (w.heap.size + 1 + 1) 4 (by omega) [.int .i64 t.ty.op, .int .i64 t.ty.n, .string t.ty.s, .slice D1 t.ty.kids.length d1]
    have Ra1 : Hid (Row (setCells w1 (w.heap.size + 1 + 1) 4 [.int .i64 t.ty.op, .int .i64 t.ty.n, .string t.ty.s, .slice D1 t.ty.kids.length d1]) w.heap.size 28 #[.int .i64 t.op, .int .i64 t.n, .string t.s, .string t.t, .int .i64 t.ty.op, .int .i64 t.ty.n, .string t.ty.s, .slice A1 t.ty.kids.length c1, .slice A2 t.inst.length c2, .slice A3 t.vars.length c3, .slice A4 t.kids.length c4]) := ((((Rax1.out).far (p := ⟨w.heap.size + 1 + 1, 4, none⟩) (by simp <;> omega) (.int .i64 t.ty.op)).far (p := ⟨w.heap.size + 1 + 1, 5, none⟩) (by simp <;> omega) (.int .i64 t.ty.n)).far (p := ⟨w.heap.size + 1 + 1, 6, none⟩) (by simp <;> omega) (.string t.ty.s)).far (p := ⟨w.heap.size + 1 + 1, 7, none⟩) (by simp <;> omega) (.slice D1 t.ty.kids.length d1)
    have Rz1 : Hid (Row (setCells w1 (w.heap.size + 1 + 1) 4 [.int .i64 t.ty.op, .int .i64 t.ty.n, .string t.ty.s, .slice D1 t.ty.kids.length d1]) (w.heap.size + 1) 39 #[.int .i64 0, .int .i64 0, .string ⟨#[]⟩, .string ⟨#[]⟩, .int .i64 0, .int .i64 0, .string ⟨#[]⟩, .slice none 0 0, .slice none 0 0, .slice none 0 0, .slice none 0 0]) := ((((Rzx1.out).far (p := ⟨w.heap.size + 1 + 1, 4, none⟩) (by simp <;> omega) (.int .i64 t.ty.op)).far (p := ⟨w.heap.size + 1 + 1, 5, none⟩) (by simp <;> omega) (.int .i64 t.ty.n)).far (p := ⟨w.heap.size + 1 + 1, 6, none⟩) (by simp <;> omega) (.string t.ty.s)).far (p := ⟨w.heap.size + 1 + 1, 7, none⟩) (by simp <;> omega) (.slice D1 t.ty.kids.length d1)
    have Ro1 : Hid (Row (setCells w1 (w.heap.size + 1 + 1) 4 [.int .i64 t.ty.op, .int .i64 t.ty.n, .string t.ty.s, .slice D1 t.ty.kids.length d1]) (w.heap.size + 1 + 1) 39 #[.int .i64 t.op, .int .i64 t.n, .string t.s, .string t.t, .int .i64 t.ty.op, .int .i64 t.ty.n, .string t.ty.s, .slice D1 t.ty.kids.length d1, .slice none 0 0, .slice none 0 0, .slice none 0 0]) := ((((Rox1.out).set 4 (.int .i64 t.ty.op)).set 5 (.int .i64 t.ty.n)).set 6 (.string t.ty.s)).set 7 (.slice D1 t.ty.kids.length d1)
    replace how4 := how4.keep (S' := Btw (w0).heap.size (w1).heap.size) (w' := setCells w1 (w.heap.size + 1 + 1) 4 [.int .i64 t.ty.op, .int .i64 t.ty.n, .string t.ty.s, .slice D1 t.ty.kids.length d1]) fun b hb => ⟨hb, setCells_block _ _ _ _ _ (by have := hb.1; first | omega | (simp only [setCells_size] at *; omega) | (simp only [setCells_size] at *; done))⟩
    go_wp2_with fail
    obtain ⟨-, -, -, -, -, q5, -, -⟩ := hat'.out.below B1 B1.size
    refine (toTyS' t.inst A2 c2 (setCells w1 (w.heap.size + 1 + 1) 4 [.int .i64 t.ty.op, .int .i64 t.ty.n, .string t.ty.s, .slice D1 t.ty.kids.length d1]) q5 m5).mono ?_
    rintro e w2 ⟨D2, d2, rfl, how5, hb2⟩
    have hs2 := hb2.size
    have X2 := B1.trans (hb2.mono B1.size)
    have Rax2 := Lib.hid (Ra1.out.below hb2 Ra1.out.lt)
    have Rzx2 := Lib.hid (Rz1.out.below hb2 Rz1.out.lt)
    have Rox2 := Lib.hid (Ro1.out.below hb2 Ro1.out.lt)
    have hca2 := fun i => Rax2.out.cell i
    have hcz2 := fun i => Rzx2.out.cell i
    have hco2 := fun i => Rox2.out.cell i
    have hfz2 := fun i => Rzx2.out.frozen i
    have hfo2 := fun i => Rox2.out.frozen i
    replace how4 := how4.keep (S' := Btw (w0).heap.size (w1).heap.size) fun b hb => ⟨hb, hb2.block b (by have := hb.2; have := hs2; first | omega | (simp only [setCells_size] at *; omega) | (simp only [setCells_size] at *; done))⟩
    have B2 := setCells_below X2 (w.heap.size + 1 + 1) 8 (by omega) [.slice D2 t.inst.length d2]
    have Ra2 : Hid (Row (setCells w2 (w.heap.size + 1 + 1) 8 [.slice D2 t.inst.length d2]) w.heap.size 28 #[.int .i64 t.op, .int .i64 t.n, .string t.s, .string t.t, .int .i64 t.ty.op, .int .i64 t.ty.n, .string t.ty.s, .slice A1 t.ty.kids.length c1, .slice A2 t.inst.length c2, .slice A3 t.vars.length c3, .slice A4 t.kids.length c4]) := (Rax2.out).far (p := ⟨w.heap.size + 1 + 1, 8, none⟩) (by simp <;> omega) (.slice D2 t.inst.length d2)
    have Rz2 : Hid (Row (setCells w2 (w.heap.size + 1 + 1) 8 [.slice D2 t.inst.length d2]) (w.heap.size + 1) 39 #[.int .i64 0, .int .i64 0, .string ⟨#[]⟩, .string ⟨#[]⟩, .int .i64 0, .int .i64 0, .string ⟨#[]⟩, .slice none 0 0, .slice none 0 0, .slice none 0 0, .slice none 0 0]) := (Rzx2.out).far (p := ⟨w.heap.size + 1 + 1, 8, none⟩) (by simp <;> omega) (.slice D2 t.inst.length d2)
    have Ro2 : Hid (Row (setCells w2 (w.heap.size + 1 + 1) 8 [.slice D2 t.inst.length d2]) (w.heap.size + 1 + 1) 39 #[.int .i64 t.op, .int .i64 t.n, .string t.s, .string t.t, .int .i64 t.ty.op, .int .i64 t.ty.n, .string t.ty.s, .slice D1 t.ty.kids.length d1, .slice D2 t.inst.length d2, .slice none 0 0, .slice none 0 0]) := (Rox2.out).set 8 (.slice D2 t.inst.length d2)
    replace how4 := how4.keep (S' := Btw (w0).heap.size (w1).heap.size) (w' := setCells w2 (w.heap.size + 1 + 1) 8 [.slice D2 t.inst.length d2]) fun b hb => ⟨hb, setCells_block _ _ _ _ _ (by have := hb.1; first | omega | (simp only [setCells_size] at *; omega) | (simp only [setCells_size] at *; done))⟩
    replace how5 := how5.keep (S' := Btw (setCells w1 (w.heap.size + 1 + 1) 4 [.int .i64 t.ty.op, .int .i64 t.ty.n, .string t.ty.s, .slice D1 t.ty.kids.length d1]).heap.size (w2).heap.size) (w' := setCells w2 (w.heap.size + 1 + 1) 8 [.slice D2 t.inst.length d2]) fun b hb => ⟨hb, setCells_block _ _ _ _ _ (by have := hb.1; first | omega | (simp only [setCells_size] at *; omega) | (simp only [setCells_size] at *; done))⟩
    go_wp2_with fail
    obtain ⟨-, -, -, -, -, -, q6, -⟩ := hat'.out.below B2 B2.size
    refine (toIntS t.vars A3 c3 (setCells w2 (w.heap.size + 1 + 1) 8 [.slice D2 t.inst.length d2]) q6 m6).mono ?_
    rintro e w3 ⟨D3, d3, rfl, how6, hb3⟩
    have hs3 := hb3.size
    have X3 := B2.trans (hb3.mono B2.size)
    have Rax3 := Lib.hid (Ra2.out.below hb3 Ra2.out.lt)
    have Rzx3 := Lib.hid (Rz2.out.below hb3 Rz2.out.lt)
    have Rox3 := Lib.hid (Ro2.out.below hb3 Ro2.out.lt)
    have hca3 := fun i => Rax3.out.cell i
    have hcz3 := fun i => Rzx3.out.cell i
    have hco3 := fun i => Rox3.out.cell i
    have hfz3 := fun i => Rzx3.out.frozen i
    have hfo3 := fun i => Rox3.out.frozen i
    replace how4 := how4.keep (S' := Btw (w0).heap.size (w1).heap.size) fun b hb => ⟨hb, hb3.block b (by have := hb.2; have := hs3; first | omega | (simp only [setCells_size] at *; omega) | (simp only [setCells_size] at *; done))⟩
    replace how5 := how5.keep (S' := Btw (setCells w1 (w.heap.size + 1 + 1) 4 [.int .i64 t.ty.op, .int .i64 t.ty.n, .string t.ty.s, .slice D1 t.ty.kids.length d1]).heap.size (w2).heap.size) fun b hb => ⟨hb, hb3.block b (by have := hb.2; have := hs3; first | omega | (simp only [setCells_size] at *; omega) | (simp only [setCells_size] at *; done))⟩
    have B3 := setCells_below X3 (w.heap.size + 1 + 1) 9 (by omega) [.slice D3 t.vars.length d3]
    have Ra3 : Hid (Row (setCells w3 (w.heap.size + 1 + 1) 9 [.slice D3 t.vars.length d3]) w.heap.size 28 #[.int .i64 t.op, .int .i64 t.n, .string t.s, .string t.t, .int .i64 t.ty.op, .int .i64 t.ty.n, .string t.ty.s, .slice A1 t.ty.kids.length c1, .slice A2 t.inst.length c2, .slice A3 t.vars.length c3, .slice A4 t.kids.length c4]) := (Rax3.out).far (p := ⟨w.heap.size + 1 + 1, 9, none⟩) (by simp <;> omega) (.slice D3 t.vars.length d3)
    have Rz3 : Hid (Row (setCells w3 (w.heap.size + 1 + 1) 9 [.slice D3 t.vars.length d3]) (w.heap.size + 1) 39 #[.int .i64 0, .int .i64 0, .string ⟨#[]⟩, .string ⟨#[]⟩, .int .i64 0, .int .i64 0, .string ⟨#[]⟩, .slice none 0 0, .slice none 0 0, .slice none 0 0, .slice none 0 0]) := (Rzx3.out).far (p := ⟨w.heap.size + 1 + 1, 9, none⟩) (by simp <;> omega) (.slice D3 t.vars.length d3)
    have Ro3 : Hid (Row (setCells w3 (w.heap.size + 1 + 1) 9 [.slice D3 t.vars.length d3]) (w.heap.size + 1 + 1) 39 #[.int .i64 t.op, .int .i64 t.n, .string t.s, .string t.t, .int .i64 t.ty.op, .int .i64 t.ty.n, .string t.ty.s, .slice D1 t.ty.kids.length d1, .slice D2 t.inst.length d2, .slice D3 t.vars.length d3, .slice none 0 0]) := (Rox3.out).set 9 (.slice D3 t.vars.length d3)
    replace how4 := how4.keep (S' := Btw (w0).heap.size (w1).heap.size) (w' := setCells w3 (w.heap.size + 1 + 1) 9 [.slice D3 t.vars.length d3]) fun b hb => ⟨hb, setCells_block _ _ _ _ _ (by have := hb.1; first | omega | (simp only [setCells_size] at *; omega) | (simp only [setCells_size] at *; done))⟩
    replace how5 := how5.keep (S' := Btw (setCells w1 (w.heap.size + 1 + 1) 4 [.int .i64 t.ty.op, .int .i64 t.ty.n, .string t.ty.s, .slice D1 t.ty.kids.length d1]).heap.size (w2).heap.size) (w' := setCells w3 (w.heap.size + 1 + 1) 9 [.slice D3 t.vars.length d3]) fun b hb => ⟨hb, setCells_block _ _ _ _ _ (by have := hb.1; first | omega | (simp only [setCells_size] at *; omega) | (simp only [setCells_size] at *; done))⟩
    replace how6 := how6.keep (S' := Btw (setCells w2 (w.heap.size + 1 + 1) 8 [.slice D2 t.inst.length d2]).heap.size (w3).heap.size) (w' := setCells w3 (w.heap.size + 1 + 1) 9 [.slice D3 t.vars.length d3]) fun b hb => ⟨hb, setCells_block _ _ _ _ _ (by have := hb.1; first | omega | (simp only [setCells_size] at *; omega) | (simp only [setCells_size] at *; done))⟩
    go_wp2_with fail
    obtain ⟨-, -, -, -, -, -, -, q7⟩ := hat'.out.below B3 B3.size
    refine (HH.out (setCells w3 (w.heap.size + 1 + 1) 9 [.slice D3 t.vars.length d3]) q7).mono ?_
    rintro e w4 ⟨D4, d4, rfl, how7, hb4⟩
    have hs4 := hb4.size
    have X4 := B3.trans (hb4.mono B3.size)
    have Rax4 := Lib.hid (Ra3.out.below hb4 Ra3.out.lt)
    have Rzx4 := Lib.hid (Rz3.out.below hb4 Rz3.out.lt)
    have Rox4 := Lib.hid (Ro3.out.below hb4 Ro3.out.lt)
    have hca4 := fun i => Rax4.out.cell i
    have hcz4 := fun i => Rzx4.out.cell i
    have hco4 := fun i => Rox4.out.cell i
    have hfz4 := fun i => Rzx4.out.frozen i
    have hfo4 := fun i => Rox4.out.frozen i
    replace how4 := how4.keep (S' := Btw (w0).heap.size (w1).heap.size) fun b hb => ⟨hb, hb4.block b (by have := hb.2; have := hs4; first | omega | (simp only [setCells_size] at *; omega) | (simp only [setCells_size] at *; done))⟩
    replace how5 := how5.keep (S' := Btw (setCells w1 (w.heap.size + 1 + 1) 4 [.int .i64 t.ty.op, .int .i64 t.ty.n, .string t.ty.s, .slice D1 t.ty.kids.length d1]).heap.size (w2).heap.size) fun b hb => ⟨hb, hb4.block b (by have := hb.2; have := hs4; first | omega | (simp only [setCells_size] at *; omega) | (simp only [setCells_size] at *; done))⟩
    replace how6 := how6.keep (S' := Btw (setCells w2 (w.heap.size + 1 + 1) 8 [.slice D2 t.inst.length d2]).heap.size (w3).heap.size) fun b hb => ⟨hb, hb4.block b (by have := hb.2; have := hs4; first | omega | (simp only [setCells_size] at *; omega) | (simp only [setCells_size] at *; done))⟩
    have B4 := setCells_below X4 (w.heap.size + 1 + 1) 10 (by omega) [.slice D4 t.kids.length d4]
    have Ra4 : Hid (Row (setCells w4 (w.heap.size + 1 + 1) 10 [.slice D4 t.kids.length d4]) w.heap.size 28 #[.int .i64 t.op, .int .i64 t.n, .string t.s, .string t.t, .int .i64 t.ty.op, .int .i64 t.ty.n, .string t.ty.s, .slice A1 t.ty.kids.length c1, .slice A2 t.inst.length c2, .slice A3 t.vars.length c3, .slice A4 t.kids.length c4]) := (Rax4.out).far (p := ⟨w.heap.size + 1 + 1, 10, none⟩) (by simp <;> omega) (.slice D4 t.kids.length d4)
    have Rz4 : Hid (Row (setCells w4 (w.heap.size + 1 + 1) 10 [.slice D4 t.kids.length d4]) (w.heap.size + 1) 39 #[.int .i64 0, .int .i64 0, .string ⟨#[]⟩, .string ⟨#[]⟩, .int .i64 0, .int .i64 0, .string ⟨#[]⟩, .slice none 0 0, .slice none 0 0, .slice none 0 0, .slice none 0 0]) := (Rzx4.out).far (p := ⟨w.heap.size + 1 + 1, 10, none⟩) (by simp <;> omega) (.slice D4 t.kids.length d4)
    have Ro4 : Hid (Row (setCells w4 (w.heap.size + 1 + 1) 10 [.slice D4 t.kids.length d4]) (w.heap.size + 1 + 1) 39 #[.int .i64 t.op, .int .i64 t.n, .string t.s, .string t.t, .int .i64 t.ty.op, .int .i64 t.ty.n, .string t.ty.s, .slice D1 t.ty.kids.length d1, .slice D2 t.inst.length d2, .slice D3 t.vars.length d3, .slice D4 t.kids.length d4]) := (Rox4.out).set 10 (.slice D4 t.kids.length d4)
    replace how4 := how4.keep (S' := Btw (w0).heap.size (w1).heap.size) (w' := setCells w4 (w.heap.size + 1 + 1) 10 [.slice D4 t.kids.length d4]) fun b hb => ⟨hb, setCells_block _ _ _ _ _ (by have := hb.1; first | omega | (simp only [setCells_size] at *; omega) | (simp only [setCells_size] at *; done))⟩
    replace how5 := how5.keep (S' := Btw (setCells w1 (w.heap.size + 1 + 1) 4 [.int .i64 t.ty.op, .int .i64 t.ty.n, .string t.ty.s, .slice D1 t.ty.kids.length d1]).heap.size (w2).heap.size) (w' := setCells w4 (w.heap.size + 1 + 1) 10 [.slice D4 t.kids.length d4]) fun b hb => ⟨hb, setCells_block _ _ _ _ _ (by have := hb.1; first | omega | (simp only [setCells_size] at *; omega) | (simp only [setCells_size] at *; done))⟩
    replace how6 := how6.keep (S' := Btw (setCells w2 (w.heap.size + 1 + 1) 8 [.slice D2 t.inst.length d2]).heap.size (w3).heap.size) (w' := setCells w4 (w.heap.size + 1 + 1) 10 [.slice D4 t.kids.length d4]) fun b hb => ⟨hb, setCells_block _ _ _ _ _ (by have := hb.1; first | omega | (simp only [setCells_size] at *; omega) | (simp only [setCells_size] at *; done))⟩
    replace how7 := how7.keep (S' := Btw (setCells w3 (w.heap.size + 1 + 1) 9 [.slice D3 t.vars.length d3]).heap.size (w4).heap.size) (w' := setCells w4 (w.heap.size + 1 + 1) 10 [.slice D4 t.kids.length d4]) fun b hb => ⟨hb, setCells_block _ _ _ _ _ (by have := hb.1; first | omega | (simp only [setCells_size] at *; omega) | (simp only [setCells_size] at *; done))⟩
    have BF := setCells_below B4 (w.heap.size + 1) 0 (by omega) [.int .i64 t.op, .int .i64 t.n, .string t.s, .string t.t, .int .i64 t.ty.op, .int .i64 t.ty.n, .string t.ty.s, .slice D1 t.ty.kids.length d1, .slice D2 t.inst.length d2, .slice D3 t.vars.length d3, .slice D4 t.kids.length d4]
    have SF : (setCells (setCells w4 (w.heap.size + 1 + 1) 10 [.slice D4 t.kids.length d4]) (w.heap.size + 1) 0 [.int .i64 t.op, .int .i64 t.n, .string t.s, .string t.t, .int .i64 t.ty.op, .int .i64 t.ty.n, .string t.ty.s, .slice D1 t.ty.kids.length d1, .slice D2 t.inst.length d2, .slice D3 t.vars.length d3, .slice D4 t.kids.length d4]).heap.size = w4.heap.size := by rw [setCells_size, setCells_size]
    replace how4 := how4.keep (S' := Btw (w0).heap.size (w1).heap.size) (w' := setCells (setCells w4 (w.heap.size + 1 + 1) 10 [.slice D4 t.kids.length d4]) (w.heap.size + 1) 0 [.int .i64 t.op, .int .i64 t.n, .string t.s, .string t.t, .int .i64 t.ty.op, .int .i64 t.ty.n, .string t.ty.s, .slice D1 t.ty.kids.length d1, .slice D2 t.inst.length d2, .slice D3 t.vars.length d3, .slice D4 t.kids.length d4]) fun b hb => ⟨hb, setCells_block _ _ _ _ _ (by have := hb.1; first | omega | (simp only [setCells_size] at *; omega) | (simp only [setCells_size] at *; done))⟩
    replace how5 := how5.keep (S' := Btw (setCells w1 (w.heap.size + 1 + 1) 4 [.int .i64 t.ty.op, .int .i64 t.ty.n, .string t.ty.s, .slice D1 t.ty.kids.length d1]).heap.size (w2).heap.size) (w' := setCells (setCells w4 (w.heap.size + 1 + 1) 10 [.slice D4 t.kids.length d4]) (w.heap.size + 1) 0 [.int .i64 t.op, .int .i64 t.n, .string t.s, .string t.t, .int .i64 t.ty.op, .int .i64 t.ty.n, .string t.ty.s, .slice D1 t.ty.kids.length d1, .slice D2 t.inst.length d2, .slice D3 t.vars.length d3, .slice D4 t.kids.length d4]) fun b hb => ⟨hb, setCells_block _ _ _ _ _ (by have := hb.1; first | omega | (simp only [setCells_size] at *; omega) | (simp only [setCells_size] at *; done))⟩
    replace how6 := how6.keep (S' := Btw (setCells w2 (w.heap.size + 1 + 1) 8 [.slice D2 t.inst.length d2]).heap.size (w3).heap.size) (w' := setCells (setCells w4 (w.heap.size + 1 + 1) 10 [.slice D4 t.kids.length d4]) (w.heap.size + 1) 0 [.int .i64 t.op, .int .i64 t.n, .string t.s, .string t.t, .int .i64 t.ty.op, .int .i64 t.ty.n, .string t.ty.s, .slice D1 t.ty.kids.length d1, .slice D2 t.inst.length d2, .slice D3 t.vars.length d3, .slice D4 t.kids.length d4]) fun b hb => ⟨hb, setCells_block _ _ _ _ _ (by have := hb.1; first | omega | (simp only [setCells_size] at *; omega) | (simp only [setCells_size] at *; done))⟩
    replace how7 := how7.keep (S' := Btw (setCells w3 (w.heap.size + 1 + 1) 9 [.slice D3 t.vars.length d3]).heap.size (w4).heap.size) (w' := setCells (setCells w4 (w.heap.size + 1 + 1) 10 [.slice D4 t.kids.length d4]) (w.heap.size + 1) 0 [.int .i64 t.op, .int .i64 t.n, .string t.s, .string t.t, .int .i64 t.ty.op, .int .i64 t.ty.n, .string t.ty.s, .slice D1 t.ty.kids.length d1, .slice D2 t.inst.length d2, .slice D3 t.vars.length d3, .slice D4 t.kids.length d4]) fun b hb => ⟨hb, setCells_block _ _ _ _ _ (by have := hb.1; first | omega | (simp only [setCells_size] at *; omega) | (simp only [setCells_size] at *; done))⟩
    have qs := hat'.out
    obtain ⟨p0, p1, p2, p3, p4, p5, p6, p7⟩ := qs
    go_wp2_with fail
    exact bodyPost_ret (v := .agg #[.int .i64 t.op, .int .i64 t.n, .string t.s, .string t.t, .int .i64 t.ty.op, .int .i64 t.ty.n, .string t.ty.s, .slice D1 t.ty.kids.length d1, .slice D2 t.inst.length d2, .slice D3 t.vars.length d3, .slice D4 t.kids.length d4]) (by simp [results, Try.results17, go_sem, hca4, hcz4, hco4]) rfl ⟨D1, d1, D2, d2, D3, d3, D4, d4, rfl, ⟨Btw (w0).heap.size (w1).heap.size, Btw (setCells w1 (w.heap.size + 1 + 1) 4 [.int .i64 t.ty.op, .int .i64 t.ty.n, .string t.ty.s, .slice D1 t.ty.kids.length d1]).heap.size (w2).heap.size, Btw (setCells w2 (w.heap.size + 1 + 1) 8 [.slice D2 t.inst.length d2]).heap.size (w3).heap.size, Btw (setCells w3 (w.heap.size + 1 + 1) 9 [.slice D3 t.vars.length d3]).heap.size (w4).heap.size, fun x hx => ⟨by have := hx.1; first | omega | (simp only [setCells_size] at *; omega) | (simp only [setCells_size] at *; done), by have := hx.2; have := SF; first | omega | (have h3 := SF; exact Nat.lt_of_lt_of_le (by first | omega | (simp only [setCells_size] at *; omega)) (Nat.le_of_eq h3.symm)) | (simp only [setCells_size] at *; omega) | (simp only [setCells_size] at *; done)⟩, fun x hx => ⟨by have := hx.1; first | omega | (simp only [setCells_size] at *; omega) | (simp only [setCells_size] at *; done), by have := hx.2; have := SF; first | omega | (have h3 := SF; exact Nat.lt_of_lt_of_le (by first | omega | (simp only [setCells_size] at *; omega)) (Nat.le_of_eq h3.symm)) | (simp only [setCells_size] at *; omega) | (simp only [setCells_size] at *; done)⟩, fun x hx => ⟨by have := hx.1; first | omega | (simp only [setCells_size] at *; omega) | (simp only [setCells_size] at *; done), by have := hx.2; have := SF; first | omega | (have h3 := SF; exact Nat.lt_of_lt_of_le (by first | omega | (simp only [setCells_size] at *; omega)) (Nat.le_of_eq h3.symm)) | (simp only [setCells_size] at *; omega) | (simp only [setCells_size] at *; done)⟩, fun x hx => ⟨by have := hx.1; first | omega | (simp only [setCells_size] at *; omega) | (simp only [setCells_size] at *; done), by have := hx.2; have := SF; first | omega | (have h3 := SF; exact Nat.lt_of_lt_of_le (by first | omega | (simp only [setCells_size] at *; omega)) (Nat.le_of_eq h3.symm)) | (simp only [setCells_size] at *; omega) | (simp only [setCells_size] at *; done)⟩, fun x hx hy => by have := hx.2; have := hy.1; first | omega | (simp only [setCells_size] at *; omega) | (simp only [setCells_size] at *; done), fun x hx hy => by have := hx.2; have := hy.1; first | omega | (simp only [setCells_size] at *; omega) | (simp only [setCells_size] at *; done), fun x hx hy => by have := hx.2; have := hy.1; first | omega | (simp only [setCells_size] at *; omega) | (simp only [setCells_size] at *; done), fun x hx hy => by have := hx.2; have := hy.1; first | omega | (simp only [setCells_size] at *; omega) | (simp only [setCells_size] at *; done), fun x hx hy => by have := hx.2; have := hy.1; first | omega | (simp only [setCells_size] at *; omega) | (simp only [setCells_size] at *; done), fun x hx hy => by have := hx.2; have := hy.1; first | omega | (simp only [setCells_size] at *; omega) | (simp only [setCells_size] at *; done), p0, p1, p2, p3, how4, how5, how6, how7⟩, BF⟩

theorem toTyped' (t : GTyped) (A1 : Option Addr) (c1 : Nat) (A2 : Option Addr) (c2 : Nat) (A3 : Option Addr) (c3 : Nat) (A4 : Option Addr) (c4 : Nat) (w : World) (h1 : t.bulk ≤ 1048576) (hat : GTyped.At w (Lt w.heap.size) A1 c1 A2 c2 A3 c3 A4 c4 t) :
      Calls Try.prog 17 #[.agg #[.int .i64 t.op, .int .i64 t.n, .string t.s, .string t.t, .int .i64 t.ty.op, .int .i64 t.ty.n, .string t.ty.s, .slice A1 t.ty.kids.length c1, .slice A2 t.inst.length c2, .slice A3 t.vars.length c3, .slice A4 t.kids.length c4]] w (ToTyped t w) :=
  toTyped (t.bulk + 1) t A1 c1 A2 c2 A3 c3 A4 c4 w (by omega) h1 hat

theorem toTypedS' (l : List GTyped) (A : Option Addr) (c : Nat) (w : World) (hs : Sl w (Lt w.heap.size) 11 A c (l.map GTyped.toD)) (hl : bulkL GTyped.bulk l ≤ 1048576) :
    Calls Try.prog 88 #[.slice A l.length c] w (ToTypedS l w) :=
  toTypedS l A c w hs (by have := bulkL_len GTyped.bulk l; omega) (fun u hu A1 c1 A2 c2 A3 c3 A4 c4 w hat => toTyped' u A1 c1 A2 c2 A3 c3 A4 c4 w (by have := bulkL_mem GTyped.bulk l u hu; omega) hat)

set_option maxRecDepth 20000 in
theorem eqTypedS (l : List GTyped) (A B : Option Addr) (c d : Nat) (w : World) (hs : Sl w (Lt w.heap.size) 11 A c (l.map GTyped.toD)) (hs' : Sl w (Lt w.heap.size) 11 B d (l.map GTyped.toD))
    (H : ∀ t, t ∈ l → ∀ (A1 : Option Addr) (c1 : Nat) (A2 : Option Addr) (c2 : Nat) (A3 : Option Addr) (c3 : Nat) (A4 : Option Addr) (c4 : Nat) (B1 : Option Addr) (d1 : Nat) (B2 : Option Addr) (d2 : Nat) (B3 : Option Addr) (d3 : Nat) (B4 : Option Addr) (d4 : Nat) (w : World), GTyped.At w (Lt w.heap.size) A1 c1 A2 c2 A3 c3 A4 c4 t → GTyped.At w (Lt w.heap.size) B1 d1 B2 d2 B3 d3 B4 d4 t →
      Calls Try.prog 20 #[.agg #[.int .i64 t.op, .int .i64 t.n, .string t.s, .string t.t, .int .i64 t.ty.op, .int .i64 t.ty.n, .string t.ty.s, .slice A1 t.ty.kids.length c1, .slice A2 t.inst.length c2, .slice A3 t.vars.length c3, .slice A4 t.kids.length c4], .agg #[.int .i64 t.op, .int .i64 t.n, .string t.s, .string t.t, .int .i64 t.ty.op, .int .i64 t.ty.n, .string t.ty.s, .slice B1 t.ty.kids.length d1, .slice B2 t.inst.length d2, .slice B3 t.vars.length d3, .slice B4 t.kids.length d4]] w fun e w' => e = .returned (.bool true) ∧ Below w.heap.size w w') :
    Calls Try.prog 90 #[.slice A l.length c, .slice B l.length d] w fun e w' => e = .returned (.bool true) ∧ Below w.heap.size w w' := by
  have hlen : l.length ≤ 9223372036854775807 := by simpa using hs.len
  have HH := Lib.hid H
  clear H
  go_enter Try.func90, Try.ntmps90
  go_wp2_with fail
  go_loopw [5] (fun i wr => ∃ (j : Nat), j ≤ l.length ∧ i = .int .i64 j ∧ Below w.heap.size w wr) (fun i _ => l.length - (intOf i).toNat)
  case atStart => exact ⟨0, by omega, by go_num, Below.refl _ _⟩
  case round =>
    obtain ⟨j, hj, rfl, hb⟩ := hrel
    have hsz := hb.size
    by_cases hlt : j < l.length
    · have hel := GTyped.elem (hs.below hb (Nat.le_refl _)) j hlt
      obtain ⟨b, off, A1, c1, A2, c2, A3, c3, A4, c4, rfl, hSb, g0, g1, g2, g3, g4, g5, g6, g7, g8, g9, g10, hat⟩ := hel
      have hel := GTyped.elem (hs'.below hb (Nat.le_refl _)) j hlt
      obtain ⟨b', off', B1, d1, B2, d2, B3, d3, B4, d4, rfl, hSb', g0', g1', g2', g3', g4', g5', g6', g7', g8', g9', g10', hat'⟩ := hel
      have hmem : l[j] ∈ l := List.getElem_mem hlt
      go_wp2_with fail
      refine wp_region_still_tail 8 (by kernel_rfl) (by kernel_rfl) ?_
      simp only [List.take_succ_cons, List.take_zero, List.drop_succ_cons, List.drop_zero]
      change wpStill _ _ wr.drew (fun a' => wpList _ _ _ _ a' wr.drew) _ _
      iterate 8 still_step
      refine wpStill_nil ?_
      go_wp2_with fail
      refine (HH.out _ hmem _ _ _ _ _ _ _ _ _ _ _ _ _ _ _ _ wr.drew (hat.keep fun b hb => ⟨Nat.lt_of_lt_of_le hb hsz, rfl⟩) (hat'.keep fun b hb => ⟨Nat.lt_of_lt_of_le hb hsz, rfl⟩)).mono ?_
      rintro e w1 ⟨rfl, hb1⟩
      go_wp2_with fail
      go_roundw
      case rel => exact ⟨j + 1, by omega, by go_num, hb.drew.trans (hb1.mono hsz)⟩
      case measure => simp [intOf]; omega
    · have hjl : j = l.length := by omega
      clear hjl
      go_wp2_with fail
      go_ret
      exact ⟨rfl, hb⟩

set_option maxRecDepth 20000 in
theorem eqTyped (k : Nat) : ∀ (t : GTyped) (A1 : Option Addr) (c1 : Nat) (A2 : Option Addr) (c2 : Nat) (A3 : Option Addr) (c3 : Nat) (A4 : Option Addr) (c4 : Nat) (B1 : Option Addr) (d1 : Nat) (B2 : Option Addr) (d2 : Nat) (B3 : Option Addr) (d3 : Nat) (B4 : Option Addr) (d4 : Nat) (w : World), t.bulk < k → GTyped.At w (Lt w.heap.size) A1 c1 A2 c2 A3 c3 A4 c4 t → GTyped.At w (Lt w.heap.size) B1 d1 B2 d2 B3 d3 B4 d4 t →
      Calls Try.prog 20 #[.agg #[.int .i64 t.op, .int .i64 t.n, .string t.s, .string t.t, .int .i64 t.ty.op, .int .i64 t.ty.n, .string t.ty.s, .slice A1 t.ty.kids.length c1, .slice A2 t.inst.length c2, .slice A3 t.vars.length c3, .slice A4 t.kids.length c4], .agg #[.int .i64 t.op, .int .i64 t.n, .string t.s, .string t.t, .int .i64 t.ty.op, .int .i64 t.ty.n, .string t.ty.s, .slice B1 t.ty.kids.length d1, .slice B2 t.inst.length d2, .slice B3 t.vars.length d3, .slice B4 t.kids.length d4]] w fun e w' => e = .returned (.bool true) ∧ Below w.heap.size w w' := by
  induction k with
  | zero => intro t A1 c1 A2 c2 A3 c3 A4 c4 B1 d1 B2 d2 B3 d3 B4 d4 w hk; omega
  | succ k ih =>
    intro t A1 c1 A2 c2 A3 c3 A4 c4 B1 d1 B2 d2 B3 d3 B4 d4 w hk hat hat2
    have hbe := t.bulk_eq
    have H3 := fun (w : World) hs hs' => eqTypedS t.kids A4 B4 c4 d4 w hs hs' (fun u hu A1 c1 A2 c2 A3 c3 A4 c4 B1 d1 B2 d2 B3 d3 B4 d4 w hat hat2 => ih u A1 c1 A2 c2 A3 c3 A4 c4 B1 d1 B2 d2 B3 d3 B4 d4 w (by have := bulkL_mem GTyped.bulk t.kids u hu; omega) hat hat2)
    have HH := Lib.hid H3
    clear hbe H3 ih
    have hat' := Lib.hid hat
    have hat2' := Lib.hid hat2
    clear hat hat2
    have B0 : Below w.heap.size w ((w.alloc (.cells #[.int .i64 t.op, .int .i64 t.n, .string t.s, .string t.t, .int .i64 t.ty.op, .int .i64 t.ty.n, .string t.ty.s, .slice A1 t.ty.kids.length c1, .slice A2 t.inst.length c2, .slice A3 t.vars.length c3, .slice A4 t.kids.length c4] 39)).alloc (.cells #[.int .i64 t.op, .int .i64 t.n, .string t.s, .string t.t, .int .i64 t.ty.op, .int .i64 t.ty.n, .string t.ty.s, .slice B1 t.ty.kids.length d1, .slice B2 t.inst.length d2, .slice B3 t.vars.length d3, .slice B4 t.kids.length d4] 39)) := ((Below.refl _ _).alloc (Nat.le_refl _) _).alloc (by simp) _
    have ra0 := Lib.hid ((Row.new w 39 #[.int .i64 t.op, .int .i64 t.n, .string t.s, .string t.t, .int .i64 t.ty.op, .int .i64 t.ty.n, .string t.ty.s, .slice A1 t.ty.kids.length c1, .slice A2 t.inst.length c2, .slice A3 t.vars.length c3, .slice A4 t.kids.length c4]).alloc (.cells #[.int .i64 t.op, .int .i64 t.n, .string t.s, .string t.t, .int .i64 t.ty.op, .int .i64 t.ty.n, .string t.ty.s, .slice B1 t.ty.kids.length d1, .slice B2 t.inst.length d2, .slice B3 t.vars.length d3, .slice B4 t.kids.length d4] 39))
    have rb0 := Lib.hid (Row.new' (w.alloc (.cells #[.int .i64 t.op, .int .i64 t.n, .string t.s, .string t.t, .int .i64 t.ty.op, .int .i64 t.ty.n, .string t.ty.s, .slice A1 t.ty.kids.length c1, .slice A2 t.inst.length c2, .slice A3 t.vars.length c3, .slice A4 t.kids.length c4] 39)) 39 #[.int .i64 t.op, .int .i64 t.n, .string t.s, .string t.t, .int .i64 t.ty.op, .int .i64 t.ty.n, .string t.ty.s, .slice B1 t.ty.kids.length d1, .slice B2 t.inst.length d2, .slice B3 t.vars.length d3, .slice B4 t.kids.length d4] (g := w.heap.size + 1) (by simp))
    go_enter Try.func20, Try.ntmps20
    go_wp2_with fail
    obtain ⟨-, -, -, -, q4, -, -, -⟩ := hat'.out.below B0 B0.size
    obtain ⟨-, -, -, -, p4, -, -, -⟩ := hat2'.out.below B0 B0.size
    refine (eqTy' t.ty A1 c1 B1 d1 _ q4 p4).mono ?_
    rintro e w1 ⟨rfl, hb1⟩
    have B1 := B0.trans (hb1.mono B0.size)
    have ra1 := Lib.hid (ra0.out.below hb1 ra0.out.lt)
    have rb1 := Lib.hid (rb0.out.below hb1 rb0.out.lt)
    have ha1 := fun i => ra1.out.cell i
    have hq1 := fun i => rb1.out.cell i
    go_wp2_with fail
    obtain ⟨-, -, -, -, -, q5, -, -⟩ := hat'.out.below B1 B1.size
    obtain ⟨-, -, -, -, -, p5, -, -⟩ := hat2'.out.below B1 B1.size
    refine (eqTyS' t.inst A2 B2 c2 d2 _ q5 p5).mono ?_
    rintro e w2 ⟨rfl, hb2⟩
    have B2 := B1.trans (hb2.mono B1.size)
    have ra2 := Lib.hid (ra1.out.below hb2 ra1.out.lt)
    have rb2 := Lib.hid (rb1.out.below hb2 rb1.out.lt)
    have ha2 := fun i => ra2.out.cell i
    have hq2 := fun i => rb2.out.cell i
    go_wp2_with fail
    obtain ⟨-, -, -, -, -, -, q6, -⟩ := hat'.out.below B2 B2.size
    obtain ⟨-, -, -, -, -, -, p6, -⟩ := hat2'.out.below B2 B2.size
    refine (eqIntS t.vars A3 B3 c3 d3 _ q6 p6).mono ?_
    rintro e w3 ⟨rfl, hb3⟩
    have B3 := B2.trans (hb3.mono B2.size)
    have ra3 := Lib.hid (ra2.out.below hb3 ra2.out.lt)
    have rb3 := Lib.hid (rb2.out.below hb3 rb2.out.lt)
    have ha3 := fun i => ra3.out.cell i
    have hq3 := fun i => rb3.out.cell i
    go_wp2_with fail
    obtain ⟨-, -, -, -, -, -, -, q7⟩ := hat'.out.below B3 B3.size
    obtain ⟨-, -, -, -, -, -, -, p7⟩ := hat2'.out.below B3 B3.size
    refine (HH.out _ q7 p7).mono ?_
    rintro e w4 ⟨rfl, hb4⟩
    have B4 := B3.trans (hb4.mono B3.size)
    go_wp2_with fail
    go_ret
    exact ⟨rfl, B4⟩

theorem eqTyped' (t : GTyped) (A1 : Option Addr) (c1 : Nat) (A2 : Option Addr) (c2 : Nat) (A3 : Option Addr) (c3 : Nat) (A4 : Option Addr) (c4 : Nat) (B1 : Option Addr) (d1 : Nat) (B2 : Option Addr) (d2 : Nat) (B3 : Option Addr) (d3 : Nat) (B4 : Option Addr) (d4 : Nat) (w : World) (hat : GTyped.At w (Lt w.heap.size) A1 c1 A2 c2 A3 c3 A4 c4 t) (hat2 : GTyped.At w (Lt w.heap.size) B1 d1 B2 d2 B3 d3 B4 d4 t) :
      Calls Try.prog 20 #[.agg #[.int .i64 t.op, .int .i64 t.n, .string t.s, .string t.t, .int .i64 t.ty.op, .int .i64 t.ty.n, .string t.ty.s, .slice A1 t.ty.kids.length c1, .slice A2 t.inst.length c2, .slice A3 t.vars.length c3, .slice A4 t.kids.length c4], .agg #[.int .i64 t.op, .int .i64 t.n, .string t.s, .string t.t, .int .i64 t.ty.op, .int .i64 t.ty.n, .string t.ty.s, .slice B1 t.ty.kids.length d1, .slice B2 t.inst.length d2, .slice B3 t.vars.length d3, .slice B4 t.kids.length d4]] w fun e w' => e = .returned (.bool true) ∧ Below w.heap.size w w' :=
  eqTyped (t.bulk + 1) t A1 c1 A2 c2 A3 c3 A4 c4 B1 d1 B2 d2 B3 d3 B4 d4 w (by omega) hat hat2

theorem eqTypedS' (l : List GTyped) (A B : Option Addr) (c d : Nat) (w : World) (hs : Sl w (Lt w.heap.size) 11 A c (l.map GTyped.toD)) (hs' : Sl w (Lt w.heap.size) 11 B d (l.map GTyped.toD)) :
    Calls Try.prog 90 #[.slice A l.length c, .slice B l.length d] w fun e w' => e = .returned (.bool true) ∧ Below w.heap.size w w' :=
  eqTypedS l A B c d w hs hs' (fun u _ A1 c1 A2 c2 A3 c3 A4 c4 B1 d1 B2 d2 B3 d3 B4 d4 w hat hat2 => eqTyped' u A1 c1 A2 c2 A3 c3 A4 c4 B1 d1 B2 d2 B3 d3 B4 d4 w hat hat2)

end Go.Proofs.Ytjcgfbjdailgoaa
