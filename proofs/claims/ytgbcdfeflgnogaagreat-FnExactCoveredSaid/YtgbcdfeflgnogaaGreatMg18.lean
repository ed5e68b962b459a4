/- Several texts of this claim in one: ATy ACon AData AProg. Conditions: none but bounds on sizes. -/
import Derived.Test.YtgbcdfeflgnogaaGreatRows
import Derived.Test.YtgbcdfeflgnogaaGreatMg0
import Derived.Test.YtgbcdfeflgnogaaGreatMg4
import Derived.Lib.Hide
import Derived.StillTailTactics
import Derived.Test.YtgbcdfeflgnogaaGreatMg5
import Derived.Test.YtgbcdfeflgnogaaGreatMg12
import Derived.Test.YtgbcdfeflgnogaaGreatMg8
/- The laws' sz, to and eq functions at Ty. Conditions: what is counted is at most 1048576. -/
namespace Go.Proofs.YtgbcdfeflgnogaaGreat
open Go.RowKit
set_option linter.unusedVariables false
set_option linter.unusedSimpArgs false
set_option maxHeartbeats 400000

theorem szTyS (l : List GTy) (A : Option Addr) (c : Nat) (left : Int) (w : World) (hs : Sl w (Lt w.heap.size) 4 A c (l.map GTy.toD)) (h0 : 0 ≤ left) (h1 : left ≤ 1048576)
    (H : ∀ t, t ∈ l → ∀ (A1 : Option Addr) (c1 : Nat) (left : Int) (w : World), 0 ≤ left → left ≤ 1048576 → GTy.At w (Lt w.heap.size) A1 c1 t →
      Calls Tryz.prog 102 #[.agg #[.int .i64 t.op, .int .i64 t.n, .string t.s, .slice A1 t.kids.length c1], .int .i64 left] w fun e w' => e = .returned (.int .i64 (szv t.bulk left)) ∧ Below w.heap.size w w') :
    Calls Tryz.prog 84 #[.slice A l.length c, .int .i64 left] w fun e w' => e = .returned (.int .i64 (szv (bulkL GTy.bulk l) left)) ∧ Below w.heap.size w w' := by
  have hlen : l.length ≤ 9223372036854775807 := by simpa using hs.len
  have HH := Lib.hid H
  clear H
  by_cases hll : left < (l.length : Int)
  · have hg : left - (l.length : Int) < 0 := by omega
    have hv := Lib.hid (szv_gt (b := bulkL GTy.bulk l) (left := left) (by have := bulkL_len GTy.bulk l; omega))
    go_enter Tryz.func84, Tryz.ntmps84
    go_wp2_with fail
    go_ret
    exact ⟨ret_int hv.out.symm, Below.refl _ _⟩
  · have hg : 0 ≤ left - (l.length : Int) := by omega
    go_enter Tryz.func84, Tryz.ntmps84
    go_wp2_with fail
    go_loopw [1, 5] (fun n i wr => ∃ (j : Nat) (L : Int), j ≤ l.length ∧ i = .int .i64 j ∧ n = .int .i64 L ∧ L = left - l.length - (bulkL GTy.bulk (l.take j) - j) ∧ 0 ≤ L ∧ L ≤ left ∧ Below w.heap.size w wr) (fun _ i _ => l.length - (intOf i).toNat)
    case atStart => exact ⟨0, _, by omega, by go_num, rfl, by simp [bulkL], by omega, by omega, Below.refl _ _⟩
    case round =>
      obtain ⟨j, L, hj, rfl, rfl, hL, hL0, hL1, hb⟩ := hrel
      have HL := Lib.hid hL
      clear hL
      have hsz := hb.size
      by_cases hlt : j < l.length
      · have hel := GTy.elem (hs.below hb (Nat.le_refl _)) j hlt
        obtain ⟨b, off, A1, c1, rfl, hSb, g0, g1, g2, g3, hat⟩ := hel
        have hmem : l[j] ∈ l := List.getElem_mem hlt
        have hts := Lib.hid (bulkL_take_succ GTy.bulk l j hlt)
        have htl := Lib.hid (bulkL_take_le GTy.bulk l (j + 1) (by omega))
        have htg := Lib.hid (bulkL_take_ge GTy.bulk l j (by omega))
        go_wp2_with fail
        refine (HH.out _ hmem _ _ L _ hL0 (by omega) (hat.below (Below.refl _ _) hsz)).mono ?_
        rintro e w1 ⟨rfl, hb1⟩
        by_cases hle : ((l[j]).bulk : Int) ≤ L
        · have hv := szv_le hle
          have hge : 0 ≤ L - ((l[j]).bulk : Int) := by omega
          go_wp2_with fail
          go_roundw
          case rel => exact ⟨j + 1, _, by omega, by go_num, rfl, by rw [hts.out, HL.out]; omega, by omega, by omega, hb.trans (hb1.mono hsz)⟩
          case measure => simp [intOf]; omega
        · have hv := szv_gt (b := (l[j]).bulk) (left := L) (by omega)
          go_wp2_with fail
          go_ret
          refine ⟨ret_int ?_, hb.trans (hb1.mono hsz)⟩
          have e1 := hts.out; have e2 := htl.out; have e3 := htg.out; have e4 := HL.out
          rw [szv_gt (by omega)]
      · have hjl : j = l.length := by omega
        have Hj := Lib.hid hjl
        clear hjl
        go_wp2_with fail
        go_ret
        refine ⟨ret_int ?_, hb⟩
        have e4 := HL.out
        rw [Hj.out, List.take_length] at e4
        have := bulkL_len GTy.bulk l
        rw [szv_le (by omega)]; omega

theorem szTy (k : Nat) : ∀ (t : GTy) (A1 : Option Addr) (c1 : Nat) (left : Int) (w : World), t.bulk < k → 0 ≤ left → left ≤ 1048576 → GTy.At w (Lt w.heap.size) A1 c1 t →
      Calls Tryz.prog 102 #[.agg #[.int .i64 t.op, .int .i64 t.n, .string t.s, .slice A1 t.kids.length c1], .int .i64 left] w fun e w' => e = .returned (.int .i64 (szv t.bulk left)) ∧ Below w.heap.size w w' := by
  induction k with
  | zero => intro t A1 c1 left w hk; omega
  | succ k ih =>
    intro t A1 c1 left w hk h0 h1 hat
    have hbe := t.bulk_eq
    obtain ⟨k0, k1, k2, k3⟩ := id hat
    have s2 : t.s.size ≤ 9223372036854775807 := by unfold maxLen at k2; omega
    have H3 := fun (left : Int) (w : World) hs h0 h1 => szTyS t.kids A1 c1 left w hs h0 h1 (fun u hu A1 c1 left w h0 h1 hat => ih u A1 c1 left w (by have := bulkL_mem GTy.bulk t.kids u hu; omega) h0 h1 hat)
    have HH := Lib.hid H3
    have HE := Lib.hid hbe
    have hat' := Lib.hid hat
    clear hbe hat k0 k1 k2 k3 H3 ih
    have B0 : Below w.heap.size w (w.alloc (.cells #[.int .i64 t.op, .int .i64 t.n, .string t.s, .slice A1 t.kids.length c1] 122)) := (Below.refl _ _).alloc (Nat.le_refl _) _
    have r0 := Lib.hid (Row.new w 122 #[.int .i64 t.op, .int .i64 t.n, .string t.s, .slice A1 t.kids.length c1])
    go_enter Tryz.func102, Tryz.ntmps102
    by_cases g2 : ((t.s.size : Nat) : Int) ≤ left
    rotate_left
    · have q2 : left - ((t.s.size : Nat) : Int) < 0 := by omega
      go_wp2_with fail
      go_ret
      refine ⟨ret_int ?_, B0⟩
      have := HE.out
      rw [szv_gt (by omega)]
    have q2 : 0 ≤ left - ((t.s.size : Nat) : Int) := by omega
    go_wp2_with fail
    obtain ⟨-, -, -, k3⟩ := hat'.out.below B0 B0.size
    refine (HH.out _ _ k3 (by omega) (by omega)).mono ?_
    rintro e w1 ⟨rfl, hb1⟩
    have B1 := B0.trans (hb1.mono B0.size)
    by_cases g3 : ((bulkL GTy.bulk t.kids : Nat) : Int) ≤ left - ((t.s.size : Nat) : Int)
    rotate_left
    · have hv := szv_gt (b := bulkL GTy.bulk t.kids) (left := left - ((t.s.size : Nat) : Int)) (by omega)
      go_wp2_with fail
      go_ret
      refine ⟨ret_int ?_, B1⟩
      have := HE.out
      rw [szv_gt (by omega)]
    have v3 := szv_le g3
    have q3 : 0 ≤ left - ((t.s.size : Nat) : Int) - ((bulkL GTy.bulk t.kids : Nat) : Int) := by omega
    go_wp2_with fail
    go_ret
    refine ⟨ret_int ?_, B1⟩
    have := HE.out
    rw [szv_le (by omega)]; omega

theorem szTy' (t : GTy) (A1 : Option Addr) (c1 : Nat) (left : Int) (w : World) (h0 : 0 ≤ left) (h1 : left ≤ 1048576) (hat : GTy.At w (Lt w.heap.size) A1 c1 t) :
      Calls Tryz.prog 102 #[.agg #[.int .i64 t.op, .int .i64 t.n, .string t.s, .slice A1 t.kids.length c1], .int .i64 left] w fun e w' => e = .returned (.int .i64 (szv t.bulk left)) ∧ Below w.heap.size w w' :=
  szTy (t.bulk + 1) t A1 c1 left w (by omega) h0 h1 hat

theorem szTyS' (l : List GTy) (A : Option Addr) (c : Nat) (left : Int) (w : World) (hs : Sl w (Lt w.heap.size) 4 A c (l.map GTy.toD)) (h0 : 0 ≤ left) (h1 : left ≤ 1048576) :
    Calls Tryz.prog 84 #[.slice A l.length c, .int .i64 left] w fun e w' => e = .returned (.int .i64 (szv (bulkL GTy.bulk l) left)) ∧ Below w.heap.size w w' :=
  szTyS l A c left w hs h0 h1 (fun u _ A1 c1 left w h0 h1 hat => szTy' u A1 c1 left w h0 h1 hat)

/-- what a to function gives back: a struct of the call's own -/
def ToTy (t : GTy) (w : World) (e : Ending) (w' : World) : Prop := ∃ A1 c1, e = .returned (.agg #[.int .i64 t.op, .int .i64 t.n, .string t.s, .slice A1 t.kids.length c1]) ∧ GTy.Ow w' (Btw w.heap.size w'.heap.size) A1 c1 t ∧ Below w.heap.size w w'
def ToTyS (l : List GTy) (w : World) (e : Ending) (w' : World) : Prop := ∃ A1 c1, e = .returned (.slice A1 l.length c1) ∧ Osl w' (Btw w.heap.size w'.heap.size) 4 A1 c1 (l.map GTy.toD) ∧ Below w.heap.size w w'

def zTy : Value := .agg #[.int .i64 0, .int .i64 0, .string ⟨#[]⟩, .slice none 0 0]
theorem mkTy (n : Nat) (hn : n ≤ 1048576) (w : World) : (Instr.makeSlice 56 (.int .i64 (n : Int)) (.int .i64 (n : Int))).run Tryz.prog w = .ok (.slice (some ⟨w.heap.size, 0, none⟩) n n) (w.alloc (.cells (zr zTy 4 n) 61)) :=
  run_mk 56 61 zTy 4 56 Tryz.underlying56 (by kernel_rfl) n hn (by omega) w

theorem toTyS (l : List GTy) (A : Option Addr) (c : Nat) (w : World) (hs : Sl w (Lt w.heap.size) 4 A c (l.map GTy.toD)) (hl : l.length ≤ 1048576)
    (H : ∀ t, t ∈ l → ∀ (A1 : Option Addr) (c1 : Nat) (w : World), GTy.At w (Lt w.heap.size) A1 c1 t →
      Calls Tryz.prog 104 #[.agg #[.int .i64 t.op, .int .i64 t.n, .string t.s, .slice A1 t.kids.length c1]] w (ToTy t w)) :
    Calls Tryz.prog 90 #[.slice A l.length c] w (ToTyS l w) := by
  have HH := Lib.hid H
  clear H
  have hmk := mkTy l.length hl
  go_enter Tryz.func90, Tryz.ntmps90
  go_wp2_with fail
  clear hmk
  go_loopw [4] (fun i wr => ∃ (j : Nat) (row : Array Value), j ≤ l.length ∧ i = .int .i64 j ∧ Row wr w.heap.size 61 row ∧ row.size = l.length * 4 ∧
      D.ownR wr 4 w.heap.size ((l.take j).map GTy.toD) (fun b => w.heap.size < b ∧ b < wr.heap.size) 0 ∧ Below w.heap.size w wr) (fun i _ => l.length - (intOf i).toNat)
  case atStart => exact ⟨0, _, by omega, by go_num, Row.new _ _ _, zr_size _ _ _, by simp [D.ownR], (Below.refl _ _).alloc (Nat.le_refl _) _⟩
  case round =>
    obtain ⟨j, row, hj, rfl, hrow, hrs, hown, hb⟩ := hrel
    have hsz := hb.size
    have hgl := hrow.lt
    by_cases hlt : j < l.length
    · have hel := GTy.elem (hs.below hb (Nat.le_refl _)) j hlt
      obtain ⟨b, off, A1, c1, rfl, hSb, g0, g1, g2, g3, hat⟩ := hel
      have hmem : l[j] ∈ l := List.getElem_mem hlt
      go_wp2_with fail
      refine (HH.out _ hmem _ _ _ (hat.below (Below.refl _ _) hsz)).mono ?_
      rintro e w1 ⟨B1, d1, rfl, how, hb1⟩
      have hrow1 := Lib.hid (hrow.below hb1 hgl)
      have hf := fun i => hrow1.out.frozen i
      obtain ⟨v0, y0⟩ := row_some (row := row) (j * 4) (by omega)
      obtain ⟨v1, y1⟩ := row_some (row := row) (j * 4 + 1) (by omega)
      obtain ⟨v2, y2⟩ := row_some (row := row) (j * 4 + 2) (by omega)
      obtain ⟨v3, y3⟩ := row_some (row := row) (j * 4 + 3) (by omega)
      have x0 := (hrow1.out.cell (j * 4)).trans y0
      have x1 := (hrow1.out.cell (j * 4 + 1)).trans y1
      have x2 := (hrow1.out.cell (j * 4 + 2)).trans y2
      have x3 := (hrow1.out.cell (j * 4 + 3)).trans y3
      clear y0 y1 y2 y3
      have hst := fill_step hrow1.out (j := j) (m := wr.heap.size) (xs := (l.take j).map GTy.toD) (size := 4) (by simp; omega) (by omega) hgl hb1.size
        (D.ownR_keep 4 _ _ _ _ 0 (fun b hb => ⟨hb, hb1.block b hb.2⟩) (fun i _ => hb1.cell (p := ⟨w.heap.size, i, none⟩) hgl) hown) (GTy.own_mk how) rfl
      have hB := setCells_below (hb.trans (hb1.mono hsz)) w.heap.size (j * 4) (Nat.le_refl _) [.int .i64 l[j].op, .int .i64 l[j].n, .string l[j].s, .slice B1 l[j].kids.length d1]
      go_wp2_with fail
      go_roundw
      case rel =>
        obtain ⟨row', p1, p2, p3⟩ := hst
        exact ⟨j + 1, row', by omega, by go_num, p1, by omega, by rw [take_snoc' l j hlt, List.map_append]; exact p3, hB⟩
      case measure => simp [intOf]; omega
    · have hjl : j = l.length := by omega
      have Hj := Lib.hid hjl
      clear hjl
      go_wp2_with fail
      go_ret
      rw [Hj.out, List.take_length] at hown
      exact ⟨_, _, rfl, fill_end hrow (Nat.le_refl _) (by simp) (by unfold maxLen; omega) hown, hb⟩

theorem toTy (k : Nat) : ∀ (t : GTy) (A1 : Option Addr) (c1 : Nat) (w : World), t.bulk < k → t.bulk ≤ 1048576 → GTy.At w (Lt w.heap.size) A1 c1 t →
      Calls Tryz.prog 104 #[.agg #[.int .i64 t.op, .int .i64 t.n, .string t.s, .slice A1 t.kids.length c1]] w (ToTy t w) := by
  induction k with
  | zero => intro t A1 c1 w hk; omega
  | succ k ih =>
    intro t A1 c1 w hk h1 hat
    have hbe := t.bulk_eq
    have H3 := fun (w : World) hs => toTyS t.kids A1 c1 w hs (by have := bulkL_len GTy.bulk t.kids; omega) (fun u hu A1 c1 w hat => ih u A1 c1 w (by have := bulkL_mem GTy.bulk t.kids u hu; omega) (by have := bulkL_mem GTy.bulk t.kids u hu; omega) hat)
    have HH := Lib.hid H3
    have hat' := Lib.hid hat
    clear hbe hat H3 ih
    go_enter Tryz.func104, Tryz.ntmps104
    go_wp2_with fail
    have W0 : ∃ w0, w0 = ((w.alloc (.cells #[.int .i64 t.op, .int .i64 t.n, .string t.s, .slice A1 t.kids.length c1] 122)).alloc (.cells #[.int .i64 0, .int .i64 0, .string ⟨#[]⟩, .slice none 0 0] 61)).alloc (.cells #[.int .i64 t.op, .int .i64 t.n, .string t.s, .slice none 0 0] 61) := ⟨_, rfl⟩
    obtain ⟨w0, e0⟩ := W0
    have B0 : Below w.heap.size w w0 := by rw [e0]; exact (((Below.refl _ _).alloc (Nat.le_refl _) _).alloc (by simp) _).alloc (by simp; omega) _
    have S0 : w0.heap.size = w.heap.size + 3 := by rw [e0]; simp
    have Ra0 : Row w0 w.heap.size 122 #[.int .i64 t.op, .int .i64 t.n, .string t.s, .slice A1 t.kids.length c1] := by rw [e0]; exact ((Row.new' _ _ _ rfl).alloc _).alloc _
    have Rz0 : Row w0 (w.heap.size + 1) 61 #[.int .i64 0, .int .i64 0, .string ⟨#[]⟩, .slice none 0 0] := by rw [e0]; exact (Row.new' _ _ _ (by simp)).alloc _
    have Ro0 : Row w0 (w.heap.size + 1 + 1) 61 #[.int .i64 t.op, .int .i64 t.n, .string t.s, .slice none 0 0] := by rw [e0]; exact Row.new' _ _ _ (by simp)
    rw [← e0]
    clear e0
    obtain ⟨-, -, -, q3⟩ := hat'.out.below B0 B0.size
    refine (HH.out (w0) q3).mono ?_
    rintro e w1 ⟨D1, d1, rfl, how3, hb1⟩
    have hs1 := hb1.size
    have X1 := B0.trans (hb1.mono B0.size)
    have Rax1 := Lib.hid (Ra0.below hb1 Ra0.lt)
    have Rzx1 := Lib.hid (Rz0.below hb1 Rz0.lt)
    have Rox1 := Lib.hid (Ro0.below hb1 Ro0.lt)
    have hca1 := fun i => Rax1.out.cell i
    have hcz1 := fun i => Rzx1.out.cell i
    have hco1 := fun i => Rox1.out.cell i
    have hfz1 := fun i => Rzx1.out.frozen i
    have hfo1 := fun i => Rox1.out.frozen i
    have B1 := setCells_below X1 (w.heap.size + 1 + 1) 3 (by omega) [.slice D1 t.kids.length d1]
    have Ra1 : Hid (Row (setCells w1 (w.heap.size + 1 + 1) 3 [.slice D1 t.kids.length d1]) w.heap.size 122 #[.int .i64 t.op, .int .i64 t.n, .string t.s, .slice A1 t.kids.length c1]) := (Rax1.out).far (p := ⟨w.heap.size + 1 + 1, 3, none⟩) (by simp <;> omega) (.slice D1 t.kids.length d1)
    have Rz1 : Hid (Row (setCells w1 (w.heap.size + 1 + 1) 3 [.slice D1 t.kids.length d1]) (w.heap.size + 1) 61 #[.int .i64 0, .int .i64 0, .string ⟨#[]⟩, .slice none 0 0]) := (Rzx1.out).far (p := ⟨w.heap.size + 1 + 1, 3, none⟩) (by simp <;> omega) (.slice D1 t.kids.length d1)
    have Ro1 : Hid (Row (setCells w1 (w.heap.size + 1 + 1) 3 [.slice D1 t.kids.length d1]) (w.heap.size + 1 + 1) 61 #[.int .i64 t.op, .int .i64 t.n, .string t.s, .slice D1 t.kids.length d1]) := (Rox1.out).set 3 (.slice D1 t.kids.length d1)
    replace how3 := how3.keep (S' := Btw (w0).heap.size (w1).heap.size) (w' := setCells w1 (w.heap.size + 1 + 1) 3 [.slice D1 t.kids.length d1]) fun b hb => ⟨hb, setCells_block _ _ _ _ _ (by have := hb.1; first | omega | (simp only [setCells_size] at *; omega) | (simp only [setCells_size] at *; done))⟩
    have BF := setCells_below B1 (w.heap.size + 1) 0 (by omega) [.int .i64 t.op, .int .i64 t.n, .string t.s, .slice D1 t.kids.length d1]
    have SF : (setCells (setCells w1 (w.heap.size + 1 + 1) 3 [.slice D1 t.kids.length d1]) (w.heap.size + 1) 0 [.int .i64 t.op, .int .i64 t.n, .string t.s, .slice D1 t.kids.length d1]).heap.size = w1.heap.size := by rw [setCells_size, setCells_size]
    replace how3 := how3.keep (S' := Btw w.heap.size (setCells (setCells w1 (w.heap.size + 1 + 1) 3 [.slice D1 t.kids.length d1]) (w.heap.size + 1) 0 [.int .i64 t.op, .int .i64 t.n, .string t.s, .slice D1 t.kids.length d1]).heap.size) (w' := setCells (setCells w1 (w.heap.size + 1 + 1) 3 [.slice D1 t.kids.length d1]) (w.heap.size + 1) 0 [.int .i64 t.op, .int .i64 t.n, .string t.s, .slice D1 t.kids.length d1]) fun b hb => ⟨⟨by have := hb.1; first | omega | (simp only [setCells_size] at *; omega) | (simp only [setCells_size] at *; done), by have := hb.2; have := SF; first | omega | (simp only [setCells_size] at *; omega) | (simp only [setCells_size] at *; done)⟩, setCells_block _ _ _ _ _ (by have := hb.1; first | omega | (simp only [setCells_size] at *; omega) | (simp only [setCells_size] at *; done))⟩
    have qs := hat'.out
    obtain ⟨p0, p1, p2, p3⟩ := qs
    go_wp2_with fail
    exact bodyPost_ret (v := .agg #[.int .i64 t.op, .int .i64 t.n, .string t.s, .slice D1 t.kids.length d1]) (by simp [results, Tryz.results104, go_sem, hca1, hcz1, hco1]) rfl ⟨D1, d1, rfl, ⟨p0, p1, p2, how3⟩, BF⟩

theorem toTy' (t : GTy) (A1 : Option Addr) (c1 : Nat) (w : World) (h1 : t.bulk ≤ 1048576) (hat : GTy.At w (Lt w.heap.size) A1 c1 t) :
      Calls Tryz.prog 104 #[.agg #[.int .i64 t.op, .int .i64 t.n, .string t.s, .slice A1 t.kids.length c1]] w (ToTy t w) :=
  toTy (t.bulk + 1) t A1 c1 w (by omega) h1 hat

theorem toTyS' (l : List GTy) (A : Option Addr) (c : Nat) (w : World) (hs : Sl w (Lt w.heap.size) 4 A c (l.map GTy.toD)) (hl : bulkL GTy.bulk l ≤ 1048576) :
    Calls Tryz.prog 90 #[.slice A l.length c] w (ToTyS l w) :=
  toTyS l A c w hs (by have := bulkL_len GTy.bulk l; omega) (fun u hu A1 c1 w hat => toTy' u A1 c1 w (by have := bulkL_mem GTy.bulk l u hu; omega) hat)

set_option maxRecDepth 20000 in
theorem eqTyS (l : List GTy) (A B : Option Addr) (c d : Nat) (w : World) (hs : Sl w (Lt w.heap.size) 4 A c (l.map GTy.toD)) (hs' : Sl w (Lt w.heap.size) 4 B d (l.map GTy.toD))
    (H : ∀ t, t ∈ l → ∀ (A1 : Option Addr) (c1 : Nat) (B1 : Option Addr) (d1 : Nat) (w : World), GTy.At w (Lt w.heap.size) A1 c1 t → GTy.At w (Lt w.heap.size) B1 d1 t →
      Calls Tryz.prog 110 #[.agg #[.int .i64 t.op, .int .i64 t.n, .string t.s, .slice A1 t.kids.length c1], .agg #[.int .i64 t.op, .int .i64 t.n, .string t.s, .slice B1 t.kids.length d1]] w fun e w' => e = .returned (.bool true) ∧ Below w.heap.size w w') :
    Calls Tryz.prog 101 #[.slice A l.length c, .slice B l.length d] w fun e w' => e = .returned (.bool true) ∧ Below w.heap.size w w' := by
  have hlen : l.length ≤ 9223372036854775807 := by simpa using hs.len
  have HH := Lib.hid H
  clear H
  go_enter Tryz.func101, Tryz.ntmps101
  go_wp2_with fail
  go_loopw [5] (fun i wr => ∃ (j : Nat), j ≤ l.length ∧ i = .int .i64 j ∧ Below w.heap.size w wr) (fun i _ => l.length - (intOf i).toNat)
  case atStart => exact ⟨0, by omega, by go_num, Below.refl _ _⟩
  case round =>
    obtain ⟨j, hj, rfl, hb⟩ := hrel
    have hsz := hb.size
    by_cases hlt : j < l.length
    · have hel := GTy.elem (hs.below hb (Nat.le_refl _)) j hlt
      obtain ⟨b, off, A1, c1, rfl, hSb, g0, g1, g2, g3, hat⟩ := hel
      have hel := GTy.elem (hs'.below hb (Nat.le_refl _)) j hlt
      obtain ⟨b', off', B1, d1, rfl, hSb', g0', g1', g2', g3', hat'⟩ := hel
      have hmem : l[j] ∈ l := List.getElem_mem hlt
      go_wp2_with fail
      refine wp_region_still_tail 8 (by kernel_rfl) (by kernel_rfl) ?_
      simp only [List.take_succ_cons, List.take_zero, List.drop_succ_cons, List.drop_zero]
      change wpStill _ _ wr.drew (fun a' => wpList _ _ _ _ a' wr.drew) _ _
      iterate 8 still_step
      refine wpStill_nil ?_
      go_wp2_with fail
      refine (HH.out _ hmem _ _ _ _ wr.drew (hat.keep fun b hb => ⟨Nat.lt_of_lt_of_le hb hsz, rfl⟩) (hat'.keep fun b hb => ⟨Nat.lt_of_lt_of_le hb hsz, rfl⟩)).mono ?_
      rintro e w1 ⟨rfl, hb1⟩
      go_wp2_with fail
      go_roundw
      case rel => exact ⟨j + 1, by omega, by go_num, hb.drew.trans (hb1.mono hsz)⟩
      case measure => simp [intOf]; omega
    · have hjl : j = l.length := by omega
      clear hjl
      go_wp2_with fail
      go_ret
      exact ⟨rfl, hb⟩

set_option maxRecDepth 20000 in
theorem eqTy (k : Nat) : ∀ (t : GTy) (A1 : Option Addr) (c1 : Nat) (B1 : Option Addr) (d1 : Nat) (w : World), t.bulk < k → GTy.At w (Lt w.heap.size) A1 c1 t → GTy.At w (Lt w.heap.size) B1 d1 t →
      Calls Tryz.prog 110 #[.agg #[.int .i64 t.op, .int .i64 t.n, .string t.s, .slice A1 t.kids.length c1], .agg #[.int .i64 t.op, .int .i64 t.n, .string t.s, .slice B1 t.kids.length d1]] w fun e w' => e = .returned (.bool true) ∧ Below w.heap.size w w' := by
  induction k with
  | zero => intro t A1 c1 B1 d1 w hk; omega
  | succ k ih =>
    intro t A1 c1 B1 d1 w hk hat hat2
    have hbe := t.bulk_eq
    have H3 := fun (w : World) hs hs' => eqTyS t.kids A1 B1 c1 d1 w hs hs' (fun u hu A1 c1 B1 d1 w hat hat2 => ih u A1 c1 B1 d1 w (by have := bulkL_mem GTy.bulk t.kids u hu; omega) hat hat2)
    have HH := Lib.hid H3
    clear hbe H3 ih
    have hat' := Lib.hid hat
    have hat2' := Lib.hid hat2
    clear hat hat2
    have B0 : Below w.heap.size w ((w.alloc (.cells #[.int .i64 t.op, .int .i64 t.n, .string t.s, .slice A1 t.kids.length c1] 61)).alloc (.cells #[.int .i64 t.op, .int .i64 t.n, .string t.s, .slice B1 t.kids.length d1] 61)) := ((Below.refl _ _).alloc (Nat.le_refl _) _).alloc (by simp) _
    have ra0 := Lib.hid ((Row.new w 61 #[.int .i64 t.op, .int .i64 t.n, .string t.s, .slice A1 t.kids.length c1]).alloc (.cells #[.int .i64 t.op, .int .i64 t.n, .string t.s, .slice B1 t.kids.length d1] 61))
    have rb0 := Lib.hid (Row.new' (w.alloc (.cells #[.int .i64 t.op, .int .i64 t.n, .string t.s, .slice A1 t.kids.length c1] 61)) 61 #[.int .i64 t.op, .int .i64 t.n, .string t.s, .slice B1 t.kids.length d1] (g := w.heap.size + 1) (by simp))
    go_enter Tryz.func110, Tryz.ntmps110
    go_wp2_with fail
    obtain ⟨-, -, -, q3⟩ := hat'.out.below B0 B0.size
    obtain ⟨-, -, -, p3⟩ := hat2'.out.below B0 B0.size
    refine (HH.out _ q3 p3).mono ?_
    rintro e w1 ⟨rfl, hb1⟩
    have B1 := B0.trans (hb1.mono B0.size)
    go_wp2_with fail
    go_ret
    exact ⟨rfl, B1⟩

theorem eqTy' (t : GTy) (A1 : Option Addr) (c1 : Nat) (B1 : Option Addr) (d1 : Nat) (w : World) (hat : GTy.At w (Lt w.heap.size) A1 c1 t) (hat2 : GTy.At w (Lt w.heap.size) B1 d1 t) :
      Calls Tryz.prog 110 #[.agg #[.int .i64 t.op, .int .i64 t.n, .string t.s, .slice A1 t.kids.length c1], .agg #[.int .i64 t.op, .int .i64 t.n, .string t.s, .slice B1 t.kids.length d1]] w fun e w' => e = .returned (.bool true) ∧ Below w.heap.size w w' :=
  eqTy (t.bulk + 1) t A1 c1 B1 d1 w (by omega) hat hat2

theorem eqTyS' (l : List GTy) (A B : Option Addr) (c d : Nat) (w : World) (hs : Sl w (Lt w.heap.size) 4 A c (l.map GTy.toD)) (hs' : Sl w (Lt w.heap.size) 4 B d (l.map GTy.toD)) :
    Calls Tryz.prog 101 #[.slice A l.length c, .slice B l.length d] w fun e w' => e = .returned (.bool true) ∧ Below w.heap.size w w' :=
  eqTyS l A B c d w hs hs' (fun u _ A1 c1 B1 d1 w hat hat2 => eqTy' u A1 c1 B1 d1 w hat hat2)

end Go.Proofs.YtgbcdfeflgnogaaGreat

/- The laws' sz, to and eq functions at Con. Conditions: what is counted is at most 1048576. -/
namespace Go.Proofs.YtgbcdfeflgnogaaGreat
open Go.RowKit
set_option linter.unusedVariables false
set_option linter.unusedSimpArgs false
set_option maxHeartbeats 400000

theorem szConS (l : List GCon) (A : Option Addr) (c : Nat) (left : Int) (w : World) (hs : Sl w (Lt w.heap.size) 2 A c (l.map GCon.toD)) (h0 : 0 ≤ left) (h1 : left ≤ 1048576)
    (H : ∀ t, t ∈ l → ∀ (A1 : Option Addr) (c1 : Nat) (left : Int) (w : World), 0 ≤ left → left ≤ 1048576 → GCon.At w (Lt w.heap.size) A1 c1 t →
      Calls Tryz.prog 66 #[.agg #[.string t.name, .slice A1 t.args.length c1], .int .i64 left] w fun e w' => e = .returned (.int .i64 (szv t.bulk left)) ∧ Below w.heap.size w w') :
    Calls Tryz.prog 40 #[.slice A l.length c, .int .i64 left] w fun e w' => e = .returned (.int .i64 (szv (bulkL GCon.bulk l) left)) ∧ Below w.heap.size w w' := by
  have hlen : l.length ≤ 9223372036854775807 := by simpa using hs.len
  have HH := Lib.hid H
  clear H
  by_cases hll : left < (l.length : Int)
  · have hg : left - (l.length : Int) < 0 := by omega
    have hv := Lib.hid (szv_gt (b := bulkL GCon.bulk l) (left := left) (by have := bulkL_len GCon.bulk l; omega))
    go_enter Tryz.func40, Tryz.ntmps40
    go_wp2_with fail
    go_ret
    exact ⟨ret_int hv.out.symm, Below.refl _ _⟩
  · have hg : 0 ≤ left - (l.length : Int) := by omega
    go_enter Tryz.func40, Tryz.ntmps40
    go_wp2_with fail
    go_loopw [1, 5] (fun n i wr => ∃ (j : Nat) (L : Int), j ≤ l.length ∧ i = .int .i64 j ∧ n = .int .i64 L ∧ L = left - l.length - (bulkL GCon.bulk (l.take j) - j) ∧ 0 ≤ L ∧ L ≤ left ∧ Below w.heap.size w wr) (fun _ i _ => l.length - (intOf i).toNat)
    case atStart => exact ⟨0, _, by omega, by go_num, rfl, by simp [bulkL], by omega, by omega, Below.refl _ _⟩
    case round =>
      obtain ⟨j, L, hj, rfl, rfl, hL, hL0, hL1, hb⟩ := hrel
      have HL := Lib.hid hL
      clear hL
      have hsz := hb.size
      by_cases hlt : j < l.length
      · have hel := GCon.elem (hs.below hb (Nat.le_refl _)) j hlt
        obtain ⟨b, off, A1, c1, rfl, hSb, g0, g1, hat⟩ := hel
        have hmem : l[j] ∈ l := List.getElem_mem hlt
        have hts := Lib.hid (bulkL_take_succ GCon.bulk l j hlt)
        have htl := Lib.hid (bulkL_take_le GCon.bulk l (j + 1) (by omega))
        have htg := Lib.hid (bulkL_take_ge GCon.bulk l j (by omega))
        go_wp2_with fail
        refine (HH.out _ hmem _ _ L _ hL0 (by omega) (hat.below (Below.refl _ _) hsz)).mono ?_
        rintro e w1 ⟨rfl, hb1⟩
        by_cases hle : ((l[j]).bulk : Int) ≤ L
        · have hv := szv_le hle
          have hge : 0 ≤ L - ((l[j]).bulk : Int) := by omega
          go_wp2_with fail
          go_roundw
          case rel => exact ⟨j + 1, _, by omega, by go_num, rfl, by rw [hts.out, HL.out]; omega, by omega, by omega, hb.trans (hb1.mono hsz)⟩
          case measure => simp [intOf]; omega
        · have hv := szv_gt (b := (l[j]).bulk) (left := L) (by omega)
          go_wp2_with fail
          go_ret
          refine ⟨ret_int ?_, hb.trans (hb1.mono hsz)⟩
          have e1 := hts.out; have e2 := htl.out; have e3 := htg.out; have e4 := HL.out
          rw [szv_gt (by omega)]
      · have hjl : j = l.length := by omega
        have Hj := Lib.hid hjl
        clear hjl
        go_wp2_with fail
        go_ret
        refine ⟨ret_int ?_, hb⟩
        have e4 := HL.out
        rw [Hj.out, List.take_length] at e4
        have := bulkL_len GCon.bulk l
        rw [szv_le (by omega)]; omega

theorem szCon (t : GCon) (A1 : Option Addr) (c1 : Nat) (left : Int) (w : World) (h0 : 0 ≤ left) (h1 : left ≤ 1048576) (hat : GCon.At w (Lt w.heap.size) A1 c1 t) :
      Calls Tryz.prog 66 #[.agg #[.string t.name, .slice A1 t.args.length c1], .int .i64 left] w fun e w' => e = .returned (.int .i64 (szv t.bulk left)) ∧ Below w.heap.size w w' := by
  have hbe := t.bulk_eq
  obtain ⟨k0, k1⟩ := id hat
  have s0 : t.name.size ≤ 9223372036854775807 := by unfold maxLen at k0; omega
  have HE := Lib.hid hbe
  have hat' := Lib.hid hat
  clear hbe hat k0 k1
  have B0 : Below w.heap.size w (w.alloc (.cells #[.string t.name, .slice A1 t.args.length c1] 88)) := (Below.refl _ _).alloc (Nat.le_refl _) _
  have r0 := Lib.hid (Row.new w 88 #[.string t.name, .slice A1 t.args.length c1])
  go_enter Tryz.func66, Tryz.ntmps66
  by_cases g0 : ((t.name.size : Nat) : Int) ≤ left
  rotate_left
  · have q0 : left - ((t.name.size : Nat) : Int) < 0 := by omega
    go_wp2_with fail
    go_ret
    refine ⟨ret_int ?_, B0⟩
    have := HE.out
    rw [szv_gt (by omega)]
  have q0 : 0 ≤ left - ((t.name.size : Nat) : Int) := by omega
  go_wp2_with fail
  obtain ⟨-, k1⟩ := hat'.out.below B0 B0.size
  refine (szTyS' t.args A1 c1 _ _ k1 (by omega) (by omega)).mono ?_
  rintro e w1 ⟨rfl, hb1⟩
  have B1 := B0.trans (hb1.mono B0.size)
  by_cases g1 : ((bulkL GTy.bulk t.args : Nat) : Int) ≤ left - ((t.name.size : Nat) : Int)
  rotate_left
  · have hv := szv_gt (b := bulkL GTy.bulk t.args) (left := left - ((t.name.size : Nat) : Int)) (by omega)
    go_wp2_with fail
    go_ret
    refine ⟨ret_int ?_, B1⟩
    have := HE.out
    rw [szv_gt (by omega)]
  have v1 := szv_le g1
  have q1 : 0 ≤ left - ((t.name.size : Nat) : Int) - ((bulkL GTy.bulk t.args : Nat) : Int) := by omega
  go_wp2_with fail
  go_ret
  refine ⟨ret_int ?_, B1⟩
  have := HE.out
  rw [szv_le (by omega)]; omega

theorem szCon' (t : GCon) (A1 : Option Addr) (c1 : Nat) (left : Int) (w : World) (h0 : 0 ≤ left) (h1 : left ≤ 1048576) (hat : GCon.At w (Lt w.heap.size) A1 c1 t) :
      Calls Tryz.prog 66 #[.agg #[.string t.name, .slice A1 t.args.length c1], .int .i64 left] w fun e w' => e = .returned (.int .i64 (szv t.bulk left)) ∧ Below w.heap.size w w' :=
  szCon t A1 c1 left w h0 h1 hat

theorem szConS' (l : List GCon) (A : Option Addr) (c : Nat) (left : Int) (w : World) (hs : Sl w (Lt w.heap.size) 2 A c (l.map GCon.toD)) (h0 : 0 ≤ left) (h1 : left ≤ 1048576) :
    Calls Tryz.prog 40 #[.slice A l.length c, .int .i64 left] w fun e w' => e = .returned (.int .i64 (szv (bulkL GCon.bulk l) left)) ∧ Below w.heap.size w w' :=
  szConS l A c left w hs h0 h1 (fun u _ A1 c1 left w h0 h1 hat => szCon' u A1 c1 left w h0 h1 hat)

/-- what a to function gives back: a struct of the call's own -/
def ToCon (t : GCon) (w : World) (e : Ending) (w' : World) : Prop := ∃ A1 c1, e = .returned (.agg #[.string t.name, .slice A1 t.args.length c1]) ∧ GCon.Ow w' (Btw w.heap.size w'.heap.size) A1 c1 t ∧ Below w.heap.size w w'
def ToConS (l : List GCon) (w : World) (e : Ending) (w' : World) : Prop := ∃ A1 c1, e = .returned (.slice A1 l.length c1) ∧ Osl w' (Btw w.heap.size w'.heap.size) 2 A1 c1 (l.map GCon.toD) ∧ Below w.heap.size w w'

def zCon : Value := .agg #[.string ⟨#[]⟩, .slice none 0 0]
theorem mkCon (n : Nat) (hn : n ≤ 1048576) (w : World) : (Instr.makeSlice 51 (.int .i64 (n : Int)) (.int .i64 (n : Int))).run Tryz.prog w = .ok (.slice (some ⟨w.heap.size, 0, none⟩) n n) (w.alloc (.cells (zr zCon 2 n) 58)) :=
  run_mk 51 58 zCon 2 40 Tryz.underlying51 (by kernel_rfl) n hn (by omega) w

theorem toConS (l : List GCon) (A : Option Addr) (c : Nat) (w : World) (hs : Sl w (Lt w.heap.size) 2 A c (l.map GCon.toD)) (hl : l.length ≤ 1048576)
    (H : ∀ t, t ∈ l → ∀ (A1 : Option Addr) (c1 : Nat) (w : World), GCon.At w (Lt w.heap.size) A1 c1 t →
      Calls Tryz.prog 70 #[.agg #[.string t.name, .slice A1 t.args.length c1]] w (ToCon t w)) :
    Calls Tryz.prog 49 #[.slice A l.length c] w (ToConS l w) := by
  have HH := Lib.hid H
  clear H
  have hmk := mkCon l.length hl
  go_enter Tryz.func49, Tryz.ntmps49
  go_wp2_with fail
  clear hmk
  go_loopw [4] (fun i wr => ∃ (j : Nat) (row : Array Value), j ≤ l.length ∧ i = .int .i64 j ∧ Row wr w.heap.size 58 row ∧ row.size = l.length * 2 ∧
      D.ownR wr 2 w.heap.size ((l.take j).map GCon.toD) (fun b => w.heap.size < b ∧ b < wr.heap.size) 0 ∧ Below w.heap.size w wr) (fun i _ => l.length - (intOf i).toNat)
  case atStart => exact ⟨0, _, by omega, by go_num, Row.new _ _ _, zr_size _ _ _, by simp [D.ownR], (Below.refl _ _).alloc (Nat.le_refl _) _⟩
  case round =>
    obtain ⟨j, row, hj, rfl, hrow, hrs, hown, hb⟩ := hrel
    have hsz := hb.size
    have hgl := hrow.lt
    by_cases hlt : j < l.length
    · have hel := GCon.elem (hs.below hb (Nat.le_refl _)) j hlt
      obtain ⟨b, off, A1, c1, rfl, hSb, g0, g1, hat⟩ := hel
      have hmem : l[j] ∈ l := List.getElem_mem hlt
      go_wp2_with fail
      refine (HH.out _ hmem _ _ _ (hat.below (Below.refl _ _) hsz)).mono ?_
      rintro e w1 ⟨B1, d1, rfl, how, hb1⟩
      have hrow1 := Lib.hid (hrow.below hb1 hgl)
      have hf := fun i => hrow1.out.frozen i
      obtain ⟨v0, y0⟩ := row_some (row := row) (j * 2) (by omega)
      obtain ⟨v1, y1⟩ := row_some (row := row) (j * 2 + 1) (by omega)
      have x0 := (hrow1.out.cell (j * 2)).trans y0
      have x1 := (hrow1.out.cell (j * 2 + 1)).trans y1
      clear y0 y1
      have hst := fill_step hrow1.out (j := j) (m := wr.heap.size) (xs := (l.take j).map GCon.toD) (size := 2) (by simp; omega) (by omega) hgl hb1.size
        (D.ownR_keep 2 _ _ _ _ 0 (fun b hb => ⟨hb, hb1.block b hb.2⟩) (fun i _ => hb1.cell (p := ⟨w.heap.size, i, none⟩) hgl) hown) (GCon.own_mk how) rfl
      have hB := setCells_below (hb.trans (hb1.mono hsz)) w.heap.size (j * 2) (Nat.le_refl _) [.string l[j].name, .slice B1 l[j].args.length d1]
      go_wp2_with fail
      go_roundw
      case rel =>
        obtain ⟨row', p1, p2, p3⟩ := hst
        exact ⟨j + 1, row', by omega, by go_num, p1, by omega, by rw [take_snoc' l j hlt, List.map_append]; exact p3, hB⟩
      case measure => simp [intOf]; omega
    · have hjl : j = l.length := by omega
      have Hj := Lib.hid hjl
      clear hjl
      go_wp2_with fail
      go_ret
      rw [Hj.out, List.take_length] at hown
      exact ⟨_, _, rfl, fill_end hrow (Nat.le_refl _) (by simp) (by unfold maxLen; omega) hown, hb⟩

theorem toCon (t : GCon) (A1 : Option Addr) (c1 : Nat) (w : World) (h1 : t.bulk ≤ 1048576) (hat : GCon.At w (Lt w.heap.size) A1 c1 t) :
      Calls Tryz.prog 70 #[.agg #[.string t.name, .slice A1 t.args.length c1]] w (ToCon t w) := by
  have hbe := t.bulk_eq
  have m1 : bulkL GTy.bulk t.args ≤ 1048576 := by omega
  have hat' := Lib.hid hat
  clear hbe hat
  go_enter Tryz.func70, Tryz.ntmps70
  go_wp2_with fail
  have W0 : ∃ w0, w0 = ((w.alloc (.cells #[.string t.name, .slice A1 t.args.length c1] 88)).alloc (.cells #[.string ⟨#[]⟩, .slice none 0 0] 58)).alloc (.cells #[.string t.name, .slice none 0 0] 58) := ⟨_, rfl⟩
  obtain ⟨w0, e0⟩ := W0
  have B0 : Below w.heap.size w w0 := by rw [e0]; exact (((Below.refl _ _).alloc (Nat.le_refl _) _).alloc (by simp) _).alloc (by simp; omega) _
  have S0 : w0.heap.size = w.heap.size + 3 := by rw [e0]; simp
  have Ra0 : Row w0 w.heap.size 88 #[.string t.name, .slice A1 t.args.length c1] := by rw [e0]; exact ((Row.new' _ _ _ rfl).alloc _).alloc _
  have Rz0 : Row w0 (w.heap.size + 1) 58 #[.string ⟨#[]⟩, .slice none 0 0] := by rw [e0]; exact (Row.new' _ _ _ (by simp)).alloc _
  have Ro0 : Row w0 (w.heap.size + 1 + 1) 58 #[.string t.name, .slice none 0 0] := by rw [e0]; exact Row.new' _ _ _ (by simp)
  rw [← e0]
  clear e0
  obtain ⟨-, q1⟩ := hat'.out.below B0 B0.size
  refine (toTyS' t.args A1 c1 (w0) q1 m1).mono ?_
  rintro e w1 ⟨D1, d1, rfl, how1, hb1⟩
  have hs1 := hb1.size
  have X1 := B0.trans (hb1.mono B0.size)
  have Rax1 := Lib.hid (Ra0.below hb1 Ra0.lt)
  have Rzx1 := Lib.hid (Rz0.below hb1 Rz0.lt)
  have Rox1 := Lib.hid (Ro0.below hb1 Ro0.lt)
  have hca1 := fun i => Rax1.out.cell i
  have hcz1 := fun i => Rzx1.out.cell i
  have hco1 := fun i => Rox1.out.cell i
  have hfz1 := fun i => Rzx1.out.frozen i
  have hfo1 := fun i => Rox1.out.frozen i
  have B1 := setCells_below X1 (w.heap.size + 1 + 1) 1 (by omega) [.slice D1 t.args.length d1]
  have Ra1 : Hid (Row (setCells w1 (w.heap.size + 1 + 1) 1 [.slice D1 t.args.length d1]) w.heap.size 88 #[.string t.name, .slice A1 t.args.length c1]) := (Rax1.out).far (p := ⟨w.heap.size + 1 + 1, 1, none⟩) (by simp <;> omega) (.slice D1 t.args.length d1)
  have Rz1 : Hid (Row (setCells w1 (w.heap.size + 1 + 1) 1 [.slice D1 t.args.length d1]) (w.heap.size + 1) 58 #[.string ⟨#[]⟩, .slice none 0 0]) := (Rzx1.out).far (p := ⟨w.heap.size + 1 + 1, 1, none⟩) (by simp <;> omega) (.slice D1 t.args.length d1)
  have Ro1 : Hid (Row (setCells w1 (w.heap.size + 1 + 1) 1 [.slice D1 t.args.length d1]) (w.heap.size + 1 + 1) 58 #[.string t.name, .slice D1 t.args.length d1]) := (Rox1.out).set 1 (.slice D1 t.args.length d1)
  replace how1 := how1.keep (S' := Btw (w0).heap.size (w1).heap.size) (w' := setCells w1 (w.heap.size + 1 + 1) 1 [.slice D1 t.args.length d1]) fun b hb => ⟨hb, setCells_block _ _ _ _ _ (by have := hb.1; first | omega | (simp only [setCells_size] at *; omega) | (simp only [setCells_size] at *; done))⟩
  have BF := setCells_below B1 (w.heap.size + 1) 0 (by omega) [.string t.name, .slice D1 t.args.length d1]
  have SF : (setCells (setCells w1 (w.heap.size + 1 + 1) 1 [.slice D1 t.args.length d1]) (w.heap.size + 1) 0 [.string t.name, .slice D1 t.args.length d1]).heap.size = w1.heap.size := by rw [setCells_size, setCells_size]
  replace how1 := how1.keep (S' := Btw w.heap.size (setCells (setCells w1 (w.heap.size + 1 + 1) 1 [.slice D1 t.args.length d1]) (w.heap.size + 1) 0 [.string t.name, .slice D1 t.args.length d1]).heap.size) (w' := setCells (setCells w1 (w.heap.size + 1 + 1) 1 [.slice D1 t.args.length d1]) (w.heap.size + 1) 0 [.string t.name, .slice D1 t.args.length d1]) fun b hb => ⟨⟨by have := hb.1; first | omega | (simp only [setCells_size] at *; omega) | (simp only [setCells_size] at *; done), by have := hb.2; have := SF; first | omega | (simp only [setCells_size] at *; omega) | (simp only [setCells_size] at *; done)⟩, setCells_block _ _ _ _ _ (by have := hb.1; first | omega | (simp only [setCells_size] at *; omega) | (simp only [setCells_size] at *; done))⟩
  have qs := hat'.out
  obtain ⟨p0, p1⟩ := qs
  go_wp2_with fail
  exact bodyPost_ret (v := .agg #[.string t.name, .slice D1 t.args.length d1]) (by simp [results, Tryz.results70, go_sem, hca1, hcz1, hco1]) rfl ⟨D1, d1, rfl, ⟨p0, how1⟩, BF⟩

theorem toCon' (t : GCon) (A1 : Option Addr) (c1 : Nat) (w : World) (h1 : t.bulk ≤ 1048576) (hat : GCon.At w (Lt w.heap.size) A1 c1 t) :
      Calls Tryz.prog 70 #[.agg #[.string t.name, .slice A1 t.args.length c1]] w (ToCon t w) :=
  toCon t A1 c1 w h1 hat

theorem toConS' (l : List GCon) (A : Option Addr) (c : Nat) (w : World) (hs : Sl w (Lt w.heap.size) 2 A c (l.map GCon.toD)) (hl : bulkL GCon.bulk l ≤ 1048576) :
    Calls Tryz.prog 49 #[.slice A l.length c] w (ToConS l w) :=
  toConS l A c w hs (by have := bulkL_len GCon.bulk l; omega) (fun u hu A1 c1 w hat => toCon' u A1 c1 w (by have := bulkL_mem GCon.bulk l u hu; omega) hat)

set_option maxRecDepth 20000 in
theorem eqConS (l : List GCon) (A B : Option Addr) (c d : Nat) (w : World) (hs : Sl w (Lt w.heap.size) 2 A c (l.map GCon.toD)) (hs' : Sl w (Lt w.heap.size) 2 B d (l.map GCon.toD))
    (H : ∀ t, t ∈ l → ∀ (A1 : Option Addr) (c1 : Nat) (B1 : Option Addr) (d1 : Nat) (w : World), GCon.At w (Lt w.heap.size) A1 c1 t → GCon.At w (Lt w.heap.size) B1 d1 t →
      Calls Tryz.prog 83 #[.agg #[.string t.name, .slice A1 t.args.length c1], .agg #[.string t.name, .slice B1 t.args.length d1]] w fun e w' => e = .returned (.bool true) ∧ Below w.heap.size w w') :
    Calls Tryz.prog 65 #[.slice A l.length c, .slice B l.length d] w fun e w' => e = .returned (.bool true) ∧ Below w.heap.size w w' := by
  have hlen : l.length ≤ 9223372036854775807 := by simpa using hs.len
  have HH := Lib.hid H
  clear H
  go_enter Tryz.func65, Tryz.ntmps65
  go_wp2_with fail
  go_loopw [5] (fun i wr => ∃ (j : Nat), j ≤ l.length ∧ i = .int .i64 j ∧ Below w.heap.size w wr) (fun i _ => l.length - (intOf i).toNat)
  case atStart => exact ⟨0, by omega, by go_num, Below.refl _ _⟩
  case round =>
    obtain ⟨j, hj, rfl, hb⟩ := hrel
    have hsz := hb.size
    by_cases hlt : j < l.length
    · have hel := GCon.elem (hs.below hb (Nat.le_refl _)) j hlt
      obtain ⟨b, off, A1, c1, rfl, hSb, g0, g1, hat⟩ := hel
      have hel := GCon.elem (hs'.below hb (Nat.le_refl _)) j hlt
      obtain ⟨b', off', B1, d1, rfl, hSb', g0', g1', hat'⟩ := hel
      have hmem : l[j] ∈ l := List.getElem_mem hlt
      go_wp2_with fail
      refine wp_region_still_tail 8 (by kernel_rfl) (by kernel_rfl) ?_
      simp only [List.take_succ_cons, List.take_zero, List.drop_succ_cons, List.drop_zero]
      change wpStill _ _ wr.drew (fun a' => wpList _ _ _ _ a' wr.drew) _ _
      iterate 8 still_step
      refine wpStill_nil ?_
      go_wp2_with fail
      refine (HH.out _ hmem _ _ _ _ wr.drew (hat.keep fun b hb => ⟨Nat.lt_of_lt_of_le hb hsz, rfl⟩) (hat'.keep fun b hb => ⟨Nat.lt_of_lt_of_le hb hsz, rfl⟩)).mono ?_
      rintro e w1 ⟨rfl, hb1⟩
      go_wp2_with fail
      go_roundw
      case rel => exact ⟨j + 1, by omega, by go_num, hb.drew.trans (hb1.mono hsz)⟩
      case measure => simp [intOf]; omega
    · have hjl : j = l.length := by omega
      clear hjl
      go_wp2_with fail
      go_ret
      exact ⟨rfl, hb⟩

set_option maxRecDepth 20000 in
theorem eqCon (t : GCon) (A1 : Option Addr) (c1 : Nat) (B1 : Option Addr) (d1 : Nat) (w : World) (hat : GCon.At w (Lt w.heap.size) A1 c1 t) (hat2 : GCon.At w (Lt w.heap.size) B1 d1 t) :
      Calls Tryz.prog 83 #[.agg #[.string t.name, .slice A1 t.args.length c1], .agg #[.string t.name, .slice B1 t.args.length d1]] w fun e w' => e = .returned (.bool true) ∧ Below w.heap.size w w' := by
  have hat' := Lib.hid hat
  have hat2' := Lib.hid hat2
  clear hat hat2
  have B0 : Below w.heap.size w ((w.alloc (.cells #[.string t.name, .slice A1 t.args.length c1] 58)).alloc (.cells #[.string t.name, .slice B1 t.args.length d1] 58)) := ((Below.refl _ _).alloc (Nat.le_refl _) _).alloc (by simp) _
  have ra0 := Lib.hid ((Row.new w 58 #[.string t.name, .slice A1 t.args.length c1]).alloc (.cells #[.string t.name, .slice B1 t.args.length d1] 58))
  have rb0 := Lib.hid (Row.new' (w.alloc (.cells #[.string t.name, .slice A1 t.args.length c1] 58)) 58 #[.string t.name, .slice B1 t.args.length d1] (g := w.heap.size + 1) (by simp))
  go_enter Tryz.func83, Tryz.ntmps83
  go_wp2_with fail
  obtain ⟨-, q1⟩ := hat'.out.below B0 B0.size
  obtain ⟨-, p1⟩ := hat2'.out.below B0 B0.size
  refine (eqTyS' t.args A1 B1 c1 d1 _ q1 p1).mono ?_
  rintro e w1 ⟨rfl, hb1⟩
  have B1 := B0.trans (hb1.mono B0.size)
  go_wp2_with fail
  go_ret
  exact ⟨rfl, B1⟩

theorem eqCon' (t : GCon) (A1 : Option Addr) (c1 : Nat) (B1 : Option Addr) (d1 : Nat) (w : World) (hat : GCon.At w (Lt w.heap.size) A1 c1 t) (hat2 : GCon.At w (Lt w.heap.size) B1 d1 t) :
      Calls Tryz.prog 83 #[.agg #[.string t.name, .slice A1 t.args.length c1], .agg #[.string t.name, .slice B1 t.args.length d1]] w fun e w' => e = .returned (.bool true) ∧ Below w.heap.size w w' :=
  eqCon t A1 c1 B1 d1 w hat hat2

theorem eqConS' (l : List GCon) (A B : Option Addr) (c d : Nat) (w : World) (hs : Sl w (Lt w.heap.size) 2 A c (l.map GCon.toD)) (hs' : Sl w (Lt w.heap.size) 2 B d (l.map GCon.toD)) :
    Calls Tryz.prog 65 #[.slice A l.length c, .slice B l.length d] w fun e w' => e = .returned (.bool true) ∧ Below w.heap.size w w' :=
  eqConS l A B c d w hs hs' (fun u _ A1 c1 B1 d1 w hat hat2 => eqCon' u A1 c1 B1 d1 w hat hat2)

end Go.Proofs.YtgbcdfeflgnogaaGreat

/- The laws' sz, to and eq functions at Data. Conditions: what is counted is at most 1048576. -/
namespace Go.Proofs.YtgbcdfeflgnogaaGreat
open Go.RowKit
set_option linter.unusedVariables false
set_option linter.unusedSimpArgs false
set_option maxHeartbeats 400000

theorem szDataS (l : List GData) (A : Option Addr) (c : Nat) (left : Int) (w : World) (hs : Sl w (Lt w.heap.size) 3 A c (l.map GData.toD)) (h0 : 0 ≤ left) (h1 : left ≤ 1048576)
    (H : ∀ t, t ∈ l → ∀ (A1 : Option Addr) (c1 : Nat) (left : Int) (w : World), 0 ≤ left → left ≤ 1048576 → GData.At w (Lt w.heap.size) A1 c1 t →
      Calls Tryz.prog 19 #[.agg #[.string t.name, .int .i64 t.vars, .slice A1 t.cons.length c1], .int .i64 left] w fun e w' => e = .returned (.int .i64 (szv t.bulk left)) ∧ Below w.heap.size w w') :
    Calls Tryz.prog 9 #[.slice A l.length c, .int .i64 left] w fun e w' => e = .returned (.int .i64 (szv (bulkL GData.bulk l) left)) ∧ Below w.heap.size w w' := by
  have hlen : l.length ≤ 9223372036854775807 := by simpa using hs.len
  have HH := Lib.hid H
  clear H
  by_cases hll : left < (l.length : Int)
  · have hg : left - (l.length : Int) < 0 := by omega
    have hv := Lib.hid (szv_gt (b := bulkL GData.bulk l) (left := left) (by have := bulkL_len GData.bulk l; omega))
    go_enter Tryz.func9, Tryz.ntmps9
    go_wp2_with fail
    go_ret
    exact ⟨ret_int hv.out.symm, Below.refl _ _⟩
  · have hg : 0 ≤ left - (l.length : Int) := by omega
    go_enter Tryz.func9, Tryz.ntmps9
    go_wp2_with fail
    go_loopw [1, 5] (fun n i wr => ∃ (j : Nat) (L : Int), j ≤ l.length ∧ i = .int .i64 j ∧ n = .int .i64 L ∧ L = left - l.length - (bulkL GData.bulk (l.take j) - j) ∧ 0 ≤ L ∧ L ≤ left ∧ Below w.heap.size w wr) (fun _ i _ => l.length - (intOf i).toNat)
    case atStart => exact ⟨0, _, by omega, by go_num, rfl, by simp [bulkL], by omega, by omega, Below.refl _ _⟩
    case round =>
      obtain ⟨j, L, hj, rfl, rfl, hL, hL0, hL1, hb⟩ := hrel
      have HL := Lib.hid hL
      clear hL
      have hsz := hb.size
      by_cases hlt : j < l.length
      · have hel := GData.elem (hs.below hb (Nat.le_refl _)) j hlt
        obtain ⟨b, off, A1, c1, rfl, hSb, g0, g1, g2, hat⟩ := hel
        have hmem : l[j] ∈ l := List.getElem_mem hlt
        have hts := Lib.hid (bulkL_take_succ GData.bulk l j hlt)
        have htl := Lib.hid (bulkL_take_le GData.bulk l (j + 1) (by omega))
        have htg := Lib.hid (bulkL_take_ge GData.bulk l j (by omega))
        go_wp2_with fail
        refine (HH.out _ hmem _ _ L _ hL0 (by omega) (hat.below (Below.refl _ _) hsz)).mono ?_
        rintro e w1 ⟨rfl, hb1⟩
        by_cases hle : ((l[j]).bulk : Int) ≤ L
        · have hv := szv_le hle
          have hge : 0 ≤ L - ((l[j]).bulk : Int) := by omega
          go_wp2_with fail
          go_roundw
          case rel => exact ⟨j + 1, _, by omega, by go_num, rfl, by rw [hts.out, HL.out]; omega, by omega, by omega, hb.trans (hb1.mono hsz)⟩
          case measure => simp [intOf]; omega
        · have hv := szv_gt (b := (l[j]).bulk) (left := L) (by omega)
          go_wp2_with fail
          go_ret
          refine ⟨ret_int ?_, hb.trans (hb1.mono hsz)⟩
          have e1 := hts.out; have e2 := htl.out; have e3 := htg.out; have e4 := HL.out
          rw [szv_gt (by omega)]
      · have hjl : j = l.length := by omega
        have Hj := Lib.hid hjl
        clear hjl
        go_wp2_with fail
        go_ret
        refine ⟨ret_int ?_, hb⟩
        have e4 := HL.out
        rw [Hj.out, List.take_length] at e4
        have := bulkL_len GData.bulk l
        rw [szv_le (by omega)]; omega

theorem szData (t : GData) (A1 : Option Addr) (c1 : Nat) (left : Int) (w : World) (h0 : 0 ≤ left) (h1 : left ≤ 1048576) (hat : GData.At w (Lt w.heap.size) A1 c1 t) :
      Calls Tryz.prog 19 #[.agg #[.string t.name, .int .i64 t.vars, .slice A1 t.cons.length c1], .int .i64 left] w fun e w' => e = .returned (.int .i64 (szv t.bulk left)) ∧ Below w.heap.size w w' := by
  have hbe := t.bulk_eq
  obtain ⟨k0, k1, k2⟩ := id hat
  have s0 : t.name.size ≤ 9223372036854775807 := by unfold maxLen at k0; omega
  have HE := Lib.hid hbe
  have hat' := Lib.hid hat
  clear hbe hat k0 k1 k2
  have B0 : Below w.heap.size w (w.alloc (.cells #[.string t.name, .int .i64 t.vars, .slice A1 t.cons.length c1] 49)) := (Below.refl _ _).alloc (Nat.le_refl _) _
  have r0 := Lib.hid (Row.new w 49 #[.string t.name, .int .i64 t.vars, .slice A1 t.cons.length c1])
  go_enter Tryz.func19, Tryz.ntmps19
  by_cases g0 : ((t.name.size : Nat) : Int) ≤ left
  rotate_left
  · have q0 : left - ((t.name.size : Nat) : Int) < 0 := by omega
    go_wp2_with fail
    go_ret
    refine ⟨ret_int ?_, B0⟩
    have := HE.out
    rw [szv_gt (by omega)]
  have q0 : 0 ≤ left - ((t.name.size : Nat) : Int) := by omega
  go_wp2_with fail
  obtain ⟨-, -, k2⟩ := hat'.out.below B0 B0.size
  refine (szConS' t.cons A1 c1 _ _ k2 (by omega) (by omega)).mono ?_
  rintro e w1 ⟨rfl, hb1⟩
  have B1 := B0.trans (hb1.mono B0.size)
  by_cases g2 : ((bulkL GCon.bulk t.cons : Nat) : Int) ≤ left - ((t.name.size : Nat) : Int)
  rotate_left
  · have hv := szv_gt (b := bulkL GCon.bulk t.cons) (left := left - ((t.name.size : Nat) : Int)) (by omega)
    go_wp2_with fail
    go_ret
    refine ⟨ret_int ?_, B1⟩
    have := HE.out
    rw [szv_gt (by omega)]
  have v2 := szv_le g2
  have q2 : 0 ≤ left - ((t.name.size : Nat) : Int) - ((bulkL GCon.bulk t.cons : Nat) : Int) := by omega
  go_wp2_with fail
  go_ret
  refine ⟨ret_int ?_, B1⟩
  have := HE.out
  rw [szv_le (by omega)]; omega

theorem szData' (t : GData) (A1 : Option Addr) (c1 : Nat) (left : Int) (w : World) (h0 : 0 ≤ left) (h1 : left ≤ 1048576) (hat : GData.At w (Lt w.heap.size) A1 c1 t) :
      Calls Tryz.prog 19 #[.agg #[.string t.name, .int .i64 t.vars, .slice A1 t.cons.length c1], .int .i64 left] w fun e w' => e = .returned (.int .i64 (szv t.bulk left)) ∧ Below w.heap.size w w' :=
  szData t A1 c1 left w h0 h1 hat

theorem szDataS' (l : List GData) (A : Option Addr) (c : Nat) (left : Int) (w : World) (hs : Sl w (Lt w.heap.size) 3 A c (l.map GData.toD)) (h0 : 0 ≤ left) (h1 : left ≤ 1048576) :
    Calls Tryz.prog 9 #[.slice A l.length c, .int .i64 left] w fun e w' => e = .returned (.int .i64 (szv (bulkL GData.bulk l) left)) ∧ Below w.heap.size w w' :=
  szDataS l A c left w hs h0 h1 (fun u _ A1 c1 left w h0 h1 hat => szData' u A1 c1 left w h0 h1 hat)

/-- what a to function gives back: a struct of the call's own -/
def ToData (t : GData) (w : World) (e : Ending) (w' : World) : Prop := ∃ A1 c1, e = .returned (.agg #[.string t.name, .int .i64 t.vars, .slice A1 t.cons.length c1]) ∧ GData.Ow w' (Btw w.heap.size w'.heap.size) A1 c1 t ∧ Below w.heap.size w w'
def ToDataS (l : List GData) (w : World) (e : Ending) (w' : World) : Prop := ∃ A1 c1, e = .returned (.slice A1 l.length c1) ∧ Osl w' (Btw w.heap.size w'.heap.size) 3 A1 c1 (l.map GData.toD) ∧ Below w.heap.size w w'

def zData : Value := .agg #[.string ⟨#[]⟩, .int .i64 0, .slice none 0 0]
theorem mkData (n : Nat) (hn : n ≤ 1048576) (w : World) : (Instr.makeSlice 30 (.int .i64 (n : Int)) (.int .i64 (n : Int))).run Tryz.prog w = .ok (.slice (some ⟨w.heap.size, 0, none⟩) n n) (w.alloc (.cells (zr zData 3 n) 53)) :=
  run_mk 30 53 zData 3 48 Tryz.underlying30 (by kernel_rfl) n hn (by omega) w

theorem toDataS (l : List GData) (A : Option Addr) (c : Nat) (w : World) (hs : Sl w (Lt w.heap.size) 3 A c (l.map GData.toD)) (hl : l.length ≤ 1048576)
    (H : ∀ t, t ∈ l → ∀ (A1 : Option Addr) (c1 : Nat) (w : World), GData.At w (Lt w.heap.size) A1 c1 t →
      Calls Tryz.prog 28 #[.agg #[.string t.name, .int .i64 t.vars, .slice A1 t.cons.length c1]] w (ToData t w)) :
    Calls Tryz.prog 13 #[.slice A l.length c] w (ToDataS l w) := by
  have HH := Lib.hid H
  clear H
  have hmk := mkData l.length hl
  go_enter Tryz.func13, Tryz.ntmps13
  go_wp2_with fail
  clear hmk
  go_loopw [4] (fun i wr => ∃ (j : Nat) (row : Array Value), j ≤ l.length ∧ i = .int .i64 j ∧ Row wr w.heap.size 53 row ∧ row.size = l.length * 3 ∧
      D.ownR wr 3 w.heap.size ((l.take j).map GData.toD) (fun b => w.heap.size < b ∧ b < wr.heap.size) 0 ∧ Below w.heap.size w wr) (fun i _ => l.length - (intOf i).toNat)
  case atStart => exact ⟨0, _, by omega, by go_num, Row.new _ _ _, zr_size _ _ _, by simp [D.ownR], (Below.refl _ _).alloc (Nat.le_refl _) _⟩
  case round =>
    obtain ⟨j, row, hj, rfl, hrow, hrs, hown, hb⟩ := hrel
    have hsz := hb.size
    have hgl := hrow.lt
    by_cases hlt : j < l.length
    · have hel := GData.elem (hs.below hb (Nat.le_refl _)) j hlt
      obtain ⟨b, off, A1, c1, rfl, hSb, g0, g1, g2, hat⟩ := hel
      have hmem : l[j] ∈ l := List.getElem_mem hlt
      go_wp2_with fail
      refine (HH.out _ hmem _ _ _ (hat.below (Below.refl _ _) hsz)).mono ?_
      rintro e w1 ⟨B1, d1, rfl, how, hb1⟩
      have hrow1 := Lib.hid (hrow.below hb1 hgl)
      have hf := fun i => hrow1.out.frozen i
      obtain ⟨v0, y0⟩ := row_some (row := row) (j * 3) (by omega)
      obtain ⟨v1, y1⟩ := row_some (row := row) (j * 3 + 1) (by omega)
      obtain ⟨v2, y2⟩ := row_some (row := row) (j * 3 + 2) (by omega)
      have x0 := (hrow1.out.cell (j * 3)).trans y0
      have x1 := (hrow1.out.cell (j * 3 + 1)).trans y1
      have x2 := (hrow1.out.cell (j * 3 + 2)).trans y2
      clear y0 y1 y2
      have hst := fill_step hrow1.out (j := j) (m := wr.heap.size) (xs := (l.take j).map GData.toD) (size := 3) (by simp; omega) (by omega) hgl hb1.size
        (D.ownR_keep 3 _ _ _ _ 0 (fun b hb => ⟨hb, hb1.block b hb.2⟩) (fun i _ => hb1.cell (p := ⟨w.heap.size, i, none⟩) hgl) hown) (GData.own_mk how) rfl
      have hB := setCells_below (hb.trans (hb1.mono hsz)) w.heap.size (j * 3) (Nat.le_refl _) [.string l[j].name, .int .i64 l[j].vars, .slice B1 l[j].cons.length d1]
      go_wp2_with fail
      go_roundw
      case rel =>
        obtain ⟨row', p1, p2, p3⟩ := hst
        exact ⟨j + 1, row', by omega, by go_num, p1, by omega, by rw [take_snoc' l j hlt, List.map_append]; exact p3, hB⟩
      case measure => simp [intOf]; omega
    · have hjl : j = l.length := by omega
      have Hj := Lib.hid hjl
      clear hjl
      go_wp2_with fail
      go_ret
      rw [Hj.out, List.take_length] at hown
      exact ⟨_, _, rfl, fill_end hrow (Nat.le_refl _) (by simp) (by unfold maxLen; omega) hown, hb⟩

theorem toData (t : GData) (A1 : Option Addr) (c1 : Nat) (w : World) (h1 : t.bulk ≤ 1048576) (hat : GData.At w (Lt w.heap.size) A1 c1 t) :
      Calls Tryz.prog 28 #[.agg #[.string t.name, .int .i64 t.vars, .slice A1 t.cons.length c1]] w (ToData t w) := by
  have hbe := t.bulk_eq
  have m2 : bulkL GCon.bulk t.cons ≤ 1048576 := by omega
  have hat' := Lib.hid hat
  clear hbe hat
  go_enter Tryz.func28, Tryz.ntmps28
  go_wp2_with fail
  have W0 : ∃ w0, w0 = ((w.alloc (.cells #[.string t.name, .int .i64 t.vars, .slice A1 t.cons.length c1] 49)).alloc (.cells #[.string ⟨#[]⟩, .int .i64 0, .slice none 0 0] 53)).alloc (.cells #[.string t.name, .int .i64 t.vars, .slice none 0 0] 53) := ⟨_, rfl⟩
  obtain ⟨w0, e0⟩ := W0
  have B0 : Below w.heap.size w w0 := by rw [e0]; exact (((Below.refl _ _).alloc (Nat.le_refl _) _).alloc (by simp) _).alloc (by simp; omega) _
  have S0 : w0.heap.size = w.heap.size + 3 := by rw [e0]; simp
  have Ra0 : Row w0 w.heap.size 49 #[.string t.name, .int .i64 t.vars, .slice A1 t.cons.length c1] := by rw [e0]; exact ((Row.new' _ _ _ rfl).alloc _).alloc _
  have Rz0 : Row w0 (w.heap.size + 1) 53 #[.string ⟨#[]⟩, .int .i64 0, .slice none 0 0] := by rw [e0]; exact (Row.new' _ _ _ (by simp)).alloc _
  have Ro0 : Row w0 (w.heap.size + 1 + 1) 53 #[.string t.name, .int .i64 t.vars, .slice none 0 0] := by rw [e0]; exact Row.new' _ _ _ (by simp)
  rw [← e0]
  clear e0
  obtain ⟨-, -, q2⟩ := hat'.out.below B0 B0.size
  refine (toConS' t.cons A1 c1 (w0) q2 m2).mono ?_
  rintro e w1 ⟨D1, d1, rfl, how2, hb1⟩
  have hs1 := hb1.size
  have X1 := B0.trans (hb1.mono B0.size)
  have Rax1 := Lib.hid (Ra0.below hb1 Ra0.lt)
  have Rzx1 := Lib.hid (Rz0.below hb1 Rz0.lt)
  have Rox1 := Lib.hid (Ro0.below hb1 Ro0.lt)
  have hca1 := fun i => Rax1.out.cell i
  have hcz1 := fun i => Rzx1.out.cell i
  have hco1 := fun i => Rox1.out.cell i
  have hfz1 := fun i => Rzx1.out.frozen i
  have hfo1 := fun i => Rox1.out.frozen i
  have B1 := setCells_below X1 (w.heap.size + 1 + 1) 2 (by omega) [.slice D1 t.cons.length d1]
  have Ra1 : Hid (Row (setCells w1 (w.heap.size + 1 + 1) 2 [.slice D1 t.cons.length d1]) w.heap.size 49 #[.string t.name, .int .i64 t.vars, .slice A1 t.cons.length c1]) := (Rax1.out).far (p := ⟨w.heap.size + 1 + 1, 2, none⟩) (by simp <;> omega) (.slice D1 t.cons.length d1)
  have Rz1 : Hid (Row (setCells w1 (w.heap.size + 1 + 1) 2 [.slice D1 t.cons.length d1]) (w.heap.size + 1) 53 #[.string ⟨#[]⟩, .int .i64 0, .slice none 0 0]) := (Rzx1.out).far (p := ⟨w.heap.size + 1 + 1, 2, none⟩) (by simp <;> omega) (.slice D1 t.cons.length d1)
  have Ro1 : Hid (Row (setCells w1 (w.heap.size + 1 + 1) 2 [.slice D1 t.cons.length d1]) (w.heap.size + 1 + 1) 53 #[.string t.name, .int .i64 t.vars, .slice D1 t.cons.length d1]) := (Rox1.out).set 2 (.slice D1 t.cons.length d1)
  replace how2 := how2.keep (S' := Btw (w0).heap.size (w1).heap.size) (w' := setCells w1 (w.heap.size + 1 + 1) 2 [.slice D1 t.cons.length d1]) fun b hb => ⟨hb, setCells_block _ _ _ _ _ (by have := hb.1; first | omega | (simp only [setCells_size] at *; omega) | (simp only [setCells_size] at *; done))⟩
  have BF := setCells_below B1 (w.heap.size + 1) 0 (by omega) [.string t.name, .int .i64 t.vars, .slice D1 t.cons.length d1]
  have SF : (setCells (setCells w1 (w.heap.size + 1 + 1) 2 [.slice D1 t.cons.length d1]) (w.heap.size + 1) 0 [.string t.name, .int .i64 t.vars, .slice D1 t.cons.length d1]).heap.size = w1.heap.size := by rw [setCells_size, setCells_size]
  replace how2 := how2.keep (S' := Btw w.heap.size (setCells (setCells w1 (w.heap.size + 1 + 1) 2 [.slice D1 t.cons.length d1]) (w.heap.size + 1) 0 [.string t.name, .int .i64 t.vars, .slice D1 t.cons.length d1]).heap.size) (w' := setCells (setCells w1 (w.heap.size + 1 + 1) 2 [.slice D1 t.cons.length d1]) (w.heap.size + 1) 0 [.string t.name, .int .i64 t.vars, .slice D1 t.cons.length d1]) fun b hb => ⟨⟨by have := hb.1; first | omega | (simp only [setCells_size] at *; omega) | (simp only [setCells_size] at *; done), by have := hb.2; have := SF; first | omega | (simp only [setCells_size] at *; omega) | (simp only [setCells_size] at *; done)⟩, setCells_block _ _ _ _ _ (by have := hb.1; first | omega | (simp only [setCells_size] at *; omega) | (simp only [setCells_size] at *; done))⟩
  have qs := hat'.out
  obtain ⟨p0, p1, p2⟩ := qs
  go_wp2_with fail
  exact bodyPost_ret (v := .agg #[.string t.name, .int .i64 t.vars, .slice D1 t.cons.length d1]) (by simp [results, Tryz.results28, go_sem, hca1, hcz1, hco1]) rfl ⟨D1, d1, rfl, ⟨p0, p1, how2⟩, BF⟩

theorem toData' (t : GData) (A1 : Option Addr) (c1 : Nat) (w : World) (h1 : t.bulk ≤ 1048576) (hat : GData.At w (Lt w.heap.size) A1 c1 t) :
      Calls Tryz.prog 28 #[.agg #[.string t.name, .int .i64 t.vars, .slice A1 t.cons.length c1]] w (ToData t w) :=
  toData t A1 c1 w h1 hat

theorem toDataS' (l : List GData) (A : Option Addr) (c : Nat) (w : World) (hs : Sl w (Lt w.heap.size) 3 A c (l.map GData.toD)) (hl : bulkL GData.bulk l ≤ 1048576) :
    Calls Tryz.prog 13 #[.slice A l.length c] w (ToDataS l w) :=
  toDataS l A c w hs (by have := bulkL_len GData.bulk l; omega) (fun u hu A1 c1 w hat => toData' u A1 c1 w (by have := bulkL_mem GData.bulk l u hu; omega) hat)

set_option maxRecDepth 20000 in
theorem eqDataS (l : List GData) (A B : Option Addr) (c d : Nat) (w : World) (hs : Sl w (Lt w.heap.size) 3 A c (l.map GData.toD)) (hs' : Sl w (Lt w.heap.size) 3 B d (l.map GData.toD))
    (H : ∀ t, t ∈ l → ∀ (A1 : Option Addr) (c1 : Nat) (B1 : Option Addr) (d1 : Nat) (w : World), GData.At w (Lt w.heap.size) A1 c1 t → GData.At w (Lt w.heap.size) B1 d1 t →
      Calls Tryz.prog 38 #[.agg #[.string t.name, .int .i64 t.vars, .slice A1 t.cons.length c1], .agg #[.string t.name, .int .i64 t.vars, .slice B1 t.cons.length d1]] w fun e w' => e = .returned (.bool true) ∧ Below w.heap.size w w') :
    Calls Tryz.prog 17 #[.slice A l.length c, .slice B l.length d] w fun e w' => e = .returned (.bool true) ∧ Below w.heap.size w w' := by
  have hlen : l.length ≤ 9223372036854775807 := by simpa using hs.len
  have HH := Lib.hid H
  clear H
  go_enter Tryz.func17, Tryz.ntmps17
  go_wp2_with fail
  go_loopw [5] (fun i wr => ∃ (j : Nat), j ≤ l.length ∧ i = .int .i64 j ∧ Below w.heap.size w wr) (fun i _ => l.length - (intOf i).toNat)
  case atStart => exact ⟨0, by omega, by go_num, Below.refl _ _⟩
  case round =>
    obtain ⟨j, hj, rfl, hb⟩ := hrel
    have hsz := hb.size
    by_cases hlt : j < l.length
    · have hel := GData.elem (hs.below hb (Nat.le_refl _)) j hlt
      obtain ⟨b, off, A1, c1, rfl, hSb, g0, g1, g2, hat⟩ := hel
      have hel := GData.elem (hs'.below hb (Nat.le_refl _)) j hlt
      obtain ⟨b', off', B1, d1, rfl, hSb', g0', g1', g2', hat'⟩ := hel
      have hmem : l[j] ∈ l := List.getElem_mem hlt
      go_wp2_with fail
      refine wp_region_still_tail 8 (by kernel_rfl) (by kernel_rfl) ?_
      simp only [List.take_succ_cons, List.take_zero, List.drop_succ_cons, List.drop_zero]
      change wpStill _ _ wr.drew (fun a' => wpList _ _ _ _ a' wr.drew) _ _
      iterate 8 still_step
      refine wpStill_nil ?_
      go_wp2_with fail
      refine (HH.out _ hmem _ _ _ _ wr.drew (hat.keep fun b hb => ⟨Nat.lt_of_lt_of_le hb hsz, rfl⟩) (hat'.keep fun b hb => ⟨Nat.lt_of_lt_of_le hb hsz, rfl⟩)).mono ?_
      rintro e w1 ⟨rfl, hb1⟩
      go_wp2_with fail
      go_roundw
      case rel => exact ⟨j + 1, by omega, by go_num, hb.drew.trans (hb1.mono hsz)⟩
      case measure => simp [intOf]; omega
    · have hjl : j = l.length := by omega
      clear hjl
      go_wp2_with fail
      go_ret
      exact ⟨rfl, hb⟩

set_option maxRecDepth 20000 in
theorem eqData (t : GData) (A1 : Option Addr) (c1 : Nat) (B1 : Option Addr) (d1 : Nat) (w : World) (hat : GData.At w (Lt w.heap.size) A1 c1 t) (hat2 : GData.At w (Lt w.heap.size) B1 d1 t) :
      Calls Tryz.prog 38 #[.agg #[.string t.name, .int .i64 t.vars, .slice A1 t.cons.length c1], .agg #[.string t.name, .int .i64 t.vars, .slice B1 t.cons.length d1]] w fun e w' => e = .returned (.bool true) ∧ Below w.heap.size w w' := by
  have hat' := Lib.hid hat
  have hat2' := Lib.hid hat2
  clear hat hat2
  have B0 : Below w.heap.size w ((w.alloc (.cells #[.string t.name, .int .i64 t.vars, .slice A1 t.cons.length c1] 53)).alloc (.cells #[.string t.name, .int .i64 t.vars, .slice B1 t.cons.length d1] 53)) := ((Below.refl _ _).alloc (Nat.le_refl _) _).alloc (by simp) _
  have ra0 := Lib.hid ((Row.new w 53 #[.string t.name, .int .i64 t.vars, .slice A1 t.cons.length c1]).alloc (.cells #[.string t.name, .int .i64 t.vars, .slice B1 t.cons.length d1] 53))
  have rb0 := Lib.hid (Row.new' (w.alloc (.cells #[.string t.name, .int .i64 t.vars, .slice A1 t.cons.length c1] 53)) 53 #[.string t.name, .int .i64 t.vars, .slice B1 t.cons.length d1] (g := w.heap.size + 1) (by simp))
  go_enter Tryz.func38, Tryz.ntmps38
  go_wp2_with fail
  obtain ⟨-, -, q2⟩ := hat'.out.below B0 B0.size
  obtain ⟨-, -, p2⟩ := hat2'.out.below B0 B0.size
  refine (eqConS' t.cons A1 B1 c1 d1 _ q2 p2).mono ?_
  rintro e w1 ⟨rfl, hb1⟩
  have B1 := B0.trans (hb1.mono B0.size)
  go_wp2_with fail
  go_ret
  exact ⟨rfl, B1⟩

theorem eqData' (t : GData) (A1 : Option Addr) (c1 : Nat) (B1 : Option Addr) (d1 : Nat) (w : World) (hat : GData.At w (Lt w.heap.size) A1 c1 t) (hat2 : GData.At w (Lt w.heap.size) B1 d1 t) :
      Calls Tryz.prog 38 #[.agg #[.string t.name, .int .i64 t.vars, .slice A1 t.cons.length c1], .agg #[.string t.name, .int .i64 t.vars, .slice B1 t.cons.length d1]] w fun e w' => e = .returned (.bool true) ∧ Below w.heap.size w w' :=
  eqData t A1 c1 B1 d1 w hat hat2

theorem eqDataS' (l : List GData) (A B : Option Addr) (c d : Nat) (w : World) (hs : Sl w (Lt w.heap.size) 3 A c (l.map GData.toD)) (hs' : Sl w (Lt w.heap.size) 3 B d (l.map GData.toD)) :
    Calls Tryz.prog 17 #[.slice A l.length c, .slice B l.length d] w fun e w' => e = .returned (.bool true) ∧ Below w.heap.size w w' :=
  eqDataS l A B c d w hs hs' (fun u _ A1 c1 B1 d1 w hat hat2 => eqData' u A1 c1 B1 d1 w hat hat2)

end Go.Proofs.YtgbcdfeflgnogaaGreat

/- The laws' sz, to and eq functions at Prog. Conditions: what is counted is at most 1048576. -/
namespace Go.Proofs.YtgbcdfeflgnogaaGreat
open Go.RowKit
set_option linter.unusedVariables false
set_option linter.unusedSimpArgs false
set_option maxHeartbeats 400000


theorem szProg (t : GProg) (A1 : Option Addr) (c1 : Nat) (A2 : Option Addr) (c2 : Nat) (left : Int) (w : World) (h0 : 0 ≤ left) (h1 : left ≤ 1048576) (hat : GProg.At w (Lt w.heap.size) A1 c1 A2 c2 t) :
      Calls Tryz.prog 4 #[.agg #[.slice A1 t.datas.length c1, .int .i64 t.main.op, .int .i64 t.main.n, .string t.main.s, .string t.main.t, .slice A2 t.main.kids.length c2], .int .i64 left] w fun e w' => e = .returned (.int .i64 (szv t.bulk left)) ∧ Below w.heap.size w w' := by
  have hbe := t.bulk_eq
  obtain ⟨k0, k1⟩ := id hat
  have HE := Lib.hid hbe
  have hat' := Lib.hid hat
  clear hbe hat k0 k1
  have B0 : Below w.heap.size w (w.alloc (.cells #[.slice A1 t.datas.length c1, .int .i64 t.main.op, .int .i64 t.main.n, .string t.main.s, .string t.main.t, .slice A2 t.main.kids.length c2] 27)) := (Below.refl _ _).alloc (Nat.le_refl _) _
  have r0 := Lib.hid (Row.new w 27 #[.slice A1 t.datas.length c1, .int .i64 t.main.op, .int .i64 t.main.n, .string t.main.s, .string t.main.t, .slice A2 t.main.kids.length c2])
  go_enter Tryz.func4, Tryz.ntmps4
  go_wp2_with fail
  obtain ⟨k0, -⟩ := hat'.out.below B0 B0.size
  refine (szDataS' t.datas A1 c1 _ _ k0 (by omega) (by omega)).mono ?_
  rintro e w1 ⟨rfl, hb1⟩
  have B1 := B0.trans (hb1.mono B0.size)
  have r1 := Lib.hid (r0.out.below hb1 r0.out.lt)
  have hc1 := fun i => r1.out.cell i
  by_cases g0 : ((bulkL GData.bulk t.datas : Nat) : Int) ≤ left
  rotate_left
  · have hv := szv_gt (b := bulkL GData.bulk t.datas) (left := left) (by omega)
    go_wp2_with fail
    go_ret
    refine ⟨ret_int ?_, B1⟩
    have := HE.out
    rw [szv_gt (by omega)]
  have v0 := szv_le g0
  have q0 : 0 ≤ left - ((bulkL GData.bulk t.datas : Nat) : Int) := by omega
  go_wp2_with fail
  obtain ⟨-, k1⟩ := hat'.out.below B1 B1.size
  refine (szNode' t.main A2 c2 _ _ (by omega) (by omega) k1).mono ?_
  rintro e w2 ⟨rfl, hb2⟩
  have B2 := B1.trans (hb2.mono B1.size)
  by_cases g1 : ((t.main.bulk : Nat) : Int) ≤ left - ((bulkL GData.bulk t.datas : Nat) : Int)
  rotate_left
  · have hv := szv_gt (b := t.main.bulk) (left := left - ((bulkL GData.bulk t.datas : Nat) : Int)) (by omega)
    go_wp2_with fail
    go_ret
    refine ⟨ret_int ?_, B2⟩
    have := HE.out
    rw [szv_gt (by omega)]
  have v1 := szv_le g1
  have q1 : 0 ≤ left - ((bulkL GData.bulk t.datas : Nat) : Int) - ((t.main.bulk : Nat) : Int) := by omega
  go_wp2_with fail
  go_ret
  refine ⟨ret_int ?_, B2⟩
  have := HE.out
  rw [szv_le (by omega)]; omega

theorem szProg' (t : GProg) (A1 : Option Addr) (c1 : Nat) (A2 : Option Addr) (c2 : Nat) (left : Int) (w : World) (h0 : 0 ≤ left) (h1 : left ≤ 1048576) (hat : GProg.At w (Lt w.heap.size) A1 c1 A2 c2 t) :
      Calls Tryz.prog 4 #[.agg #[.slice A1 t.datas.length c1, .int .i64 t.main.op, .int .i64 t.main.n, .string t.main.s, .string t.main.t, .slice A2 t.main.kids.length c2], .int .i64 left] w fun e w' => e = .returned (.int .i64 (szv t.bulk left)) ∧ Below w.heap.size w w' :=
  szProg t A1 c1 A2 c2 left w h0 h1 hat


/-- what a to function gives back: a struct of the call's own -/
def ToProg (t : GProg) (w : World) (e : Ending) (w' : World) : Prop := ∃ A1 c1 A2 c2, e = .returned (.agg #[.slice A1 t.datas.length c1, .int .i64 t.main.op, .int .i64 t.main.n, .string t.main.s, .string t.main.t, .slice A2 t.main.kids.length c2]) ∧ GProg.Ow w' (Btw w.heap.size w'.heap.size) A1 c1 A2 c2 t ∧ Below w.heap.size w w'
def ToProgS (l : List GProg) (w : World) (e : Ending) (w' : World) : Prop := ∃ A1 c1, e = .returned (.slice A1 l.length c1) ∧ Osl w' (Btw w.heap.size w'.heap.size) 6 A1 c1 (l.map GProg.toD) ∧ Below w.heap.size w w'



theorem toProg (t : GProg) (A1 : Option Addr) (c1 : Nat) (A2 : Option Addr) (c2 : Nat) (w : World) (h1 : t.bulk ≤ 1048576) (hat : GProg.At w (Lt w.heap.size) A1 c1 A2 c2 t) :
      Calls Tryz.prog 6 #[.agg #[.slice A1 t.datas.length c1, .int .i64 t.main.op, .int .i64 t.main.n, .string t.main.s, .string t.main.t, .slice A2 t.main.kids.length c2]] w (ToProg t w) := by
  have hbe := t.bulk_eq
  have m0 : bulkL GData.bulk t.datas ≤ 1048576 := by omega
  have m1 : t.main.bulk ≤ 1048576 := by omega
  have hat' := Lib.hid hat
  clear hbe hat
  go_enter Tryz.func6, Tryz.ntmps6
  go_wp2_with fail
  have W0 : ∃ w0, w0 = ((w.alloc (.cells #[.slice A1 t.datas.length c1, .int .i64 t.main.op, .int .i64 t.main.n, .string t.main.s, .string t.main.t, .slice A2 t.main.kids.length c2] 27)).alloc (.cells #[.slice none 0 0, .int .i64 0, .int .i64 0, .string ⟨#[]⟩, .string ⟨#[]⟩, .slice none 0 0] 35)).alloc (.cells #[.slice none 0 0, .int .i64 0, .int .i64 0, .string ⟨#[]⟩, .string ⟨#[]⟩, .slice none 0 0] 35) := ⟨_, rfl⟩
  obtain ⟨w0, e0⟩ := W0
  have B0 : Below w.heap.size w w0 := by rw [e0]; exact (((Below.refl _ _).alloc (Nat.le_refl _) _).alloc (by simp) _).alloc (by simp; omega) _
  have S0 : w0.heap.size = w.heap.size + 3 := by rw [e0]; simp
  have Ra0 : Row w0 w.heap.size 27 #[.slice A1 t.datas.length c1, .int .i64 t.main.op, .int .i64 t.main.n, .string t.main.s, .string t.main.t, .slice A2 t.main.kids.length c2] := by rw [e0]; exact ((Row.new' _ _ _ rfl).alloc _).alloc _
  have Rz0 : Row w0 (w.heap.size + 1) 35 #[.slice none 0 0, .int .i64 0, .int .i64 0, .string ⟨#[]⟩, .string ⟨#[]⟩, .slice none 0 0] := by rw [e0]; exact (Row.new' _ _ _ (by simp)).alloc _
  have Ro0 : Row w0 (w.heap.size + 1 + 1) 35 #[.slice none 0 0, .int .i64 0, .int .i64 0, .string ⟨#[]⟩, .string ⟨#[]⟩, .slice none 0 0] := by rw [e0]; exact Row.new' _ _ _ (by simp)
  rw [← e0]
  clear e0
  obtain ⟨q0, -⟩ := hat'.out.below B0 B0.size
  refine (toDataS' t.datas A1 c1 (w0) q0 m0).mono ?_
  rintro e w1 ⟨D1, d1, rfl, how0, hb1⟩
  have hs1 := hb1.size
  have X1 := B0.trans (hb1.mono B0.size)
  have Rax1 := Lib.hid (Ra0.below hb1 Ra0.lt)
  have Rzx1 := Lib.hid (Rz0.below hb1 Rz0.lt)
  have Rox1 := Lib.hid (Ro0.below hb1 Ro0.lt)
  have hca1 := fun i => Rax1.out.cell i
  have hcz1 := fun i => Rzx1.out.cell i
  have hco1 := fun i => Rox1.out.cell i
  have hfz1 := fun i => Rzx1.out.frozen i
  have hfo1 := fun i => Rox1.out.frozen i
  have B1 := setCells_below X1 (w.heap.size + 1 + 1) 0 (by omega) [.slice D1 t.datas.length d1]
  have Ra1 : Hid (Row (setCells w1 (w.heap.size + 1 + 1) 0 [.slice D1 t.datas.length d1]) w.heap.size 27 #[.slice A1 t.datas.length c1, .int .i64 t.main.op, .int .i64 t.main.n, .string t.main.s, .string t.main.t, .slice A2 t.main.kids.length c2]) := (Rax1.out).far (p := ⟨w.heap.size + 1 + 1, 0, none⟩) (by simp <;> omega) (.slice D1 t.datas.length d1)
  have Rz1 : Hid (Row (setCells w1 (w.heap.size + 1 + 1) 0 [.slice D1 t.datas.length d1]) (w.heap.size + 1) 35 #[.slice none 0 0, .int .i64 0, .int .i64 0, .string ⟨#[]⟩, .string ⟨#[]⟩, .slice none 0 0]) := (Rzx1.out).far (p := ⟨w.heap.size + 1 + 1, 0, none⟩) (by simp <;> omega) (.slice D1 t.datas.length d1)
  have Ro1 : Hid (Row (setCells w1 (w.heap.size + 1 + 1) 0 [.slice D1 t.datas.length d1]) (w.heap.size + 1 + 1) 35 #[.slice D1 t.datas.length d1, .int .i64 0, .int .i64 0, .string ⟨#[]⟩, .string ⟨#[]⟩, .slice none 0 0]) := (Rox1.out).set 0 (.slice D1 t.datas.length d1)
  replace how0 := how0.keep (S' := Btw (w0).heap.size (w1).heap.size) (w' := setCells w1 (w.heap.size + 1 + 1) 0 [.slice D1 t.datas.length d1]) fun b hb => ⟨hb, setCells_block _ _ _ _ _ (by have := hb.1; first | omega | (simp only [setCells_size] at *; omega) | (simp only [setCells_size] at *; done))⟩
  go_wp2_with fail
  obtain ⟨-, q1⟩ := hat'.out.below B1 B1.size
  refine (toNode' t.main A2 c2 (setCells w1 (w.heap.size + 1 + 1) 0 [.slice D1 t.datas.length d1]) m1 q1).mono ?_
  rintro e w2 ⟨D2, d2, rfl, how1, hb2⟩
  have hs2 := hb2.size
  have X2 := B1.trans (hb2.mono B1.size)
  have Rax2 := Lib.hid (Ra1.out.below hb2 Ra1.out.lt)
  have Rzx2 := Lib.hid (Rz1.out.below hb2 Rz1.out.lt)
  have Rox2 := Lib.hid (Ro1.out.below hb2 Ro1.out.lt)
  have hca2 := fun i => Rax2.out.cell i
  have hcz2 := fun i => Rzx2.out.cell i
  have hco2 := fun i => Rox2.out.cell i
  have hfz2 := fun i => Rzx2.out.frozen i
  have hfo2 := fun i => Rox2.out.frozen i
  replace how0 := how0.keep (S' := Btw (w0).heap.size (w1).heap.size) fun b hb => ⟨hb, hb2.block b (by have := hb.2; have := hs2; first | omega | (simp only [setCells_size] at *; omega) | (simp only [setCells_size] at *; done))⟩
  have B2 := setCells_below X2 (w.heap.size + 1 + 1) 1 (by omega) [.int .i64 t.main.op, .int .i64 t.main.n, .string t.main.s, .string t.main.t, .slice D2 t.main.kids.length d2]
  have Ra2 : Hid (Row (setCells w2 (w.heap.size + 1 + 1) 1 [.int .i64 t.main.op, .int .i64 t.main.n, .string t.main.s, .string t.main.t, .slice D2 t.main.kids.length d2]) w.heap.size 27 #[.slice A1 t.datas.length c1, .int .i64 t.main.op, .int .i64 t.main.n, .string t.main.s, .string t.main.t, .slice A2 t.main.kids.length c2]) := (((((Rax2.out).far (p := ⟨w.heap.size + 1 + 1, 1, none⟩) (by simp <;> omega) (.int .i64 t.main.op)).far (p := ⟨w.heap.size + 1 + 1, 2, none⟩) (by simp <;> omega) (.int .i64 t.main.n)).far (p := ⟨w.heap.size + 1 + 1, 3, none⟩) (by simp <;> omega) (.string t.main.s)).far (p := ⟨w.heap.size + 1 + 1, 4, none⟩) (by simp <;> omega) (.string t.main.t)).far (p := ⟨w.heap.size + 1 + 1, 5, none⟩) (by simp <;> omega) (.slice D2 t.main.kids.length d2)
  have Rz2 : Hid (Row (setCells w2 (w.heap.size + 1 + 1) 1 [.int .i64 t.main.op, .int .i64 t.main.n, .string t.main.s, .string t.main.t, .slice D2 t.main.kids.length d2]) (w.heap.size + 1) 35 #[.slice none 0 0, .int .i64 0, .int .i64 0, .string ⟨#[]⟩, .string ⟨#[]⟩, .slice none 0 0]) := (((((Rzx2.out).far (p := ⟨w.heap.size + 1 + 1, 1, none⟩) (by simp <;> omega) (.int .i64 t.main.op)).far (p := ⟨w.heap.size + 1 + 1, 2, none⟩) (by simp <;> omega) (.int .i64 t.main.n)).far (p := ⟨w.heap.size + 1 + 1, 3, none⟩) (by simp <;> omega) (.string t.main.s)).far (p := ⟨w.heap.size + 1 + 1, 4, none⟩) (by simp <;> omega) (.string t.main.t)).far (p := ⟨w.heap.size + 1 + 1, 5, none⟩) (by simp <;> omega) (.slice D2 t.main.kids.length d2)
  have Ro2 : Hid (Row (setCells w2 (w.heap.size + 1 + 1) 1 [.int .i64 t.main.op, .int .i64 t.main.n, .string t.main.s, .string t.main.t, .slice D2 t.main.kids.length d2]) (w.heap.size + 1 + 1) 35 #[.slice D1 t.datas.length d1, .int .i64 t.main.op, .int .i64 t.main.n, .string t.main.s, .string t.main.t, .slice D2 t.main.kids.length d2]) := (((((Rox2.out).set 1 (.int .i64 t.main.op)).set 2 (.int .i64 t.main.n)).set 3 (.string t.main.s)).set 4 (.string t.main.t)).set 5 (.slice D2 t.main.kids.length d2)
  replace how0 := how0.keep (S' := Btw (w0).heap.size (w1).heap.size) (w' := setCells w2 (w.heap.size + 1 + 1) 1 [.int .i64 t.main.op, .int .i64 t.main.n, .string t.main.s, .string t.main.t, .slice D2 t.main.kids.length d2]) fun b hb => ⟨hb, setCells_block _ _ _ _ _ (by have := hb.1; first | omega | (simp only [setCells_size] at *; omega) | (simp only [setCells_size] at *; done))⟩
  replace how1 := how1.keep (S' := Btw (setCells w1 (w.heap.size + 1 + 1) 0 [.slice D1 t.datas.length d1]).heap.size (w2).heap.size) (w' := setCells w2 (w.heap.size + 1 + 1) 1 [.int .i64 t.main.op, .int .i64 t.main.n, .string t.main.s, .string t.main.t, .slice D2 t.main.kids.length d2]) fun b hb => ⟨hb, setCells_block _ _ _ _ _ (by have := hb.1; first | omega | (simp only [setCells_size] at *; omega) | (simp only [setCells_size] at *; done))⟩
  have BF := setCells_below B2 (w.heap.size + 1) 0 (by omega) [.slice D1 t.datas.length d1, .int .i64 t.main.op, .int .i64 t.main.n, .string t.main.s, .string t.main.t, .slice D2 t.main.kids.length d2]
  have SF : (setCells (setCells w2 (w.heap.size + 1 + 1) 1 [.int .i64 t.main.op, .int .i64 t.main.n, .string t.main.s, .string t.main.t, .slice D2 t.main.kids.length d2]) (w.heap.size + 1) 0 [.slice D1 t.datas.length d1, .int .i64 t.main.op, .int .i64 t.main.n, .string t.main.s, .string t.main.t, .slice D2 t.main.kids.length d2]).heap.size = w2.heap.size := by rw [setCells_size, setCells_size]
  replace how0 := how0.keep (S' := Btw (w0).heap.size (w1).heap.size) (w' := setCells (setCells w2 (w.heap.size + 1 + 1) 1 [.int .i64 t.main.op, .int .i64 t.main.n, .string t.main.s, .string t.main.t, .slice D2 t.main.kids.length d2]) (w.heap.size + 1) 0 [.slice D1 t.datas.length d1, .int .i64 t.main.op, .int .i64 t.main.n, .string t.main.s, .string t.main.t, .slice D2 t.main.kids.length d2]) fun b hb => ⟨hb, setCells_block _ _ _ _ _ (by have := hb.1; first | omega | (simp only [setCells_size] at *; omega) | (simp only [setCells_size] at *; done))⟩
  replace how1 := how1.keep (S' := Btw (setCells w1 (w.heap.size + 1 + 1) 0 [.slice D1 t.datas.length d1]).heap.size (w2).heap.size) (w' := setCells (setCells w2 (w.heap.size + 1 + 1) 1 [.int .i64 t.main.op, .int .i64 t.main.n, .string t.main.s, .string t.main.t, .slice D2 t.main.kids.length d2]) (w.heap.size + 1) 0 [.slice D1 t.datas.length d1, .int .i64 t.main.op, .int .i64 t.main.n, .string t.main.s, .string t.main.t, .slice D2 t.main.kids.length d2]) fun b hb => ⟨hb, setCells_block _ _ _ _ _ (by have := hb.1; first | omega | (simp only [setCells_size] at *; omega) | (simp only [setCells_size] at *; done))⟩
  have qs := hat'.out
  obtain ⟨p0, p1⟩ := qs
  go_wp2_with fail
  exact bodyPost_ret (v := .agg #[.slice D1 t.datas.length d1, .int .i64 t.main.op, .int .i64 t.main.n, .string t.main.s, .string t.main.t, .slice D2 t.main.kids.length d2]) (by simp [results, Tryz.results6, go_sem, hca2, hcz2, hco2]) rfl ⟨D1, d1, D2, d2, rfl, ⟨Btw (w0).heap.size (w1).heap.size, Btw (setCells w1 (w.heap.size + 1 + 1) 0 [.slice D1 t.datas.length d1]).heap.size (w2).heap.size, fun x hx => ⟨by have := hx.1; first | omega | (simp only [setCells_size] at *; omega) | (simp only [setCells_size] at *; done), by have := hx.2; have := SF; first | omega | (have h3 := SF; exact Nat.lt_of_lt_of_le (by first | omega | (simp only [setCells_size] at *; omega)) (Nat.le_of_eq h3.symm)) | (simp only [setCells_size] at *; omega) | (simp only [setCells_size] at *; done)⟩, fun x hx => ⟨by have := hx.1; first | omega | (simp only [setCells_size] at *; omega) | (simp only [setCells_size] at *; done), by have := hx.2; have := SF; first | omega | (have h3 := SF; exact Nat.lt_of_lt_of_le (by first | omega | (simp only [setCells_size] at *; omega)) (Nat.le_of_eq h3.symm)) | (simp only [setCells_size] at *; omega) | (simp only [setCells_size] at *; done)⟩, fun x hx hy => by have := hx.2; have := hy.1; first | omega | (simp only [setCells_size] at *; omega) | (simp only [setCells_size] at *; done), how0, how1⟩, BF⟩

theorem toProg' (t : GProg) (A1 : Option Addr) (c1 : Nat) (A2 : Option Addr) (c2 : Nat) (w : World) (h1 : t.bulk ≤ 1048576) (hat : GProg.At w (Lt w.heap.size) A1 c1 A2 c2 t) :
      Calls Tryz.prog 6 #[.agg #[.slice A1 t.datas.length c1, .int .i64 t.main.op, .int .i64 t.main.n, .string t.main.s, .string t.main.t, .slice A2 t.main.kids.length c2]] w (ToProg t w) :=
  toProg t A1 c1 A2 c2 w h1 hat



set_option maxRecDepth 20000 in
theorem eqProg (t : GProg) (A1 : Option Addr) (c1 : Nat) (A2 : Option Addr) (c2 : Nat) (B1 : Option Addr) (d1 : Nat) (B2 : Option Addr) (d2 : Nat) (w : World) (hat : GProg.At w (Lt w.heap.size) A1 c1 A2 c2 t) (hat2 : GProg.At w (Lt w.heap.size) B1 d1 B2 d2 t) :
      Calls Tryz.prog 8 #[.agg #[.slice A1 t.datas.length c1, .int .i64 t.main.op, .int .i64 t.main.n, .string t.main.s, .string t.main.t, .slice A2 t.main.kids.length c2], .agg #[.slice B1 t.datas.length d1, .int .i64 t.main.op, .int .i64 t.main.n, .string t.main.s, .string t.main.t, .slice B2 t.main.kids.length d2]] w fun e w' => e = .returned (.bool true) ∧ Below w.heap.size w w' := by
  have hat' := Lib.hid hat
  have hat2' := Lib.hid hat2
  clear hat hat2
  have B0 : Below w.heap.size w ((w.alloc (.cells #[.slice A1 t.datas.length c1, .int .i64 t.main.op, .int .i64 t.main.n, .string t.main.s, .string t.main.t, .slice A2 t.main.kids.length c2] 35)).alloc (.cells #[.slice B1 t.datas.length d1, .int .i64 t.main.op, .int .i64 t.main.n, .string t.main.s, .string t.main.t, .slice B2 t.main.kids.length d2] 35)) := ((Below.refl _ _).alloc (Nat.le_refl _) _).alloc (by simp) _
  have ra0 := Lib.hid ((Row.new w 35 #[.slice A1 t.datas.length c1, .int .i64 t.main.op, .int .i64 t.main.n, .string t.main.s, .string t.main.t, .slice A2 t.main.kids.length c2]).alloc (.cells #[.slice B1 t.datas.length d1, .int .i64 t.main.op, .int .i64 t.main.n, .string t.main.s, .string t.main.t, .slice B2 t.main.kids.length d2] 35))
  have rb0 := Lib.hid (Row.new' (w.alloc (.cells #[.slice A1 t.datas.length c1, .int .i64 t.main.op, .int .i64 t.main.n, .string t.main.s, .string t.main.t, .slice A2 t.main.kids.length c2] 35)) 35 #[.slice B1 t.datas.length d1, .int .i64 t.main.op, .int .i64 t.main.n, .string t.main.s, .string t.main.t, .slice B2 t.main.kids.length d2] (g := w.heap.size + 1) (by simp))
  go_enter Tryz.func8, Tryz.ntmps8
  go_wp2_with fail
  obtain ⟨q0, -⟩ := hat'.out.below B0 B0.size
  obtain ⟨p0, -⟩ := hat2'.out.below B0 B0.size
  refine (eqDataS' t.datas A1 B1 c1 d1 _ q0 p0).mono ?_
  rintro e w1 ⟨rfl, hb1⟩
  have B1 := B0.trans (hb1.mono B0.size)
  have ra1 := Lib.hid (ra0.out.below hb1 ra0.out.lt)
  have rb1 := Lib.hid (rb0.out.below hb1 rb0.out.lt)
  have ha1 := fun i => ra1.out.cell i
  have hq1 := fun i => rb1.out.cell i
  go_wp2_with fail
  obtain ⟨-, q1⟩ := hat'.out.below B1 B1.size
  obtain ⟨-, p1⟩ := hat2'.out.below B1 B1.size
  refine (eqNode' t.main A2 c2 B2 d2 _ q1 p1).mono ?_
  rintro e w2 ⟨rfl, hb2⟩
  have B2 := B1.trans (hb2.mono B1.size)
  go_wp2_with fail
  go_ret
  exact ⟨rfl, B2⟩

theorem eqProg' (t : GProg) (A1 : Option Addr) (c1 : Nat) (A2 : Option Addr) (c2 : Nat) (B1 : Option Addr) (d1 : Nat) (B2 : Option Addr) (d2 : Nat) (w : World) (hat : GProg.At w (Lt w.heap.size) A1 c1 A2 c2 t) (hat2 : GProg.At w (Lt w.heap.size) B1 d1 B2 d2 t) :
      Calls Tryz.prog 8 #[.agg #[.slice A1 t.datas.length c1, .int .i64 t.main.op, .int .i64 t.main.n, .string t.main.s, .string t.main.t, .slice A2 t.main.kids.length c2], .agg #[.slice B1 t.datas.length d1, .int .i64 t.main.op, .int .i64 t.main.n, .string t.main.s, .string t.main.t, .slice B2 t.main.kids.length d2]] w fun e w' => e = .returned (.bool true) ∧ Below w.heap.size w w' :=
  eqProg t A1 c1 A2 c2 B1 d1 B2 d2 w hat hat2


end Go.Proofs.YtgbcdfeflgnogaaGreat
