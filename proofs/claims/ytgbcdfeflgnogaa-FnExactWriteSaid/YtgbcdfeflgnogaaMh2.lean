/- Several texts of this claim in one: ATy ACon AData ANode AProg. Conditions: none but bounds on sizes. -/
import Derived.Test.YtgbcdfeflgnogaaRows
import Derived.Test.YtgbcdfeflgnogaaPw
import Derived.Test.YtgbcdfeflgnogaaGTy
import Derived.Lib.Hide
import Derived.StillTailTactics
import Derived.Test.YtgbcdfeflgnogaaGCon
import Derived.Test.YtgbcdfeflgnogaaGData
import Derived.Test.YtgbcdfeflgnogaaGNode
import Derived.Test.YtgbcdfeflgnogaaGProg
/- The laws' sz, to and eq functions at Ty. Conditions: what is counted is at most 1048576. -/
namespace Go.Proofs.Ytgbcdfeflgnogaa
open Go.RowKit
set_option linter.unusedVariables false
set_option linter.unusedSimpArgs false
set_option maxHeartbeats 400000

theorem szTyS (l : List GTy) (A : Option Addr) (c : Nat) (left : Int) (w : World) (hs : Sl w (Lt w.heap.size) 4 A c (l.map GTy.toD)) (h0 : 0 ≤ left) (h1 : left ≤ 1048576)
    (H : ∀ t, t ∈ l → ∀ (A1 : Option Addr) (c1 : Nat) (left : Int) (w : World), 0 ≤ left → left ≤ 1048576 → GTy.At w (Lt w.heap.size) A1 c1 t →
      Calls Try.prog 76 #[.agg #[.int .i64 t.op, .int .i64 t.n, .string t.s, .slice A1 t.kids.length c1], .int .i64 left] w fun e w' => e = .returned (.int .i64 (szv t.bulk left)) ∧ Below w.heap.size w w') :
    Calls Try.prog 158 #[.slice A l.length c, .int .i64 left] w fun e w' => e = .returned (.int .i64 (szv (bulkL GTy.bulk l) left)) ∧ Below w.heap.size w w' := by
  have hlen : l.length ≤ 9223372036854775807 := by simpa using hs.len
  have HH := Lib.hid H
  clear H
  by_cases hll : left < (l.length : Int)
  · have hg : left - (l.length : Int) < 0 := by omega
    have hv := Lib.hid (szv_gt (b := bulkL GTy.bulk l) (left := left) (by have := bulkL_len GTy.bulk l; omega))
    go_enter Try.func158, Try.ntmps158
    go_wp2_with fail
    go_ret
    exact ⟨ret_int hv.out.symm, Below.refl _ _⟩
  · have hg : 0 ≤ left - (l.length : Int) := by omega
    go_enter Try.func158, Try.ntmps158
    go_wp2_with fail
    go_loopw [1, 5] (fun n i wr => ∃ (j : Nat) (L : Int), j ≤ l.length ∧ i = .int .i64 j ∧ n = .int .i64 L ∧ L = left - l.length - (bulkL GTy.bulk (l.take j) - j) ∧ 0 ≤ L ∧ L ≤ left ∧ Below w.heap.size w wr) (fun _ i _ => l.length - (intOf i).toNat)
    case atStart => exact ⟨0, _, by omega, by go_num, rfl, by simp [bulkL], by omega, by omega, Below.refl _ _⟩
    case round =>
      obtain ⟨j, L, hj, rfl, rfl, hL, hL0, hL1, hb⟩ := hrel
      have HL := Lib.hid hL
      clear hL
      have hsz := hb.size
      by_cases hlt : j < l.length
      · have hel := GTy.elem (hs.below hb (Nat.le_refl _)) j hlt
        obtain ⟨b, off, A1, c1, rfl, hSb, g0, g1, g2, g3, hat⟩ := hel
        have hmem : l[j] ∈ l := List.getElem_mem hlt
        have hts := Lib.hid (bulkL_take_succ GTy.bulk l j hlt)
        have htl := Lib.hid (bulkL_take_le GTy.bulk l (j + 1) (by omega))
        have htg := Lib.hid (bulkL_take_ge GTy.bulk l j (by omega))
        go_wp2_with fail
        refine (HH.out _ hmem _ _ L _ hL0 (by omega) (hat.below (Below.refl _ _) hsz)).mono ?_
        rintro e w1 ⟨rfl, hb1⟩
        by_cases hle : ((l[j]).bulk : Int) ≤ L
        · have hv := szv_le hle
          have hge : 0 ≤ L - ((l[j]).bulk : Int) := by omega
          go_wp2_with fail
          go_roundw
          case rel => exact ⟨j + 1, _, by omega, by go_num, rfl, by rw [hts.out, HL.out]; omega, by omega, by omega, hb.trans (hb1.mono hsz)⟩
          case measure => simp [intOf]; omega
        · have hv := szv_gt (b := (l[j]).bulk) (left := L) (by omega)
          go_wp2_with fail
          go_ret
          refine ⟨ret_int ?_, hb.trans (hb1.mono hsz)⟩
          have e1 := hts.out; have e2 := htl.out; have e3 := htg.out; have e4 := HL.out
          rw [szv_gt (by omega)]
      · have hjl : j = l.length := by omega
        have Hj := Lib.hid hjl
        clear hjl
        go_wp2_with fail
        go_ret
        refine ⟨ret_int ?_, hb⟩
        have e4 := HL.out
        rw [Hj.out, List.take_length] at e4
        have := bulkL_len GTy.bulk l
        rw [szv_le (by omega)]; omega

theorem szTy (k : Nat) : ∀ (t : GTy) (A1 : Option Addr) (c1 : Nat) (left : Int) (w : World), t.bulk < k → 0 ≤ left → left ≤ 1048576 → GTy.At w (Lt w.heap.size) A1 c1 t →
      Calls Try.prog 76 #[.agg #[.int .i64 t.op, .int .i64 t.n, .string t.s, .slice A1 t.kids.length c1], .int .i64 left] w fun e w' => e = .returned (.int .i64 (szv t.bulk left)) ∧ Below w.heap.size w w' := by
  induction k with
  | zero => intro t A1 c1 left w hk; omega
  | succ k ih =>
    intro t A1 c1 left w hk h0 h1 hat
    have hbe := t.bulk_eq
    obtain ⟨k0, k1, k2, k3⟩ := id hat
    have s2 : t.s.size ≤ 9223372036854775807 := by unfold maxLen at k2; omega
    have H3 := fun (left : Int) (w : World) hs h0 h1 => szTyS t.kids A1 c1 left w hs h0 h1 (fun u hu A1 c1 left w h0 h1 hat => ih u A1 c1 left w (by have := bulkL_mem GTy.bulk t.kids u hu; omega) h0 h1 hat)
    have HH := Lib.hid H3
    have HE := Lib.hid hbe
    have hat' := Lib.hid hat
    clear hbe hat k0 k1 k2 k3 H3 ih
    have B0 : Below w.heap.size w (w.alloc (.cells #[.int .i64 t.op, .int .i64 t.n, .string t.s, .slice A1 t.kids.length c1] 104)) := (Below.refl _ _).alloc (Nat.le_refl _) _
    have r0 := Lib.hid (Row.new w 104 #[.int .i64 t.op, .int .i64 t.n, .string t.s, .slice A1 t.kids.length c1])
    go_enter Try.func76, Try.ntmps76
    by_cases g2 : ((t.s.size : Nat) : Int) ≤ left
    rotate_left
    · have q2 : left - ((t.s.size : Nat) : Int) < 0 := by omega
      go_wp2_with fail
      go_ret
      refine ⟨ret_int ?_, B0⟩
      have := HE.out
      rw [szv_gt (by omega)]
    have q2 : 0 ≤ left - ((t.s.size : Nat) : Int) := by omega
    go_wp2_with fail
    obtain ⟨-, -, -, k3⟩ := hat'.out.below B0 B0.size
    refine (HH.out _ _ k3 (by omega) (by omega)).mono ?_
    rintro e w1 ⟨rfl, hb1⟩
    have B1 := B0.trans (hb1.mono B0.size)
    by_cases g3 : ((bulkL GTy.bulk t.kids : Nat) : Int) ≤ left - ((t.s.size : Nat) : Int)
    rotate_left
    · have hv := szv_gt (b := bulkL GTy.bulk t.kids) (left := left - ((t.s.size : Nat) : Int)) (by omega)
      go_wp2_with fail
      go_ret
      refine ⟨ret_int ?_, B1⟩
      have := HE.out
      rw [szv_gt (by omega)]
    have v3 := szv_le g3
    have q3 : 0 ≤ left - ((t.s.size : Nat) : Int) - ((bulkL GTy.bulk t.kids : Nat) : Int) := by omega
    go_wp2_with fail
    go_ret
    refine ⟨ret_int ?_, B1⟩
    have := HE.out
    rw [szv_le (by omega)]; omega

theorem szTy' (t : GTy) (A1 : Option Addr) (c1 : Nat) (left : Int) (w : World) (h0 : 0 ≤ left) (h1 : left ≤ 1048576) (hat : GTy.At w (Lt w.heap.size) A1 c1 t) :
      Calls Try.prog 76 #[.agg #[.int .i64 t.op, .int .i64 t.n, .string t.s, .slice A1 t.kids.length c1], .int .i64 left] w fun e w' => e = .returned (.int .i64 (szv t.bulk left)) ∧ Below w.heap.size w w' :=
  szTy (t.bulk + 1) t A1 c1 left w (by omega) h0 h1 hat

theorem szTyS' (l : List GTy) (A : Option Addr) (c : Nat) (left : Int) (w : World) (hs : Sl w (Lt w.heap.size) 4 A c (l.map GTy.toD)) (h0 : 0 ≤ left) (h1 : left ≤ 1048576) :
    Calls Try.prog 158 #[.slice A l.length c, .int .i64 left] w fun e w' => e = .returned (.int .i64 (szv (bulkL GTy.bulk l) left)) ∧ Below w.heap.size w w' :=
  szTyS l A c left w hs h0 h1 (fun u _ A1 c1 left w h0 h1 hat => szTy' u A1 c1 left w h0 h1 hat)

/-- what a to function gives back: a struct of the call's own -/
def ToTy (t : GTy) (w : World) (e : Ending) (w' : World) : Prop := ∃ A1 c1, e = .returned (.agg #[.int .i64 t.op, .int .i64 t.n, .string t.s, .slice A1 t.kids.length c1]) ∧ GTy.Ow w' (Btw w.heap.size w'.heap.size) A1 c1 t ∧ Below w.heap.size w w'
def ToTyS (l : List GTy) (w : World) (e : Ending) (w' : World) : Prop := ∃ A1 c1, e = .returned (.slice A1 l.length c1) ∧ Osl w' (Btw w.heap.size w'.heap.size) 4 A1 c1 (l.map GTy.toD) ∧ Below w.heap.size w w'

def zTy : Value := .agg #[.int .i64 0, .int .i64 0, .string ⟨#[]⟩, .slice none 0 0]
theorem mkTy (n : Nat) (hn : n ≤ 1048576) (w : World) : (Instr.makeSlice 57 (.int .i64 (n : Int)) (.int .i64 (n : Int))).run Try.prog w = .ok (.slice (some ⟨w.heap.size, 0, none⟩) n n) (w.alloc (.cells (zr zTy 4 n) 59)) :=
  run_mk 57 59 zTy 4 56 Try.underlying57 (by kernel_rfl) n hn (by omega) w

theorem toTyS (l : List GTy) (A : Option Addr) (c : Nat) (w : World) (hs : Sl w (Lt w.heap.size) 4 A c (l.map GTy.toD)) (hl : l.length ≤ 1048576)
    (H : ∀ t, t ∈ l → ∀ (A1 : Option Addr) (c1 : Nat) (w : World), GTy.At w (Lt w.heap.size) A1 c1 t →
      Calls Try.prog 78 #[.agg #[.int .i64 t.op, .int .i64 t.n, .string t.s, .slice A1 t.kids.length c1]] w (ToTy t w)) :
    Calls Try.prog 160 #[.slice A l.length c] w (ToTyS l w) := by
  have HH := Lib.hid H
  clear H
  have hmk := mkTy l.length hl
  go_enter Try.func160, Try.ntmps160
  go_wp2_with fail
  clear hmk
  go_loopw [4] (fun i wr => ∃ (j : Nat) (row : Array Value), j ≤ l.length ∧ i = .int .i64 j ∧ Row wr w.heap.size 59 row ∧ row.size = l.length * 4 ∧
      D.ownR wr 4 w.heap.size ((l.take j).map GTy.toD) (fun b => w.heap.size < b ∧ b < wr.heap.size) 0 ∧ Below w.heap.size w wr) (fun i _ => l.length - (intOf i).toNat)
  case atStart => exact ⟨0, _, by omega, by go_num, Row.new _ _ _, zr_size _ _ _, by simp [D.ownR], (Below.refl _ _).alloc (Nat.le_refl _) _⟩
  case round =>
    obtain ⟨j, row, hj, rfl, hrow, hrs, hown, hb⟩ := hrel
    have hsz := hb.size
    have hgl := hrow.lt
    by_cases hlt : j < l.length
    · have hel := GTy.elem (hs.below hb (Nat.le_refl _)) j hlt
      obtain ⟨b, off, A1, c1, rfl, hSb, g0, g1, g2, g3, hat⟩ := hel
      have hmem : l[j] ∈ l := List.getElem_mem hlt
      go_wp2_with fail
      refine (HH.out _ hmem _ _ _ (hat.below (Below.refl _ _) hsz)).mono ?_
      rintro e w1 ⟨B1, d1, rfl, how, hb1⟩
      have hrow1 := Lib.hid (hrow.below hb1 hgl)
      have hf := fun i => hrow1.out.frozen i
      obtain ⟨v0, y0⟩ := row_some (row := row) (j * 4) (by omega)
      obtain ⟨v1, y1⟩ := row_some (row := row) (j * 4 + 1) (by omega)
      obtain ⟨v2, y2⟩ := row_some (row := row) (j * 4 + 2) (by omega)
      obtain ⟨v3, y3⟩ := row_some (row := row) (j * 4 + 3) (by omega)
      have x0 := (hrow1.out.cell (j * 4)).trans y0
      have x1 := (hrow1.out.cell (j * 4 + 1)).trans y1
      have x2 := (hrow1.out.cell (j * 4 + 2)).trans y2
      have x3 := (hrow1.out.cell (j * 4 + 3)).trans y3
      clear y0 y1 y2 y3
      have hst := fill_step hrow1.out (j := j) (m := wr.heap.size) (xs := (l.take j).map GTy.toD) (size := 4) (by simp; omega) (by omega) hgl hb1.size
        (D.ownR_keep 4 _ _ _ _ 0 (fun b hb => ⟨hb, hb1.block b hb.2⟩) (fun i _ => hb1.cell (p := ⟨w.heap.size, i, none⟩) hgl) hown) (GTy.own_mk how) rfl
      have hB := setCells_below (hb.trans (hb1.mono hsz)) w.heap.size (j * 4) (Nat.le_refl _) [.int .i64 l[j].op, .int .i64 l[j].n, .string l[j].s, .slice B1 l[j].kids.length d1]
      go_wp2_with fail
      go_roundw
      case rel =>
        obtain ⟨row', p1, p2, p3⟩ := hst
        exact ⟨j + 1, row', by omega, by go_num, p1, by omega, by rw [take_snoc' l j hlt, List.map_append]; exact p3, hB⟩
      case measure => simp [intOf]; omega
    · have hjl : j = l.length := by omega
      have Hj := Lib.hid hjl
      clear hjl
      go_wp2_with fail
      go_ret
      rw [Hj.out, List.take_length] at hown
      exact ⟨_, _, rfl, fill_end hrow (Nat.le_refl _) (by simp) (by unfold maxLen; omega) hown, hb⟩

theorem toTy (k : Nat) : ∀ (t : GTy) (A1 : Option Addr) (c1 : Nat) (w : World), t.bulk < k → t.bulk ≤ 1048576 → GTy.At w (Lt w.heap.size) A1 c1 t →
      Calls Try.prog 78 #[.agg #[.int .i64 t.op, .int .i64 t.n, .string t.s, .slice A1 t.kids.length c1]] w (ToTy t w) := by
  induction k with
  | zero => intro t A1 c1 w hk; omega
  | succ k ih =>
    intro t A1 c1 w hk h1 hat
    have hbe := t.bulk_eq
    have H3 := fun (w : World) hs => toTyS t.kids A1 c1 w hs (by have := bulkL_len GTy.bulk t.kids; omega) (fun u hu A1 c1 w hat => ih u A1 c1 w (by have := bulkL_mem GTy.bulk t.kids u hu; omega) (by have := bulkL_mem GTy.bulk t.kids u hu; omega) hat)
    have HH := Lib.hid H3
    have hat' := Lib.hid hat
    clear hbe hat H3 ih
    go_enter Try.func78, Try.ntmps78
    go_wp2_with fail
    have W0 : ∃ w0, w0 = ((w.alloc (.cells #[.int .i64 t.op, .int .i64 t.n, .string t.s, .slice A1 t.kids.length c1] 104)).alloc (.cells #[.int .i64 0, .int .i64 0, .string ⟨#[]⟩, .slice none 0 0] 59)).alloc (.cells #[.int .i64 t.op, .int .i64 t.n, .string t.s, .slice none 0 0] 59) := ⟨_, rfl⟩
    obtain ⟨w0, e0⟩ := W0
    have B0 : Below w.heap.size w w0 := by rw [e0]; exact (((Below.refl _ _).alloc (Nat.le_refl _) _).alloc (by simp) _).alloc (by simp; omega) _
    have S0 : w0.heap.size = w.heap.size + 3 := by rw [e0]; simp
    have Ra0 : Row w0 w.heap.size 104 #[.int .i64 t.op, .int .i64 t.n, .string t.s, .slice A1 t.kids.length c1] := by rw [e0]; exact ((Row.new' _ _ _ rfl).alloc _).alloc _
    have Rz0 : Row w0 (w.heap.size + 1) 59 #[.int .i64 0, .int .i64 0, .string ⟨#[]⟩, .slice none 0 0] := by rw [e0]; exact (Row.new' _ _ _ (by simp)).alloc _
    have Ro0 : Row w0 (w.heap.size + 1 + 1) 59 #[.int .i64 t.op, .int .i64 t.n, .string t.s, .slice none 0 0] := by rw [e0]; exact Row.new' _ _ _ (by simp)
    rw [← e0]
    clear e0
    obtain ⟨-, -, -, q3⟩ := hat'.out.below B0 B0.size
    refine (HH.out (w0) q3).mono ?_
    rintro e w1 ⟨D1, d1, rfl, how3, hb1⟩
    have hs1 := hb1.size
    have X1 := B0.trans (hb1.mono B0.size)
    have Rax1 := Lib.hid (Ra0.below hb1 Ra0.lt)
    have Rzx1 := Lib.hid (Rz0.below hb1 Rz0.lt)
    have Rox1 := Lib.hid (Ro0.below hb1 Ro0.lt)
    have hca1 := fun i => Rax1.out.cell i
    have hcz1 := fun i => Rzx1.out.cell i
    have hco1 := fun i => Rox1.out.cell i
    have hfz1 := fun i => Rzx1.out.frozen i
    have hfo1 := fun i => Rox1.out.frozen i
    have B1 := setCells_below X1 (w.heap.size + 1 + 1) 3 (by omega) [.slice D1 t.kids.length d1]
    have Ra1 : Hid (Row (setCells w1 (w.heap.size + 1 + 1) 3 [.slice D1 t.kids.length d1]) w.heap.size 104 #[.int .i64 t.op, .int .i64 t.n, .string t.s, .slice A1 t.kids.length c1]) := (Rax1.out).far (p := ⟨w.heap.size + 1 + 1, 3, none⟩) (by simp <;> omega) (.slice D1 t.kids.length d1)
    have Rz1 : Hid (Row (setCells w1 (w.heap.size + 1 + 1) 3 [.slice D1 t.kids.length d1]) (w.heap.size + 1) 59 #[.int .i64 0, .int .i64 0, .string ⟨#[]⟩, .slice none 0 0]) := (Rzx1.out).far (p := ⟨w.heap.size + 1 + 1, 3, none⟩) (by simp <;> omega) (.slice D1 t.kids.length d1)
    have Ro1 : Hid (Row (setCells w1 (w.heap.size + 1 + 1) 3 [.slice D1 t.kids.length d1]) (w.heap.size + 1 + 1) 59 #[.int .i64 t.op, .int .i64 t.n, .string t.s, .slice D1 t.kids.length d1]) := (Rox1.out).set 3 (.slice D1 t.kids.length d1)
    replace how3 := how3.keep (S' := Btw (w0).heap.size (w1).heap.size) (w' := setCells w1 (w.heap.size + 1 + 1) 3 [.slice D1 t.kids.length d1]) fun b hb => ⟨hb, setCells_block _ _ _ _ _ (by have := hb.1; first | omega | (simp only [setCells_size] at *; omega) | (simp only [setCells_size] at *; done))⟩
    have BF := setCells_below B1 (w.heap.size + 1) 0 (by omega) [.int .i64 t.op, .int .i64 t.n, .string t.s, .slice D1 t.kids.length d1]
    have SF : (setCells (setCells w1 (w.heap.size + 1 + 1) 3 [.slice D1 t.kids.length d1]) (w.heap.size + 1) 0 [.int .i64 t.op, .int .i64 t.n, .string t.s, .slice D1 t.kids.length d1]).heap.size = w1.heap.size := by rw [setCells_size, setCells_size]
    replace how3 := how3.keep (S' := Btw w.heap.size (setCells (setCells w1 (w.heap.size + 1 + 1) 3 [.slice D1 t.kids.length d1]) (w.heap.size + 1) 0 [.int .i64 t.op, .int .i64 t.n, .string t.s, .slice D1 t.kids.length d1]).heap.size) (w' := setCells (setCells w1 (w.heap.size + 1 + 1) 3 [.slice D1 t.kids.length d1]) (w.heap.size + 1) 0 [.int .i64 t.op, .int .i64 t.n, .string t.s, .slice D1 t.kids.length d1]) fun b hb => ⟨⟨by have := hb.1; first | omega | (simp only [setCells_size] at *; omega) | (simp only [setCells_size] at *; done), by have := hb.2; have := SF; first | omega | (simp only [setCells_size] at *; omega) | (simp only [setCells_size] at *; done)⟩, setCells_block _ _ _ _ _ (by have := hb.1; first | omega | (simp only [setCells_size] at *; omega) | (simp only [setCells_size] at *; done))⟩
    have qs := hat'.out
    obtain ⟨p0, p1, p2, p3⟩ := qs
    go_wp2_with fail
    exact bodyPost_ret (v := .agg #[.int .i64 t.op, .int .i64 t.n, .string t.s, .slice D1 t.kids.length d1]) (by simp [results, Try.results78, go_sem, hca1, hcz1, hco1]) rfl ⟨D1, d1, rfl, ⟨p0, p1, p2, how3⟩, BF⟩

theorem toTy' (t : GTy) (A1 : Option Addr) (c1 : Nat) (w : World) (h1 : t.bulk ≤ 1048576) (hat : GTy.At w (Lt w.heap.size) A1 c1 t) :
      Calls Try.prog 78 #[.agg #[.int .i64 t.op, .int .i64 t.n, .string t.s, .slice A1 t.kids.length c1]] w (ToTy t w) :=
  toTy (t.bulk + 1) t A1 c1 w (by omega) h1 hat

theorem toTyS' (l : List GTy) (A : Option Addr) (c : Nat) (w : World) (hs : Sl w (Lt w.heap.size) 4 A c (l.map GTy.toD)) (hl : bulkL GTy.bulk l ≤ 1048576) :
    Calls Try.prog 160 #[.slice A l.length c] w (ToTyS l w) :=
  toTyS l A c w hs (by have := bulkL_len GTy.bulk l; omega) (fun u hu A1 c1 w hat => toTy' u A1 c1 w (by have := bulkL_mem GTy.bulk l u hu; omega) hat)

set_option maxRecDepth 20000 in
theorem eqTyS (l : List GTy) (A B : Option Addr) (c d : Nat) (w : World) (hs : Sl w (Lt w.heap.size) 4 A c (l.map GTy.toD)) (hs' : Sl w (Lt w.heap.size) 4 B d (l.map GTy.toD))
    (H : ∀ t, t ∈ l → ∀ (A1 : Option Addr) (c1 : Nat) (B1 : Option Addr) (d1 : Nat) (w : World), GTy.At w (Lt w.heap.size) A1 c1 t → GTy.At w (Lt w.heap.size) B1 d1 t →
      Calls Try.prog 80 #[.agg #[.int .i64 t.op, .int .i64 t.n, .string t.s, .slice A1 t.kids.length c1], .agg #[.int .i64 t.op, .int .i64 t.n, .string t.s, .slice B1 t.kids.length d1]] w fun e w' => e = .returned (.bool true) ∧ Below w.heap.size w w') :
    Calls Try.prog 162 #[.slice A l.length c, .slice B l.length d] w fun e w' => e = .returned (.bool true) ∧ Below w.heap.size w w' := by
  have hlen : l.length ≤ 9223372036854775807 := by simpa using hs.len
  have HH := Lib.hid H
  clear H
  go_enter Try.func162, Try.ntmps162
  go_wp2_with fail
  go_loopw [5] (fun i wr => ∃ (j : Nat), j ≤ l.length ∧ i = .int .i64 j ∧ Below w.heap.size w wr) (fun i _ => l.length - (intOf i).toNat)
  case atStart => exact ⟨0, by omega, by go_num, Below.refl _ _⟩
  case round =>
    obtain ⟨j, hj, rfl, hb⟩ := hrel
    have hsz := hb.size
    by_cases hlt : j < l.length
    · have hel := GTy.elem (hs.below hb (Nat.le_refl _)) j hlt
      obtain ⟨b, off, A1, c1, rfl, hSb, g0, g1, g2, g3, hat⟩ := hel
      have hel := GTy.elem (hs'.below hb (Nat.le_refl _)) j hlt
      obtain ⟨b', off', B1, d1, rfl, hSb', g0', g1', g2', g3', hat'⟩ := hel
      have hmem : l[j] ∈ l := List.getElem_mem hlt
      go_wp2_with fail
      refine wp_region_still_tail 8 (by kernel_rfl) (by kernel_rfl) ?_
      simp only [List.take_succ_cons, List.take_zero, List.drop_succ_cons, List.drop_zero]
      change wpStill _ _ wr.drew (fun a' => wpList _ _ _ _ a' wr.drew) _ _
      iterate 8 still_step
      refine wpStill_nil ?_
      go_wp2_with fail
      refine (HH.out _ hmem _ _ _ _ wr.drew (hat.keep fun b hb => ⟨Nat.lt_of_lt_of_le hb hsz, rfl⟩) (hat'.keep fun b hb => ⟨Nat.lt_of_lt_of_le hb hsz, rfl⟩)).mono ?_
      rintro e w1 ⟨rfl, hb1⟩
      go_wp2_with fail
      go_roundw
      case rel => exact ⟨j + 1, by omega, by go_num, hb.drew.trans (hb1.mono hsz)⟩
      case measure => simp [intOf]; omega
    · have hjl : j = l.length := by omega
      clear hjl
      go_wp2_with fail
      go_ret
      exact ⟨rfl, hb⟩

set_option maxRecDepth 20000 in
theorem eqTy (k : Nat) : ∀ (t : GTy) (A1 : Option Addr) (c1 : Nat) (B1 : Option Addr) (d1 : Nat) (w : World), t.bulk < k → GTy.At w (Lt w.heap.size) A1 c1 t → GTy.At w (Lt w.heap.size) B1 d1 t →
      Calls Try.prog 80 #[.agg #[.int .i64 t.op, .int .i64 t.n, .string t.s, .slice A1 t.kids.length c1], .agg #[.int .i64 t.op, .int .i64 t.n, .string t.s, .slice B1 t.kids.length d1]] w fun e w' => e = .returned (.bool true) ∧ Below w.heap.size w w' := by
  induction k with
  | zero => intro t A1 c1 B1 d1 w hk; omega
  | succ k ih =>
    intro t A1 c1 B1 d1 w hk hat hat2
    have hbe := t.bulk_eq
    have H3 := fun (w : World) hs hs' => eqTyS t.kids A1 B1 c1 d1 w hs hs' (fun u hu A1 c1 B1 d1 w hat hat2 => ih u A1 c1 B1 d1 w (by have := bulkL_mem GTy.bulk t.kids u hu; omega) hat hat2)
    have HH := Lib.hid H3
    clear hbe H3 ih
    have hat' := Lib.hid hat
    have hat2' := Lib.hid hat2
    clear hat hat2
    have B0 : Below w.heap.size w ((w.alloc (.cells #[.int .i64 t.op, .int .i64 t.n, .string t.s, .slice A1 t.kids.length c1] 59)).alloc (.cells #[.int .i64 t.op, .int .i64 t.n, .string t.s, .slice B1 t.kids.length d1] 59)) := ((Below.refl _ _).alloc (Nat.le_refl _) _).alloc (by simp) _
    have ra0 := Lib.hid ((Row.new w 59 #[.int .i64 t.op, .int .i64 t.n, .string t.s, .slice A1 t.kids.length c1]).alloc (.cells #[.int .i64 t.op, .int .i64 t.n, .string t.s, .slice B1 t.kids.length d1] 59))
    have rb0 := Lib.hid (Row.new' (w.alloc (.cells #[.int .i64 t.op, .int .i64 t.n, .string t.s, .slice A1 t.kids.length c1] 59)) 59 #[.int .i64 t.op, .int .i64 t.n, .string t.s, .slice B1 t.kids.length d1] (g := w.heap.size + 1) (by simp))
    go_enter Try.func80, Try.ntmps80
    go_wp2_with fail
    obtain ⟨-, -, -, q3⟩ := hat'.out.below B0 B0.size
    obtain ⟨-, -, -, p3⟩ := hat2'.out.below B0 B0.size
    refine (HH.out _ q3 p3).mono ?_
    rintro e w1 ⟨rfl, hb1⟩
    have B1 := B0.trans (hb1.mono B0.size)
    go_wp2_with fail
    go_ret
    exact ⟨rfl, B1⟩

theorem eqTy' (t : GTy) (A1 : Option Addr) (c1 : Nat) (B1 : Option Addr) (d1 : Nat) (w : World) (hat : GTy.At w (Lt w.heap.size) A1 c1 t) (hat2 : GTy.At w (Lt w.heap.size) B1 d1 t) :
      Calls Try.prog 80 #[.agg #[.int .i64 t.op, .int .i64 t.n, .string t.s, .slice A1 t.kids.length c1], .agg #[.int .i64 t.op, .int .i64 t.n, .string t.s, .slice B1 t.kids.length d1]] w fun e w' => e = .returned (.bool true) ∧ Below w.heap.size w w' :=
  eqTy (t.bulk + 1) t A1 c1 B1 d1 w (by omega) hat hat2

theorem eqTyS' (l : List GTy) (A B : Option Addr) (c d : Nat) (w : World) (hs : Sl w (Lt w.heap.size) 4 A c (l.map GTy.toD)) (hs' : Sl w (Lt w.heap.size) 4 B d (l.map GTy.toD)) :
    Calls Try.prog 162 #[.slice A l.length c, .slice B l.length d] w fun e w' => e = .returned (.bool true) ∧ Below w.heap.size w w' :=
  eqTyS l A B c d w hs hs' (fun u _ A1 c1 B1 d1 w hat hat2 => eqTy' u A1 c1 B1 d1 w hat hat2)

end Go.Proofs.Ytgbcdfeflgnogaa

/- The laws' sz, to and eq functions at Con. Conditions: what is counted is at most 1048576. -/
namespace Go.Proofs.Ytgbcdfeflgnogaa
open Go.RowKit
set_option linter.unusedVariables false
set_option linter.unusedSimpArgs false
set_option maxHeartbeats 400000

theorem szConS (l : List GCon) (A : Option Addr) (c : Nat) (left : Int) (w : World) (hs : Sl w (Lt w.heap.size) 2 A c (l.map GCon.toD)) (h0 : 0 ≤ left) (h1 : left ≤ 1048576)
    (H : ∀ t, t ∈ l → ∀ (A1 : Option Addr) (c1 : Nat) (left : Int) (w : World), 0 ≤ left → left ≤ 1048576 → GCon.At w (Lt w.heap.size) A1 c1 t →
      Calls Try.prog 237 #[.agg #[.string t.name, .slice A1 t.args.length c1], .int .i64 left] w fun e w' => e = .returned (.int .i64 (szv t.bulk left)) ∧ Below w.heap.size w w') :
    Calls Try.prog 169 #[.slice A l.length c, .int .i64 left] w fun e w' => e = .returned (.int .i64 (szv (bulkL GCon.bulk l) left)) ∧ Below w.heap.size w w' := by
  have hlen : l.length ≤ 9223372036854775807 := by simpa using hs.len
  have HH := Lib.hid H
  clear H
  by_cases hll : left < (l.length : Int)
  · have hg : left - (l.length : Int) < 0 := by omega
    have hv := Lib.hid (szv_gt (b := bulkL GCon.bulk l) (left := left) (by have := bulkL_len GCon.bulk l; omega))
    go_enter Try.func169, Try.ntmps169
    go_wp2_with fail
    go_ret
    exact ⟨ret_int hv.out.symm, Below.refl _ _⟩
  · have hg : 0 ≤ left - (l.length : Int) := by omega
    go_enter Try.func169, Try.ntmps169
    go_wp2_with fail
    go_loopw [1, 5] (fun n i wr => ∃ (j : Nat) (L : Int), j ≤ l.length ∧ i = .int .i64 j ∧ n = .int .i64 L ∧ L = left - l.length - (bulkL GCon.bulk (l.take j) - j) ∧ 0 ≤ L ∧ L ≤ left ∧ Below w.heap.size w wr) (fun _ i _ => l.length - (intOf i).toNat)
    case atStart => exact ⟨0, _, by omega, by go_num, rfl, by simp [bulkL], by omega, by omega, Below.refl _ _⟩
    case round =>
      obtain ⟨j, L, hj, rfl, rfl, hL, hL0, hL1, hb⟩ := hrel
      have HL := Lib.hid hL
      clear hL
      have hsz := hb.size
      by_cases hlt : j < l.length
      · have hel := GCon.elem (hs.below hb (Nat.le_refl _)) j hlt
        obtain ⟨b, off, A1, c1, rfl, hSb, g0, g1, hat⟩ := hel
        have hmem : l[j] ∈ l := List.getElem_mem hlt
        have hts := Lib.hid (bulkL_take_succ GCon.bulk l j hlt)
        have htl := Lib.hid (bulkL_take_le GCon.bulk l (j + 1) (by omega))
        have htg := Lib.hid (bulkL_take_ge GCon.bulk l j (by omega))
        go_wp2_with fail
        refine (HH.out _ hmem _ _ L _ hL0 (by omega) (hat.below (Below.refl _ _) hsz)).mono ?_
        rintro e w1 ⟨rfl, hb1⟩
        by_cases hle : ((l[j]).bulk : Int) ≤ L
        · have hv := szv_le hle
          have hge : 0 ≤ L - ((l[j]).bulk : Int) := by omega
          go_wp2_with fail
          go_roundw
          case rel => exact ⟨j + 1, _, by omega, by go_num, rfl, by rw [hts.out, HL.out]; omega, by omega, by omega, hb.trans (hb1.mono hsz)⟩
          case measure => simp [intOf]; omega
        · have hv := szv_gt (b := (l[j]).bulk) (left := L) (by omega)
          go_wp2_with fail
          go_ret
          refine ⟨ret_int ?_, hb.trans (hb1.mono hsz)⟩
          have e1 := hts.out; have e2 := htl.out; have e3 := htg.out; have e4 := HL.out
          rw [szv_gt (by omega)]
      · have hjl : j = l.length := by omega
        have Hj := Lib.hid hjl
        clear hjl
        go_wp2_with fail
        go_ret
        refine ⟨ret_int ?_, hb⟩
        have e4 := HL.out
        rw [Hj.out, List.take_length] at e4
        have := bulkL_len GCon.bulk l
        rw [szv_le (by omega)]; omega

theorem szCon (t : GCon) (A1 : Option Addr) (c1 : Nat) (left : Int) (w : World) (h0 : 0 ≤ left) (h1 : left ≤ 1048576) (hat : GCon.At w (Lt w.heap.size) A1 c1 t) :
      Calls Try.prog 237 #[.agg #[.string t.name, .slice A1 t.args.length c1], .int .i64 left] w fun e w' => e = .returned (.int .i64 (szv t.bulk left)) ∧ Below w.heap.size w w' := by
  have hbe := t.bulk_eq
  obtain ⟨k0, k1⟩ := id hat
  have s0 : t.name.size ≤ 9223372036854775807 := by unfold maxLen at k0; omega
  have HE := Lib.hid hbe
  have hat' := Lib.hid hat
  clear hbe hat k0 k1
  have B0 : Below w.heap.size w (w.alloc (.cells #[.string t.name, .slice A1 t.args.length c1] 257)) := (Below.refl _ _).alloc (Nat.le_refl _) _
  have r0 := Lib.hid (Row.new w 257 #[.string t.name, .slice A1 t.args.length c1])
  go_enter Try.func237, Try.ntmps237
  by_cases g0 : ((t.name.size : Nat) : Int) ≤ left
  rotate_left
  · have q0 : left - ((t.name.size : Nat) : Int) < 0 := by omega
    go_wp2_with fail
    go_ret
    refine ⟨ret_int ?_, B0⟩
    have := HE.out
    rw [szv_gt (by omega)]
  have q0 : 0 ≤ left - ((t.name.size : Nat) : Int) := by omega
  go_wp2_with fail
  obtain ⟨-, k1⟩ := hat'.out.below B0 B0.size
  refine (szTyS' t.args A1 c1 _ _ k1 (by omega) (by omega)).mono ?_
  rintro e w1 ⟨rfl, hb1⟩
  have B1 := B0.trans (hb1.mono B0.size)
  by_cases g1 : ((bulkL GTy.bulk t.args : Nat) : Int) ≤ left - ((t.name.size : Nat) : Int)
  rotate_left
  · have hv := szv_gt (b := bulkL GTy.bulk t.args) (left := left - ((t.name.size : Nat) : Int)) (by omega)
    go_wp2_with fail
    go_ret
    refine ⟨ret_int ?_, B1⟩
    have := HE.out
    rw [szv_gt (by omega)]
  have v1 := szv_le g1
  have q1 : 0 ≤ left - ((t.name.size : Nat) : Int) - ((bulkL GTy.bulk t.args : Nat) : Int) := by omega
  go_wp2_with fail
  go_ret
  refine ⟨ret_int ?_, B1⟩
  have := HE.out
  rw [szv_le (by omega)]; omega

theorem szCon' (t : GCon) (A1 : Option Addr) (c1 : Nat) (left : Int) (w : World) (h0 : 0 ≤ left) (h1 : left ≤ 1048576) (hat : GCon.At w (Lt w.heap.size) A1 c1 t) :
      Calls Try.prog 237 #[.agg #[.string t.name, .slice A1 t.args.length c1], .int .i64 left] w fun e w' => e = .returned (.int .i64 (szv t.bulk left)) ∧ Below w.heap.size w w' :=
  szCon t A1 c1 left w h0 h1 hat

theorem szConS' (l : List GCon) (A : Option Addr) (c : Nat) (left : Int) (w : World) (hs : Sl w (Lt w.heap.size) 2 A c (l.map GCon.toD)) (h0 : 0 ≤ left) (h1 : left ≤ 1048576) :
    Calls Try.prog 169 #[.slice A l.length c, .int .i64 left] w fun e w' => e = .returned (.int .i64 (szv (bulkL GCon.bulk l) left)) ∧ Below w.heap.size w w' :=
  szConS l A c left w hs h0 h1 (fun u _ A1 c1 left w h0 h1 hat => szCon' u A1 c1 left w h0 h1 hat)

/-- what a to function gives back: a struct of the call's own -/
def ToCon (t : GCon) (w : World) (e : Ending) (w' : World) : Prop := ∃ A1 c1, e = .returned (.agg #[.string t.name, .slice A1 t.args.length c1]) ∧ GCon.Ow w' (Btw w.heap.size w'.heap.size) A1 c1 t ∧ Below w.heap.size w w'
def ToConS (l : List GCon) (w : World) (e : Ending) (w' : World) : Prop := ∃ A1 c1, e = .returned (.slice A1 l.length c1) ∧ Osl w' (Btw w.heap.size w'.heap.size) 2 A1 c1 (l.map GCon.toD) ∧ Below w.heap.size w w'

def zCon : Value := .agg #[.string ⟨#[]⟩, .slice none 0 0]
theorem mkCon (n : Nat) (hn : n ≤ 1048576) (w : World) : (Instr.makeSlice 120 (.int .i64 (n : Int)) (.int .i64 (n : Int))).run Try.prog w = .ok (.slice (some ⟨w.heap.size, 0, none⟩) n n) (w.alloc (.cells (zr zCon 2 n) 140)) :=
  run_mk 120 140 zCon 2 40 Try.underlying120 (by kernel_rfl) n hn (by omega) w

theorem toConS (l : List GCon) (A : Option Addr) (c : Nat) (w : World) (hs : Sl w (Lt w.heap.size) 2 A c (l.map GCon.toD)) (hl : l.length ≤ 1048576)
    (H : ∀ t, t ∈ l → ∀ (A1 : Option Addr) (c1 : Nat) (w : World), GCon.At w (Lt w.heap.size) A1 c1 t →
      Calls Try.prog 238 #[.agg #[.string t.name, .slice A1 t.args.length c1]] w (ToCon t w)) :
    Calls Try.prog 170 #[.slice A l.length c] w (ToConS l w) := by
  have HH := Lib.hid H
  clear H
  have hmk := mkCon l.length hl
  go_enter Try.func170, Try.ntmps170
  go_wp2_with fail
  clear hmk
  go_loopw [4] (fun i wr => ∃ (j : Nat) (row : Array Value), j ≤ l.length ∧ i = .int .i64 j ∧ Row wr w.heap.size 140 row ∧ row.size = l.length * 2 ∧
      D.ownR wr 2 w.heap.size ((l.take j).map GCon.toD) (fun b => w.heap.size < b ∧ b < wr.heap.size) 0 ∧ Below w.heap.size w wr) (fun i _ => l.length - (intOf i).toNat)
  case atStart => exact ⟨0, _, by omega, by go_num, Row.new _ _ _, zr_size _ _ _, by simp [D.ownR], (Below.refl _ _).alloc (Nat.le_refl _) _⟩
  case round =>
    obtain ⟨j, row, hj, rfl, hrow, hrs, hown, hb⟩ := hrel
    have hsz := hb.size
    have hgl := hrow.lt
    by_cases hlt : j < l.length
    · have hel := GCon.elem (hs.below hb (Nat.le_refl _)) j hlt
      obtain ⟨b, off, A1, c1, rfl, hSb, g0, g1, hat⟩ := hel
      have hmem : l[j] ∈ l := List.getElem_mem hlt
      go_wp2_with fail
      refine (HH.out _ hmem _ _ _ (hat.below (Below.refl _ _) hsz)).mono ?_
      rintro e w1 ⟨B1, d1, rfl, how, hb1⟩
      have hrow1 := Lib.hid (hrow.below hb1 hgl)
      have hf := fun i => hrow1.out.frozen i
      obtain ⟨v0, y0⟩ := row_some (row := row) (j * 2) (by omega)
      obtain ⟨v1, y1⟩ := row_some (row := row) (j * 2 + 1) (by omega)
      have x0 := (hrow1.out.cell (j * 2)).trans y0
      have x1 := (hrow1.out.cell (j * 2 + 1)).trans y1
      clear y0 y1
      have hst := fill_step hrow1.out (j := j) (m := wr.heap.size) (xs := (l.take j).map GCon.toD) (size := 2) (by simp; omega) (by omega) hgl hb1.size
        (D.ownR_keep 2 _ _ _ _ 0 (fun b hb => ⟨hb, hb1.block b hb.2⟩) (fun i _ => hb1.cell (p := ⟨w.heap.size, i, none⟩) hgl) hown) (GCon.own_mk how) rfl
      have hB := setCells_below (hb.trans (hb1.mono hsz)) w.heap.size (j * 2) (Nat.le_refl _) [.string l[j].name, .slice B1 l[j].args.length d1]
      go_wp2_with fail
      go_roundw
      case rel =>
        obtain ⟨row', p1, p2, p3⟩ := hst
        exact ⟨j + 1, row', by omega, by go_num, p1, by omega, by rw [take_snoc' l j hlt, List.map_append]; exact p3, hB⟩
      case measure => simp [intOf]; omega
    · have hjl : j = l.length := by omega
      have Hj := Lib.hid hjl
      clear hjl
      go_wp2_with fail
      go_ret
      rw [Hj.out, List.take_length] at hown
      exact ⟨_, _, rfl, fill_end hrow (Nat.le_refl _) (by simp) (by unfold maxLen; omega) hown, hb⟩

theorem toCon (t : GCon) (A1 : Option Addr) (c1 : Nat) (w : World) (h1 : t.bulk ≤ 1048576) (hat : GCon.At w (Lt w.heap.size) A1 c1 t) :
      Calls Try.prog 238 #[.agg #[.string t.name, .slice A1 t.args.length c1]] w (ToCon t w) := by
  have hbe := t.bulk_eq
  have m1 : bulkL GTy.bulk t.args ≤ 1048576 := by omega
  have hat' := Lib.hid hat
  clear hbe hat
  go_enter Try.func238, Try.ntmps238
  go_wp2_with fail
  have W0 : ∃ w0, w0 = ((w.alloc (.cells #[.string t.name, .slice A1 t.args.length c1] 257)).alloc (.cells #[.string ⟨#[]⟩, .slice none 0 0] 140)).alloc (.cells #[.string t.name, .slice none 0 0] 140) := ⟨_, rfl⟩
  obtain ⟨w0, e0⟩ := W0
  have B0 : Below w.heap.size w w0 := by rw [e0]; exact (((Below.refl _ _).alloc (Nat.le_refl _) _).alloc (by simp) _).alloc (by simp; omega) _
  have S0 : w0.heap.size = w.heap.size + 3 := by rw [e0]; simp
  have Ra0 : Row w0 w.heap.size 257 #[.string t.name, .slice A1 t.args.length c1] := by rw [e0]; exact ((Row.new' _ _ _ rfl).alloc _).alloc _
  have Rz0 : Row w0 (w.heap.size + 1) 140 #[.string ⟨#[]⟩, .slice none 0 0] := by rw [e0]; exact (Row.new' _ _ _ (by simp)).alloc _
  have Ro0 : Row w0 (w.heap.size + 1 + 1) 140 #[.string t.name, .slice none 0 0] := by rw [e0]; exact Row.new' _ _ _ (by simp)
  rw [← e0]
  clear e0
  obtain ⟨-, q1⟩ := hat'.out.below B0 B0.size
  refine (toTyS' t.args A1 c1 (w0) q1 m1).mono ?_
  rintro e w1 ⟨D1, d1, rfl, how1, hb1⟩
  have hs1 := hb1.size
  have X1 := B0.trans (hb1.mono B0.size)
  have Rax1 := Lib.hid (Ra0.below hb1 Ra0.lt)
  have Rzx1 := Lib.hid (Rz0.below hb1 Rz0.lt)
  have Rox1 := Lib.hid (Ro0.below hb1 Ro0.lt)
  have hca1 := fun i => Rax1.out.cell i
  have hcz1 := fun i => Rzx1.out.cell i
  have hco1 := fun i => Rox1.out.cell i
  have hfz1 := fun i => Rzx1.out.frozen i
  have hfo1 := fun i => Rox1.out.frozen i
  have B1 := setCells_below X1 (w.heap.size + 1 + 1) 1 (by omega) [.slice D1 t.args.length d1]
  have Ra1 : Hid (Row (setCells w1 (w.heap.size + 1 + 1) 1 [.slice D1 t.args.length d1]) w.heap.size 257 #[.string t.name, .slice A1 t.args.length c1]) := (Rax1.out).far (p := ⟨w.heap.size + 1 + 1, 1, none⟩) (by simp <;> omega) (.slice D1 t.args.length d1)
  have Rz1 : Hid (Row (setCells w1 (w.heap.size + 1 + 1) 1 [.slice D1 t.args.length d1]) (w.heap.size + 1) 140 #[.string ⟨#[]⟩, .slice none 0 0]) := (Rzx1.out).far (p := ⟨w.heap.size + 1 + 1, 1, none⟩) (by simp <;> omega) (.slice D1 t.args.length d1)
  have Ro1 : Hid (Row (setCells w1 (w.heap.size + 1 + 1) 1 [.slice D1 t.args.length d1]) (w.heap.size + 1 + 1) 140 #[.string t.name, .slice D1 t.args.length d1]) := (Rox1.out).set 1 (.slice D1 t.args.length d1)
  replace how1 := how1.keep (S' := Btw (w0).heap.size (w1).heap.size) (w' := setCells w1 (w.heap.size + 1 + 1) 1 [.slice D1 t.args.length d1]) fun b hb => ⟨hb, setCells_block _ _ _ _ _ (by have := hb.1; first | omega | (simp only [setCells_size] at *; omega) | (simp only [setCells_size] at *; done))⟩
  have BF := setCells_below B1 (w.heap.size + 1) 0 (by omega) [.string t.name, .slice D1 t.args.length d1]
  have SF : (setCells (setCells w1 (w.heap.size + 1 + 1) 1 [.slice D1 t.args.length d1]) (w.heap.size + 1) 0 [.string t.name, .slice D1 t.args.length d1]).heap.size = w1.heap.size := by rw [setCells_size, setCells_size]
  replace how1 := how1.keep (S' := Btw w.heap.size (setCells (setCells w1 (w.heap.size + 1 + 1) 1 [.slice D1 t.args.length d1]) (w.heap.size + 1) 0 [.string t.name, .slice D1 t.args.length d1]).heap.size) (w' := setCells (setCells w1 (w.heap.size + 1 + 1) 1 [.slice D1 t.args.length d1]) (w.heap.size + 1) 0 [.string t.name, .slice D1 t.args.length d1]) fun b hb => ⟨⟨by have := hb.1; first | omega | (simp only [setCells_size] at *; omega) | (simp only [setCells_size] at *; done), by have := hb.2; have := SF; first | omega | (simp only [setCells_size] at *; omega) | (simp only [setCells_size] at *; done)⟩, setCells_block _ _ _ _ _ (by have := hb.1; first | omega | (simp only [setCells_size] at *; omega) | (simp only [setCells_size] at *; done))⟩
  have qs := hat'.out
  obtain ⟨p0, p1⟩ := qs
  go_wp2_with fail
  exact bodyPost_ret (v := .agg #[.string t.name, .slice D1 t.args.length d1]) (by simp [results, Try.results238, go_sem, hca1, hcz1, hco1]) rfl ⟨D1, d1, rfl, ⟨p0, how1⟩, BF⟩

theorem toCon' (t : GCon) (A1 : Option Addr) (c1 : Nat) (w : World) (h1 : t.bulk ≤ 1048576) (hat : GCon.At w (Lt w.heap.size) A1 c1 t) :
      Calls Try.prog 238 #[.agg #[.string t.name, .slice A1 t.args.length c1]] w (ToCon t w) :=
  toCon t A1 c1 w h1 hat

theorem toConS' (l : List GCon) (A : Option Addr) (c : Nat) (w : World) (hs : Sl w (Lt w.heap.size) 2 A c (l.map GCon.toD)) (hl : bulkL GCon.bulk l ≤ 1048576) :
    Calls Try.prog 170 #[.slice A l.length c] w (ToConS l w) :=
  toConS l A c w hs (by have := bulkL_len GCon.bulk l; omega) (fun u hu A1 c1 w hat => toCon' u A1 c1 w (by have := bulkL_mem GCon.bulk l u hu; omega) hat)

set_option maxRecDepth 20000 in
theorem eqConS (l : List GCon) (A B : Option Addr) (c d : Nat) (w : World) (hs : Sl w (Lt w.heap.size) 2 A c (l.map GCon.toD)) (hs' : Sl w (Lt w.heap.size) 2 B d (l.map GCon.toD))
    (H : ∀ t, t ∈ l → ∀ (A1 : Option Addr) (c1 : Nat) (B1 : Option Addr) (d1 : Nat) (w : World), GCon.At w (Lt w.heap.size) A1 c1 t → GCon.At w (Lt w.heap.size) B1 d1 t →
      Calls Try.prog 239 #[.agg #[.string t.name, .slice A1 t.args.length c1], .agg #[.string t.name, .slice B1 t.args.length d1]] w fun e w' => e = .returned (.bool true) ∧ Below w.heap.size w w') :
    Calls Try.prog 171 #[.slice A l.length c, .slice B l.length d] w fun e w' => e = .returned (.bool true) ∧ Below w.heap.size w w' := by
  have hlen : l.length ≤ 9223372036854775807 := by simpa using hs.len
  have HH := Lib.hid H
  clear H
  go_enter Try.func171, Try.ntmps171
  go_wp2_with fail
  go_loopw [5] (fun i wr => ∃ (j : Nat), j ≤ l.length ∧ i = .int .i64 j ∧ Below w.heap.size w wr) (fun i _ => l.length - (intOf i).toNat)
  case atStart => exact ⟨0, by omega, by go_num, Below.refl _ _⟩
  case round =>
    obtain ⟨j, hj, rfl, hb⟩ := hrel
    have hsz := hb.size
    by_cases hlt : j < l.length
    · have hel := GCon.elem (hs.below hb (Nat.le_refl _)) j hlt
      obtain ⟨b, off, A1, c1, rfl, hSb, g0, g1, hat⟩ := hel
      have hel := GCon.elem (hs'.below hb (Nat.le_refl _)) j hlt
      obtain ⟨b', off', B1, d1, rfl, hSb', g0', g1', hat'⟩ := hel
      have hmem : l[j] ∈ l := List.getElem_mem hlt
      go_wp2_with fail
      refine wp_region_still_tail 8 (by kernel_rfl) (by kernel_rfl) ?_
      simp only [List.take_succ_cons, List.take_zero, List.drop_succ_cons, List.drop_zero]
      change wpStill _ _ wr.drew (fun a' => wpList _ _ _ _ a' wr.drew) _ _
      iterate 8 still_step
      refine wpStill_nil ?_
      go_wp2_with fail
      refine (HH.out _ hmem _ _ _ _ wr.drew (hat.keep fun b hb => ⟨Nat.lt_of_lt_of_le hb hsz, rfl⟩) (hat'.keep fun b hb => ⟨Nat.lt_of_lt_of_le hb hsz, rfl⟩)).mono ?_
      rintro e w1 ⟨rfl, hb1⟩
      go_wp2_with fail
      go_roundw
      case rel => exact ⟨j + 1, by omega, by go_num, hb.drew.trans (hb1.mono hsz)⟩
      case measure => simp [intOf]; omega
    · have hjl : j = l.length := by omega
      clear hjl
      go_wp2_with fail
      go_ret
      exact ⟨rfl, hb⟩

set_option maxRecDepth 20000 in
theorem eqCon (t : GCon) (A1 : Option Addr) (c1 : Nat) (B1 : Option Addr) (d1 : Nat) (w : World) (hat : GCon.At w (Lt w.heap.size) A1 c1 t) (hat2 : GCon.At w (Lt w.heap.size) B1 d1 t) :
      Calls Try.prog 239 #[.agg #[.string t.name, .slice A1 t.args.length c1], .agg #[.string t.name, .slice B1 t.args.length d1]] w fun e w' => e = .returned (.bool true) ∧ Below w.heap.size w w' := by
  have hat' := Lib.hid hat
  have hat2' := Lib.hid hat2
  clear hat hat2
  have B0 : Below w.heap.size w ((w.alloc (.cells #[.string t.name, .slice A1 t.args.length c1] 140)).alloc (.cells #[.string t.name, .slice B1 t.args.length d1] 140)) := ((Below.refl _ _).alloc (Nat.le_refl _) _).alloc (by simp) _
  have ra0 := Lib.hid ((Row.new w 140 #[.string t.name, .slice A1 t.args.length c1]).alloc (.cells #[.string t.name, .slice B1 t.args.length d1] 140))
  have rb0 := Lib.hid (Row.new' (w.alloc (.cells #[.string t.name, .slice A1 t.args.length c1] 140)) 140 #[.string t.name, .slice B1 t.args.length d1] (g := w.heap.size + 1) (by simp))
  go_enter Try.func239, Try.ntmps239
  go_wp2_with fail
  obtain ⟨-, q1⟩ := hat'.out.below B0 B0.size
  obtain ⟨-, p1⟩ := hat2'.out.below B0 B0.size
  refine (eqTyS' t.args A1 B1 c1 d1 _ q1 p1).mono ?_
  rintro e w1 ⟨rfl, hb1⟩
  have B1 := B0.trans (hb1.mono B0.size)
  go_wp2_with fail
  go_ret
  exact ⟨rfl, B1⟩

theorem eqCon' (t : GCon) (A1 : Option Addr) (c1 : Nat) (B1 : Option Addr) (d1 : Nat) (w : World) (hat : GCon.At w (Lt w.heap.size) A1 c1 t) (hat2 : GCon.At w (Lt w.heap.size) B1 d1 t) :
      Calls Try.prog 239 #[.agg #[.string t.name, .slice A1 t.args.length c1], .agg #[.string t.name, .slice B1 t.args.length d1]] w fun e w' => e = .returned (.bool true) ∧ Below w.heap.size w w' :=
  eqCon t A1 c1 B1 d1 w hat hat2

theorem eqConS' (l : List GCon) (A B : Option Addr) (c d : Nat) (w : World) (hs : Sl w (Lt w.heap.size) 2 A c (l.map GCon.toD)) (hs' : Sl w (Lt w.heap.size) 2 B d (l.map GCon.toD)) :
    Calls Try.prog 171 #[.slice A l.length c, .slice B l.length d] w fun e w' => e = .returned (.bool true) ∧ Below w.heap.size w w' :=
  eqConS l A B c d w hs hs' (fun u _ A1 c1 B1 d1 w hat hat2 => eqCon' u A1 c1 B1 d1 w hat hat2)

end Go.Proofs.Ytgbcdfeflgnogaa

/- The laws' sz, to and eq functions at Data. Conditions: what is counted is at most 1048576. -/
namespace Go.Proofs.Ytgbcdfeflgnogaa
open Go.RowKit
set_option linter.unusedVariables false
set_option linter.unusedSimpArgs false
set_option maxHeartbeats 400000

theorem szDataS (l : List GData) (A : Option Addr) (c : Nat) (left : Int) (w : World) (hs : Sl w (Lt w.heap.size) 3 A c (l.map GData.toD)) (h0 : 0 ≤ left) (h1 : left ≤ 1048576)
    (H : ∀ t, t ∈ l → ∀ (A1 : Option Addr) (c1 : Nat) (left : Int) (w : World), 0 ≤ left → left ≤ 1048576 → GData.At w (Lt w.heap.size) A1 c1 t →
      Calls Try.prog 86 #[.agg #[.string t.name, .int .i64 t.vars, .slice A1 t.cons.length c1], .int .i64 left] w fun e w' => e = .returned (.int .i64 (szv t.bulk left)) ∧ Below w.heap.size w w') :
    Calls Try.prog 14 #[.slice A l.length c, .int .i64 left] w fun e w' => e = .returned (.int .i64 (szv (bulkL GData.bulk l) left)) ∧ Below w.heap.size w w' := by
  have hlen : l.length ≤ 9223372036854775807 := by simpa using hs.len
  have HH := Lib.hid H
  clear H
  by_cases hll : left < (l.length : Int)
  · have hg : left - (l.length : Int) < 0 := by omega
    have hv := Lib.hid (szv_gt (b := bulkL GData.bulk l) (left := left) (by have := bulkL_len GData.bulk l; omega))
    go_enter Try.func14, Try.ntmps14
    go_wp2_with fail
    go_ret
    exact ⟨ret_int hv.out.symm, Below.refl _ _⟩
  · have hg : 0 ≤ left - (l.length : Int) := by omega
    go_enter Try.func14, Try.ntmps14
    go_wp2_with fail
    go_loopw [1, 5] (fun n i wr => ∃ (j : Nat) (L : Int), j ≤ l.length ∧ i = .int .i64 j ∧ n = .int .i64 L ∧ L = left - l.length - (bulkL GData.bulk (l.take j) - j) ∧ 0 ≤ L ∧ L ≤ left ∧ Below w.heap.size w wr) (fun _ i _ => l.length - (intOf i).toNat)
    case atStart => exact ⟨0, _, by omega, by go_num, rfl, by simp [bulkL], by omega, by omega, Below.refl _ _⟩
    case round =>
      obtain ⟨j, L, hj, rfl, rfl, hL, hL0, hL1, hb⟩ := hrel
      have HL := Lib.hid hL
      clear hL
      have hsz := hb.size
      by_cases hlt : j < l.length
      · have hel := GData.elem (hs.below hb (Nat.le_refl _)) j hlt
        obtain ⟨b, off, A1, c1, rfl, hSb, g0, g1, g2, hat⟩ := hel
        have hmem : l[j] ∈ l := List.getElem_mem hlt
        have hts := Lib.hid (bulkL_take_succ GData.bulk l j hlt)
        have htl := Lib.hid (bulkL_take_le GData.bulk l (j + 1) (by omega))
        have htg := Lib.hid (bulkL_take_ge GData.bulk l j (by omega))
        go_wp2_with fail
        refine (HH.out _ hmem _ _ L _ hL0 (by omega) (hat.below (Below.refl _ _) hsz)).mono ?_
        rintro e w1 ⟨rfl, hb1⟩
        by_cases hle : ((l[j]).bulk : Int) ≤ L
        · have hv := szv_le hle
          have hge : 0 ≤ L - ((l[j]).bulk : Int) := by omega
          go_wp2_with fail
          go_roundw
          case rel => exact ⟨j + 1, _, by omega, by go_num, rfl, by rw [hts.out, HL.out]; omega, by omega, by omega, hb.trans (hb1.mono hsz)⟩
          case measure => simp [intOf]; omega
        · have hv := szv_gt (b := (l[j]).bulk) (left := L) (by omega)
          go_wp2_with fail
          go_ret
          refine ⟨ret_int ?_, hb.trans (hb1.mono hsz)⟩
          have e1 := hts.out; have e2 := htl.out; have e3 := htg.out; have e4 := HL.out
          rw [szv_gt (by omega)]
      · have hjl : j = l.length := by omega
        have Hj := Lib.hid hjl
        clear hjl
        go_wp2_with fail
        go_ret
        refine ⟨ret_int ?_, hb⟩
        have e4 := HL.out
        rw [Hj.out, List.take_length] at e4
        have := bulkL_len GData.bulk l
        rw [szv_le (by omega)]; omega

theorem szData (t : GData) (A1 : Option Addr) (c1 : Nat) (left : Int) (w : World) (h0 : 0 ≤ left) (h1 : left ≤ 1048576) (hat : GData.At w (Lt w.heap.size) A1 c1 t) :
      Calls Try.prog 86 #[.agg #[.string t.name, .int .i64 t.vars, .slice A1 t.cons.length c1], .int .i64 left] w fun e w' => e = .returned (.int .i64 (szv t.bulk left)) ∧ Below w.heap.size w w' := by
  have hbe := t.bulk_eq
  obtain ⟨k0, k1, k2⟩ := id hat
  have s0 : t.name.size ≤ 9223372036854775807 := by unfold maxLen at k0; omega
  have HE := Lib.hid hbe
  have hat' := Lib.hid hat
  clear hbe hat k0 k1 k2
  have B0 : Below w.heap.size w (w.alloc (.cells #[.string t.name, .int .i64 t.vars, .slice A1 t.cons.length c1] 117)) := (Below.refl _ _).alloc (Nat.le_refl _) _
  have r0 := Lib.hid (Row.new w 117 #[.string t.name, .int .i64 t.vars, .slice A1 t.cons.length c1])
  go_enter Try.func86, Try.ntmps86
  by_cases g0 : ((t.name.size : Nat) : Int) ≤ left
  rotate_left
  · have q0 : left - ((t.name.size : Nat) : Int) < 0 := by omega
    go_wp2_with fail
    go_ret
    refine ⟨ret_int ?_, B0⟩
    have := HE.out
    rw [szv_gt (by omega)]
  have q0 : 0 ≤ left - ((t.name.size : Nat) : Int) := by omega
  go_wp2_with fail
  obtain ⟨-, -, k2⟩ := hat'.out.below B0 B0.size
  refine (szConS' t.cons A1 c1 _ _ k2 (by omega) (by omega)).mono ?_
  rintro e w1 ⟨rfl, hb1⟩
  have B1 := B0.trans (hb1.mono B0.size)
  by_cases g2 : ((bulkL GCon.bulk t.cons : Nat) : Int) ≤ left - ((t.name.size : Nat) : Int)
  rotate_left
  · have hv := szv_gt (b := bulkL GCon.bulk t.cons) (left := left - ((t.name.size : Nat) : Int)) (by omega)
    go_wp2_with fail
    go_ret
    refine ⟨ret_int ?_, B1⟩
    have := HE.out
    rw [szv_gt (by omega)]
  have v2 := szv_le g2
  have q2 : 0 ≤ left - ((t.name.size : Nat) : Int) - ((bulkL GCon.bulk t.cons : Nat) : Int) := by omega
  go_wp2_with fail
  go_ret
  refine ⟨ret_int ?_, B1⟩
  have := HE.out
  rw [szv_le (by omega)]; omega

theorem szData' (t : GData) (A1 : Option Addr) (c1 : Nat) (left : Int) (w : World) (h0 : 0 ≤ left) (h1 : left ≤ 1048576) (hat : GData.At w (Lt w.heap.size) A1 c1 t) :
      Calls Try.prog 86 #[.agg #[.string t.name, .int .i64 t.vars, .slice A1 t.cons.length c1], .int .i64 left] w fun e w' => e = .returned (.int .i64 (szv t.bulk left)) ∧ Below w.heap.size w w' :=
  szData t A1 c1 left w h0 h1 hat

theorem szDataS' (l : List GData) (A : Option Addr) (c : Nat) (left : Int) (w : World) (hs : Sl w (Lt w.heap.size) 3 A c (l.map GData.toD)) (h0 : 0 ≤ left) (h1 : left ≤ 1048576) :
    Calls Try.prog 14 #[.slice A l.length c, .int .i64 left] w fun e w' => e = .returned (.int .i64 (szv (bulkL GData.bulk l) left)) ∧ Below w.heap.size w w' :=
  szDataS l A c left w hs h0 h1 (fun u _ A1 c1 left w h0 h1 hat => szData' u A1 c1 left w h0 h1 hat)

/-- what a to function gives back: a struct of the call's own -/
def ToData (t : GData) (w : World) (e : Ending) (w' : World) : Prop := ∃ A1 c1, e = .returned (.agg #[.string t.name, .int .i64 t.vars, .slice A1 t.cons.length c1]) ∧ GData.Ow w' (Btw w.heap.size w'.heap.size) A1 c1 t ∧ Below w.heap.size w w'
def ToDataS (l : List GData) (w : World) (e : Ending) (w' : World) : Prop := ∃ A1 c1, e = .returned (.slice A1 l.length c1) ∧ Osl w' (Btw w.heap.size w'.heap.size) 3 A1 c1 (l.map GData.toD) ∧ Below w.heap.size w w'

def zData : Value := .agg #[.string ⟨#[]⟩, .int .i64 0, .slice none 0 0]
theorem mkData (n : Nat) (hn : n ≤ 1048576) (w : World) : (Instr.makeSlice 27 (.int .i64 (n : Int)) (.int .i64 (n : Int))).run Try.prog w = .ok (.slice (some ⟨w.heap.size, 0, none⟩) n n) (w.alloc (.cells (zr zData 3 n) 122)) :=
  run_mk 27 122 zData 3 48 Try.underlying27 (by kernel_rfl) n hn (by omega) w

theorem toDataS (l : List GData) (A : Option Addr) (c : Nat) (w : World) (hs : Sl w (Lt w.heap.size) 3 A c (l.map GData.toD)) (hl : l.length ≤ 1048576)
    (H : ∀ t, t ∈ l → ∀ (A1 : Option Addr) (c1 : Nat) (w : World), GData.At w (Lt w.heap.size) A1 c1 t →
      Calls Try.prog 89 #[.agg #[.string t.name, .int .i64 t.vars, .slice A1 t.cons.length c1]] w (ToData t w)) :
    Calls Try.prog 17 #[.slice A l.length c] w (ToDataS l w) := by
  have HH := Lib.hid H
  clear H
  have hmk := mkData l.length hl
  go_enter Try.func17, Try.ntmps17
  go_wp2_with fail
  clear hmk
  go_loopw [4] (fun i wr => ∃ (j : Nat) (row : Array Value), j ≤ l.length ∧ i = .int .i64 j ∧ Row wr w.heap.size 122 row ∧ row.size = l.length * 3 ∧
      D.ownR wr 3 w.heap.size ((l.take j).map GData.toD) (fun b => w.heap.size < b ∧ b < wr.heap.size) 0 ∧ Below w.heap.size w wr) (fun i _ => l.length - (intOf i).toNat)
  case atStart => exact ⟨0, _, by omega, by go_num, Row.new _ _ _, zr_size _ _ _, by simp [D.ownR], (Below.refl _ _).alloc (Nat.le_refl _) _⟩
  case round =>
    obtain ⟨j, row, hj, rfl, hrow, hrs, hown, hb⟩ := hrel
    have hsz := hb.size
    have hgl := hrow.lt
    by_cases hlt : j < l.length
    · have hel := GData.elem (hs.below hb (Nat.le_refl _)) j hlt
      obtain ⟨b, off, A1, c1, rfl, hSb, g0, g1, g2, hat⟩ := hel
      have hmem : l[j] ∈ l := List.getElem_mem hlt
      go_wp2_with fail
      refine (HH.out _ hmem _ _ _ (hat.below (Below.refl _ _) hsz)).mono ?_
      rintro e w1 ⟨B1, d1, rfl, how, hb1⟩
      have hrow1 := Lib.hid (hrow.below hb1 hgl)
      have hf := fun i => hrow1.out.frozen i
      obtain ⟨v0, y0⟩ := row_some (row := row) (j * 3) (by omega)
      obtain ⟨v1, y1⟩ := row_some (row := row) (j * 3 + 1) (by omega)
      obtain ⟨v2, y2⟩ := row_some (row := row) (j * 3 + 2) (by omega)
      have x0 := (hrow1.out.cell (j * 3)).trans y0
      have x1 := (hrow1.out.cell (j * 3 + 1)).trans y1
      have x2 := (hrow1.out.cell (j * 3 + 2)).trans y2
      clear y0 y1 y2
      have hst := fill_step hrow1.out (j := j) (m := wr.heap.size) (xs := (l.take j).map GData.toD) (size := 3) (by simp; omega) (by omega) hgl hb1.size
        (D.ownR_keep 3 _ _ _ _ 0 (fun b hb => ⟨hb, hb1.block b hb.2⟩) (fun i _ => hb1.cell (p := ⟨w.heap.size, i, none⟩) hgl) hown) (GData.own_mk how) rfl
      have hB := setCells_below (hb.trans (hb1.mono hsz)) w.heap.size (j * 3) (Nat.le_refl _) [.string l[j].name, .int .i64 l[j].vars, .slice B1 l[j].cons.length d1]
      go_wp2_with fail
      go_roundw
      case rel =>
        obtain ⟨row', p1, p2, p3⟩ := hst
        exact ⟨j + 1, row', by omega, by go_num, p1, by omega, by rw [take_snoc' l j hlt, List.map_append]; exact p3, hB⟩
      case measure => simp [intOf]; omega
    · have hjl : j = l.length := by omega
      have Hj := Lib.hid hjl
      clear hjl
      go_wp2_with fail
      go_ret
      rw [Hj.out, List.take_length] at hown
      exact ⟨_, _, rfl, fill_end hrow (Nat.le_refl _) (by simp) (by unfold maxLen; omega) hown, hb⟩

theorem toData (t : GData) (A1 : Option Addr) (c1 : Nat) (w : World) (h1 : t.bulk ≤ 1048576) (hat : GData.At w (Lt w.heap.size) A1 c1 t) :
      Calls Try.prog 89 #[.agg #[.string t.name, .int .i64 t.vars, .slice A1 t.cons.length c1]] w (ToData t w) := by
  have hbe := t.bulk_eq
  have m2 : bulkL GCon.bulk t.cons ≤ 1048576 := by omega
  have hat' := Lib.hid hat
  clear hbe hat
  go_enter Try.func89, Try.ntmps89
  go_wp2_with fail
  have W0 : ∃ w0, w0 = ((w.alloc (.cells #[.string t.name, .int .i64 t.vars, .slice A1 t.cons.length c1] 117)).alloc (.cells #[.string ⟨#[]⟩, .int .i64 0, .slice none 0 0] 122)).alloc (.cells #[.string t.name, .int .i64 t.vars, .slice none 0 0] 122) := ⟨_, rfl⟩
  obtain ⟨w0, e0⟩ := W0
  have B0 : Below w.heap.size w w0 := by rw [e0]; exact (((Below.refl _ _).alloc (Nat.le_refl _) _).alloc (by simp) _).alloc (by simp; omega) _
  have S0 : w0.heap.size = w.heap.size + 3 := by rw [e0]; simp
  have Ra0 : Row w0 w.heap.size 117 #[.string t.name, .int .i64 t.vars, .slice A1 t.cons.length c1] := by rw [e0]; exact ((Row.new' _ _ _ rfl).alloc _).alloc _
  have Rz0 : Row w0 (w.heap.size + 1) 122 #[.string ⟨#[]⟩, .int .i64 0, .slice none 0 0] := by rw [e0]; exact (Row.new' _ _ _ (by simp)).alloc _
  have Ro0 : Row w0 (w.heap.size + 1 + 1) 122 #[.string t.name, .int .i64 t.vars, .slice none 0 0] := by rw [e0]; exact Row.new' _ _ _ (by simp)
  rw [← e0]
  clear e0
  obtain ⟨-, -, q2⟩ := hat'.out.below B0 B0.size
  refine (toConS' t.cons A1 c1 (w0) q2 m2).mono ?_
  rintro e w1 ⟨D1, d1, rfl, how2, hb1⟩
  have hs1 := hb1.size
  have X1 := B0.trans (hb1.mono B0.size)
  have Rax1 := Lib.hid (Ra0.below hb1 Ra0.lt)
  have Rzx1 := Lib.hid (Rz0.below hb1 Rz0.lt)
  have Rox1 := Lib.hid (Ro0.below hb1 Ro0.lt)
  have hca1 := fun i => Rax1.out.cell i
  have hcz1 := fun i => Rzx1.out.cell i
  have hco1 := fun i => Rox1.out.cell i
  have hfz1 := fun i => Rzx1.out.frozen i
  have hfo1 := fun i => Rox1.out.frozen i
  have B1 := setCells_below X1 (w.heap.size + 1 + 1) 2 (by omega) [.slice D1 t.cons.length d1]
  have Ra1 : Hid (Row (setCells w1 (w.heap.size + 1 + 1) 2 [.slice D1 t.cons.length d1]) w.heap.size 117 #[.string t.name, .int .i64 t.vars, .slice A1 t.cons.length c1]) := (Rax1.out).far (p := ⟨w.heap.size + 1 + 1, 2, none⟩) (by simp <;> omega) (.slice D1 t.cons.length d1)
  have Rz1 : Hid (Row (setCells w1 (w.heap.size + 1 + 1) 2 [.slice D1 t.cons.length d1]) (w.heap.size + 1) 122 #[.string ⟨#[]⟩, .int .i64 0, .slice none 0 0]) := (Rzx1.out).far (p := ⟨w.heap.size + 1 + 1, 2, none⟩) (by simp <;> omega) (.slice D1 t.cons.length d1)
  have Ro1 : Hid (Row (setCells w1 (w.heap.size + 1 + 1) 2 [.slice D1 t.cons.length d1]) (w.heap.size + 1 + 1) 122 #[.string t.name, .int .i64 t.vars, .slice D1 t.cons.length d1]) := (Rox1.out).set 2 (.slice D1 t.cons.length d1)
  replace how2 := how2.keep (S' := Btw (w0).heap.size (w1).heap.size) (w' := setCells w1 (w.heap.size + 1 + 1) 2 [.slice D1 t.cons.length d1]) fun b hb => ⟨hb, setCells_block _ _ _ _ _ (by have := hb.1; first | omega | (simp only [setCells_size] at *; omega) | (simp only [setCells_size] at *; done))⟩
  have BF := setCells_below B1 (w.heap.size + 1) 0 (by omega) [.string t.name, .int .i64 t.vars, .slice D1 t.cons.length d1]
  have SF : (setCells (setCells w1 (w.heap.size + 1 + 1) 2 [.slice D1 t.cons.length d1]) (w.heap.size + 1) 0 [.string t.name, .int .i64 t.vars, .slice D1 t.cons.length d1]).heap.size = w1.heap.size := by rw [setCells_size, setCells_size]
  replace how2 := how2.keep (S' := Btw w.heap.size (setCells (setCells w1 (w.heap.size + 1 + 1) 2 [.slice D1 t.cons.length d1]) (w.heap.size + 1) 0 [.string t.name, .int .i64 t.vars, .slice D1 t.cons.length d1]).heap.size) (w' := setCells (setCells w1 (w.heap.size + 1 + 1) 2 [.slice D1 t.cons.length d1]) (w.heap.size + 1) 0 [.string t.name, .int .i64 t.vars, .slice D1 t.cons.length d1]) fun b hb => ⟨⟨by have := hb.1; first | omega | (simp only [setCells_size] at *; omega) | (simp only [setCells_size] at *; done), by have := hb.2; have := SF; first | omega | (simp only [setCells_size] at *; omega) | (simp only [setCells_size] at *; done)⟩, setCells_block _ _ _ _ _ (by have := hb.1; first | omega | (simp only [setCells_size] at *; omega) | (simp only [setCells_size] at *; done))⟩
  have qs := hat'.out
  obtain ⟨p0, p1, p2⟩ := qs
  go_wp2_with fail
  exact bodyPost_ret (v := .agg #[.string t.name, .int .i64 t.vars, .slice D1 t.cons.length d1]) (by simp [results, Try.results89, go_sem, hca1, hcz1, hco1]) rfl ⟨D1, d1, rfl, ⟨p0, p1, how2⟩, BF⟩

theorem toData' (t : GData) (A1 : Option Addr) (c1 : Nat) (w : World) (h1 : t.bulk ≤ 1048576) (hat : GData.At w (Lt w.heap.size) A1 c1 t) :
      Calls Try.prog 89 #[.agg #[.string t.name, .int .i64 t.vars, .slice A1 t.cons.length c1]] w (ToData t w) :=
  toData t A1 c1 w h1 hat

theorem toDataS' (l : List GData) (A : Option Addr) (c : Nat) (w : World) (hs : Sl w (Lt w.heap.size) 3 A c (l.map GData.toD)) (hl : bulkL GData.bulk l ≤ 1048576) :
    Calls Try.prog 17 #[.slice A l.length c] w (ToDataS l w) :=
  toDataS l A c w hs (by have := bulkL_len GData.bulk l; omega) (fun u hu A1 c1 w hat => toData' u A1 c1 w (by have := bulkL_mem GData.bulk l u hu; omega) hat)

set_option maxRecDepth 20000 in
theorem eqDataS (l : List GData) (A B : Option Addr) (c d : Nat) (w : World) (hs : Sl w (Lt w.heap.size) 3 A c (l.map GData.toD)) (hs' : Sl w (Lt w.heap.size) 3 B d (l.map GData.toD))
    (H : ∀ t, t ∈ l → ∀ (A1 : Option Addr) (c1 : Nat) (B1 : Option Addr) (d1 : Nat) (w : World), GData.At w (Lt w.heap.size) A1 c1 t → GData.At w (Lt w.heap.size) B1 d1 t →
      Calls Try.prog 92 #[.agg #[.string t.name, .int .i64 t.vars, .slice A1 t.cons.length c1], .agg #[.string t.name, .int .i64 t.vars, .slice B1 t.cons.length d1]] w fun e w' => e = .returned (.bool true) ∧ Below w.heap.size w w') :
    Calls Try.prog 20 #[.slice A l.length c, .slice B l.length d] w fun e w' => e = .returned (.bool true) ∧ Below w.heap.size w w' := by
  have hlen : l.length ≤ 9223372036854775807 := by simpa using hs.len
  have HH := Lib.hid H
  clear H
  go_enter Try.func20, Try.ntmps20
  go_wp2_with fail
  go_loopw [5] (fun i wr => ∃ (j : Nat), j ≤ l.length ∧ i = .int .i64 j ∧ Below w.heap.size w wr) (fun i _ => l.length - (intOf i).toNat)
  case atStart => exact ⟨0, by omega, by go_num, Below.refl _ _⟩
  case round =>
    obtain ⟨j, hj, rfl, hb⟩ := hrel
    have hsz := hb.size
    by_cases hlt : j < l.length
    · have hel := GData.elem (hs.below hb (Nat.le_refl _)) j hlt
      obtain ⟨b, off, A1, c1, rfl, hSb, g0, g1, g2, hat⟩ := hel
      have hel := GData.elem (hs'.below hb (Nat.le_refl _)) j hlt
      obtain ⟨b', off', B1, d1, rfl, hSb', g0', g1', g2', hat'⟩ := hel
      have hmem : l[j] ∈ l := List.getElem_mem hlt
      go_wp2_with fail
      refine wp_region_still_tail 8 (by kernel_rfl) (by kernel_rfl) ?_
      simp only [List.take_succ_cons, List.take_zero, List.drop_succ_cons, List.drop_zero]
      change wpStill _ _ wr.drew (fun a' => wpList _ _ _ _ a' wr.drew) _ _
      iterate 8 still_step
      refine wpStill_nil ?_
      go_wp2_with fail
      refine (HH.out _ hmem _ _ _ _ wr.drew (hat.keep fun b hb => ⟨Nat.lt_of_lt_of_le hb hsz, rfl⟩) (hat'.keep fun b hb => ⟨Nat.lt_of_lt_of_le hb hsz, rfl⟩)).mono ?_
      rintro e w1 ⟨rfl, hb1⟩
      go_wp2_with fail
      go_roundw
      case rel => exact ⟨j + 1, by omega, by go_num, hb.drew.trans (hb1.mono hsz)⟩
      case measure => simp [intOf]; omega
    · have hjl : j = l.length := by omega
      clear hjl
      go_wp2_with fail
      go_ret
      exact ⟨rfl, hb⟩

set_option maxRecDepth 20000 in
theorem eqData (t : GData) (A1 : Option Addr) (c1 : Nat) (B1 : Option Addr) (d1 : Nat) (w : World) (hat : GData.At w (Lt w.heap.size) A1 c1 t) (hat2 : GData.At w (Lt w.heap.size) B1 d1 t) :
      Calls Try.prog 92 #[.agg #[.string t.name, .int .i64 t.vars, .slice A1 t.cons.length c1], .agg #[.string t.name, .int .i64 t.vars, .slice B1 t.cons.length d1]] w fun e w' => e = .returned (.bool true) ∧ Below w.heap.size w w' := by
  have hat' := Lib.hid hat
  have hat2' := Lib.hid hat2
  clear hat hat2
  have B0 : Below w.heap.size w ((w.alloc (.cells #[.string t.name, .int .i64 t.vars, .slice A1 t.cons.length c1] 122)).alloc (.cells #[.string t.name, .int .i64 t.vars, .slice B1 t.cons.length d1] 122)) := ((Below.refl _ _).alloc (Nat.le_refl _) _).alloc (by simp) _
  have ra0 := Lib.hid ((Row.new w 122 #[.string t.name, .int .i64 t.vars, .slice A1 t.cons.length c1]).alloc (.cells #[.string t.name, .int .i64 t.vars, .slice B1 t.cons.length d1] 122))
  have rb0 := Lib.hid (Row.new' (w.alloc (.cells #[.string t.name, .int .i64 t.vars, .slice A1 t.cons.length c1] 122)) 122 #[.string t.name, .int .i64 t.vars, .slice B1 t.cons.length d1] (g := w.heap.size + 1) (by simp))
  go_enter Try.func92, Try.ntmps92
  go_wp2_with fail
  obtain ⟨-, -, q2⟩ := hat'.out.below B0 B0.size
  obtain ⟨-, -, p2⟩ := hat2'.out.below B0 B0.size
  refine (eqConS' t.cons A1 B1 c1 d1 _ q2 p2).mono ?_
  rintro e w1 ⟨rfl, hb1⟩
  have B1 := B0.trans (hb1.mono B0.size)
  go_wp2_with fail
  go_ret
  exact ⟨rfl, B1⟩

theorem eqData' (t : GData) (A1 : Option Addr) (c1 : Nat) (B1 : Option Addr) (d1 : Nat) (w : World) (hat : GData.At w (Lt w.heap.size) A1 c1 t) (hat2 : GData.At w (Lt w.heap.size) B1 d1 t) :
      Calls Try.prog 92 #[.agg #[.string t.name, .int .i64 t.vars, .slice A1 t.cons.length c1], .agg #[.string t.name, .int .i64 t.vars, .slice B1 t.cons.length d1]] w fun e w' => e = .returned (.bool true) ∧ Below w.heap.size w w' :=
  eqData t A1 c1 B1 d1 w hat hat2

theorem eqDataS' (l : List GData) (A B : Option Addr) (c d : Nat) (w : World) (hs : Sl w (Lt w.heap.size) 3 A c (l.map GData.toD)) (hs' : Sl w (Lt w.heap.size) 3 B d (l.map GData.toD)) :
    Calls Try.prog 20 #[.slice A l.length c, .slice B l.length d] w fun e w' => e = .returned (.bool true) ∧ Below w.heap.size w w' :=
  eqDataS l A B c d w hs hs' (fun u _ A1 c1 B1 d1 w hat hat2 => eqData' u A1 c1 B1 d1 w hat hat2)

end Go.Proofs.Ytgbcdfeflgnogaa

/- The laws' sz, to and eq functions at Node. Conditions: what is counted is at most 1048576. -/
namespace Go.Proofs.Ytgbcdfeflgnogaa
open Go.RowKit
set_option linter.unusedVariables false
set_option linter.unusedSimpArgs false
set_option maxHeartbeats 400000

theorem szNodeS (l : List GNode) (A : Option Addr) (c : Nat) (left : Int) (w : World) (hs : Sl w (Lt w.heap.size) 5 A c (l.map GNode.toD)) (h0 : 0 ≤ left) (h1 : left ≤ 1048576)
    (H : ∀ t, t ∈ l → ∀ (A1 : Option Addr) (c1 : Nat) (left : Int) (w : World), 0 ≤ left → left ≤ 1048576 → GNode.At w (Lt w.heap.size) A1 c1 t →
      Calls Try.prog 87 #[.agg #[.int .i64 t.op, .int .i64 t.n, .string t.s, .string t.t, .slice A1 t.kids.length c1], .int .i64 left] w fun e w' => e = .returned (.int .i64 (szv t.bulk left)) ∧ Below w.heap.size w w') :
    Calls Try.prog 15 #[.slice A l.length c, .int .i64 left] w fun e w' => e = .returned (.int .i64 (szv (bulkL GNode.bulk l) left)) ∧ Below w.heap.size w w' := by
  have hlen : l.length ≤ 9223372036854775807 := by simpa using hs.len
  have HH := Lib.hid H
  clear H
  by_cases hll : left < (l.length : Int)
  · have hg : left - (l.length : Int) < 0 := by omega
    have hv := Lib.hid (szv_gt (b := bulkL GNode.bulk l) (left := left) (by have := bulkL_len GNode.bulk l; omega))
    go_enter Try.func15, Try.ntmps15
    go_wp2_with fail
    go_ret
    exact ⟨ret_int hv.out.symm, Below.refl _ _⟩
  · have hg : 0 ≤ left - (l.length : Int) := by omega
    go_enter Try.func15, Try.ntmps15
    go_wp2_with fail
    go_loopw [1, 5] (fun n i wr => ∃ (j : Nat) (L : Int), j ≤ l.length ∧ i = .int .i64 j ∧ n = .int .i64 L ∧ L = left - l.length - (bulkL GNode.bulk (l.take j) - j) ∧ 0 ≤ L ∧ L ≤ left ∧ Below w.heap.size w wr) (fun _ i _ => l.length - (intOf i).toNat)
    case atStart => exact ⟨0, _, by omega, by go_num, rfl, by simp [bulkL], by omega, by omega, Below.refl _ _⟩
    case round =>
      obtain ⟨j, L, hj, rfl, rfl, hL, hL0, hL1, hb⟩ := hrel
      have HL := Lib.hid hL
      clear hL
      have hsz := hb.size
      by_cases hlt : j < l.length
      · have hel := GNode.elem (hs.below hb (Nat.le_refl _)) j hlt
        obtain ⟨b, off, A1, c1, rfl, hSb, g0, g1, g2, g3, g4, hat⟩ := hel
        have hmem : l[j] ∈ l := List.getElem_mem hlt
        have hts := Lib.hid (bulkL_take_succ GNode.bulk l j hlt)
        have htl := Lib.hid (bulkL_take_le GNode.bulk l (j + 1) (by omega))
        have htg := Lib.hid (bulkL_take_ge GNode.bulk l j (by omega))
        go_wp2_with fail
        refine (HH.out _ hmem _ _ L _ hL0 (by omega) (hat.below (Below.refl _ _) hsz)).mono ?_
        rintro e w1 ⟨rfl, hb1⟩
        by_cases hle : ((l[j]).bulk : Int) ≤ L
        · have hv := szv_le hle
          have hge : 0 ≤ L - ((l[j]).bulk : Int) := by omega
          go_wp2_with fail
          go_roundw
          case rel => exact ⟨j + 1, _, by omega, by go_num, rfl, by rw [hts.out, HL.out]; omega, by omega, by omega, hb.trans (hb1.mono hsz)⟩
          case measure => simp [intOf]; omega
        · have hv := szv_gt (b := (l[j]).bulk) (left := L) (by omega)
          go_wp2_with fail
          go_ret
          refine ⟨ret_int ?_, hb.trans (hb1.mono hsz)⟩
          have e1 := hts.out; have e2 := htl.out; have e3 := htg.out; have e4 := HL.out
          rw [szv_gt (by omega)]
      · have hjl : j = l.length := by omega
        have Hj := Lib.hid hjl
        clear hjl
        go_wp2_with fail
        go_ret
        refine ⟨ret_int ?_, hb⟩
        have e4 := HL.out
        rw [Hj.out, List.take_length] at e4
        have := bulkL_len GNode.bulk l
        rw [szv_le (by omega)]; omega

theorem szNode (k : Nat) : ∀ (t : GNode) (A1 : Option Addr) (c1 : Nat) (left : Int) (w : World), t.bulk < k → 0 ≤ left → left ≤ 1048576 → GNode.At w (Lt w.heap.size) A1 c1 t →
      Calls Try.prog 87 #[.agg #[.int .i64 t.op, .int .i64 t.n, .string t.s, .string t.t, .slice A1 t.kids.length c1], .int .i64 left] w fun e w' => e = .returned (.int .i64 (szv t.bulk left)) ∧ Below w.heap.size w w' := by
  induction k with
  | zero => intro t A1 c1 left w hk; omega
  | succ k ih =>
    intro t A1 c1 left w hk h0 h1 hat
    have hbe := t.bulk_eq
    obtain ⟨k0, k1, k2, k3, k4⟩ := id hat
    have s2 : t.s.size ≤ 9223372036854775807 := by unfold maxLen at k2; omega
    have s3 : t.t.size ≤ 9223372036854775807 := by unfold maxLen at k3; omega
    have H3 := fun (left : Int) (w : World) hs h0 h1 => szNodeS t.kids A1 c1 left w hs h0 h1 (fun u hu A1 c1 left w h0 h1 hat => ih u A1 c1 left w (by have := bulkL_mem GNode.bulk t.kids u hu; omega) h0 h1 hat)
    have HH := Lib.hid H3
    have HE := Lib.hid hbe
    have hat' := Lib.hid hat
    clear hbe hat k0 k1 k2 k3 k4 H3 ih
    have B0 : Below w.heap.size w (w.alloc (.cells #[.int .i64 t.op, .int .i64 t.n, .string t.s, .string t.t, .slice A1 t.kids.length c1] 43)) := (Below.refl _ _).alloc (Nat.le_refl _) _
    have r0 := Lib.hid (Row.new w 43 #[.int .i64 t.op, .int .i64 t.n, .string t.s, .string t.t, .slice A1 t.kids.length c1])
    go_enter Try.func87, Try.ntmps87
    by_cases g2 : ((t.s.size : Nat) : Int) ≤ left
    rotate_left
    · have q2 : left - ((t.s.size : Nat) : Int) < 0 := by omega
      go_wp2_with fail
      go_ret
      refine ⟨ret_int ?_, B0⟩
      have := HE.out
      rw [szv_gt (by omega)]
    have q2 : 0 ≤ left - ((t.s.size : Nat) : Int) := by omega
    by_cases g3 : ((t.t.size : Nat) : Int) ≤ left - ((t.s.size : Nat) : Int)
    rotate_left
    · have q3 : left - ((t.s.size : Nat) : Int) - ((t.t.size : Nat) : Int) < 0 := by omega
      go_wp2_with fail
      go_ret
      refine ⟨ret_int ?_, B0⟩
      have := HE.out
      rw [szv_gt (by omega)]
    have q3 : 0 ≤ left - ((t.s.size : Nat) : Int) - ((t.t.size : Nat) : Int) := by omega
    go_wp2_with fail
    obtain ⟨-, -, -, -, k4⟩ := hat'.out.below B0 B0.size
    refine (HH.out _ _ k4 (by omega) (by omega)).mono ?_
    rintro e w1 ⟨rfl, hb1⟩
    have B1 := B0.trans (hb1.mono B0.size)
    by_cases g4 : ((bulkL GNode.bulk t.kids : Nat) : Int) ≤ left - ((t.s.size : Nat) : Int) - ((t.t.size : Nat) : Int)
    rotate_left
    · have hv := szv_gt (b := bulkL GNode.bulk t.kids) (left := left - ((t.s.size : Nat) : Int) - ((t.t.size : Nat) : Int)) (by omega)
      go_wp2_with fail
      go_ret
      refine ⟨ret_int ?_, B1⟩
      have := HE.out
      rw [szv_gt (by omega)]
    have v4 := szv_le g4
    have q4 : 0 ≤ left - ((t.s.size : Nat) : Int) - ((t.t.size : Nat) : Int) - ((bulkL GNode.bulk t.kids : Nat) : Int) := by omega
    go_wp2_with fail
    go_ret
    refine ⟨ret_int ?_, B1⟩
    have := HE.out
    rw [szv_le (by omega)]; omega

theorem szNode' (t : GNode) (A1 : Option Addr) (c1 : Nat) (left : Int) (w : World) (h0 : 0 ≤ left) (h1 : left ≤ 1048576) (hat : GNode.At w (Lt w.heap.size) A1 c1 t) :
      Calls Try.prog 87 #[.agg #[.int .i64 t.op, .int .i64 t.n, .string t.s, .string t.t, .slice A1 t.kids.length c1], .int .i64 left] w fun e w' => e = .returned (.int .i64 (szv t.bulk left)) ∧ Below w.heap.size w w' :=
  szNode (t.bulk + 1) t A1 c1 left w (by omega) h0 h1 hat

theorem szNodeS' (l : List GNode) (A : Option Addr) (c : Nat) (left : Int) (w : World) (hs : Sl w (Lt w.heap.size) 5 A c (l.map GNode.toD)) (h0 : 0 ≤ left) (h1 : left ≤ 1048576) :
    Calls Try.prog 15 #[.slice A l.length c, .int .i64 left] w fun e w' => e = .returned (.int .i64 (szv (bulkL GNode.bulk l) left)) ∧ Below w.heap.size w w' :=
  szNodeS l A c left w hs h0 h1 (fun u _ A1 c1 left w h0 h1 hat => szNode' u A1 c1 left w h0 h1 hat)

/-- what a to function gives back: a struct of the call's own -/
def ToNode (t : GNode) (w : World) (e : Ending) (w' : World) : Prop := ∃ A1 c1, e = .returned (.agg #[.int .i64 t.op, .int .i64 t.n, .string t.s, .string t.t, .slice A1 t.kids.length c1]) ∧ GNode.Ow w' (Btw w.heap.size w'.heap.size) A1 c1 t ∧ Below w.heap.size w w'
def ToNodeS (l : List GNode) (w : World) (e : Ending) (w' : World) : Prop := ∃ A1 c1, e = .returned (.slice A1 l.length c1) ∧ Osl w' (Btw w.heap.size w'.heap.size) 5 A1 c1 (l.map GNode.toD) ∧ Below w.heap.size w w'

def zNode : Value := .agg #[.int .i64 0, .int .i64 0, .string ⟨#[]⟩, .string ⟨#[]⟩, .slice none 0 0]
theorem mkNode (n : Nat) (hn : n ≤ 1048576) (w : World) : (Instr.makeSlice 29 (.int .i64 (n : Int)) (.int .i64 (n : Int))).run Try.prog w = .ok (.slice (some ⟨w.heap.size, 0, none⟩) n n) (w.alloc (.cells (zr zNode 5 n) 49)) :=
  run_mk 29 49 zNode 5 72 Try.underlying29 (by kernel_rfl) n hn (by omega) w

theorem toNodeS (l : List GNode) (A : Option Addr) (c : Nat) (w : World) (hs : Sl w (Lt w.heap.size) 5 A c (l.map GNode.toD)) (hl : l.length ≤ 1048576)
    (H : ∀ t, t ∈ l → ∀ (A1 : Option Addr) (c1 : Nat) (w : World), GNode.At w (Lt w.heap.size) A1 c1 t →
      Calls Try.prog 90 #[.agg #[.int .i64 t.op, .int .i64 t.n, .string t.s, .string t.t, .slice A1 t.kids.length c1]] w (ToNode t w)) :
    Calls Try.prog 18 #[.slice A l.length c] w (ToNodeS l w) := by
  have HH := Lib.hid H
  clear H
  have hmk := mkNode l.length hl
  go_enter Try.func18, Try.ntmps18
  go_wp2_with fail
  clear hmk
  go_loopw [4] (fun i wr => ∃ (j : Nat) (row : Array Value), j ≤ l.length ∧ i = .int .i64 j ∧ Row wr w.heap.size 49 row ∧ row.size = l.length * 5 ∧
      D.ownR wr 5 w.heap.size ((l.take j).map GNode.toD) (fun b => w.heap.size < b ∧ b < wr.heap.size) 0 ∧ Below w.heap.size w wr) (fun i _ => l.length - (intOf i).toNat)
  case atStart => exact ⟨0, _, by omega, by go_num, Row.new _ _ _, zr_size _ _ _, by simp [D.ownR], (Below.refl _ _).alloc (Nat.le_refl _) _⟩
  case round =>
    obtain ⟨j, row, hj, rfl, hrow, hrs, hown, hb⟩ := hrel
    have hsz := hb.size
    have hgl := hrow.lt
    by_cases hlt : j < l.length
    · have hel := GNode.elem (hs.below hb (Nat.le_refl _)) j hlt
      obtain ⟨b, off, A1, c1, rfl, hSb, g0, g1, g2, g3, g4, hat⟩ := hel
      have hmem : l[j] ∈ l := List.getElem_mem hlt
      go_wp2_with fail
      refine (HH.out _ hmem _ _ _ (hat.below (Below.refl _ _) hsz)).mono ?_
      rintro e w1 ⟨B1, d1, rfl, how, hb1⟩
      have hrow1 := Lib.hid (hrow.below hb1 hgl)
      have hf := fun i => hrow1.out.frozen i
      obtain ⟨v0, y0⟩ := row_some (row := row) (j * 5) (by omega)
      obtain ⟨v1, y1⟩ := row_some (row := row) (j * 5 + 1) (by omega)
      obtain ⟨v2, y2⟩ := row_some (row := row) (j * 5 + 2) (by omega)
      obtain ⟨v3, y3⟩ := row_some (row := row) (j * 5 + 3) (by omega)
      obtain ⟨v4, y4⟩ := row_some (row := row) (j * 5 + 4) (by omega)
      have x0 := (hrow1.out.cell (j * 5)).trans y0
      have x1 := (hrow1.out.cell (j * 5 + 1)).trans y1
      have x2 := (hrow1.out.cell (j * 5 + 2)).trans y2
      have x3 := (hrow1.out.cell (j * 5 + 3)).trans y3
      have x4 := (hrow1.out.cell (j * 5 + 4)).trans y4
      clear y0 y1 y2 y3 y4
      have hst := fill_step hrow1.out (j := j) (m := wr.heap.size) (xs := (l.take j).map GNode.toD) (size := 5) (by simp; omega) (by omega) hgl hb1.size
        (D.ownR_keep 5 _ _ _ _ 0 (fun b hb => ⟨hb, hb1.block b hb.2⟩) (fun i _ => hb1.cell (p := ⟨w.heap.size, i, none⟩) hgl) hown) (GNode.own_mk how) rfl
      have hB := setCells_below (hb.trans (hb1.mono hsz)) w.heap.size (j * 5) (Nat.le_refl _) [.int .i64 l[j].op, .int .i64 l[j].n, .string l[j].s, .string l[j].t, .slice B1 l[j].kids.length d1]
      go_wp2_with fail
      go_roundw
      case rel =>
        obtain ⟨row', p1, p2, p3⟩ := hst
        exact ⟨j + 1, row', by omega, by go_num, p1, by omega, by rw [take_snoc' l j hlt, List.map_append]; exact p3, hB⟩
      case measure => simp [intOf]; omega
    · have hjl : j = l.length := by omega
      have Hj := Lib.hid hjl
      clear hjl
      go_wp2_with fail
      go_ret
      rw [Hj.out, List.take_length] at hown
      exact ⟨_, _, rfl, fill_end hrow (Nat.le_refl _) (by simp) (by unfold maxLen; omega) hown, hb⟩

theorem toNode (k : Nat) : ∀ (t : GNode) (A1 : Option Addr) (c1 : Nat) (w : World), t.bulk < k → t.bulk ≤ 1048576 → GNode.At w (Lt w.heap.size) A1 c1 t →
      Calls Try.prog 90 #[.agg #[.int .i64 t.op, .int .i64 t.n, .string t.s, .string t.t, .slice A1 t.kids.length c1]] w (ToNode t w) := by
  induction k with
  | zero => intro t A1 c1 w hk; omega
  | succ k ih =>
    intro t A1 c1 w hk h1 hat
    have hbe := t.bulk_eq
    have H3 := fun (w : World) hs => toNodeS t.kids A1 c1 w hs (by have := bulkL_len GNode.bulk t.kids; omega) (fun u hu A1 c1 w hat => ih u A1 c1 w (by have := bulkL_mem GNode.bulk t.kids u hu; omega) (by have := bulkL_mem GNode.bulk t.kids u hu; omega) hat)
    have HH := Lib.hid H3
    have hat' := Lib.hid hat
    clear hbe hat H3 ih
    go_enter Try.func90, Try.ntmps90
    go_wp2_with fail
    have W0 : ∃ w0, w0 = ((w.alloc (.cells #[.int .i64 t.op, .int .i64 t.n, .string t.s, .string t.t, .slice A1 t.kids.length c1] 43)).alloc (.cells #[.int .i64 0, .int .i64 0, .string ⟨#[]⟩, .string ⟨#[]⟩, .slice none 0 0] 49)).alloc (.cells #[.int .i64 t.op, .int .i64 t.n, .string t.s, .string t.t, .slice none 0 0] 49) := ⟨_, rfl⟩
    obtain ⟨w0, e0⟩ := W0
    have B0 : Below w.heap.size w w0 := by rw [e0]; exact (((Below.refl _ _).alloc (Nat.le_refl _) _).alloc (by simp) _).alloc (by simp; omega) _
    have S0 : w0.heap.size = w.heap.size + 3 := by rw [e0]; simp
    have Ra0 : Row w0 w.heap.size 43 #[.int .i64 t.op, .int .i64 t.n, .string t.s, .string t.t, .slice A1 t.kids.length c1] := by rw [e0]; exact ((Row.new' _ _ _ rfl).alloc _).alloc _
    have Rz0 : Row w0 (w.heap.size + 1) 49 #[.int .i64 0, .int .i64 0, .string ⟨#[]⟩, .string ⟨#[]⟩, .slice none 0 0] := by rw [e0]; exact (Row.new' _ _ _ (by simp)).alloc _
    have Ro0 : Row w0 (w.heap.size + 1 + 1) 49 #[.int .i64 t.op, .int .i64 t.n, .string t.s, .string t.t, .slice none 0 0] := by rw [e0]; exact Row.new' _ _ _ (by simp)
    rw [← e0]
    clear e0
    obtain ⟨-, -, -, -, q4⟩ := hat'.out.below B0 B0.size
    refine (HH.out (w0) q4).mono ?_
    rintro e w1 ⟨D1, d1, rfl, how4, hb1⟩
    have hs1 := hb1.size
    have X1 := B0.trans (hb1.mono B0.size)
    have Rax1 := Lib.hid (Ra0.below hb1 Ra0.lt)
    have Rzx1 := Lib.hid (Rz0.below hb1 Rz0.lt)
    have Rox1 := Lib.hid (Ro0.below hb1 Ro0.lt)
    have hca1 := fun i => Rax1.out.cell i
    have hcz1 := fun i => Rzx1.out.cell i
    have hco1 := fun i => Rox1.out.cell i
    have hfz1 := fun i => Rzx1.out.frozen i
    have hfo1 := fun i => Rox1.out.frozen i
    have B1 := setCells_below X1 (w.heap.size + 1 + 1) 4 (by omega) [.slice D1 t.kids.length d1]
    have Ra1 : Hid (Row (setCells w1 (w.heap.size + 1 + 1) 4 [.slice D1 t.kids.length d1]) w.heap.size 43 #[.int .i64 t.op, .int .i64 t.n, .string t.s, .string t.t, .slice A1 t.kids.length c1]) := (Rax1.out).far (p := ⟨w.heap.size + 1 + 1, 4, none⟩) (by simp <;> omega) (.slice D1 t.kids.length d1)
    have Rz1 : Hid (Row (setCells w1 (w.heap.size + 1 + 1) 4 [.slice D1 t.kids.length d1]) (w.heap.size + 1) 49 #[.int .i64 0, .int .i64 0, .string ⟨#[]⟩, .string ⟨#[]⟩, .slice none 0 0]) := (Rzx1.out).far (p := ⟨w.heap.size + 1 + 1, 4, none⟩) (by simp <;> omega) (.slice D1 t.kids.length d1)
    have Ro1 : Hid (Row (setCells w1 (w.heap.size + 1 + 1) 4 [.slice D1 t.kids.length d1]) (w.heap.size + 1 + 1) 49 #[.int .i64 t.op, .int .i64 t.n, .string t.s, .string t.t, .slice D1 t.kids.length d1]) := (Rox1.out).set 4 (.slice D1 t.kids.length d1)
    replace how4 := how4.keep (S' := Btw (w0).heap.size (w1).heap.size) (w' := setCells w1 (w.heap.size + 1 + 1) 4 [.slice D1 t.kids.length d1]) fun b hb => ⟨hb, setCells_block _ _ _ _ _ (by have := hb.1; first | omega | (simp only [setCells_size] at *; omega) | (simp only [setCells_size] at *; done))⟩
    have BF := setCells_below B1 (w.heap.size + 1) 0 (by omega) [.int .i64 t.op, .int .i64 t.n, .string t.s, .string t.t, .slice D1 t.kids.length d1]
    have SF : (setCells (setCells w1 (w.heap.size + 1 + 1) 4 [.slice D1 t.kids.length d1]) (w.heap.size + 1) 0 [.int .i64 t.op, .int .i64 t.n, .string t.s, .string t.t, .slice D1 t.kids.length d1]).heap.size = w1.heap.size := by rw [setCells_size, setCells_size]
    replace how4 := how4.keep (S' := Btw w.heap.size (setCells (setCells w1 (w.heap.size + 1 + 1) 4 [.slice D1 t.kids.length d1]) (w.heap.size + 1) 0 [.int .i64 t.op, .int .i64 t.n, .string t.s, .string t.t, .slice D1 t.kids.length d1]).heap.size) (w' := setCells (setCells w1 (w.heap.size + 1 + 1) 4 [.slice D1 t.kids.length d1]) (w.heap.size + 1) 0 [.int .i64 t.op, .int .i64 t.n, .string t.s, .string t.t, .slice D1 t.kids.length d1]) fun b hb => ⟨⟨by have := hb.1; first | omega | (simp only [setCells_size] at *; omega) | (simp only [setCells_size] at *; done), by have := hb.2; have := SF; first | omega | (simp only [setCells_size] at *; omega) | (simp only [setCells_size] at *; done)⟩, setCells_block _ _ _ _ _ (by have := hb.1; first | omega | (simp only [setCells_size] at *; omega) | (simp only [setCells_size] at *; done))⟩
    have qs := hat'.out
    obtain ⟨p0, p1, p2, p3, p4⟩ := qs
    go_wp2_with fail
    exact bodyPost_ret (v := .agg #[.int .i64 t.op, .int .i64 t.n, .string t.s, .string t.t, .slice D1 t.kids.length d1]) (by simp [results, Try.results90, go_sem, hca1, hcz1, hco1]) rfl ⟨D1, d1, rfl, ⟨p0, p1, p2, p3, how4⟩, BF⟩

theorem toNode' (t : GNode) (A1 : Option Addr) (c1 : Nat) (w : World) (h1 : t.bulk ≤ 1048576) (hat : GNode.At w (Lt w.heap.size) A1 c1 t) :
      Calls Try.prog 90 #[.agg #[.int .i64 t.op, .int .i64 t.n, .string t.s, .string t.t, .slice A1 t.kids.length c1]] w (ToNode t w) :=
  toNode (t.bulk + 1) t A1 c1 w (by omega) h1 hat

theorem toNodeS' (l : List GNode) (A : Option Addr) (c : Nat) (w : World) (hs : Sl w (Lt w.heap.size) 5 A c (l.map GNode.toD)) (hl : bulkL GNode.bulk l ≤ 1048576) :
    Calls Try.prog 18 #[.slice A l.length c] w (ToNodeS l w) :=
  toNodeS l A c w hs (by have := bulkL_len GNode.bulk l; omega) (fun u hu A1 c1 w hat => toNode' u A1 c1 w (by have := bulkL_mem GNode.bulk l u hu; omega) hat)

set_option maxRecDepth 20000 in
theorem eqNodeS (l : List GNode) (A B : Option Addr) (c d : Nat) (w : World) (hs : Sl w (Lt w.heap.size) 5 A c (l.map GNode.toD)) (hs' : Sl w (Lt w.heap.size) 5 B d (l.map GNode.toD))
    (H : ∀ t, t ∈ l → ∀ (A1 : Option Addr) (c1 : Nat) (B1 : Option Addr) (d1 : Nat) (w : World), GNode.At w (Lt w.heap.size) A1 c1 t → GNode.At w (Lt w.heap.size) B1 d1 t →
      Calls Try.prog 93 #[.agg #[.int .i64 t.op, .int .i64 t.n, .string t.s, .string t.t, .slice A1 t.kids.length c1], .agg #[.int .i64 t.op, .int .i64 t.n, .string t.s, .string t.t, .slice B1 t.kids.length d1]] w fun e w' => e = .returned (.bool true) ∧ Below w.heap.size w w') :
    Calls Try.prog 21 #[.slice A l.length c, .slice B l.length d] w fun e w' => e = .returned (.bool true) ∧ Below w.heap.size w w' := by
  have hlen : l.length ≤ 9223372036854775807 := by simpa using hs.len
  have HH := Lib.hid H
  clear H
  go_enter Try.func21, Try.ntmps21
  go_wp2_with fail
  go_loopw [5] (fun i wr => ∃ (j : Nat), j ≤ l.length ∧ i = .int .i64 j ∧ Below w.heap.size w wr) (fun i _ => l.length - (intOf i).toNat)
  case atStart => exact ⟨0, by omega, by go_num, Below.refl _ _⟩
  case round =>
    obtain ⟨j, hj, rfl, hb⟩ := hrel
    have hsz := hb.size
    by_cases hlt : j < l.length
    · have hel := GNode.elem (hs.below hb (Nat.le_refl _)) j hlt
      obtain ⟨b, off, A1, c1, rfl, hSb, g0, g1, g2, g3, g4, hat⟩ := hel
      have hel := GNode.elem (hs'.below hb (Nat.le_refl _)) j hlt
      obtain ⟨b', off', B1, d1, rfl, hSb', g0', g1', g2', g3', g4', hat'⟩ := hel
      have hmem : l[j] ∈ l := List.getElem_mem hlt
      go_wp2_with fail
      refine wp_region_still_tail 8 (by kernel_rfl) (by kernel_rfl) ?_
      simp only [List.take_succ_cons, List.take_zero, List.drop_succ_cons, List.drop_zero]
      change wpStill _ _ wr.drew (fun a' => wpList _ _ _ _ a' wr.drew) _ _
      iterate 8 still_step
      refine wpStill_nil ?_
      go_wp2_with fail
      refine (HH.out _ hmem _ _ _ _ wr.drew (hat.keep fun b hb => ⟨Nat.lt_of_lt_of_le hb hsz, rfl⟩) (hat'.keep fun b hb => ⟨Nat.lt_of_lt_of_le hb hsz, rfl⟩)).mono ?_
      rintro e w1 ⟨rfl, hb1⟩
      go_wp2_with fail
      go_roundw
      case rel => exact ⟨j + 1, by omega, by go_num, hb.drew.trans (hb1.mono hsz)⟩
      case measure => simp [intOf]; omega
    · have hjl : j = l.length := by omega
      clear hjl
      go_wp2_with fail
      go_ret
      exact ⟨rfl, hb⟩

set_option maxRecDepth 20000 in
theorem eqNode (k : Nat) : ∀ (t : GNode) (A1 : Option Addr) (c1 : Nat) (B1 : Option Addr) (d1 : Nat) (w : World), t.bulk < k → GNode.At w (Lt w.heap.size) A1 c1 t → GNode.At w (Lt w.heap.size) B1 d1 t →
      Calls Try.prog 93 #[.agg #[.int .i64 t.op, .int .i64 t.n, .string t.s, .string t.t, .slice A1 t.kids.length c1], .agg #[.int .i64 t.op, .int .i64 t.n, .string t.s, .string t.t, .slice B1 t.kids.length d1]] w fun e w' => e = .returned (.bool true) ∧ Below w.heap.size w w' := by
  induction k with
  | zero => intro t A1 c1 B1 d1 w hk; omega
  | succ k ih =>
    intro t A1 c1 B1 d1 w hk hat hat2
    have hbe := t.bulk_eq
    have H3 := fun (w : World) hs hs' => eqNodeS t.kids A1 B1 c1 d1 w hs hs' (fun u hu A1 c1 B1 d1 w hat hat2 => ih u A1 c1 B1 d1 w (by have := bulkL_mem GNode.bulk t.kids u hu; omega) hat hat2)
    have HH := Lib.hid H3
    clear hbe H3 ih
    have hat' := Lib.hid hat
    have hat2' := Lib.hid hat2
    clear hat hat2
    have B0 : Below w.heap.size w ((w.alloc (.cells #[.int .i64 t.op, .int .i64 t.n, .string t.s, .string t.t, .slice A1 t.kids.length c1] 49)).alloc (.cells #[.int .i64 t.op, .int .i64 t.n, .string t.s, .string t.t, .slice B1 t.kids.length d1] 49)) := ((Below.refl _ _).alloc (Nat.le_refl _) _).alloc (by simp) _
    have ra0 := Lib.hid ((Row.new w 49 #[.int .i64 t.op, .int .i64 t.n, .string t.s, .string t.t, .slice A1 t.kids.length c1]).alloc (.cells #[.int .i64 t.op, .int .i64 t.n, .string t.s, .string t.t, .slice B1 t.kids.length d1] 49))
    have rb0 := Lib.hid (Row.new' (w.alloc (.cells #[.int .i64 t.op, .int .i64 t.n, .string t.s, .string t.t, .slice A1 t.kids.length c1] 49)) 49 #[.int .i64 t.op, .int .i64 t.n, .string t.s, .string t.t, .slice B1 t.kids.length d1] (g := w.heap.size + 1) (by simp))
    go_enter Try.func93, Try.ntmps93
    go_wp2_with fail
    obtain ⟨-, -, -, -, q4⟩ := hat'.out.below B0 B0.size
    obtain ⟨-, -, -, -, p4⟩ := hat2'.out.below B0 B0.size
    refine (HH.out _ q4 p4).mono ?_
    rintro e w1 ⟨rfl, hb1⟩
    have B1 := B0.trans (hb1.mono B0.size)
    go_wp2_with fail
    go_ret
    exact ⟨rfl, B1⟩

theorem eqNode' (t : GNode) (A1 : Option Addr) (c1 : Nat) (B1 : Option Addr) (d1 : Nat) (w : World) (hat : GNode.At w (Lt w.heap.size) A1 c1 t) (hat2 : GNode.At w (Lt w.heap.size) B1 d1 t) :
      Calls Try.prog 93 #[.agg #[.int .i64 t.op, .int .i64 t.n, .string t.s, .string t.t, .slice A1 t.kids.length c1], .agg #[.int .i64 t.op, .int .i64 t.n, .string t.s, .string t.t, .slice B1 t.kids.length d1]] w fun e w' => e = .returned (.bool true) ∧ Below w.heap.size w w' :=
  eqNode (t.bulk + 1) t A1 c1 B1 d1 w (by omega) hat hat2

theorem eqNodeS' (l : List GNode) (A B : Option Addr) (c d : Nat) (w : World) (hs : Sl w (Lt w.heap.size) 5 A c (l.map GNode.toD)) (hs' : Sl w (Lt w.heap.size) 5 B d (l.map GNode.toD)) :
    Calls Try.prog 21 #[.slice A l.length c, .slice B l.length d] w fun e w' => e = .returned (.bool true) ∧ Below w.heap.size w w' :=
  eqNodeS l A B c d w hs hs' (fun u _ A1 c1 B1 d1 w hat hat2 => eqNode' u A1 c1 B1 d1 w hat hat2)

end Go.Proofs.Ytgbcdfeflgnogaa

/- The laws' sz, to and eq functions at Prog. Conditions: what is counted is at most 1048576. -/
namespace Go.Proofs.Ytgbcdfeflgnogaa
open Go.RowKit
set_option linter.unusedVariables false
set_option linter.unusedSimpArgs false
set_option maxHeartbeats 400000


theorem szProg (t : GProg) (A1 : Option Addr) (c1 : Nat) (A2 : Option Addr) (c2 : Nat) (left : Int) (w : World) (h0 : 0 ≤ left) (h1 : left ≤ 1048576) (hat : GProg.At w (Lt w.heap.size) A1 c1 A2 c2 t) :
      Calls Try.prog 29 #[.agg #[.slice A1 t.datas.length c1, .int .i64 t.main.op, .int .i64 t.main.n, .string t.main.s, .string t.main.t, .slice A2 t.main.kids.length c2], .int .i64 left] w fun e w' => e = .returned (.int .i64 (szv t.bulk left)) ∧ Below w.heap.size w w' := by
  have hbe := t.bulk_eq
  obtain ⟨k0, k1⟩ := id hat
  have HE := Lib.hid hbe
  have hat' := Lib.hid hat
  clear hbe hat k0 k1
  have B0 : Below w.heap.size w (w.alloc (.cells #[.slice A1 t.datas.length c1, .int .i64 t.main.op, .int .i64 t.main.n, .string t.main.s, .string t.main.t, .slice A2 t.main.kids.length c2] 45)) := (Below.refl _ _).alloc (Nat.le_refl _) _
  have r0 := Lib.hid (Row.new w 45 #[.slice A1 t.datas.length c1, .int .i64 t.main.op, .int .i64 t.main.n, .string t.main.s, .string t.main.t, .slice A2 t.main.kids.length c2])
  go_enter Try.func29, Try.ntmps29
  go_wp2_with fail
  obtain ⟨k0, -⟩ := hat'.out.below B0 B0.size
  refine (szDataS' t.datas A1 c1 _ _ k0 (by omega) (by omega)).mono ?_
  rintro e w1 ⟨rfl, hb1⟩
  have B1 := B0.trans (hb1.mono B0.size)
  have r1 := Lib.hid (r0.out.below hb1 r0.out.lt)
  have hc1 := fun i => r1.out.cell i
  by_cases g0 : ((bulkL GData.bulk t.datas : Nat) : Int) ≤ left
  rotate_left
  · have hv := szv_gt (b := bulkL GData.bulk t.datas) (left := left) (by omega)
    go_wp2_with fail
    go_ret
    refine ⟨ret_int ?_, B1⟩
    have := HE.out
    rw [szv_gt (by omega)]
  have v0 := szv_le g0
  have q0 : 0 ≤ left - ((bulkL GData.bulk t.datas : Nat) : Int) := by omega
  go_wp2_with fail
  obtain ⟨-, k1⟩ := hat'.out.below B1 B1.size
  refine (szNode' t.main A2 c2 _ _ (by omega) (by omega) k1).mono ?_
  rintro e w2 ⟨rfl, hb2⟩
  have B2 := B1.trans (hb2.mono B1.size)
  by_cases g1 : ((t.main.bulk : Nat) : Int) ≤ left - ((bulkL GData.bulk t.datas : Nat) : Int)
  rotate_left
  · have hv := szv_gt (b := t.main.bulk) (left := left - ((bulkL GData.bulk t.datas : Nat) : Int)) (by omega)
    go_wp2_with fail
    go_ret
    refine ⟨ret_int ?_, B2⟩
    have := HE.out
    rw [szv_gt (by omega)]
  have v1 := szv_le g1
  have q1 : 0 ≤ left - ((bulkL GData.bulk t.datas : Nat) : Int) - ((t.main.bulk : Nat) : Int) := by omega
  go_wp2_with fail
  go_ret
  refine ⟨ret_int ?_, B2⟩
  have := HE.out
  rw [szv_le (by omega)]; omega

theorem szProg' (t : GProg) (A1 : Option Addr) (c1 : Nat) (A2 : Option Addr) (c2 : Nat) (left : Int) (w : World) (h0 : 0 ≤ left) (h1 : left ≤ 1048576) (hat : GProg.At w (Lt w.heap.size) A1 c1 A2 c2 t) :
      Calls Try.prog 29 #[.agg #[.slice A1 t.datas.length c1, .int .i64 t.main.op, .int .i64 t.main.n, .string t.main.s, .string t.main.t, .slice A2 t.main.kids.length c2], .int .i64 left] w fun e w' => e = .returned (.int .i64 (szv t.bulk left)) ∧ Below w.heap.size w w' :=
  szProg t A1 c1 A2 c2 left w h0 h1 hat


/-- what a to function gives back: a struct of the call's own -/
def ToProg (t : GProg) (w : World) (e : Ending) (w' : World) : Prop := ∃ A1 c1 A2 c2, e = .returned (.agg #[.slice A1 t.datas.length c1, .int .i64 t.main.op, .int .i64 t.main.n, .string t.main.s, .string t.main.t, .slice A2 t.main.kids.length c2]) ∧ GProg.Ow w' (Btw w.heap.size w'.heap.size) A1 c1 A2 c2 t ∧ Below w.heap.size w w'
def ToProgS (l : List GProg) (w : World) (e : Ending) (w' : World) : Prop := ∃ A1 c1, e = .returned (.slice A1 l.length c1) ∧ Osl w' (Btw w.heap.size w'.heap.size) 6 A1 c1 (l.map GProg.toD) ∧ Below w.heap.size w w'



theorem toProg (t : GProg) (A1 : Option Addr) (c1 : Nat) (A2 : Option Addr) (c2 : Nat) (w : World) (h1 : t.bulk ≤ 1048576) (hat : GProg.At w (Lt w.heap.size) A1 c1 A2 c2 t) :
      Calls Try.prog 31 #[.agg #[.slice A1 t.datas.length c1, .int .i64 t.main.op, .int .i64 t.main.n, .string t.main.s, .string t.main.t, .slice A2 t.main.kids.length c2]] w (ToProg t w) := by
  have hbe := t.bulk_eq
  have m0 : bulkL GData.bulk t.datas ≤ 1048576 := by omega
  have m1 : t.main.bulk ≤ 1048576 := by omega
  have hat' := Lib.hid hat
  clear hbe hat
  go_enter Try.func31, Try.ntmps31
  go_wp2_with fail
  have W0 : ∃ w0, w0 = ((w.alloc (.cells #[.slice A1 t.datas.length c1, .int .i64 t.main.op, .int .i64 t.main.n, .string t.main.s, .string t.main.t, .slice A2 t.main.kids.length c2] 45)).alloc (.cells #[.slice none 0 0, .int .i64 0, .int .i64 0, .string ⟨#[]⟩, .string ⟨#[]⟩, .slice none 0 0] 51)).alloc (.cells #[.slice none 0 0, .int .i64 0, .int .i64 0, .string ⟨#[]⟩, .string ⟨#[]⟩, .slice none 0 0] 51) := ⟨_, rfl⟩
  obtain ⟨w0, e0⟩ := W0
  have B0 : Below w.heap.size w w0 := by rw [e0]; exact (((Below.refl _ _).alloc (Nat.le_refl _) _).alloc (by simp) _).alloc (by simp; omega) _
  have S0 : w0.heap.size = w.heap.size + 3 := by rw [e0]; simp
  have Ra0 : Row w0 w.heap.size 45 #[.slice A1 t.datas.length c1, .int .i64 t.main.op, .int .i64 t.main.n, .string t.main.s, .string t.main.t, .slice A2 t.main.kids.length c2] := by rw [e0]; exact ((Row.new' _ _ _ rfl).alloc _).alloc _
  have Rz0 : Row w0 (w.heap.size + 1) 51 #[.slice none 0 0, .int .i64 0, .int .i64 0, .string ⟨#[]⟩, .string ⟨#[]⟩, .slice none 0 0] := by rw [e0]; exact (Row.new' _ _ _ (by simp)).alloc _
  have Ro0 : Row w0 (w.heap.size + 1 + 1) 51 #[.slice none 0 0, .int .i64 0, .int .i64 0, .string ⟨#[]⟩, .string ⟨#[]⟩, .slice none 0 0] := by rw [e0]; exact Row.new' _ _ _ (by simp)
  rw [← e0]
  clear e0
  obtain ⟨q0, -⟩ := hat'.out.below B0 B0.size
  refine (toDataS' t.datas A1 c1 (w0) q0 m0).mono ?_
  rintro e w1 ⟨D1, d1, rfl, how0, hb1⟩
  have hs1 := hb1.size
  have X1 := B0.trans (hb1.mono B0.size)
  have Rax1 := Lib.hid (Ra0.below hb1 Ra0.lt)
  have Rzx1 := Lib.hid (Rz0.below hb1 Rz0.lt)
  have Rox1 := Lib.hid (Ro0.below hb1 Ro0.lt)
  have hca1 := fun i => Rax1.out.cell i
  have hcz1 := fun i => Rzx1.out.cell i
  have hco1 := fun i => Rox1.out.cell i
  have hfz1 := fun i => Rzx1.out.frozen i
  have hfo1 := fun i => Rox1.out.frozen i
  have B1 := setCells_below X1 (w.heap.size + 1 + 1) 0 (by omega) [.slice D1 t.datas.length d1]
  have Ra1 : Hid (Row (setCells w1 (w.heap.size + 1 + 1) 0 [.slice D1 t.datas.length d1]) w.heap.size 45 #[.slice A1 t.datas.length c1, .int .i64 t.main.op, .int .i64 t.main.n, .string t.main.s, .string t.main.t, .slice A2 t.main.kids.length c2]) := (Rax1.out).far (p := ⟨w.heap.size + 1 + 1, 0, none⟩) (by simp <;> omega) (.slice D1 t.datas.length d1)
  have Rz1 : Hid (Row (setCells w1 (w.heap.size + 1 + 1) 0 [.slice D1 t.datas.length d1]) (w.heap.size + 1) 51 #[.slice none 0 0, .int .i64 0, .int .i64 0, .string ⟨#[]⟩, .string ⟨#[]⟩, .slice none 0 0]) := (Rzx1.out).far (p := ⟨w.heap.size + 1 + 1, 0, none⟩) (by simp <;> omega) (.slice D1 t.datas.length d1)
  have Ro1 : Hid (Row (setCells w1 (w.heap.size + 1 + 1) 0 [.slice D1 t.datas.length d1]) (w.heap.size + 1 + 1) 51 #[.slice D1 t.datas.length d1, .int .i64 0, .int .i64 0, .string ⟨#[]⟩, .string ⟨#[]⟩, .slice none 0 0]) := (Rox1.out).set 0 (.slice D1 t.datas.length d1)
  replace how0 := how0.keep (S' := Btw (w0).heap.size (w1).heap.size) (w' := setCells w1 (w.heap.size + 1 + 1) 0 [.slice D1 t.datas.length d1]) fun b hb => ⟨hb, setCells_block _ _ _ _ _ (by have := hb.1; first | omega | (simp only [setCells_size] at *; omega) | (simp only [setCells_size] at *; done))⟩
  go_wp2_with fail
  obtain ⟨-, q1⟩ := hat'.out.below B1 B1.size
  refine (toNode' t.main A2 c2 (setCells w1 (w.heap.size + 1 + 1) 0 [.slice D1 t.datas.length d1]) m1 q1).mono ?_
  rintro e w2 ⟨D2, d2, rfl, how1, hb2⟩
  have hs2 := hb2.size
  have X2 := B1.trans (hb2.mono B1.size)
  have Rax2 := Lib.hid (Ra1.out.below hb2 Ra1.out.lt)
  have Rzx2 := Lib.hid (Rz1.out.below hb2 Rz1.out.lt)
  have Rox2 := Lib.hid (Ro1.out.below hb2 Ro1.out.lt)
  have hca2 := fun i => Rax2.out.cell i
  have hcz2 := fun i => Rzx2.out.cell i
  have hco2 := fun i => Rox2.out.cell i
  have hfz2 := fun i => Rzx2.out.frozen i
  have hfo2 := fun i => Rox2.out.frozen i
  replace how0 := how0.keep (S' := Btw (w0).heap.size (w1).heap.size) fun b hb => ⟨hb, hb2.block b (by have := hb.2; have := hs2; first | omega | (simp only [setCells_size] at *; omega) | (simp only [setCells_size] at *; done))⟩
  have B2 := setCells_below X2 (w.heap.size + 1 + 1) 1 (by omega) [.int .i64 t.main.op, .int .i64 t.main.n, .string t.main.s, .string t.main.t, .slice D2 t.main.kids.length d2]
  have Ra2 : Hid (Row (setCells w2 (w.heap.size + 1 + 1) 1 [.int .i64 t.main.op, .int .i64 t.main.n, .string t.main.s, .string t.main.t, .slice D2 t.main.kids.length d2]) w.heap.size 45 #[.slice A1 t.datas.length c1, .int .i64 t.main.op, .int .i64 t.main.n, .string t.main.s, .string t.main.t, .slice A2 t.main.kids.length c2]) := (((((Rax2.out).far (p := ⟨w.heap.size + 1 + 1, 1, none⟩) (by simp <;> omega) (.int .i64 t.main.op)).far (p := ⟨w.heap.size + 1 + 1, 2, none⟩) (by simp <;> omega) (.int .i64 t.main.n)).far (p := ⟨w.heap.size + 1 + 1, 3, none⟩) (by simp <;> omega) (.string t.main.s)).far (p := ⟨w.heap.size + 1 + 1, 4, none⟩) (by simp <;> omega) (.string t.main.t)).far (p := ⟨w.heap.size + 1 + 1, 5, none⟩) (by simp <;> omega) (.slice D2 t.main.kids.length d2)
  have Rz2 : Hid (Row (setCells w2 (w.heap.size + 1 + 1) 1 [.int .i64 t.main.op, .int .i64 t.main.n, .string t.main.s, .string t.main.t, .slice D2 t.main.kids.length d2]) (w.heap.size + 1) 51 #[.slice none 0 0, .int .i64 0, .int .i64 0, .string ⟨#[]⟩, .string ⟨#[]⟩, .slice none 0 0]) := (((((Rzx2.out).far (p := ⟨w.heap.size + 1 + 1, 1, none⟩) (by simp <;> omega) (.int .i64 t.main.op)).far (p := ⟨w.heap.size + 1 + 1, 2, none⟩) (by simp <;> omega) (.int .i64 t.main.n)).far (p := ⟨w.heap.size + 1 + 1, 3, none⟩) (by simp <;> omega) (.string t.main.s)).far (p := ⟨w.heap.size + 1 + 1, 4, none⟩) (by simp <;> omega) (.string t.main.t)).far (p := ⟨w.heap.size + 1 + 1, 5, none⟩) (by simp <;> omega) (.slice D2 t.main.kids.length d2)
  have Ro2 : Hid (Row (setCells w2 (w.heap.size + 1 + 1) 1 [.int .i64 t.main.op, .int .i64 t.main.n, .string t.main.s, .string t.main.t, .slice D2 t.main.kids.length d2]) (w.heap.size + 1 + 1) 51 #[.slice D1 t.datas.length d1, .int .i64 t.main.op, .int .i64 t.main.n, .string t.main.s, .string t.main.t, .slice D2 t.main.kids.length d2]) := (((((Rox2.out).set 1 (.int .i64 t.main.op)).set 2 (.int .i64 t.main.n)).set 3 (.string t.main.s)).set 4 (.string t.main.t)).set 5 (.slice D2 t.main.kids.length d2)
  replace how0 := how0.keep (S' := Btw (w0).heap.size (w1).heap.size) (w' := setCells w2 (w.heap.size + 1 + 1) 1 [.int .i64 t.main.op, .int .i64 t.main.n, .string t.main.s, .string t.main.t, .slice D2 t.main.kids.length d2]) fun b hb => ⟨hb, setCells_block _ _ _ _ _ (by have := hb.1; first | omega | (simp only [setCells_size] at *; omega) | (simp only [setCells_size] at *; done))⟩
  replace how1 := how1.keep (S' := Btw (setCells w1 (w.heap.size + 1 + 1) 0 [.slice D1 t.datas.length d1]).heap.size (w2).heap.size) (w' := setCells w2 (w.heap.size + 1 + 1) 1 [.int .i64 t.main.op, .int .i64 t.main.n, .string t.main.s, .string t.main.t, .slice D2 t.main.kids.length d2]) fun b hb => ⟨hb, setCells_block _ _ _ _ _ (by have := hb.1; first | omega | (simp only [setCells_size] at *; omega) | (simp only [setCells_size] at *; done))⟩
  have BF := setCells_below B2 (w.heap.size + 1) 0 (by omega) [.slice D1 t.datas.length d1, .int .i64 t.main.op, .int .i64 t.main.n, .string t.main.s, .string t.main.t, .slice D2 t.main.kids.length d2]
  have SF : (setCells (setCells w2 (w.heap.size + 1 + 1) 1 [.int .i64 t.main.op, .int .i64 t.main.n, .string t.main.s, .string t.main.t, .slice D2 t.main.kids.length d2]) (w.heap.size + 1) 0 [.slice D1 t.datas.length d1, .int .i64 t.main.op, .int .i64 t.main.n, .string t.main.s, .string t.main.t, .slice D2 t.main.kids.length d2]).heap.size = w2.heap.size := by rw [setCells_size, setCells_size]
  replace how0 := how0.keep (S' := Btw (w0).heap.size (w1).heap.size) (w' := setCells (setCells w2 (w.heap.size + 1 + 1) 1 [.int .i64 t.main.op, .int .i64 t.main.n, .string t.main.s, .string t.main.t, .slice D2 t.main.kids.length d2]) (w.heap.size + 1) 0 [.slice D1 t.datas.length d1, .int .i64 t.main.op, .int .i64 t.main.n, .string t.main.s, .string t.main.t, .slice D2 t.main.kids.length d2]) fun b hb => ⟨hb, setCells_block _ _ _ _ _ (by have := hb.1; first | omega | (simp only [setCells_size] at *; omega) | (simp only [setCells_size] at *; done))⟩
  replace how1 := how1.keep (S' := Btw (setCells w1 (w.heap.size + 1 + 1) 0 [.slice D1 t.datas.length d1]).heap.size (w2).heap.size) (w' := setCells (setCells w2 (w.heap.size + 1 + 1) 1 [.int .i64 t.main.op, .int .i64 t.main.n, .string t.main.s, .string t.main.t, .slice D2 t.main.kids.length d2]) (w.heap.size + 1) 0 [.slice D1 t.datas.length d1, .int .i64 t.main.op, .int .i64 t.main.n, .string t.main.s, .string t.main.t, .slice D2 t.main.kids.length d2]) fun b hb => ⟨hb, setCells_block _ _ _ _ _ (by have := hb.1; first | omega | (simp only [setCells_size] at *; omega) | (simp only [setCells_size] at *; done))⟩
  have qs := hat'.out
  obtain ⟨p0, p1⟩ := qs
  go_wp2_with fail
  exact bodyPost_ret (v := .agg #[.slice D1 t.datas.length d1, .int .i64 t.main.op, .int .i64 t.main.n, .string t.main.s, .string t.main.t, .slice D2 t.main.kids.length d2]) (by simp [results, Try.results31, go_sem, hca2, hcz2, hco2]) rfl ⟨D1, d1, D2, d2, rfl, ⟨Btw (w0).heap.size (w1).heap.size, Btw (setCells w1 (w.heap.size + 1 + 1) 0 [.slice D1 t.datas.length d1]).heap.size (w2).heap.size, fun x hx => ⟨by have := hx.1; first | omega | (simp only [setCells_size] at *; omega) | (simp only [setCells_size] at *; done), by have := hx.2; have := SF; first | omega | (have h3 := SF; exact Nat.lt_of_lt_of_le (by first | omega | (simp only [setCells_size] at *; omega)) (Nat.le_of_eq h3.symm)) | (simp only [setCells_size] at *; omega) | (simp only [setCells_size] at *; done)⟩, fun x hx => ⟨by have := hx.1; first | omega | (simp only [setCells_size] at *; omega) | (simp only [setCells_size] at *; done), by have := hx.2; have := SF; first | omega | (have h3 := SF; exact Nat.lt_of_lt_of_le (by first | omega | (simp only [setCells_size] at *; omega)) (Nat.le_of_eq h3.symm)) | (simp only [setCells_size] at *; omega) | (simp only [setCells_size] at *; done)⟩, fun x hx hy => by have := hx.2; have := hy.1; first | omega | (simp only [setCells_size] at *; omega) | (simp only [setCells_size] at *; done), how0, how1⟩, BF⟩

theorem toProg' (t : GProg) (A1 : Option Addr) (c1 : Nat) (A2 : Option Addr) (c2 : Nat) (w : World) (h1 : t.bulk ≤ 1048576) (hat : GProg.At w (Lt w.heap.size) A1 c1 A2 c2 t) :
      Calls Try.prog 31 #[.agg #[.slice A1 t.datas.length c1, .int .i64 t.main.op, .int .i64 t.main.n, .string t.main.s, .string t.main.t, .slice A2 t.main.kids.length c2]] w (ToProg t w) :=
  toProg t A1 c1 A2 c2 w h1 hat



set_option maxRecDepth 20000 in
theorem eqProg (t : GProg) (A1 : Option Addr) (c1 : Nat) (A2 : Option Addr) (c2 : Nat) (B1 : Option Addr) (d1 : Nat) (B2 : Option Addr) (d2 : Nat) (w : World) (hat : GProg.At w (Lt w.heap.size) A1 c1 A2 c2 t) (hat2 : GProg.At w (Lt w.heap.size) B1 d1 B2 d2 t) :
      Calls Try.prog 33 #[.agg #[.slice A1 t.datas.length c1, .int .i64 t.main.op, .int .i64 t.main.n, .string t.main.s, .string t.main.t, .slice A2 t.main.kids.length c2], .agg #[.slice B1 t.datas.length d1, .int .i64 t.main.op, .int .i64 t.main.n, .string t.main.s, .string t.main.t, .slice B2 t.main.kids.length d2]] w fun e w' => e = .returned (.bool true) ∧ Below w.heap.size w w' := by
  have hat' := Lib.hid hat
  have hat2' := Lib.hid hat2
  clear hat hat2
  have B0 : Below w.heap.size w ((w.alloc (.cells #[.slice A1 t.datas.length c1, .int .i64 t.main.op, .int .i64 t.main.n, .string t.main.s, .string t.main.t, .slice A2 t.main.kids.length c2] 51)).alloc (.cells #[.slice B1 t.datas.length d1, .int .i64 t.main.op, .int .i64 t.main.n, .string t.main.s, .string t.main.t, .slice B2 t.main.kids.length d2] 51)) := ((Below.refl _ _).alloc (Nat.le_refl _) _).alloc (by simp) _
  have ra0 := Lib.hid ((Row.new w 51 #[.slice A1 t.datas.length c1, .int .i64 t.main.op, .int .i64 t.main.n, .string t.main.s, .string t.main.t, .slice A2 t.main.kids.length c2]).alloc (.cells #[.slice B1 t.datas.length d1, .int .i64 t.main.op, .int .i64 t.main.n, .string t.main.s, .string t.main.t, .slice B2 t.main.kids.length d2] 51))
  have rb0 := Lib.hid (Row.new' (w.alloc (.cells #[.slice A1 t.datas.length c1, .int .i64 t.main.op, .int .i64 t.main.n, .string t.main.s, .string t.main.t, .slice A2 t.main.kids.length c2] 51)) 51 #[.slice B1 t.datas.length d1, .int .i64 t.main.op, .int .i64 t.main.n, .string t.main.s, .string t.main.t, .slice B2 t.main.kids.length d2] (g := w.heap.size + 1) (by simp))
  go_enter Try.func33, Try.ntmps33
  go_wp2_with fail
  obtain ⟨q0, -⟩ := hat'.out.below B0 B0.size
  obtain ⟨p0, -⟩ := hat2'.out.below B0 B0.size
  refine (eqDataS' t.datas A1 B1 c1 d1 _ q0 p0).mono ?_
  rintro e w1 ⟨rfl, hb1⟩
  have B1 := B0.trans (hb1.mono B0.size)
  have ra1 := Lib.hid (ra0.out.below hb1 ra0.out.lt)
  have rb1 := Lib.hid (rb0.out.below hb1 rb0.out.lt)
  have ha1 := fun i => ra1.out.cell i
  have hq1 := fun i => rb1.out.cell i
  go_wp2_with fail
  obtain ⟨-, q1⟩ := hat'.out.below B1 B1.size
  obtain ⟨-, p1⟩ := hat2'.out.below B1 B1.size
  refine (eqNode' t.main A2 c2 B2 d2 _ q1 p1).mono ?_
  rintro e w2 ⟨rfl, hb2⟩
  have B2 := B1.trans (hb2.mono B1.size)
  go_wp2_with fail
  go_ret
  exact ⟨rfl, B2⟩

theorem eqProg' (t : GProg) (A1 : Option Addr) (c1 : Nat) (A2 : Option Addr) (c2 : Nat) (B1 : Option Addr) (d1 : Nat) (B2 : Option Addr) (d2 : Nat) (w : World) (hat : GProg.At w (Lt w.heap.size) A1 c1 A2 c2 t) (hat2 : GProg.At w (Lt w.heap.size) B1 d1 B2 d2 t) :
      Calls Try.prog 33 #[.agg #[.slice A1 t.datas.length c1, .int .i64 t.main.op, .int .i64 t.main.n, .string t.main.s, .string t.main.t, .slice A2 t.main.kids.length c2], .agg #[.slice B1 t.datas.length d1, .int .i64 t.main.op, .int .i64 t.main.n, .string t.main.s, .string t.main.t, .slice B2 t.main.kids.length d2]] w fun e w' => e = .returned (.bool true) ∧ Below w.heap.size w w' :=
  eqProg t A1 c1 A2 c2 B1 d1 B2 d2 w hat hat2


end Go.Proofs.Ytgbcdfeflgnogaa
