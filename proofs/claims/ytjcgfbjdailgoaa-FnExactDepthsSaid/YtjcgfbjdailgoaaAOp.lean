/- The laws' sz, to and eq functions at Op. Conditions: what is counted is at most 1048576. -/
import Derived.Test.YtjcgfbjdailgoaaRows
import Derived.Test.YtjcgfbjdailgoaaPw
import Derived.Test.YtjcgfbjdailgoaaGOp
import Derived.Lib.Hide
import Derived.StillTailTactics
namespace Go.Proofs.Ytjcgfbjdailgoaa
open Go.RowKit
set_option linter.unusedVariables false
set_option linter.unusedSimpArgs false
set_option maxHeartbeats 400000

theorem szOpS (l : List GOp) (A : Option Addr) (c : Nat) (left : Int) (w : World) (hs : Sl w (Lt w.heap.size) 3 A c (l.map GOp.toD)) (h0 : 0 ≤ left) (h1 : left ≤ 1048576) :
    Calls Try.prog 167 #[.slice A l.length c, .int .i64 left] w fun e w' => e = .returned (.int .i64 (szv (bulkL GOp.bulk l) left)) ∧ Below w.heap.size w w' := by
  have hlen : l.length ≤ 9223372036854775807 := by simpa using hs.len
  have hbe : bulkL GOp.bulk l = l.length := by
    clear hs hlen
    induction l with
    | nil => rfl
    | cons t r ih => simp only [bulkL, GOp.bulk, ih, List.length_cons]; omega
  have HE := Lib.hid hbe
  clear hbe
  by_cases hll : left < (l.length : Int)
  · have hg : left - (l.length : Int) < 0 := by omega
    go_enter Try.func167, Try.ntmps167
    go_wp2_with fail
    go_ret
    exact ⟨ret_int (by rw [HE.out, szv_gt hll]), Below.refl _ _⟩
  · have hg : 0 ≤ left - (l.length : Int) := by omega
    go_enter Try.func167, Try.ntmps167
    go_wp2_with fail
    go_ret
    exact ⟨ret_int (by rw [HE.out, szv_le (by omega)]), Below.refl _ _⟩

/-- what a to function gives back: a struct of the call's own -/
def ToOp (t : GOp) (w : World) (e : Ending) (w' : World) : Prop := e = .returned (.agg #[.int .i64 t.code, .int .i64 t.n, .int .i64 t.m]) ∧ GOp.Ow w' (Btw w.heap.size w'.heap.size)  t ∧ Below w.heap.size w w'
def ToOpS (l : List GOp) (w : World) (e : Ending) (w' : World) : Prop := ∃ A1 c1, e = .returned (.slice A1 l.length c1) ∧ Osl w' (Btw w.heap.size w'.heap.size) 3 A1 c1 (l.map GOp.toD) ∧ Below w.heap.size w w'

def zOp : Value := .agg #[.int .i64 0, .int .i64 0, .int .i64 0]
theorem mkOp (n : Nat) (hn : n ≤ 1048576) (w : World) : (Instr.makeSlice 139 (.int .i64 (n : Int)) (.int .i64 (n : Int))).run Try.prog w = .ok (.slice (some ⟨w.heap.size, 0, none⟩) n n) (w.alloc (.cells (zr zOp 3 n) 153)) :=
  run_mk 139 153 zOp 3 24 Try.underlying139 (by kernel_rfl) n hn (by omega) w

theorem toOpS (l : List GOp) (A : Option Addr) (c : Nat) (w : World) (hs : Sl w (Lt w.heap.size) 3 A c (l.map GOp.toD)) (hl : l.length ≤ 1048576)
    (H : ∀ t, t ∈ l → ∀ (w : World), GOp.At w (Lt w.heap.size)  t →
      Calls Try.prog 235 #[.agg #[.int .i64 t.code, .int .i64 t.n, .int .i64 t.m]] w (ToOp t w)) :
    Calls Try.prog 169 #[.slice A l.length c] w (ToOpS l w) := by
  have HH := Lib.hid H
  clear H
  have hmk := mkOp l.length hl
  go_enter Try.func169, Try.ntmps169
  go_wp2_with fail
  clear hmk
  go_loopw [4] (fun i wr => ∃ (j : Nat) (row : Array Value), j ≤ l.length ∧ i = .int .i64 j ∧ Row wr w.heap.size 153 row ∧ row.size = l.length * 3 ∧
      D.ownR wr 3 w.heap.size ((l.take j).map GOp.toD) (fun b => w.heap.size < b ∧ b < wr.heap.size) 0 ∧ Below w.heap.size w wr) (fun i _ => l.length - (intOf i).toNat)
  case atStart => exact ⟨0, _, by omega, by go_num, Row.new _ _ _, zr_size _ _ _, by simp [D.ownR], (Below.refl _ _).alloc (Nat.le_refl _) _⟩
  case round =>
    obtain ⟨j, row, hj, rfl, hrow, hrs, hown, hb⟩ := hrel
    have hsz := hb.size
    have hgl := hrow.lt
    by_cases hlt : j < l.length
    · have hel := GOp.elem (hs.below hb (Nat.le_refl _)) j hlt
      obtain ⟨b, off, rfl, hSb, g0, g1, g2, hat⟩ := hel
      have hmem : l[j] ∈ l := List.getElem_mem hlt
      go_wp2_with fail
      refine (HH.out _ hmem  _ (hat.below (Below.refl _ _) hsz)).mono ?_
      rintro e w1 ⟨rfl, how, hb1⟩
      have hrow1 := Lib.hid (hrow.below hb1 hgl)
      have hf := fun i => hrow1.out.frozen i
      obtain ⟨v0, y0⟩ := row_some (row := row) (j * 3) (by omega)
      obtain ⟨v1, y1⟩ := row_some (row := row) (j * 3 + 1) (by omega)
      obtain ⟨v2, y2⟩ := row_some (row := row) (j * 3 + 2) (by omega)
      have x0 := (hrow1.out.cell (j * 3)).trans y0
      have x1 := (hrow1.out.cell (j * 3 + 1)).trans y1
      have x2 := (hrow1.out.cell (j * 3 + 2)).trans y2
      clear y0 y1 y2
      have hst := fill_step hrow1.out (j := j) (m := wr.heap.size) (xs := (l.take j).map GOp.toD) (size := 3) (by simp; omega) (by omega) hgl hb1.size
        (D.ownR_keep 3 _ _ _ _ 0 (fun b hb => ⟨hb, hb1.block b hb.2⟩) (fun i _ => hb1.cell (p := ⟨w.heap.size, i, none⟩) hgl) hown) (GOp.own_mk how) rfl
      have hB := setCells_below (hb.trans (hb1.mono hsz)) w.heap.size (j * 3) (Nat.le_refl _) [.int .i64 l[j].code, .int .i64 l[j].n, .int .i64 l[j].m]
      go_wp2_with fail
      go_roundw
      case rel =>
        obtain ⟨row', p1, p2, p3⟩ := hst
        exact ⟨j + 1, row', by omega, by go_num, p1, by omega, by rw [take_snoc' l j hlt, List.map_append]; exact p3, hB⟩
      case measure => simp [intOf]; omega
    · have hjl : j = l.length := by omega
      have Hj := Lib.hid hjl
      clear hjl
      go_wp2_with fail
      go_ret
      rw [Hj.out, List.take_length] at hown
      exact ⟨_, _, rfl, fill_end hrow (Nat.le_refl _) (by simp) (by unfold maxLen; omega) hown, hb⟩

theorem toOp (t : GOp)  (w : World) (h1 : t.bulk ≤ 1048576) (hat : GOp.At w (Lt w.heap.size)  t) :
      Calls Try.prog 235 #[.agg #[.int .i64 t.code, .int .i64 t.n, .int .i64 t.m]] w (ToOp t w) := by
  have hbe := t.bulk_eq
  have hat' := Lib.hid hat
  clear hbe hat
  go_enter Try.func235, Try.ntmps235
  go_wp2_with fail
  have qs := hat'.out
  obtain ⟨p0, p1, p2⟩ := qs
  exact bodyPost_ret (v := .agg #[.int .i64 t.code, .int .i64 t.n, .int .i64 t.m]) (by simp [results, Try.results235, go_sem]) rfl ⟨rfl, ⟨p0, p1, p2⟩, by repeat (first | exact Below.refl _ _ | refine Below.alloc ?_ (by simp; try omega) _ | exact Below.refl _ _)⟩

theorem toOp' (t : GOp)  (w : World) (h1 : t.bulk ≤ 1048576) (hat : GOp.At w (Lt w.heap.size)  t) :
      Calls Try.prog 235 #[.agg #[.int .i64 t.code, .int .i64 t.n, .int .i64 t.m]] w (ToOp t w) :=
  toOp t  w h1 hat

theorem toOpS' (l : List GOp) (A : Option Addr) (c : Nat) (w : World) (hs : Sl w (Lt w.heap.size) 3 A c (l.map GOp.toD)) (hl : bulkL GOp.bulk l ≤ 1048576) :
    Calls Try.prog 169 #[.slice A l.length c] w (ToOpS l w) :=
  toOpS l A c w hs (by have := bulkL_len GOp.bulk l; omega) (fun u hu  w hat => toOp' u  w (by have := bulkL_mem GOp.bulk l u hu; omega) hat)

set_option maxRecDepth 20000 in
theorem eqOpS (l : List GOp) (A B : Option Addr) (c d : Nat) (w : World) (hs : Sl w (Lt w.heap.size) 3 A c (l.map GOp.toD)) (hs' : Sl w (Lt w.heap.size) 3 B d (l.map GOp.toD))
    (H : ∀ t, t ∈ l → ∀   (w : World), GOp.At w (Lt w.heap.size)  t → GOp.At w (Lt w.heap.size)  t →
      Calls Try.prog 236 #[.agg #[.int .i64 t.code, .int .i64 t.n, .int .i64 t.m], .agg #[.int .i64 t.code, .int .i64 t.n, .int .i64 t.m]] w fun e w' => e = .returned (.bool true) ∧ Below w.heap.size w w') :
    Calls Try.prog 171 #[.slice A l.length c, .slice B l.length d] w fun e w' => e = .returned (.bool true) ∧ Below w.heap.size w w' := by
  have hlen : l.length ≤ 9223372036854775807 := by simpa using hs.len
  have HH := Lib.hid H
  clear H
  go_enter Try.func171, Try.ntmps171
  go_wp2_with fail
  go_loopw [5] (fun i wr => ∃ (j : Nat), j ≤ l.length ∧ i = .int .i64 j ∧ Below w.heap.size w wr) (fun i _ => l.length - (intOf i).toNat)
  case atStart => exact ⟨0, by omega, by go_num, Below.refl _ _⟩
  case round =>
    obtain ⟨j, hj, rfl, hb⟩ := hrel
    have hsz := hb.size
    by_cases hlt : j < l.length
    · have hel := GOp.elem (hs.below hb (Nat.le_refl _)) j hlt
      obtain ⟨b, off, rfl, hSb, g0, g1, g2, hat⟩ := hel
      have hel := GOp.elem (hs'.below hb (Nat.le_refl _)) j hlt
      obtain ⟨b', off', rfl, hSb', g0', g1', g2', hat'⟩ := hel
      have hmem : l[j] ∈ l := List.getElem_mem hlt
      go_wp2_with fail
      refine wp_region_still_tail 8 (by kernel_rfl) (by kernel_rfl) ?_
      simp only [List.take_succ_cons, List.take_zero, List.drop_succ_cons, List.drop_zero]
      change wpStill _ _ wr.drew (fun a' => wpList _ _ _ _ a' wr.drew) _ _
      iterate 8 still_step
      refine wpStill_nil ?_
      go_wp2_with fail
      refine (HH.out _ hmem   wr.drew (hat.keep fun b hb => ⟨Nat.lt_of_lt_of_le hb hsz, rfl⟩) (hat'.keep fun b hb => ⟨Nat.lt_of_lt_of_le hb hsz, rfl⟩)).mono ?_
      rintro e w1 ⟨rfl, hb1⟩
      go_wp2_with fail
      go_roundw
      case rel => exact ⟨j + 1, by omega, by go_num, hb.drew.trans (hb1.mono hsz)⟩
      case measure => simp [intOf]; omega
    · have hjl : j = l.length := by omega
      clear hjl
      go_wp2_with fail
      go_ret
      exact ⟨rfl, hb⟩

set_option maxRecDepth 20000 in
theorem eqOp (t : GOp)   (w : World) (hat : GOp.At w (Lt w.heap.size)  t) (hat2 : GOp.At w (Lt w.heap.size)  t) :
      Calls Try.prog 236 #[.agg #[.int .i64 t.code, .int .i64 t.n, .int .i64 t.m], .agg #[.int .i64 t.code, .int .i64 t.n, .int .i64 t.m]] w fun e w' => e = .returned (.bool true) ∧ Below w.heap.size w w' := by
  have hat' := Lib.hid hat
  have hat2' := Lib.hid hat2
  clear hat hat2
  have B0 : Below w.heap.size w ((w.alloc (.cells #[.int .i64 t.code, .int .i64 t.n, .int .i64 t.m] 153)).alloc (.cells #[.int .i64 t.code, .int .i64 t.n, .int .i64 t.m] 153)) := ((Below.refl _ _).alloc (Nat.le_refl _) _).alloc (by simp) _
  have ra0 := Lib.hid ((Row.new w 153 #[.int .i64 t.code, .int .i64 t.n, .int .i64 t.m]).alloc (.cells #[.int .i64 t.code, .int .i64 t.n, .int .i64 t.m] 153))
  have rb0 := Lib.hid (Row.new' (w.alloc (.cells #[.int .i64 t.code, .int .i64 t.n, .int .i64 t.m] 153)) 153 #[.int .i64 t.code, .int .i64 t.n, .int .i64 t.m] (g := w.heap.size + 1) (by simp))
  go_enter Try.func236, Try.ntmps236
  go_wp2_with fail
  go_ret
  exact ⟨rfl, B0⟩

theorem eqOp' (t : GOp)   (w : World) (hat : GOp.At w (Lt w.heap.size)  t) (hat2 : GOp.At w (Lt w.heap.size)  t) :
      Calls Try.prog 236 #[.agg #[.int .i64 t.code, .int .i64 t.n, .int .i64 t.m], .agg #[.int .i64 t.code, .int .i64 t.n, .int .i64 t.m]] w fun e w' => e = .returned (.bool true) ∧ Below w.heap.size w w' :=
  eqOp t   w hat hat2

theorem eqOpS' (l : List GOp) (A B : Option Addr) (c d : Nat) (w : World) (hs : Sl w (Lt w.heap.size) 3 A c (l.map GOp.toD)) (hs' : Sl w (Lt w.heap.size) 3 B d (l.map GOp.toD)) :
    Calls Try.prog 171 #[.slice A l.length c, .slice B l.length d] w fun e w' => e = .returned (.bool true) ∧ Below w.heap.size w w' :=
  eqOpS l A B c d w hs hs' (fun u _   w hat hat2 => eqOp' u   w hat hat2)

end Go.Proofs.Ytjcgfbjdailgoaa
