/- The laws' sz, to and eq functions at rows of nodes, and such an argument. Conditions: what is counted is at most 1048576. -/
import Derived.Test.YtgbcdfeflgnogaaANode
import Derived.Test.YtgbcdfeflgnogaaONode
import Derived.Test.YtgbcdfeflgnogaaCoverP
import Derived.Deep.Slices
import Derived.StillTailTactics
namespace Go.Proofs.Ytgbcdfeflgnogaa
open Go.ChangeShapes Go.WideShapes Go.ChangeAt Go.RowKit Go.Deep
set_option linter.unusedVariables false
set_option linter.unusedSimpArgs false
set_option maxHeartbeats 1000000

/-- how much a row holds -/
def rowBulk (r : List GNode) : Nat := bulkL GNode.bulk r
theorem rowsBulk_mem {rows : List (List GNode)} {r : List GNode} (h : r ∈ rows) : rowBulk r + 1 ≤ bulkL rowBulk rows := bulkL_mem rowBulk rows r h

set_option maxRecDepth 20000 in
theorem szNodeSS' (l : List (List GNode)) (A : Option Addr) (c : Nat) (left : Int) (w : World) (hs : Sl w (Lt w.heap.size) 1 A c (l.map rowD)) (h0 : 0 ≤ left) (h1 : left ≤ 1048576) :
    Calls Try.prog 22 #[.slice A l.length c, .int .i64 left] w fun e w' => e = .returned (.int .i64 (szv (bulkL rowBulk l) left)) ∧ Below w.heap.size w w' := by
  have hlen : l.length ≤ 9223372036854775807 := by simpa using hs.len
  by_cases hll : left < (l.length : Int)
  · have hg : left - (l.length : Int) < 0 := by omega
    have hv := Lib.hid (szv_gt (b := bulkL rowBulk l) (left := left) (by have := bulkL_len rowBulk l; omega))
    go_enter Try.func22, Try.ntmps22
    go_wp2_with fail
    go_ret
    exact ⟨ret_int hv.out.symm, Below.refl _ _⟩
  · have hg : 0 ≤ left - (l.length : Int) := by omega
    go_enter Try.func22, Try.ntmps22
    go_wp2_with fail
    go_loopw [1, 5] (fun n i wr => ∃ (j : Nat) (L : Int), j ≤ l.length ∧ i = .int .i64 j ∧ n = .int .i64 L ∧ L = left - l.length - (bulkL rowBulk (l.take j) - j) ∧ 0 ≤ L ∧ L ≤ left ∧ Below w.heap.size w wr) (fun _ i _ => l.length - (intOf i).toNat)
    case atStart => exact ⟨0, _, by omega, by go_num, rfl, by simp [bulkL], by omega, by omega, Below.refl _ _⟩
    case round =>
      obtain ⟨j, L, hj, rfl, rfl, hL, hL0, hL1, hb⟩ := hrel
      have HL := Lib.hid hL
      clear hL
      have hsz := hb.size
      by_cases hlt : j < l.length
      · have hel := rowD_elem (hs.keep (w' := wr) (S' := Lt wr.heap.size) fun k hk => ⟨Nat.lt_of_lt_of_le hk hsz, hb.block k hk⟩) j hlt
        obtain ⟨b, off, A1, c1, rfl, hSb, g0, hat⟩ := hel
        have hts := Lib.hid (bulkL_take_succ rowBulk l j hlt)
        have htl := Lib.hid (bulkL_take_le rowBulk l (j + 1) (by omega))
        have htg := Lib.hid (bulkL_take_ge rowBulk l j (by omega))
        have HC := Lib.hid (szNodeS' l[j] A1 c1 L wr hat hL0 (by omega))
        go_wp2_with fail
        refine (HC.out).mono ?_
        rintro e w1 ⟨rfl, hb1⟩
        by_cases hle : ((rowBulk l[j]) : Int) ≤ L
        · have hv : szv (bulkL GNode.bulk l[j]) L = L - (rowBulk l[j] : Nat) := szv_le hle
          have hge : 0 ≤ L - ((rowBulk l[j] : Nat) : Int) := by omega
          rw [hv]
          clear hv
          go_wp2_with fail
          go_roundw
          case rel => exact ⟨j + 1, _, by omega, by go_num, rfl, by rw [hts.out, HL.out]; omega, by omega, by omega, hb.trans (hb1.mono hsz)⟩
          case measure => simp [intOf]; omega
        · have hv : szv (bulkL GNode.bulk l[j]) L = -1 := szv_gt (by unfold rowBulk at hle; omega)
          rw [hv]
          clear hv
          go_wp2_with fail
          go_ret
          refine ⟨ret_int ?_, hb.trans (hb1.mono hsz)⟩
          have e1 := hts.out; have e2 := htl.out; have e3 := htg.out; have e4 := HL.out
          rw [szv_gt (by omega)]
      · have hjl : j = l.length := by omega
        have Hj := Lib.hid hjl
        clear hjl
        go_wp2_with fail
        go_ret
        refine ⟨ret_int ?_, hb⟩
        have e4 := HL.out
        rw [Hj.out, List.take_length] at e4
        have := bulkL_len rowBulk l
        rw [szv_le (by omega)]; omega

set_option maxRecDepth 20000 in
theorem eqNodeSS' (l : List (List GNode)) (A B : Option Addr) (c d : Nat) (w : World) (hs : Sl w (Lt w.heap.size) 1 A c (l.map rowD)) (hs' : Sl w (Lt w.heap.size) 1 B d (l.map rowD)) :
    Calls Try.prog 26 #[.slice A l.length c, .slice B l.length d] w fun e w' => e = .returned (.bool true) ∧ Below w.heap.size w w' := by
  have hlen : l.length ≤ 9223372036854775807 := by simpa using hs.len
  go_enter Try.func26, Try.ntmps26
  go_wp2_with fail
  go_loopw [5] (fun i wr => ∃ (j : Nat), j ≤ l.length ∧ i = .int .i64 j ∧ Below w.heap.size w wr) (fun i _ => l.length - (intOf i).toNat)
  case atStart => exact ⟨0, by omega, by go_num, Below.refl _ _⟩
  case round =>
    obtain ⟨j, hj, rfl, hb⟩ := hrel
    have hsz := hb.size
    by_cases hlt : j < l.length
    · obtain ⟨b, off, A1, c1, rfl, hSb, g0, h1⟩ := rowD_elem (hs.keep (w' := wr) (S' := Lt wr.heap.size) fun k hk => ⟨Nat.lt_of_lt_of_le hk hsz, hb.block k hk⟩) j hlt
      obtain ⟨b', off', B1, d1, rfl, hSb', g0', h2⟩ := rowD_elem (hs'.keep (w' := wr) (S' := Lt wr.heap.size) fun k hk => ⟨Nat.lt_of_lt_of_le hk hsz, hb.block k hk⟩) j hlt
      have HC := Lib.hid (eqNodeS' l[j] A1 B1 c1 d1 wr.drew (h1.keep fun b hb => ⟨hb, rfl⟩) (h2.keep fun b hb => ⟨hb, rfl⟩))
      clear h1 h2
      go_wp2_with fail
      refine wp_region_still_tail 8 (by kernel_rfl) (by kernel_rfl) ?_
      simp only [List.take_succ_cons, List.take_zero, List.drop_succ_cons, List.drop_zero]
      change wpStill _ _ wr.drew (fun a' => wpList _ _ _ _ a' wr.drew) _ _
      iterate 8 still_step
      refine wpStill_nil ?_
      go_wp2_with fail
      refine HC.out.mono ?_
      rintro e w1 ⟨rfl, hb1⟩
      go_wp2_with fail
      go_roundw
      case rel => exact ⟨j + 1, by omega, by go_num, hb.drew.trans (hb1.mono hsz)⟩
      case measure => simp [intOf]; omega
    · have hjl : j = l.length := by omega
      clear hjl
      go_wp2_with fail
      go_ret
      exact ⟨rfl, hb⟩

/-- a copy of rows -/
def ToNodeSS (l : List (List GNode)) (w : World) (e : Ending) (w' : World) : Prop := ∃ A c, e = .returned (.slice A l.length c) ∧ Osl w' (Btw w.heap.size w'.heap.size) 1 A c (l.map rowD) ∧ Below w.heap.size w w'
theorem mkNodeSS (n : Nat) (hn : n ≤ 1048576) (w : World) : (Instr.makeSlice 37 (.int .i64 (n : Int)) (.int .i64 (n : Int))).run Try.prog w = .ok (.slice (some ⟨w.heap.size, 0, none⟩) n n) (w.alloc (.cells (zr (.slice none 0 0) 1 n) 29)) := run_mk (P := Try.prog) 37 29 (.slice none 0 0) 1 24 Try.underlying37 (by kernel_rfl) n hn (by omega) w
set_option maxRecDepth 20000 in
theorem toNodeSS' (l : List (List GNode)) (A : Option Addr) (c : Nat) (w : World) (hs : Sl w (Lt w.heap.size) 1 A c (l.map rowD)) (hl : bulkL rowBulk l ≤ 1048576) :
    Calls Try.prog 24 #[.slice A l.length c] w (ToNodeSS l w) := by
  have hll : l.length ≤ 1048576 := Nat.le_trans (bulkL_len rowBulk l) hl
  have hmk := mkNodeSS l.length hll
  have HM := Lib.hid (fun (j : Nat) (h : j < l.length) => show bulkL GNode.bulk l[j] ≤ 1048576 from by have h1 := rowsBulk_mem (List.getElem_mem h); have e : rowBulk l[j] = bulkL GNode.bulk l[j] := rfl; omega)
  go_enter Try.func24, Try.ntmps24
  go_wp2_with fail
  clear hmk
  go_loopw [4] (fun i wr => ∃ (j : Nat) (row : Array Value), j ≤ l.length ∧ i = .int .i64 j ∧ Row wr w.heap.size 29 row ∧ row.size = l.length * 1 ∧
      D.ownR wr 1 w.heap.size ((l.take j).map rowD) (fun b => w.heap.size < b ∧ b < wr.heap.size) 0 ∧ Below w.heap.size w wr) (fun i _ => l.length - (intOf i).toNat)
  case atStart => exact ⟨0, _, by omega, by go_num, Row.new _ _ _, zr_size _ _ _, by simp [D.ownR], (Below.refl _ _).alloc (Nat.le_refl _) _⟩
  case round =>
    obtain ⟨j, row, hj, rfl, hrow, hrs, hown, hb⟩ := hrel
    have hsz := hb.size
    have hgl := hrow.lt
    by_cases hlt : j < l.length
    · obtain ⟨b, off, A1, c1, rfl, hSb, g0, hat⟩ := rowD_elem (hs.keep (w' := wr) (S' := Lt wr.heap.size) fun k hk => ⟨Nat.lt_of_lt_of_le hk hsz, hb.block k hk⟩) j hlt
      have HC := Lib.hid (toNodeS' l[j] A1 c1 wr hat (HM.out j hlt))
      clear hat
      go_wp2_with fail
      refine HC.out.mono ?_
      rintro e w1 ⟨B1, d1, rfl, how, hb1⟩
      have hrow1 := Lib.hid (hrow.below hb1 hgl)
      have hf := fun i => hrow1.out.frozen i
      obtain ⟨v0, y0⟩ := row_some (row := row) j (by omega)
      have x0 := (hrow1.out.cell j).trans y0
      clear y0
      have hst := fill_step hrow1.out (j := j) (m := wr.heap.size) (xs := (l.take j).map rowD) (x := rowD l[j]) (cs := [.slice B1 (l[j]).length d1]) (size := 1) (by simp; omega) (by omega) hgl hb1.size
        (D.ownR_keep 1 _ _ _ _ 0 (fun b hb => ⟨hb, hb1.block b hb.2⟩) (fun i _ => hb1.cell (p := ⟨w.heap.size, i, none⟩) hgl) hown) (D.own_sl.2 ⟨B1, d1, by simp, how⟩) rfl
      have hB := setCells_below (hb.trans (hb1.mono hsz)) w.heap.size (j * 1) (Nat.le_refl _) [.slice B1 (l[j]).length d1]
      have HST := Lib.hid hst
      have HBB := Lib.hid hB
      clear hst hB
      go_wp2_with fail
      go_roundw
      case rel =>
        obtain ⟨row', p1, p2, p3⟩ := HST.out
        rw [Nat.mul_one] at p1 p3
        have q := HBB.out
        rw [Nat.mul_one] at q
        exact ⟨j + 1, row', by omega, by go_num, p1, by omega, by rw [take_snoc' l j hlt, List.map_append]; exact p3, q⟩
      case measure => simp [intOf]; omega
    · have hjl : j = l.length := by omega
      have Hj := Lib.hid hjl
      clear hjl
      go_wp2_with fail
      go_ret
      rw [Hj.out, List.take_length] at hown
      exact ⟨_, _, rfl, fill_end hrow (Nat.le_refl _) (by simp) (by unfold maxLen; omega) hown, hb⟩

set_option maxRecDepth 20000 in
theorem argNodeSS {H : Type} {enc : TypeId × Value → H} {w : World} {r : Reach} {base : Nat} {sp : Nat → Bool} {held : Bool} {v : Value} {d : DataW H} {p : List MemPlace} (hv : Value.okWide Try.prog w r base 34 v) (h : DataW.Trod enc Try.prog w 0 sp held 34 v d p) :
    ∃ (l : List (List GNode)) (A : Option Addr) (c : Nat), v = .slice A l.length c ∧ Sl w (Lt w.heap.size) 1 A c (l.map rowD) := by
  obtain ⟨a, len, cap, rfl⟩ := okWide_slice Try.underlying34 hv
  obtain ⟨fuel, hf⟩ := h
  obtain ⟨l, hl⟩ := open_sl 1 (by decide) Try.underlying34 (by kernel_rfl) rowD (fun n2 cs x hn h => by
    obtain ⟨l2, hl2⟩ := open_sl 5 (by decide) Try.underlying23 (by kernel_rfl) GNode.toD (fun n3 cs x hn h => openNode n3 cs x h) h
    exact ⟨l2, hl2⟩) hf
  obtain ⟨A, c, e, hs⟩ := D.rd_sl.1 hl
  simp only [Value.cells, List.cons.injEq, List.length_map, and_true] at e
  exact ⟨l, A, c, e, hs⟩
end Go.Proofs.Ytgbcdfeflgnogaa
