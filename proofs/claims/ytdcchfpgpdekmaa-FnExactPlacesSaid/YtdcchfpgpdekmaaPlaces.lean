/- Places. Conditions: what the list holds is at most 1048576. -/
import Derived.Test.YtdcchfpgpdekmaaRows
import Derived.Test.YtdcchfpgpdekmaaPw
import Derived.Test.YtdcchfpgpdekmaaGFun
import Derived.Lib.Hide
namespace Go.Proofs.Ytdcchfpgpdekmaa
open Go.RowKit
set_option linter.unusedVariables false
set_option linter.unusedSimpArgs false
set_option maxHeartbeats 400000

/-- how many places functions have -/
def placesN : List GFun → Nat | [] => 0 | t :: r => t.list.length + placesN r

theorem placesN_take (l : List GFun) (i : Nat) (h : i < l.length) : placesN (l.take (i + 1)) = placesN (l.take i) + (l[i]).list.length := by
  induction l generalizing i with
  | nil => simp at h
  | cons t r ih =>
    match i with
    | 0 => simp [placesN]
    | i + 1 => simp only [List.take_succ_cons, placesN, List.getElem_cons_succ]; rw [ih i (by simpa using h)]; omega

theorem placesN_le (l : List GFun) (i : Nat) : placesN (l.take i) ≤ placesN l := by
  induction l generalizing i with
  | nil => simp
  | cons t r ih =>
    match i with
    | 0 => simp [placesN]
    | i + 1 => simp only [List.take_succ_cons, placesN]; have := ih i; omega

theorem placesN_bulk (l : List GFun) : placesN l ≤ bulkL GFun.bulk l := by
  induction l with
  | nil => simp [placesN]
  | cons t r ih =>
    simp only [placesN, bulkL]
    have := bulkL_len GOp.bulk t.list
    have e := t.bulk_eq
    omega

theorem implPlaces (l : List GFun) (A : Option Addr) (c : Nat) (w : World) (hm : placesN l ≤ 4611686018427387904) (hs : Sl w (Lt w.heap.size) 2 A c (l.map GFun.toD)) :
    Calls Try.prog 40 #[.slice A l.length c] w fun e w' => e = .returned (.int .i64 (placesN l)) ∧ Below w.heap.size w w' := by
  have hlen : l.length ≤ 9223372036854775807 := by simpa using hs.len
  go_enter Try.func40, Try.ntmps40
  go_wp2_with fail
  go_loopw [3, 8] (fun n i wr => ∃ j : Nat, j ≤ l.length ∧ i = .int .i64 j ∧ n = .int .i64 (placesN (l.take j)) ∧ Below w.heap.size w wr) (fun _ i _ => l.length - (intOf i).toNat)
  case atStart => exact ⟨0, by omega, by go_num, by simp [placesN], Below.refl _ _⟩
  case round =>
    obtain ⟨j, hj, rfl, rfl, hbl⟩ := hrel
    have hsz := hbl.size
    by_cases hlt : j < l.length
    · have htr := GFun.elem (hs.below hbl (Nat.le_refl _)) j hlt
      obtain ⟨b, off, A1, c1, rfl, hSb, g0, g1, hat⟩ := htr
      have hs1 := placesN_take l j hlt
      have hs2 := placesN_le l (j + 1)
      have Hs := Lib.hid hs1
      have hs4 : placesN (l.take j) + (l[j]).list.length ≤ 4611686018427387904 := by omega
      clear hs1 hs2
      go_wp2_with fail
      go_roundw
      case rel => exact ⟨j + 1, by omega, by go_num, by rw [Hs.out]; congr 1, hbl.alloc hsz _⟩
      case measure => simp [intOf]; omega
    · have hjl : j = l.length := by omega
      have Hj := Lib.hid hjl
      clear hjl
      go_wp2_with fail
      go_ret
      exact ⟨ret_int (by rw [Hj.out, List.take_length]), hbl⟩

theorem specPlaces (l : List GFun) (A : Option Addr) (c : Nat) (w : World) (hm : placesN l ≤ 4611686018427387904) (hs : Sl w (Lt w.heap.size) 2 A c (l.map GFun.toD)) :
    Calls Try.prog 38 #[.slice A l.length c] w fun e w' => e = .returned (.int .i64 (placesN l)) ∧ Below w.heap.size w w' := by
  have hlen : l.length ≤ 9223372036854775807 := by simpa using hs.len
  go_enter Try.func38, Try.ntmps38
  go_wp2_with fail
  go_loopw [3, 4] (fun n i wr => ∃ j : Nat, j ≤ l.length ∧ i = .int .i64 j ∧ n = .int .i64 (placesN (l.take j)) ∧ Below w.heap.size w wr) (fun _ i _ => l.length - (intOf i).toNat)
  case atStart => exact ⟨0, by omega, by go_num, by simp [placesN], Below.refl _ _⟩
  case round =>
    obtain ⟨j, hj, rfl, rfl, hbl⟩ := hrel
    have hsz := hbl.size
    by_cases hlt : j < l.length
    · have htr := GFun.elem (hs.below hbl (Nat.le_refl _)) j hlt
      obtain ⟨b, off, A1, c1, rfl, hSb, g0, g1, hat⟩ := htr
      have hs1 := placesN_take l j hlt
      have hs2 := placesN_le l (j + 1)
      have Hs := Lib.hid hs1
      have hs4 : placesN (l.take j) + (l[j]).list.length ≤ 4611686018427387904 := by omega
      clear hs1 hs2
      go_wp2_with fail
      go_roundw
      case rel => exact ⟨j + 1, by omega, by go_num, by rw [Hs.out]; congr 1, hbl⟩
      case measure => simp [intOf]; omega
    · have hjl : j = l.length := by omega
      have Hj := Lib.hid hjl
      clear hjl
      go_wp2_with fail
      go_ret
      exact ⟨ret_int (by rw [Hj.out, List.take_length]), hbl⟩
end Go.Proofs.Ytdcchfpgpdekmaa
