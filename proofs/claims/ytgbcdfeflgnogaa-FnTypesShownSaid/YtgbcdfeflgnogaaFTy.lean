/- slices.IndexFunc and slices.ContainsFunc at Ty, with whatever predicate that only makes memory of its own. Conditions: none. -/
import Derived.Test.YtgbcdfeflgnogaaRows
import Derived.Test.YtgbcdfeflgnogaaPw
import Derived.Test.YtgbcdfeflgnogaaFuncP
import Derived.Test.YtgbcdfeflgnogaaGTy
import Derived.Lib.Hide
namespace Go.Proofs.Ytgbcdfeflgnogaa
open Go.RowKit
set_option linter.unusedVariables false
set_option linter.unusedSimpArgs false
set_option maxHeartbeats 400000

theorem indexFuncTy (K : Nat) (hK : ∀ (args : Array Value) (w : World), (callFunc K args).run Try.prog w = .ok (.enter K args) w) (caps : Array Value) (p : GTy → Bool) (l : List GTy) (A : Option Addr) (c : Nat) (w : World) (hs : Sl w (Lt w.heap.size) 4 A c (l.map GTy.toD))
    (H : ∀ x, x ∈ l → ∀ (A1 : Option Addr) (c1 : Nat) (w2 : World), Below w.heap.size w w2 → GTy.At w2 (Lt w2.heap.size) A1 c1 x →
      Calls Try.prog K (#[.agg #[.int .i64 x.op, .int .i64 x.n, .string x.s, .slice A1 x.kids.length c1]] ++ caps) w2 fun e w' => e = .returned (.bool (p x)) ∧ Below w2.heap.size w2 w') :
    Calls Try.prog 245 #[.slice A l.length c, .func (.func K) #[] caps] w fun e w' => e = .returned (.int .i64 (idxI p l)) ∧ Below w.heap.size w w' := by
  have hlen : l.length ≤ 9223372036854775807 := by simpa using hs.len
  have HH := Lib.hid H
  clear H
  go_enter Try.func245, Try.ntmps245
  go_wp2_with fail
  go_loopw [8] (fun i wr => ∃ j : Nat, j ≤ l.length ∧ i = .int .i64 j ∧ noneTo p l j ∧ Below w.heap.size w wr) (fun i _ => l.length - (intOf i).toNat)
  case atStart => exact ⟨0, by omega, by go_num, noneTo_zero p l, Below.refl _ _⟩
  case round =>
    obtain ⟨j, hj, rfl, hno, hbl⟩ := hrel
    have Hno := Lib.hid hno
    clear hno
    have hsz := hbl.size
    by_cases hlt : j < l.length
    · have htr := GTy.elem (hs.below hbl (Nat.le_refl _)) j hlt
      obtain ⟨b, off, A1, c1, rfl, hSb, g0, g1, g2, g3, hat⟩ := htr
      have hmem : l[j] ∈ l := List.getElem_mem hlt
      go_wp2_with fail
      refine (HH.out _ hmem _ _ _ hbl (hat.below (Below.refl _ _) hsz)).mono ?_
      rintro e w1 ⟨rfl, hb1⟩
      cases he : p l[j]
      · have hn := Lib.hid (noneTo_succ Hno.out hlt he)
        go_wp2_with fail
        go_roundw
        case rel => exact ⟨j + 1, by omega, by go_num, hn.out, hbl.trans (hb1.mono hsz)⟩
        case measure => simp [intOf]; omega
      · have hn := Lib.hid (idxI_at Hno.out hlt he)
        go_wp2_with fail
        go_ret
        exact ⟨ret_int hn.out.symm, hbl.trans (hb1.mono hsz)⟩
    · have hjl : j = l.length := by omega
      have Hj := Lib.hid hjl
      clear hjl
      go_wp2_with fail
      go_ret
      exact ⟨ret_int (idxI_none (by have := Hno.out; rw [Hj.out] at this; exact this)).symm, hbl⟩

theorem containsFuncTy (K : Nat) (hK : ∀ (args : Array Value) (w : World), (callFunc K args).run Try.prog w = .ok (.enter K args) w) (caps : Array Value) (p : GTy → Bool) (l : List GTy) (A : Option Addr) (c : Nat) (w : World) (hs : Sl w (Lt w.heap.size) 4 A c (l.map GTy.toD))
    (H : ∀ x, x ∈ l → ∀ (A1 : Option Addr) (c1 : Nat) (w2 : World), Below w.heap.size w w2 → GTy.At w2 (Lt w2.heap.size) A1 c1 x →
      Calls Try.prog K (#[.agg #[.int .i64 x.op, .int .i64 x.n, .string x.s, .slice A1 x.kids.length c1]] ++ caps) w2 fun e w' => e = .returned (.bool (p x)) ∧ Below w2.heap.size w2 w') :
    Calls Try.prog 189 #[.slice A l.length c, .func (.func K) #[] caps] w fun e w' => e = .returned (.bool (l.any p)) ∧ Below w.heap.size w w' := by
  have HH := Lib.hid H
  clear H
  go_enter Try.func189, Try.ntmps189
  go_wp2_with fail
  refine (indexFuncTy K hK caps p l A c w hs HH.out).mono ?_
  rintro e w1 ⟨rfl, hb1⟩
  cases ha : l.any p
  · have hi := idxI_any_false ha
    rw [hi]
    have Ha := Lib.hid ha
    clear ha hi
    go_wp2_with fail
    go_ret
    exact ⟨ret_bool Ha.out.symm, hb1⟩
  · have hi := idxI_any_true ha
    have Ha := Lib.hid ha
    clear ha
    generalize idxI p l = x at *
    go_wp2_with fail
    go_ret
    exact ⟨ret_bool Ha.out.symm, hb1⟩

end Go.Proofs.Ytgbcdfeflgnogaa
