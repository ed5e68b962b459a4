/- Verify of both, and what Depths gives as a function. Conditions: none but what a Go value may be. -/
import Derived.Test.YtjcgfbjdailgoaaDepthsS
namespace Go.Proofs.Ytjcgfbjdailgoaa
open Go.RowKit
set_option linter.unusedVariables false
set_option linter.unusedSimpArgs false
set_option maxHeartbeats 2000000

theorem Found.len {ops : List GOp} {r : Option (List Int)} (h : Found ops r) : (r.getD []).length ≤ ops.length := by
  match r with
  | none => simp
  | some l => exact Nat.le_of_eq h.2.1
theorem IsDepths.len {l : List GFun} {i : Int} {r : Option (List Int)} (h : IsDepths l i r) : (r.getD []).length ≤ 3000 := by
  rcases h with ⟨_, rfl⟩ | ⟨_, _, rfl⟩ | ⟨hf, hi, _, hr⟩
  · simp
  · simp
  · exact Nat.le_trans hr.len (funs_in hf _ hi).2.2
open Classical in
theorem depthsV_len (l : List GFun) (i : Int) : ((depthsV l i).getD []).length ≤ 3000 := by
  unfold depthsV
  by_cases h : ∃ r, IsDepths l i r
  · rw [dif_pos h]; exact h.choose_spec.len
  · rw [dif_neg h]; simp
/-- what Depths hands back, by the function -/
def DepthsVTo (l : List GFun) (i : Int) (w : World) (e : Ending) (w' : World) : Prop :=
  ∃ A c, e = .returned (.tuple #[.slice A ((depthsV l i).getD []).length c, .bool (depthsV l i).isSome]) ∧ Osl w' (Btw w.heap.size w'.heap.size) 1 A c (((depthsV l i).getD []).map (D.num .i64)) ∧ Below w.heap.size w w'
theorem DepthsTo.v {l : List GFun} {i : Int} {w w' : World} {e : Ending} (h : DepthsTo l i w e w') : DepthsVTo l i w e w' := by
  obtain ⟨r, A, c, h1, h2, h3, h4⟩ := h
  have e1 := depthsV_eq h1
  subst e1
  exact ⟨A, c, h2, h3, h4⟩
theorem specDepthsV (l : List GFun) (A : Option Addr) (c : Nat) (i : Int) (w : World) (hi : -9223372036854775808 ≤ i ∧ i ≤ 9223372036854775807) (hs : Sl w (Lt w.heap.size) 2 A c (l.map GFun.toD)) :
    Calls Try.prog 29 #[.slice A l.length c, .int .i64 i] w (DepthsVTo l i w) := (specDepths l A c i w hi hs).mono fun _ _ h => h.v
theorem implDepthsV (l : List GFun) (A : Option Addr) (c : Nat) (i : Int) (w : World) (hi : -9223372036854775808 ≤ i ∧ i ≤ 9223372036854775807) (hs : Sl w (Lt w.heap.size) 2 A c (l.map GFun.toD)) :
    Calls Try.prog 30 #[.slice A l.length c, .int .i64 i] w (DepthsVTo l i w) := (implDepths l A c i w hi hs).mono fun _ _ h => h.v

/-- is each function verified, and are the functions right -/
noncomputable def verifyV (l : List GFun) : Bool := funsB l && (List.range l.length).all fun i => (depthsV l i).isSome
theorem verifyV_no {l : List GFun} {j : Nat} (h : j < l.length) (e : (depthsV l j).isSome = false) : verifyV l = false := by
  unfold verifyV
  rw [Bool.and_eq_false_iff]
  right
  rw [← Bool.not_eq_true, List.all_eq_true]
  intro h2
  have := h2 j (List.mem_range.2 h)
  rw [e] at this; cases this
theorem verifyV_end {l : List GFun} (h : ∀ j, j < l.length → (depthsV l j).isSome = true) : verifyV l = funsB l := by
  unfold verifyV
  rw [show (List.range l.length).all (fun i => (depthsV l i).isSome) = true from List.all_eq_true.2 fun i hi => h i (List.mem_range.1 hi), Bool.and_true]

set_option maxRecDepth 20000 in
theorem specVerify (l : List GFun) (A : Option Addr) (c : Nat) (w : World) (hs : Sl w (Lt w.heap.size) 2 A c (l.map GFun.toD)) :
    Calls Try.prog 25 #[.slice A l.length c] w fun e w' => e = .returned (.bool (verifyV l)) ∧ Below w.heap.size w w' := by
  have hlen : l.length ≤ 9223372036854775807 := by simpa using hs.len
  have S0 := Lib.hid hs
  clear hs
  go_enter Try.func25, Try.ntmps25
  go_wp2_with fail
  go_loopw [3] (fun i wr => ∃ (j : Nat), j ≤ l.length ∧ i = .int .i64 j ∧ Hid (∀ q, q < j → (depthsV l q).isSome = true) ∧ Below w.heap.size w wr) (fun i _ => l.length - (intOf i).toNat)
  case atStart => exact ⟨0, by omega, by go_num, Lib.hid (fun q h => by omega), Below.refl _ _⟩
  case round =>
    obtain ⟨j, hj, rfl, HN, hbl⟩ := hrel
    have hsz := hbl.size
    by_cases hlt : j < l.length
    · have HS := Lib.hid (S0.out.below hbl hsz)
      go_wp2_with fail
      refine (specDepthsV l A c (j : Int) _ (by omega) HS.out).mono ?_
      rintro e w1 ⟨A1, c1, rfl, how, hb1⟩
      have B1 := Lib.hid (hbl.trans (hb1.mono hsz))
      clear how hb1
      cases he : (depthsV l j).isSome
      · have HX := Lib.hid (verifyV_no hlt he)
        clear he
        go_wp2_with fail
        go_ret
        exact ⟨ret_bool HX.out.symm, B1.out⟩
      · have HN2 := Lib.hid (show ∀ q, q < j + 1 → (depthsV l q).isSome = true from fun q hq => by
          rcases Nat.lt_or_ge q j with h | h
          · exact HN.out q h
          · obtain rfl : q = j := by omega
            exact he)
        clear he
        go_wp2_with fail
        go_roundw
        case rel => exact ⟨j + 1, by omega, by go_num, HN2, B1.out⟩
        case measure => simp [intOf]; omega
    · have HV := Lib.hid (verifyV_end (l := l) (fun q hq => HN.out q (by omega)))
      have HS := Lib.hid (S0.out.below hbl hsz)
      go_wp2_with fail
      refine (specFunsOk l A c _ HS.out).mono ?_
      rintro e w1 ⟨rfl, hb1⟩
      go_wp2_with fail
      go_ret
      exact ⟨ret_bool HV.out.symm, hbl.trans (hb1.mono hsz)⟩

set_option maxRecDepth 20000 in
theorem implVerify (l : List GFun) (A : Option Addr) (c : Nat) (w : World) (hs : Sl w (Lt w.heap.size) 2 A c (l.map GFun.toD)) :
    Calls Try.prog 27 #[.slice A l.length c] w fun e w' => e = .returned (.bool (verifyV l)) ∧ Below w.heap.size w w' := by
  have hlen : l.length ≤ 9223372036854775807 := by simpa using hs.len
  have S0 := Lib.hid hs
  clear hs
  go_enter Try.func27, Try.ntmps27
  go_wp2_with fail
  go_loopw [8] (fun i wr => ∃ (j : Nat), j ≤ l.length ∧ i = .int .i64 j ∧ Hid (∀ q, q < j → (depthsV l q).isSome = true) ∧ Below w.heap.size w wr) (fun i _ => l.length - (intOf i).toNat)
  case atStart => exact ⟨0, by omega, by go_num, Lib.hid (fun q h => by omega), Below.refl _ _⟩
  case round =>
    obtain ⟨j, hj, rfl, HN, hbl⟩ := hrel
    have hsz := hbl.size
    by_cases hlt : j < l.length
    · have HS := Lib.hid (S0.out.below hbl hsz)
      go_wp2_with fail
      refine (implDepthsV l A c (j : Int) _ (by omega) HS.out).mono ?_
      rintro e w1 ⟨A1, c1, rfl, how, hb1⟩
      have B1 := Lib.hid (hbl.trans (hb1.mono hsz))
      clear how hb1
      cases he : (depthsV l j).isSome
      · have HX := Lib.hid (verifyV_no hlt he)
        clear he
        go_wp2_with fail
        go_ret
        exact ⟨ret_bool HX.out.symm, B1.out⟩
      · have HN2 := Lib.hid (show ∀ q, q < j + 1 → (depthsV l q).isSome = true from fun q hq => by
          rcases Nat.lt_or_ge q j with h | h
          · exact HN.out q h
          · obtain rfl : q = j := by omega
            exact he)
        clear he
        go_wp2_with fail
        go_roundw
        case rel => exact ⟨j + 1, by omega, by go_num, HN2, B1.out⟩
        case measure => simp [intOf]; omega
    · have HV := Lib.hid (verifyV_end (l := l) (fun q hq => HN.out q (by omega)))
      have HS := Lib.hid (S0.out.below hbl hsz)
      go_wp2_with fail
      refine (implFunsOk l A c _ HS.out).mono ?_
      rintro e w1 ⟨rfl, hb1⟩
      go_wp2_with fail
      go_ret
      exact ⟨ret_bool HV.out.symm, hbl.trans (hb1.mono hsz)⟩

end Go.Proofs.Ytjcgfbjdailgoaa
