/- Whether a place of a function is right, in the program and in the reference. Conditions: the function is one of the list, its Free from 0 to 20. -/
import Derived.Test.YtjcgfbjdailgoaaRows
import Derived.Test.YtjcgfbjdailgoaaPw
import Derived.Test.YtjcgfbjdailgoaaGFun
import Derived.Test.YtjcgfbjdailgoaaWithin
import Derived.BigQuiet
import Derived.Lib.Hide
namespace Go.Proofs.Ytjcgfbjdailgoaa
open Go.RowKit
set_option linter.unusedVariables false
set_option linter.unusedSimpArgs false
set_option maxHeartbeats 2000000

def freeAt (l : List GFun) (n : Int) : Int := match l[n.toNat]? with | some g => g.free | none => 0
/-- is a place (c, n, m) of function number i right; fr: its Free, ln: how many places it has, ll: how many functions there are -/
def opP (fr : Int) (ln ll : Nat) (fa : Int → Int) (i : Nat) (c n m : Int) : Prop :=
  if c = 1 then (-1073741824 ≤ n ∧ n ≤ 1073741823) ∧ m = 0
  else if c = 2 then (0 ≤ n ∧ n ≤ 2999) ∧ m = 0
  else if c = 3 then (0 ≤ n ∧ n ≤ fr - 1) ∧ m = 0
  else if c = 4 then 0 < i ∧ n = 0 ∧ m = 0
  else if c = 5 then (1 ≤ n ∧ n ≤ (ll : Int) - 1) ∧ m = fa n
  else if c = 8 then (0 ≤ n ∧ n ≤ 59) ∧ 0 ≤ m ∧ m ≤ 20
  else if c = 9 then (0 ≤ n ∧ n ≤ 59) ∧ m = 0
  else if c = 10 then (0 ≤ n ∧ n ≤ 59) ∧ 0 ≤ m ∧ m ≤ (ln : Int) - 1
  else if c = 11 then (-1073741824 ≤ n ∧ n ≤ 1073741823) ∧ 0 ≤ m ∧ m ≤ (ln : Int) - 1
  else if c = 18 ∨ c = 19 then (0 ≤ n ∧ n ≤ (ln : Int) - 1) ∧ m = 0
  else (1 ≤ c ∧ c ≤ 21) ∧ n = 0 ∧ m = 0
instance (fr : Int) (ln ll : Nat) (fa : Int → Int) (i : Nat) (c n m : Int) : Decidable (opP fr ln ll fa i c n m) := by unfold opP; infer_instance
def opB (l : List GFun) (i : Nat) (f : GFun) (o : GOp) : Bool := decide (opP f.free f.list.length l.length (freeAt l) i o.code o.n o.m)

theorem opP_cases (c : Int) : c = 1 ∨ c = 2 ∨ c = 3 ∨ c = 4 ∨ c = 5 ∨ c = 8 ∨ c = 9 ∨ c = 10 ∨ c = 11 ∨ c = 18 ∨ c = 19 ∨ (¬ c = 1 ∧ ¬ c = 2 ∧ ¬ c = 3 ∧ ¬ c = 4 ∧ ¬ c = 5 ∧ ¬ c = 8 ∧ ¬ c = 9 ∧ ¬ c = 10 ∧ ¬ c = 11 ∧ ¬ c = 18 ∧ ¬ c = 19) := by omega

theorem opP_else {fr : Int} {ln ll : Nat} {fa : Int → Int} {i : Nat} {c : Int} (h : ¬ c = 1 ∧ ¬ c = 2 ∧ ¬ c = 3 ∧ ¬ c = 4 ∧ ¬ c = 5 ∧ ¬ c = 8 ∧ ¬ c = 9 ∧ ¬ c = 10 ∧ ¬ c = 11 ∧ ¬ c = 18 ∧ ¬ c = 19) (n m : Int) : opP fr ln ll fa i c n m ↔ (1 ≤ c ∧ c ≤ 21) ∧ n = 0 ∧ m = 0 := by
  unfold opP
  repeat rw [if_neg (by omega)]

theorem eq_dec {x : Bool} {p : Prop} {d : Decidable p} (h : x = true ↔ p) : x = @decide p d := by
  rw [Bool.eq_iff_iff]; simpa using h

set_option maxRecDepth 20000 in
theorem specOp (l : List GFun) (A : Option Addr) (c1 : Nat) (i : Nat) (hi : i < l.length) (c n m : Int) (w : World) (h0 : 0 ≤ l[i].free) (h20 : l[i].free ≤ 20) (hs : Sl w (Lt w.heap.size) 2 A c1 (l.map GFun.toD)) :
    Calls Try.prog 168 #[.slice A l.length c1, .int .i64 i, .agg #[.int .i64 c, .int .i64 n, .int .i64 m]] w fun e w' => e = .returned (.bool (decide (opP l[i].free l[i].list.length l.length (freeAt l) i c n m))) ∧ Below w.heap.size w w' := by
  have hlen : l.length ≤ 9223372036854775807 := by simpa using hs.len
  obtain ⟨b, off, A1, c2, rfl, hSb, g0, g1, hat⟩ := GFun.elem hs i hi
  have hll : (l[i]).list.length ≤ 9223372036854775807 := by simpa using hat.2.len
  have hSb' : b < w.heap.size := hSb
  clear hat
  have hil : (i : Int) ≤ 9223372036854775807 := by omega
  generalize hfr : (l[i]).free = fr at *
  generalize hln : (l[i]).list.length = ln at *
  have fa : ∀ (k : Nat), 1 ≤ k → k < l.length → w.cell? ⟨b, off + k * 2, none⟩ = some (.int .i64 (freeAt l k)) := fun k _ hk => by
    obtain ⟨b', off', A1', c2', eA, _, q0, _, _⟩ := GFun.elem hs k hk
    obtain ⟨rfl, rfl⟩ : b = b' ∧ off = off' := by simpa using eA
    rw [q0]; simp [freeAt, List.getElem?_eq_getElem hk]
  clear hs
  clear hfr hln
  generalize freeAt l = F at *
  generalize l.length = L at *
  rcases opP_cases c with h | h | h | h | h | h | h | h | h | h | h | h
  · subst h
    go_enter Try.func168, Try.ntmps168
    go_wp2
    all_goals
      go_ret
      exact ⟨ret_bool (eq_dec (by simp [opP] <;> omega)), (Below.refl _ _).alloc (Nat.le_refl _) _⟩
  · subst h
    go_enter Try.func168, Try.ntmps168
    go_wp2
    all_goals
      go_ret
      exact ⟨ret_bool (eq_dec (by simp [opP] <;> omega)), (Below.refl _ _).alloc (Nat.le_refl _) _⟩
  · subst h
    by_cases hin : 0 ≤ n ∧ n ≤ fr - 1
    · have Ra := Lib.hid (Row.new w 153 #[.int .i64 3, .int .i64 n, .int .i64 m])
      have hE := Lib.hid (show Below w.heap.size w (w.alloc (.cells #[.int .i64 3, .int .i64 n, .int .i64 m] 153)) from (Below.refl _ _).alloc (Nat.le_refl _) _)
      have hwr : IntKind.i64.wrap (fr - 1) = fr - 1 := (IntWalk.i64_left _).trans (IntWalk.wrap64_in (fr - 1) (by omega))
      go_enter Try.func168, Try.ntmps168
      go_wp2
      go_quiet (first
        | (go_at_call 99
           exact Calls.quiet_of_same (specInT _ _ _ _ (by first | exact hin | (rw [hwr]; exact hin)))))
      go_wp2
      go_ret
      exact ⟨ret_bool (eq_dec (by simp [opP] <;> omega)), belowN hE.out _⟩
    · have Ra := Lib.hid (Row.new w 153 #[.int .i64 3, .int .i64 n, .int .i64 m])
      have hE := Lib.hid (show Below w.heap.size w (w.alloc (.cells #[.int .i64 3, .int .i64 n, .int .i64 m] 153)) from (Below.refl _ _).alloc (Nat.le_refl _) _)
      have hwr : IntKind.i64.wrap (fr - 1) = fr - 1 := (IntWalk.i64_left _).trans (IntWalk.wrap64_in (fr - 1) (by omega))
      go_enter Try.func168, Try.ntmps168
      go_wp2
      go_quiet (first
        | (go_at_call 99
           exact Calls.quiet_of_same (specInF _ _ _ _ (by first | exact hin | (rw [hwr]; exact hin)))))
      go_wp2
      go_ret
      exact ⟨ret_bool (eq_dec (by simp [opP] <;> omega)), belowN hE.out _⟩
  · subst h
    go_enter Try.func168, Try.ntmps168
    go_wp2
    all_goals
      go_ret
      exact ⟨ret_bool (eq_dec (by simp [opP] <;> omega)), (Below.refl _ _).alloc (Nat.le_refl _) _⟩
  · subst h
    by_cases hin : 1 ≤ n ∧ n ≤ (L : Int) - 1
    · obtain ⟨k, rfl⟩ : ∃ k : Nat, n = k := ⟨n.toNat, by omega⟩
      have hk := fa k (by omega) (by omega)
      have Ra := Lib.hid (Row.new w 153 #[.int .i64 5, .int .i64 (k : Int), .int .i64 m])
      have hE := Lib.hid (show Below w.heap.size w (w.alloc (.cells #[.int .i64 5, .int .i64 (k : Int), .int .i64 m] 153)) from (Below.refl _ _).alloc (Nat.le_refl _) _)
      have hwr : IntKind.i64.wrap ((L : Int) - 1) = (L : Int) - 1 := (IntWalk.i64_left _).trans (IntWalk.wrap64_in ((L : Int) - 1) (by omega))
      go_enter Try.func168, Try.ntmps168
      go_wp2
      go_quiet (first
        | (go_at_call 99
           exact Calls.quiet_of_same (specInT _ _ _ _ (by first | exact hin | (rw [hwr]; exact hin)))))
      go_wp2
      go_ret
      exact ⟨ret_bool (eq_dec (by simp [opP] <;> omega)), belowN hE.out _⟩
    · have Ra := Lib.hid (Row.new w 153 #[.int .i64 5, .int .i64 n, .int .i64 m])
      have hE := Lib.hid (show Below w.heap.size w (w.alloc (.cells #[.int .i64 5, .int .i64 n, .int .i64 m] 153)) from (Below.refl _ _).alloc (Nat.le_refl _) _)
      have hwr : IntKind.i64.wrap ((L : Int) - 1) = (L : Int) - 1 := (IntWalk.i64_left _).trans (IntWalk.wrap64_in ((L : Int) - 1) (by omega))
      go_enter Try.func168, Try.ntmps168
      go_wp2
      go_quiet (first
        | (go_at_call 99
           exact Calls.quiet_of_same (specInF _ _ _ _ (by first | exact hin | (rw [hwr]; exact hin)))))
      go_wp2
      go_ret
      exact ⟨ret_bool (eq_dec (by simp [opP] <;> omega)), belowN hE.out _⟩
  · subst h
    go_enter Try.func168, Try.ntmps168
    go_wp2
    all_goals
      go_ret
      exact ⟨ret_bool (eq_dec (by simp [opP] <;> omega)), (Below.refl _ _).alloc (Nat.le_refl _) _⟩
  · subst h
    go_enter Try.func168, Try.ntmps168
    go_wp2
    all_goals
      go_ret
      exact ⟨ret_bool (eq_dec (by simp [opP] <;> omega)), (Below.refl _ _).alloc (Nat.le_refl _) _⟩
  · subst h
    go_enter Try.func168, Try.ntmps168
    go_wp2
    all_goals
      go_ret
      exact ⟨ret_bool (eq_dec (by simp [opP] <;> omega)), (Below.refl _ _).alloc (Nat.le_refl _) _⟩
  · subst h
    go_enter Try.func168, Try.ntmps168
    go_wp2
    all_goals
      go_ret
      exact ⟨ret_bool (eq_dec (by simp [opP] <;> omega)), (Below.refl _ _).alloc (Nat.le_refl _) _⟩
  · subst h
    go_enter Try.func168, Try.ntmps168
    go_wp2
    all_goals
      go_ret
      exact ⟨ret_bool (eq_dec (by simp [opP] <;> omega)), (Below.refl _ _).alloc (Nat.le_refl _) _⟩
  · subst h
    go_enter Try.func168, Try.ntmps168
    go_wp2
    all_goals
      go_ret
      exact ⟨ret_bool (eq_dec (by simp [opP] <;> omega)), (Below.refl _ _).alloc (Nat.le_refl _) _⟩
  · have HO := Lib.hid (opP_else (fr := fr) (ln := ln) (ll := L) (fa := F) (i := i) h)
    obtain ⟨hc1, hc2, hc3, hc4, hc5, hc8, hc9, hc10, hc11, hc18, hc19⟩ := h
    go_enter Try.func168, Try.ntmps168
    go_wp2
    all_goals
      go_ret
      exact ⟨ret_bool (eq_dec (by rw [HO.out]; simp <;> omega)), (Below.refl _ _).alloc (Nat.le_refl _) _⟩

set_option maxRecDepth 20000 in
theorem implOp (l : List GFun) (A : Option Addr) (c1 : Nat) (i : Nat) (hi : i < l.length) (c n m : Int) (w : World) (h0 : 0 ≤ l[i].free) (h20 : l[i].free ≤ 20) (hs : Sl w (Lt w.heap.size) 2 A c1 (l.map GFun.toD)) :
    Calls Try.prog 170 #[.slice A l.length c1, .int .i64 i, .agg #[.int .i64 c, .int .i64 n, .int .i64 m]] w fun e w' => e = .returned (.bool (decide (opP l[i].free l[i].list.length l.length (freeAt l) i c n m))) ∧ Below w.heap.size w w' := by
  have hlen : l.length ≤ 9223372036854775807 := by simpa using hs.len
  obtain ⟨b, off, A1, c2, rfl, hSb, g0, g1, hat⟩ := GFun.elem hs i hi
  have hll : (l[i]).list.length ≤ 9223372036854775807 := by simpa using hat.2.len
  have hSb' : b < w.heap.size := hSb
  clear hat
  have hil : (i : Int) ≤ 9223372036854775807 := by omega
  generalize hfr : (l[i]).free = fr at *
  generalize hln : (l[i]).list.length = ln at *
  have fa : ∀ (k : Nat), 1 ≤ k → k < l.length → w.cell? ⟨b, off + k * 2, none⟩ = some (.int .i64 (freeAt l k)) := fun k _ hk => by
    obtain ⟨b', off', A1', c2', eA, _, q0, _, _⟩ := GFun.elem hs k hk
    obtain ⟨rfl, rfl⟩ : b = b' ∧ off = off' := by simpa using eA
    rw [q0]; simp [freeAt, List.getElem?_eq_getElem hk]
  clear hs
  clear hfr hln
  generalize freeAt l = F at *
  generalize l.length = L at *
  rcases opP_cases c with h | h | h | h | h | h | h | h | h | h | h | h
  · subst h
    go_enter Try.func170, Try.ntmps170
    go_wp2
    all_goals
      go_ret
      exact ⟨ret_bool (eq_dec (by simp [opP] <;> omega)), (Below.refl _ _).alloc (Nat.le_refl _) _⟩
  · subst h
    go_enter Try.func170, Try.ntmps170
    go_wp2
    all_goals
      go_ret
      exact ⟨ret_bool (eq_dec (by simp [opP] <;> omega)), (Below.refl _ _).alloc (Nat.le_refl _) _⟩
  · subst h
    by_cases hin : 0 ≤ n ∧ n ≤ fr - 1
    · have Ra := Lib.hid (Row.new w 153 #[.int .i64 3, .int .i64 n, .int .i64 m])
      have hE := Lib.hid (show Below w.heap.size w (w.alloc (.cells #[.int .i64 3, .int .i64 n, .int .i64 m] 153)) from (Below.refl _ _).alloc (Nat.le_refl _) _)
      have hwr : IntKind.i64.wrap (fr - 1) = fr - 1 := (IntWalk.i64_left _).trans (IntWalk.wrap64_in (fr - 1) (by omega))
      go_enter Try.func170, Try.ntmps170
      go_wp2
      go_quiet (first
        | (go_at_call 102
           exact Calls.quiet_of_same (implWithinT _ _ _ _ (by first | exact hin | (rw [hwr]; exact hin)))))
      go_wp2
      go_ret
      exact ⟨ret_bool (eq_dec (by simp [opP] <;> omega)), belowN hE.out _⟩
    · have Ra := Lib.hid (Row.new w 153 #[.int .i64 3, .int .i64 n, .int .i64 m])
      have hE := Lib.hid (show Below w.heap.size w (w.alloc (.cells #[.int .i64 3, .int .i64 n, .int .i64 m] 153)) from (Below.refl _ _).alloc (Nat.le_refl _) _)
      have hwr : IntKind.i64.wrap (fr - 1) = fr - 1 := (IntWalk.i64_left _).trans (IntWalk.wrap64_in (fr - 1) (by omega))
      go_enter Try.func170, Try.ntmps170
      go_wp2
      go_quiet (first
        | (go_at_call 102
           exact Calls.quiet_of_same (implWithinF _ _ _ _ (by first | exact hin | (rw [hwr]; exact hin)))))
      go_wp2
      go_ret
      exact ⟨ret_bool (eq_dec (by simp [opP] <;> omega)), belowN hE.out _⟩
  · subst h
    go_enter Try.func170, Try.ntmps170
    go_wp2
    all_goals
      go_ret
      exact ⟨ret_bool (eq_dec (by simp [opP] <;> omega)), (Below.refl _ _).alloc (Nat.le_refl _) _⟩
  · subst h
    by_cases hin : 1 ≤ n ∧ n ≤ (L : Int) - 1
    · obtain ⟨k, rfl⟩ : ∃ k : Nat, n = k := ⟨n.toNat, by omega⟩
      have hk := fa k (by omega) (by omega)
      have Ra := Lib.hid (Row.new w 153 #[.int .i64 5, .int .i64 (k : Int), .int .i64 m])
      have hE := Lib.hid (show Below w.heap.size w (w.alloc (.cells #[.int .i64 5, .int .i64 (k : Int), .int .i64 m] 153)) from (Below.refl _ _).alloc (Nat.le_refl _) _)
      have hwr : IntKind.i64.wrap ((L : Int) - 1) = (L : Int) - 1 := (IntWalk.i64_left _).trans (IntWalk.wrap64_in ((L : Int) - 1) (by omega))
      go_enter Try.func170, Try.ntmps170
      go_wp2
      go_quiet (first
        | (go_at_call 102
           exact Calls.quiet_of_same (implWithinT _ _ _ _ (by first | exact hin | (rw [hwr]; exact hin)))))
      go_wp2
      go_ret
      exact ⟨ret_bool (eq_dec (by simp [opP] <;> omega)), belowN hE.out _⟩
    · have Ra := Lib.hid (Row.new w 153 #[.int .i64 5, .int .i64 n, .int .i64 m])
      have hE := Lib.hid (show Below w.heap.size w (w.alloc (.cells #[.int .i64 5, .int .i64 n, .int .i64 m] 153)) from (Below.refl _ _).alloc (Nat.le_refl _) _)
      have hwr : IntKind.i64.wrap ((L : Int) - 1) = (L : Int) - 1 := (IntWalk.i64_left _).trans (IntWalk.wrap64_in ((L : Int) - 1) (by omega))
      go_enter Try.func170, Try.ntmps170
      go_wp2
      go_quiet (first
        | (go_at_call 102
           exact Calls.quiet_of_same (implWithinF _ _ _ _ (by first | exact hin | (rw [hwr]; exact hin)))))
      go_wp2
      go_ret
      exact ⟨ret_bool (eq_dec (by simp [opP] <;> omega)), belowN hE.out _⟩
  · subst h
    go_enter Try.func170, Try.ntmps170
    go_wp2
    all_goals
      go_ret
      exact ⟨ret_bool (eq_dec (by simp [opP] <;> omega)), (Below.refl _ _).alloc (Nat.le_refl _) _⟩
  · subst h
    go_enter Try.func170, Try.ntmps170
    go_wp2
    all_goals
      go_ret
      exact ⟨ret_bool (eq_dec (by simp [opP] <;> omega)), (Below.refl _ _).alloc (Nat.le_refl _) _⟩
  · subst h
    go_enter Try.func170, Try.ntmps170
    go_wp2
    all_goals
      go_ret
      exact ⟨ret_bool (eq_dec (by simp [opP] <;> omega)), (Below.refl _ _).alloc (Nat.le_refl _) _⟩
  · subst h
    go_enter Try.func170, Try.ntmps170
    go_wp2
    all_goals
      go_ret
      exact ⟨ret_bool (eq_dec (by simp [opP] <;> omega)), (Below.refl _ _).alloc (Nat.le_refl _) _⟩
  · subst h
    go_enter Try.func170, Try.ntmps170
    go_wp2
    all_goals
      go_ret
      exact ⟨ret_bool (eq_dec (by simp [opP] <;> omega)), (Below.refl _ _).alloc (Nat.le_refl _) _⟩
  · subst h
    go_enter Try.func170, Try.ntmps170
    go_wp2
    all_goals
      go_ret
      exact ⟨ret_bool (eq_dec (by simp [opP] <;> omega)), (Below.refl _ _).alloc (Nat.le_refl _) _⟩
  · have HO := Lib.hid (opP_else (fr := fr) (ln := ln) (ll := L) (fa := F) (i := i) h)
    obtain ⟨hc1, hc2, hc3, hc4, hc5, hc8, hc9, hc10, hc11, hc18, hc19⟩ := h
    go_enter Try.func170, Try.ntmps170
    go_wp2
    all_goals
      go_ret
      exact ⟨ret_bool (eq_dec (by rw [HO.out]; simp <;> omega)), (Below.refl _ _).alloc (Nat.le_refl _) _⟩

end Go.Proofs.Ytjcgfbjdailgoaa
