/- What Digits computes, in the program and in the reference. Conditions: the argument fits an int. -/
import Derived.Test.YtgbcdfeflgnogaaRows
import Derived.Test.YtgbcdfeflgnogaaPw
import Derived.Lib.Hide
namespace Go.Proofs.Ytgbcdfeflgnogaa
open Go.RowKit
set_option linter.unusedVariables false
set_option linter.unusedSimpArgs false

theorem digI_size (n : Int) (h1 : -9223372036854775808 ≤ n) (h2 : n ≤ 9223372036854775807) : (digI n).size ≤ 20 := by
  unfold digI
  split
  · rw [ByteArray.size_append']
    have := digU_size19 (-n).toNat (by omega)
    have h1 : (ByteArray.mk #[45]).size = 1 := rfl
    omega
  · have := digU_size19 n.toNat (by omega); omega

theorem digI_neg1 {n : Int} (h1 : n < 0) : digI n = ⟨#[45]⟩ ++ digI (-n) := by
  unfold digI; rw [if_pos h1, if_neg (by omega)]

theorem digI_lt {n : Int} (h1 : 0 ≤ n) (h : n < 10) : digI n = one (48 + n) := by
  unfold digI; rw [if_neg (by omega), digU_lt (by omega)]
  congr 1; omega

theorem digI_ge {n : Int} (h : 10 ≤ n) : digI n = digI (n / 10) ++ one (48 + n % 10) := by
  unfold digI; rw [if_neg (by omega), if_neg (by omega), digU_ge (by omega)]
  congr 2
  · omega
  · omega

theorem digI_neg10 {n : Int} (h : n ≤ -10) : digI n = digI (n.tdiv 10) ++ digI (-(n.tmod 10)) := by
  have h3 := tdiv10 n
  have h4 := tmod10 n
  have e1 : n.tdiv 10 = -((-n) / 10) := h3.2 (by omega)
  have e2 : n.tmod 10 = -((-n) % 10) := h4.2 (by omega)
  rw [e1, e2, digI_neg1 (n := n) (by omega), digI_neg1 (n := -((-n) / 10)) (by omega), digI_ge (n := -n) (by omega), digI_lt (n := - -(-n % 10)) (by omega) (by omega), ba_assoc]
  simp

theorem implDigits (k : Nat) : ∀ (n : Int) (w : World), ((0 ≤ n → 2 * n ≤ k) ∧ (n < 0 → -2 * n + 1 ≤ k)) → -9223372036854775808 ≤ n → n ≤ 9223372036854775807 →
    Calls Try.prog 152 #[.int .i64 n] w fun e w' => e = .returned (.string (digI n)) ∧ w = w' := by
  induction k with
  | zero =>
    intro n w hk h1 h2
    obtain rfl : n = 0 := by omega
    clear hk
    go_enter Try.func152, Try.ntmps152
    go_wp2_with fail
    go_ret
    exact ⟨ret_str (by decide +kernel), rfl⟩
  | succ k ih =>
    intro n w hk h1 h2
    by_cases hn : n < 0
    · by_cases h10 : -10 < n
      · have Hd := Lib.hid (digI_neg1 hn)
        have hsz := digI_size (-n) (by omega) (by omega)
        have hd9 : 0 ≤ -n := by omega
        go_enter Try.func152, Try.ntmps152
        go_wp2_with fail
        refine (ih (-n) _ (by omega) (by omega) (by omega)).mono ?_; rintro e w' ⟨rfl, rfl⟩
        go_wp2_with fail
        go_ret
        exact ⟨ret_str Hd.out.symm, rfl⟩
      · have Hd := Lib.hid (digI_neg10 (n := n) (by omega))
        have h3 := tdiv10 n
        have h4 := tmod10 n
        have hsz := digI_size (n.tdiv 10) (by omega) (by omega)
        have hsz2 := digI_size (-(n.tmod 10)) (by omega) (by omega)
        have hb : -9 ≤ n.tmod 10 ∧ n.tmod 10 ≤ 0 := by omega
        have hb2 : -922337203685477580 ≤ n.tdiv 10 ∧ n.tdiv 10 ≤ -1 := by omega
        have hb3 : -2 * n.tdiv 10 + 1 ≤ k := by omega
        clear h3 h4
        go_enter Try.func152, Try.ntmps152
        go_wp2_with fail
        refine (ih (n.tdiv 10) _ (by omega) (by omega) (by omega)).mono ?_; rintro e w' ⟨rfl, rfl⟩
        go_wp2_with fail
        refine (ih (-(n.tmod 10)) _ (by omega) (by omega) (by omega)).mono ?_; rintro e w' ⟨rfl, rfl⟩
        go_wp2_with fail
        go_ret
        exact ⟨ret_str Hd.out.symm, rfl⟩
    · by_cases h10 : n < 10
      · have Hd := Lib.hid (digI_lt (n := n) (by omega) h10)
        have He := Lib.hid (encode_one (r := 48 + n) (by omega) (by omega))
        have hn0 : 0 ≤ n := by omega
        go_enter Try.func152, Try.ntmps152
        go_wp2_with fail
        go_ret
        exact ⟨ret_str (by rw [Hd.out, ← He.out]), rfl⟩
      · have Hd := Lib.hid (digI_ge (n := n) (by omega))
        have He := Lib.hid (encode_one (r := 48 + n % 10) (by omega) (by omega))
        have hsz := digI_size (n / 10) (by omega) (by omega)
        have hs2 : (Utf8.encode (48 + n % 10)).size ≤ 1 := by rw [He.out]; exact Nat.le_refl 1
        have hn0 : 10 ≤ n := by omega
        go_enter Try.func152, Try.ntmps152
        go_wp2_with fail
        refine (ih (n / 10) _ (by omega) (by omega) (by omega)).mono ?_; rintro e w' ⟨rfl, rfl⟩
        go_wp2_with fail
        go_ret
        exact ⟨ret_str (by rw [Hd.out, ← He.out]), rfl⟩

theorem implDigits' (n : Int) (w : World) (h1 : -9223372036854775808 ≤ n) (h2 : n ≤ 9223372036854775807) :
    Calls Try.prog 152 #[.int .i64 n] w fun e w' => e = .returned (.string (digI n)) ∧ w = w' :=
  implDigits (2 * n.natAbs + 1) n w (by omega) h1 h2

/-- the loop of the reference's Digits: at each round's head what is left (a) and what has been made (s) -/
theorem specDigits (n : Int) (w : World) (h1 : -9223372036854775808 ≤ n) (h2 : n ≤ 9223372036854775807) :
    Calls Try.prog 153 #[.int .i64 n] w fun e w' => e = .returned (.string (digI n)) ∧ Below w.heap.size w w' := by
  have hcv := fun (w : World) (x : Int) => run_string_one (P := Try.prog) w 55 9 5 x Try.underlying55 Try.underlying5 Try.underlying9
  by_cases h0 : n = 0
  · subst h0
    go_enter Try.func153, Try.ntmps153
    go_wp2
    go_ret
    exact ⟨ret_str (by decide +kernel), Below.refl _ _⟩
  · have hz : (n == 0) = false := by simp [h0]
    have hz' : (n != 0) = true := by simp [h0]
    by_cases hn : n < 0
    · go_enter Try.func153, Try.ntmps153
      go_wp2
      go_loopw [0, 4, 5] (fun t i _ wr => ∃ (a : Nat) (s : ByteArray), a ≤ 9223372036854775808 ∧ t = .int .i64 (-a) ∧ i = .string s ∧ digR a s = digR n.natAbs ⟨#[]⟩ ∧ Below w.heap.size w wr) (fun t _ _ _ => (- (intOf t)).toNat)
      case atStart => exact ⟨n.natAbs, ⟨#[]⟩, by omega, by go_num, rfl, rfl, Below.refl _ _⟩
      case round =>
        obtain ⟨a, s, ha, rfl, rfl, hd, hb⟩ := hrel
        have hs : s.size ≤ 19 := by
          have g1 := digR_size a s
          rw [hd, digR_start (by omega)] at g1
          have := digU_size19 n.natAbs (by omega)
          omega
        have Hd := Lib.hid hd
        clear hd
        have hbs := hb.size
        rcases Nat.eq_zero_or_pos a with hz0 | hp
        · subst hz0
          go_wp2
          go_ret
          refine ⟨ret_str ?_, hb⟩
          have e := Hd.out
          rw [digR_zero, digR_start (by omega)] at e
          rw [e]; unfold digI; rw [if_pos hn]; congr 2; omega
        · have hk1 : (-(a : Int) != 0) = true := by simp; omega
          have e1 : (-(a : Int)).tmod 10 = -((a : Int) % 10) := by have := (tmod10 (-(a : Int))).2 (by omega); rw [this]; simp
          have e2 : (-(a : Int)).tdiv 10 = -((a : Int) / 10) := by have := (tdiv10 (-(a : Int))).2 (by omega); rw [this]; simp
          have hm : 0 ≤ (a : Int) % 10 ∧ (a : Int) % 10 ≤ 9 := by omega
          have Hst := Lib.hid (digR_step (a := a) (by omega) s)
          by_cases hq : 0 < (a : Int) % 10
          · go_wp2
            go_roundw
            case rel => exact ⟨a / 10, one (48 + (a : Int) % 10) ++ s, by omega, by go_num, rfl, by rw [← Hd.out, ← Hst.out]; simp, hb.alloc hbs _⟩
            case measure => simp [intOf]; omega
          · have hq0 : (a : Int) % 10 = 0 := by omega
            have Hq := Lib.hid hq0
            clear hq0
            go_wp2
            go_roundw
            case rel => exact ⟨a / 10, one (48 + -((a : Int) % 10)) ++ s, by omega, by go_num, rfl, by rw [← Hd.out, ← Hst.out, Hq.out]; congr 3; omega, hb.alloc hbs _⟩
            case measure => simp [intOf]; omega
    · go_enter Try.func153, Try.ntmps153
      go_wp2
      go_loopw [0, 4, 5] (fun t i _ wr => ∃ (a : Nat) (s : ByteArray), a ≤ 9223372036854775807 ∧ t = .int .i64 a ∧ i = .string s ∧ digR a s = digR n.toNat ⟨#[]⟩ ∧ Below w.heap.size w wr) (fun t _ _ _ => (intOf t).toNat)
      case atStart => exact ⟨n.toNat, ⟨#[]⟩, by omega, by go_num, rfl, rfl, Below.refl _ _⟩
      case round =>
        obtain ⟨a, s, ha, rfl, rfl, hd, hb⟩ := hrel
        have hs : s.size ≤ 19 := by
          have g1 := digR_size a s
          rw [hd, digR_start (by omega)] at g1
          have := digU_size19 n.toNat (by omega)
          omega
        have Hd := Lib.hid hd
        clear hd
        have hbs := hb.size
        rcases Nat.eq_zero_or_pos a with hz0 | hp
        · subst hz0
          go_wp2
          go_ret
          refine ⟨ret_str ?_, hb⟩
          have e := Hd.out
          rw [digR_zero, digR_start (by omega)] at e
          rw [e]; unfold digI; rw [if_neg (by omega)]
        · have hk1 : ((a : Int) != 0) = true := by simp; omega
          have hm : 0 ≤ (a : Int) % 10 ∧ (a : Int) % 10 ≤ 9 := by omega
          have Hst := Lib.hid (digR_step (a := a) (by omega) s)
          go_wp2
          go_roundw
          case rel => exact ⟨a / 10, one (48 + (a : Int) % 10) ++ s, by omega, by go_num, rfl, by rw [← Hd.out, ← Hst.out]; simp, hb.alloc hbs _⟩
          case measure => simp [intOf]; omega

end Go.Proofs.Ytgbcdfeflgnogaa
