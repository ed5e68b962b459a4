/- Number, in the program and in the reference. Conditions: none. -/
import Derived.Test.YtgbcdfeflgnogaaDigits
import Derived.Test.YtgbcdfeflgnogaaNumP
namespace Go.Proofs.Ytgbcdfeflgnogaa
open Go.RowKit
set_option linter.unusedVariables false
set_option linter.unusedSimpArgs false
set_option maxHeartbeats 1000000

theorem ret_ib {a b : Int} {c d : Bool} (h : a = b) (h2 : c = d) : Ending.returned (.tuple #[.int .i64 a, .bool c]) = .returned (.tuple #[.int .i64 b, .bool d]) := by rw [h, h2]

theorem numI_false {s : ByteArray} (h : numOk s.data.toList = false) : numI s = (0, false) := by unfold numI; rw [h]; rfl
theorem numI_true {s : ByteArray} (h : numOk s.data.toList = true) : numI s = (((nval s.data.toList : Nat) : Int), true) := by unfold numI; rw [h]; rfl

theorem ba_len (s : ByteArray) : s.data.toList.length = s.size := by cases s; rfl
theorem ba_head (s : ByteArray) (h : 0 < s.size) : s.data.toList.head? = some s[0] := by
  rw [List.head?_eq_getElem?, List.getElem?_eq_getElem (by rw [ba_len]; exact h)]; rfl

theorem specWordOk (n : Int) (w : World) : Calls Try.prog 230 #[.int .i64 n] w fun e w' => e = .returned (.bool (decide (-1073741824 ≤ n ∧ n ≤ 1073741823))) ∧ w = w' := by
  by_cases h1 : -1073741824 ≤ n
  · by_cases h2 : n ≤ 1073741823
    · go_enter Try.func230, Try.ntmps230
      go_wp2
      go_ret
      exact ⟨ret_bool (by simp [h1, h2]), rfl⟩
    · have h3 : decide (n ≤ 1073741823) = false := by simpa using h2
      go_enter Try.func230, Try.ntmps230
      go_wp2
      go_ret
      exact ⟨ret_bool (by simp [h2]), rfl⟩
  · have h3 : decide (-1073741824 ≤ n) = false := by simpa using h1
    go_enter Try.func230, Try.ntmps230
    go_wp2
    go_ret
    exact ⟨ret_bool (by simp [h1]), rfl⟩

theorem implWordOk (n : Int) (w : World) : Calls Try.prog 229 #[.int .i64 n] w fun e w' => e = .returned (.bool (decide (-1073741824 ≤ n ∧ n ≤ 1073741823))) ∧ w = w' := by
  by_cases h1 : -1073741824 ≤ n
  · by_cases h2 : n ≤ 1073741823
    · go_enter Try.func229, Try.ntmps229
      go_wp2
      go_ret
      exact ⟨ret_bool (by simp [h1, h2]), rfl⟩
    · have h3 : decide (n ≤ 1073741823) = false := by simpa using h2
      go_enter Try.func229, Try.ntmps229
      go_wp2
      go_ret
      exact ⟨ret_bool (by simp [h2]), rfl⟩
  · have h3 : decide (-1073741824 ≤ n) = false := by simpa using h1
    go_enter Try.func229, Try.ntmps229
    go_wp2
    go_ret
    exact ⟨ret_bool (by simp [h1]), rfl⟩

theorem specNumber (s : ByteArray) (w : World) (hmax : s.size ≤ 9223372036854775807) : Calls Try.prog 322 #[.string s] w fun e w' => e = .returned (.tuple #[.int .i64 (numI s).1, .bool (numI s).2]) ∧ Below w.heap.size w w' := by
  have hlen := Lib.hid (ba_len s)
  by_cases h0 : s.size < 1
  · have hv := Lib.hid (numI_false (s := s) (by unfold numOk; rw [hlen.out, decide_eq_false (by omega)]; rfl))
    have h0' : (s.size : Int) < 1 := by omega
    go_enter Try.func322, Try.ntmps322
    go_wp2_with fail
    go_ret2
    exact ⟨ret_ib (by rw [hv.out]) (by rw [hv.out]), Below.refl _ _⟩
  have h0n : 1 ≤ s.size := by omega
  have h0' : decide ((s.size : Int) < 1) = false := by simp; omega
  by_cases h10 : 10 < s.size
  · have hv := Lib.hid (numI_false (s := s) (by unfold numOk; rw [hlen.out, decide_eq_false (by omega)]; rfl))
    go_enter Try.func322, Try.ntmps322
    go_wp2_with fail
    go_ret2
    exact ⟨ret_ib (by rw [hv.out]) (by rw [hv.out]), Below.refl _ _⟩
  have h10' : s.size ≤ 10 := by omega
  have h10d : decide (10 < (s.size : Int)) = false := by simp; omega
  go_enter Try.func322, Try.ntmps322
  go_wp2_with fail
  go_loop [4, 5] (fun n i => ∃ k : Nat, k ≤ s.size ∧ i = .int .i64 k ∧ n = .int .i64 (nval (s.data.toList.take k)) ∧ (s.data.toList.take k).all isDig = true) (fun _ i => s.size - (intOf i).toNat)
  case atStart => exact ⟨0, by omega, by go_num, by simp [nval], by simp⟩
  case round =>
    obtain ⟨k, hk, rfl, rfl, hall⟩ := hrel
    have hnv := nval_lt10 _ (by rw [List.length_take, hlen.out]; omega) hall
    have Hall := Lib.hid hall
    clear hall
    by_cases hlt : k < s.size
    · have hts := Lib.hid (take_snoc_b s k hlt)
      have hbad : isDig s[k] = false → numI s = (0, false) := fun h => numI_false (s := s) (by unfold numOk; rw [all_take_false (k := k) (by rw [hlen.out]; exact hlt) (by exact h)]; simp)
      have Hbad := Lib.hid hbad
      clear hbad
      by_cases hc1 : (s[k].toNat : Int) < 48
      · have hv := Lib.hid (Hbad.out (decide_eq_false (by omega)))
        go_wp2_with fail
        go_ret2
        exact ⟨ret_ib (by rw [hv.out]) (by rw [hv.out]), Below.refl _ _⟩
      have hc1' : decide ((s[k].toNat : Int) < 48) = false := by simpa using hc1
      by_cases hc2 : 57 < (s[k].toNat : Int)
      · have hv := Lib.hid (Hbad.out (decide_eq_false (by omega)))
        go_wp2_with fail
        go_ret2
        exact ⟨ret_ib (by rw [hv.out]) (by rw [hv.out]), Below.refl _ _⟩
      have hc2' : decide (57 < (s[k].toNat : Int)) = false := by simpa using hc2
      have Hdk := Lib.hid (show isDig s[k] = true from decide_eq_true (by omega))
      have hdr : 48 ≤ (s[k].toNat : Int) ∧ (s[k].toNat : Int) ≤ 57 := by omega
      go_wp2_with fail
      go_round
      case rel => exact ⟨k + 1, by omega, by go_num, by rw [hts.out, nval_snoc]; congr 1; omega, by rw [hts.out, List.all_append, Hall.out]; simp [Hdk.out]⟩
      case measure => simp [intOf]; omega
    · have hjl : k = s.size := by omega
      have Hj := Lib.hid (show s.data.toList.take k = s.data.toList from List.take_of_length_le (by rw [hlen.out]; omega))
      clear hjl
      have hne : s.data.toList ≠ [] := by intro e; have := hlen.out; rw [e] at this; simp at this; omega
      have hiff := digU_nval_iff s.data.toList hne (by rw [← Hj.out]; exact Hall.out)
      have hdig : digI ((nval (s.data.toList.take k) : Nat) : Int) = digU (nval s.data.toList) := by
        unfold digI; rw [if_neg (by omega), Hj.out]; congr 1
      have hok : numOk s.data.toList = (decide (nval s.data.toList ≤ 1073741823) && decide (digU (nval s.data.toList) = s)) := by
        have hse : (⟨s.data.toList.toArray⟩ : ByteArray) = s := by cases s; rfl
        rw [hse] at hiff
        unfold numOk
        rw [hlen.out, decide_eq_true (show 1 ≤ s.size ∧ s.size ≤ 10 from ⟨h0n, h10'⟩), show s.data.toList.all isDig = true from by rw [← Hj.out]; exact Hall.out]
        by_cases hd : digU (nval s.data.toList) = s
        · have h2 := hiff.1 hd
          rw [decide_eq_true hd]
          have : (s.data.toList.head? == some 48 && decide (1 < s.size)) = false := by
            rw [← Bool.not_eq_true, Bool.and_eq_true, beq_iff_eq, decide_eq_true_iff]; intro h; exact h2 (by rw [hlen.out]; exact h)
          rw [this]; simp
        · have h2 : s.data.toList.head? = some 48 ∧ 1 < s.size := by
            rcases Classical.em (s.data.toList.head? = some 48 ∧ 1 < s.data.toList.length) with h | h
            · rw [hlen.out] at h; exact h
            · exact absurd (hiff.2 h) hd
          rw [decide_eq_false hd, h2.1, decide_eq_true h2.2]; simp
      have Hok := Lib.hid hok
      have Hdig := Lib.hid hdig
      clear hiff hok hdig hne
      go_wp2_with fail
      refine (specWordOk _ _).mono ?_
      rintro e w1 ⟨rfl, rfl⟩
      by_cases hm : nval (s.data.toList.take k) ≤ 1073741823
      rotate_left
      · have hv := Lib.hid (numI_false (s := s) (by rw [Hok.out, ← Hj.out, decide_eq_false hm]; rfl))
        have hmd : decide (-1073741824 ≤ ((nval (s.data.toList.take k) : Nat) : Int) ∧ ((nval (s.data.toList.take k) : Nat) : Int) ≤ 1073741823) = false := decide_eq_false (by omega)
        rw [hmd]
        go_wp2_with fail
        go_ret2
        exact ⟨ret_ib (by rw [hv.out]) (by rw [hv.out]), Below.refl _ _⟩
      have hmd : decide (-1073741824 ≤ ((nval (s.data.toList.take k) : Nat) : Int) ∧ ((nval (s.data.toList.take k) : Nat) : Int) ≤ 1073741823) = true := decide_eq_true (by omega)
      rw [hmd]
      clear hmd
      go_wp2_with fail
      refine (specDigits _ _ (by omega) (by omega)).mono ?_
      rintro e w2 ⟨rfl, hb2⟩
      by_cases hd : digU (nval s.data.toList) = s
      · have hv := Lib.hid (numI_true (s := s) (by rw [Hok.out, ← Hj.out, decide_eq_true hm, Hj.out, decide_eq_true hd]; rfl))
        have heq : ((digI ((nval (s.data.toList.take k) : Nat) : Int)).toList == s.toList) = true := by rw [Hdig.out, hd]; simp
        have hne : ((digI ((nval (s.data.toList.take k) : Nat) : Int)).toList != s.toList) = false := by rw [bne, heq]; rfl
        clear hd
        go_wp2_with fail
        go_ret2
        exact ⟨ret_ib (by rw [hv.out, Hj.out]) (by rw [hv.out]), hb2⟩
      · have hv := Lib.hid (numI_false (s := s) (by rw [Hok.out, decide_eq_false hd]; simp))
        have hne : ((digI ((nval (s.data.toList.take k) : Nat) : Int)).toList != s.toList) = true := by
          rw [Hdig.out, bne_iff_ne]; intro h; apply hd
          rw [ByteArray.toList_eq, ByteArray.toList_eq] at h
          apply ByteArray.ext; exact Array.toList_inj.1 h
        have heq : ((digI ((nval (s.data.toList.take k) : Nat) : Int)).toList == s.toList) = false := by rw [bne, Bool.not_eq_true'] at hne; exact hne
        clear hd
        go_wp2_with fail
        go_ret2
        exact ⟨ret_ib (by rw [hv.out]) (by rw [hv.out]), hb2⟩
end Go.Proofs.Ytgbcdfeflgnogaa
