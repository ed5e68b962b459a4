/- Texts of the claim LValues in one: Digits Number Name PaX PaY. Conditions: none but bounds on sizes. -/
import Derived.Test.YtamfolaicncblaaRows
import Derived.Test.YtamfolaicncblaaZLValues0
import Derived.Lib.Hide
import Derived.Test.YtamfolaicncblaaZLValues2
import Derived.Test.YtamfolaicncblaaZLValues3
import Derived.Test.YtamfolaicncblaaZLValues5
import Derived.Laws.DeepStrings4
import Derived.Lib.Strings
namespace Go.Proofs.Ytamfolaicncblaa
set_option maxRecDepth 20000
set_option linter.unusedVariables false
set_option linter.unusedSimpArgs false
open Go.RowKit
theorem digI_size (n : Int) (h1 : -9223372036854775808 ≤ n) (h2 : n ≤ 9223372036854775807) : (digI n).size ≤ 20 := by
 unfold digI
 split
 · rw [ByteArray.size_append']
   have := digU_size19 (-n).toNat (by omega)
   have h1 : (ByteArray.mk #[45]).size = 1 := rfl
   omega
 · have := digU_size19 n.toNat (by omega); omega
theorem digI_neg1 {n : Int} (h1 : n < 0) : digI n = ⟨#[45]⟩ ++ digI (-n) := by
 unfold digI; rw [if_pos h1, if_neg (by omega)]
theorem digI_lt {n : Int} (h1 : 0 ≤ n) (h : n < 10) : digI n = one (48 + n) := by
 unfold digI; rw [if_neg (by omega), digU_lt (by omega)]
 congr 1; omega
theorem digI_ge {n : Int} (h : 10 ≤ n) : digI n = digI (n / 10) ++ one (48 + n % 10) := by
 unfold digI; rw [if_neg (by omega), if_neg (by omega), digU_ge (by omega)]
 congr 2
 · omega
 · omega
theorem digI_neg10 {n : Int} (h : n ≤ -10) : digI n = digI (n.tdiv 10) ++ digI (-(n.tmod 10)) := by
 have h3 := tdiv10 n
 have h4 := tmod10 n
 have e1 : n.tdiv 10 = -((-n) / 10) := h3.2 (by omega)
 have e2 : n.tmod 10 = -((-n) % 10) := h4.2 (by omega)
 rw [e1, e2, digI_neg1 (n := n) (by omega), digI_neg1 (n := -((-n) / 10)) (by omega), digI_ge (n := -n) (by omega), digI_lt (n := - -(-n % 10)) (by omega) (by omega), ba_assoc]
 simp
theorem implDigits (k : Nat) : ∀ (n : Int) (w : World), ((0 ≤ n → 2 * n ≤ k) ∧ (n < 0 → -2 * n + 1 ≤ k)) → -9223372036854775808 ≤ n → n ≤ 9223372036854775807 →
 Calls Try.prog 15 #[.int .i64 n] w fun e w' => e = .returned (.string (digI n)) ∧ w = w' := by
 induction k with
 | zero =>
  intro n w hk h1 h2
  obtain rfl : n = 0 := by omega
  clear hk
  go_enter Try.func15, Try.ntmps15
  go_wp2_with fail
  go_ret
  exact ⟨ret_str (by decide +kernel), rfl⟩
 | succ k ih =>
  intro n w hk h1 h2
  by_cases hn : n < 0
  ·
   by_cases h10 : -10 < n
   ·
    have Hd := LH (digI_neg1 hn)
    have hsz := digI_size (-n) (by omega) (by omega)
    have hd9 : 0 ≤ -n := by omega
    go_enter Try.func15, Try.ntmps15
    go_wp2_with fail
    refine (ih (-n) _ (by omega) (by omega) (by omega)).mono ?_; rintro e w' ⟨rfl, rfl⟩
    go_wp2_with fail
    go_ret
    exact ⟨ret_str Hd.out.symm, rfl⟩
   ·
    have Hd := LH (digI_neg10 (n := n) (by omega))
    have h3 := tdiv10 n
    have h4 := tmod10 n
    have hsz := digI_size (n.tdiv 10) (by omega) (by omega)
    have hsz2 := digI_size (-(n.tmod 10)) (by omega) (by omega)
    have hb : -9 ≤ n.tmod 10 ∧ n.tmod 10 ≤ 0 := by omega
    have hb2 : -922337203685477580 ≤ n.tdiv 10 ∧ n.tdiv 10 ≤ -1 := by omega
    have hb3 : -2 * n.tdiv 10 + 1 ≤ k := by omega
    clear h3 h4
    go_enter Try.func15, Try.ntmps15
    go_wp2_with fail
    refine (ih (n.tdiv 10) _ (by omega) (by omega) (by omega)).mono ?_; rintro e w' ⟨rfl, rfl⟩
    go_wp2_with fail
    refine (ih (-(n.tmod 10)) _ (by omega) (by omega) (by omega)).mono ?_; rintro e w' ⟨rfl, rfl⟩
    go_wp2_with fail
    go_ret
    exact ⟨ret_str Hd.out.symm, rfl⟩
  ·
   by_cases h10 : n < 10
   · have Hd := LH (digI_lt (n := n) (by omega) h10)
     have He := LH (encode_one (r := 48 + n) (by omega) (by omega))
     have hn0 : 0 ≤ n := by omega
     go_enter Try.func15, Try.ntmps15
     go_wp2_with fail
     go_ret
     exact ⟨ret_str (by rw [Hd.out, ← He.out]), rfl⟩
   ·
    have Hd := LH (digI_ge (n := n) (by omega))
    have He := LH (encode_one (r := 48 + n % 10) (by omega) (by omega))
    have hsz := digI_size (n / 10) (by omega) (by omega)
    have hs2 : (Utf8.encode (48 + n % 10)).size ≤ 1 := by rw [He.out]; exact Nat.le_refl 1
    have hn0 : 10 ≤ n := by omega
    go_enter Try.func15, Try.ntmps15
    go_wp2_with fail
    refine (ih (n / 10) _ (by omega) (by omega) (by omega)).mono ?_; rintro e w' ⟨rfl, rfl⟩
    go_wp2_with fail
    go_ret
    exact ⟨ret_str (by rw [Hd.out, ← He.out]), rfl⟩
theorem implDigits' (n : Int) (w : World) (h1 : -9223372036854775808 ≤ n) (h2 : n ≤ 9223372036854775807) :
 Calls Try.prog 15 #[.int .i64 n] w fun e w' => e = .returned (.string (digI n)) ∧ w = w' :=
 implDigits (2 * n.natAbs + 1) n w (by omega) h1 h2
theorem specDigits (n : Int) (w : World) (h1 : -9223372036854775808 ≤ n) (h2 : n ≤ 9223372036854775807) :
 Calls Try.prog 16 #[.int .i64 n] w fun e w' => e = .returned (.string (digI n)) ∧ Below w.heap.size w w' := by
 have hcv := fun (w : World) (x : Int) => run_string_one (P := Try.prog) w 22 9 5 x Try.underlying22 Try.underlying5 Try.underlying9
 by_cases h0 : n = 0
 · subst h0
   go_enter Try.func16, Try.ntmps16
   go_wp2
   go_ret
   exact ⟨ret_str (by decide +kernel), Below.refl _ _⟩
 ·
  have hz : (n == 0) = false := by simp [h0]
  have hz' : (n != 0) = true := by simp [h0]
  by_cases hn : n < 0
  ·
   go_enter Try.func16, Try.ntmps16
   go_wp2
   go_loopw [0, 4, 5] (fun t i _ wr => ∃ (a : Nat) (s : ByteArray), a ≤ 9223372036854775808 ∧ t = .int .i64 (-a) ∧ i = .string s ∧ digR a s = digR n.natAbs ⟨#[]⟩ ∧ Below w.heap.size w wr) (fun t _ _ _ => (- (intOf t)).toNat)
   case atStart => exact ⟨n.natAbs, ⟨#[]⟩, by omega, by go_num, rfl, rfl, Below.refl _ _⟩
   case round =>
    obtain ⟨a, s, ha, rfl, rfl, hd, hb⟩ := hrel
    have hs : s.size ≤ 19 := by
     have g1 := digR_size a s
     rw [hd, digR_start (by omega)] at g1
     have := digU_size19 n.natAbs (by omega)
     omega
    have Hd := LH hd
    clear hd
    have hbs := hb.size
    rcases Nat.eq_zero_or_pos a with hz0 | hp
    · subst hz0
      go_wp2
      go_ret
      refine ⟨ret_str ?_, hb⟩
      have e := Hd.out
      rw [digR_zero, digR_start (by omega)] at e
      rw [e]; unfold digI; rw [if_pos hn]; congr 2; omega
    ·
     have hk1 : (-(a : Int) != 0) = true := by simp; omega
     have e1 : (-(a : Int)).tmod 10 = -((a : Int) % 10) := by have := (tmod10 (-(a : Int))).2 (by omega); rw [this]; simp
     have e2 : (-(a : Int)).tdiv 10 = -((a : Int) / 10) := by have := (tdiv10 (-(a : Int))).2 (by omega); rw [this]; simp
     have hm : 0 ≤ (a : Int) % 10 ∧ (a : Int) % 10 ≤ 9 := by omega
     have Hst := LH (digR_step (a := a) (by omega) s)
     by_cases hq : 0 < (a : Int) % 10
     · go_wp2
       go_roundw
       case rel => exact ⟨a / 10, one (48 + (a : Int) % 10) ++ s, by omega, by go_num, rfl, by rw [← Hd.out, ← Hst.out]; simp, hb.alloc hbs _⟩
       case measure => simp [intOf]; omega
     · have hq0 : (a : Int) % 10 = 0 := by omega
       have Hq := LH hq0
       clear hq0
       go_wp2
       go_roundw
       case rel => exact ⟨a / 10, one (48 + -((a : Int) % 10)) ++ s, by omega, by go_num, rfl, by rw [← Hd.out, ← Hst.out, Hq.out]; congr 3; omega, hb.alloc hbs _⟩
       case measure => simp [intOf]; omega
  ·
   go_enter Try.func16, Try.ntmps16
   go_wp2
   go_loopw [0, 4, 5] (fun t i _ wr => ∃ (a : Nat) (s : ByteArray), a ≤ 9223372036854775807 ∧ t = .int .i64 a ∧ i = .string s ∧ digR a s = digR n.toNat ⟨#[]⟩ ∧ Below w.heap.size w wr) (fun t _ _ _ => (intOf t).toNat)
   case atStart => exact ⟨n.toNat, ⟨#[]⟩, by omega, by go_num, rfl, rfl, Below.refl _ _⟩
   case round =>
    obtain ⟨a, s, ha, rfl, rfl, hd, hb⟩ := hrel
    have hs : s.size ≤ 19 := by
     have g1 := digR_size a s
     rw [hd, digR_start (by omega)] at g1
     have := digU_size19 n.toNat (by omega)
     omega
    have Hd := LH hd
    clear hd
    have hbs := hb.size
    rcases Nat.eq_zero_or_pos a with hz0 | hp
    · subst hz0
      go_wp2
      go_ret
      refine ⟨ret_str ?_, hb⟩
      have e := Hd.out
      rw [digR_zero, digR_start (by omega)] at e
      rw [e]; unfold digI; rw [if_neg (by omega)]
    · have hk1 : ((a : Int) != 0) = true := by simp; omega
      have hm : 0 ≤ (a : Int) % 10 ∧ (a : Int) % 10 ≤ 9 := by omega
      have Hst := LH (digR_step (a := a) (by omega) s)
      go_wp2
      go_roundw
      case rel => exact ⟨a / 10, one (48 + (a : Int) % 10) ++ s, by omega, by go_num, rfl, by rw [← Hd.out, ← Hst.out]; simp, hb.alloc hbs _⟩
      case measure => simp [intOf]; omega
set_option maxHeartbeats 1000000
theorem ret_ib {a b : Int} {c d : Bool} (h : a = b) (h2 : c = d) : Ending.returned (.tuple #[.int .i64 a, .bool c]) = .returned (.tuple #[.int .i64 b, .bool d]) := by rw [h, h2]
theorem numI_false {s : ByteArray} (h : numOk s.data.toList = false) : numI s = (0, false) := by unfold numI; rw [h]; rfl
theorem numI_true {s : ByteArray} (h : numOk s.data.toList = true) : numI s = (((nval s.data.toList : Nat) : Int), true) := by unfold numI; rw [h]; rfl
theorem ba_len (s : ByteArray) : s.data.toList.length = s.size := by cases s; rfl
theorem ba_head (s : ByteArray) (h : 0 < s.size) : s.data.toList.head? = some s[0] := by
 rw [List.head?_eq_getElem?, List.getElem?_eq_getElem (by rw [ba_len]; exact h)]; rfl
theorem specWordOk (n : Int) (w : World) : Calls Try.prog 28 #[.int .i64 n] w fun e w' => e = .returned (.bool (decide (-1073741824 ≤ n ∧ n ≤ 1073741823))) ∧ w = w' := by
 by_cases h1 : -1073741824 ≤ n
 ·
  by_cases h2 : n ≤ 1073741823
  · go_enter Try.func28, Try.ntmps28
    go_wp2
    go_ret
    exact ⟨ret_bool (by simp [h1, h2]), rfl⟩
  · have h3 : decide (n ≤ 1073741823) = false := by simpa using h2
    go_enter Try.func28, Try.ntmps28
    go_wp2
    go_ret
    exact ⟨ret_bool (by simp [h2]), rfl⟩
 ·
  have h3 : decide (-1073741824 ≤ n) = false := by simpa using h1
  go_enter Try.func28, Try.ntmps28
  go_wp2
  go_ret
  exact ⟨ret_bool (by simp [h1]), rfl⟩
theorem specNumber (s : ByteArray) (w : World) (hmax : s.size ≤ 9223372036854775807) : Calls Try.prog 65 #[.string s] w fun e w' => e = .returned (.tuple #[.int .i64 (numI s).1, .bool (numI s).2]) ∧ Below w.heap.size w w' := by
 have hlen := LH (ba_len s)
 by_cases h0 : s.size < 1
 ·
  have hv := LH (numI_false (s := s) (by unfold numOk; rw [hlen.out, decide_eq_false (by omega)]; rfl))
  have h0' : (s.size : Int) < 1 := by omega
  go_enter Try.func65, Try.ntmps65
  go_wp2_with fail
  go_ret2
  exact ⟨ret_ib (by rw [hv.out]) (by rw [hv.out]), Below.refl _ _⟩
 have h0n : 1 ≤ s.size := by omega
 have h0' : decide ((s.size : Int) < 1) = false := by simp; omega
 by_cases h10 : 10 < s.size
 · have hv := LH (numI_false (s := s) (by unfold numOk; rw [hlen.out, decide_eq_false (by omega)]; rfl))
   go_enter Try.func65, Try.ntmps65
   go_wp2_with fail
   go_ret2
   exact ⟨ret_ib (by rw [hv.out]) (by rw [hv.out]), Below.refl _ _⟩
 have h10' : s.size ≤ 10 := by omega
 have h10d : decide (10 < (s.size : Int)) = false := by simp; omega
 go_enter Try.func65, Try.ntmps65
 go_wp2_with fail
 go_loop [4, 5] (fun n i => ∃ k : Nat, k ≤ s.size ∧ i = .int .i64 k ∧ n = .int .i64 (nval (s.data.toList.take k)) ∧ (s.data.toList.take k).all isDig = true) (fun _ i => s.size - (intOf i).toNat)
 case atStart => exact ⟨0, by omega, by go_num, by simp [nval], by simp⟩
 case round =>
  obtain ⟨k, hk, rfl, rfl, hall⟩ := hrel
  have hnv := nval_lt10 _ (by rw [List.length_take, hlen.out]; omega) hall
  have Hall := LH hall
  clear hall
  by_cases hlt : k < s.size
  ·
   have hts := LH (take_snoc_b s k hlt)
   have hbad : isDig s[k] = false → numI s = (0, false) := fun h => numI_false (s := s) (by unfold numOk; rw [all_take_false (k := k) (by rw [hlen.out]; exact hlt) (by exact h)]; simp)
   have Hbad := LH hbad
   clear hbad
   by_cases hc1 : (s[k].toNat : Int) < 48
   · have hv := LH (Hbad.out (decide_eq_false (by omega)))
     go_wp2_with fail
     go_ret2
     exact ⟨ret_ib (by rw [hv.out]) (by rw [hv.out]), Below.refl _ _⟩
   have hc1' : decide ((s[k].toNat : Int) < 48) = false := by simpa using hc1
   by_cases hc2 : 57 < (s[k].toNat : Int)
   · have hv := LH (Hbad.out (decide_eq_false (by omega)))
     go_wp2_with fail
     go_ret2
     exact ⟨ret_ib (by rw [hv.out]) (by rw [hv.out]), Below.refl _ _⟩
   have hc2' : decide (57 < (s[k].toNat : Int)) = false := by simpa using hc2
   have Hdk := LH (show isDig s[k] = true from decide_eq_true (by omega))
   have hdr : 48 ≤ (s[k].toNat : Int) ∧ (s[k].toNat : Int) ≤ 57 := by omega
   go_wp2_with fail
   go_round
   case rel => exact ⟨k + 1, by omega, by go_num, by rw [hts.out, nval_snoc]; congr 1; omega, by rw [hts.out, List.all_append, Hall.out]; simp [Hdk.out]⟩
   case measure => simp [intOf]; omega
  ·
   have hjl : k = s.size := by omega
   have Hj := LH (show s.data.toList.take k = s.data.toList from List.take_of_length_le (by rw [hlen.out]; omega))
   clear hjl
   have hne : s.data.toList ≠ [] := by intro e; have := hlen.out; rw [e] at this; simp at this; omega
   have hiff := digU_nval_iff s.data.toList hne (by rw [← Hj.out]; exact Hall.out)
   have hdig : digI ((nval (s.data.toList.take k) : Nat) : Int) = digU (nval s.data.toList) := by
    unfold digI; rw [if_neg (by omega), Hj.out]; congr 1
   have hok : numOk s.data.toList = (decide (nval s.data.toList ≤ 1073741823) && decide (digU (nval s.data.toList) = s)) := by
    have hse : (⟨s.data.toList.toArray⟩ : ByteArray) = s := by cases s; rfl
    rw [hse] at hiff
    unfold numOk
    rw [hlen.out, decide_eq_true (show 1 ≤ s.size ∧ s.size ≤ 10 from ⟨h0n, h10'⟩), show s.data.toList.all isDig = true from by rw [← Hj.out]; exact Hall.out]
    by_cases hd : digU (nval s.data.toList) = s
    · have h2 := hiff.1 hd
      rw [decide_eq_true hd]
      have : (s.data.toList.head? == some 48 && decide (1 < s.size)) = false := by
       rw [← Bool.not_eq_true, Bool.and_eq_true, beq_iff_eq, decide_eq_true_iff]; intro h; exact h2 (by rw [hlen.out]; exact h)
      rw [this]; simp
    · have h2 : s.data.toList.head? = some 48 ∧ 1 < s.size := by
       rcases Classical.em (s.data.toList.head? = some 48 ∧ 1 < s.data.toList.length) with h | h
       · rw [hlen.out] at h; exact h
       · exact absurd (hiff.2 h) hd
      rw [decide_eq_false hd, h2.1, decide_eq_true h2.2]; simp
   have Hok := LH hok
   have Hdig := LH hdig
   clear hiff hok hdig hne
   go_wp2_with fail
   refine (specWordOk _ _).mono ?_
   rintro e w1 ⟨rfl, rfl⟩
   by_cases hm : nval (s.data.toList.take k) ≤ 1073741823
   rotate_left
   · have hv := LH (numI_false (s := s) (by rw [Hok.out, ← Hj.out, decide_eq_false hm]; rfl))
     have hmd : decide (-1073741824 ≤ ((nval (s.data.toList.take k) : Nat) : Int) ∧ ((nval (s.data.toList.take k) : Nat) : Int) ≤ 1073741823) = false := decide_eq_false (by omega)
     rw [hmd]
     go_wp2_with fail
     go_ret2
     exact ⟨ret_ib (by rw [hv.out]) (by rw [hv.out]), Below.refl _ _⟩
   have hmd : decide (-1073741824 ≤ ((nval (s.data.toList.take k) : Nat) : Int) ∧ ((nval (s.data.toList.take k) : Nat) : Int) ≤ 1073741823) = true := decide_eq_true (by omega)
   rw [hmd]
   clear hmd
   go_wp2_with fail
   refine (specDigits _ _ (by omega) (by omega)).mono ?_
   rintro e w2 ⟨rfl, hb2⟩
   by_cases hd : digU (nval s.data.toList) = s
   · have hv := LH (numI_true (s := s) (by rw [Hok.out, ← Hj.out, decide_eq_true hm, Hj.out, decide_eq_true hd]; rfl))
     have heq : ((digI ((nval (s.data.toList.take k) : Nat) : Int)).toList == s.toList) = true := by rw [Hdig.out, hd]; simp
     have hne : ((digI ((nval (s.data.toList.take k) : Nat) : Int)).toList != s.toList) = false := by rw [bne, heq]; rfl
     clear hd
     go_wp2_with fail
     go_ret2
     exact ⟨ret_ib (by rw [hv.out, Hj.out]) (by rw [hv.out]), hb2⟩
   ·
    have hv := LH (numI_false (s := s) (by rw [Hok.out, decide_eq_false hd]; simp))
    have hne : ((digI ((nval (s.data.toList.take k) : Nat) : Int)).toList != s.toList) = true := by
     rw [Hdig.out, bne_iff_ne]; intro h; apply hd
     rw [ByteArray.toList_eq, ByteArray.toList_eq] at h
     apply ByteArray.ext; exact Array.toList_inj.1 h
    have heq : ((digI ((nval (s.data.toList.take k) : Nat) : Int)).toList == s.toList) = false := by rw [bne, Bool.not_eq_true'] at hne; exact hne
    clear hd
    go_wp2_with fail
    go_ret2
    exact ⟨ret_ib (by rw [hv.out]) (by rw [hv.out]), hb2⟩
def smB (c : UInt8) : Bool := decide (97 ≤ c.toNat ∧ c.toNat ≤ 122)
def lgB (c : UInt8) : Bool := decide (65 ≤ c.toNat ∧ c.toNat ≤ 90)
def ltB (c : UInt8) : Bool := smB c || lgB c
def firstB (f : UInt8 → Bool) (s : ByteArray) : Bool := match s.data.toList with | [] => false | c :: _ => f c
def lettersB (f : UInt8 → Bool) (s : ByteArray) : Bool := decide (1 ≤ s.size ∧ s.size ≤ 8) && firstB f s && s.data.toList.all ltB
def nameB (s : ByteArray) : Bool := lettersB smB s && !inStrs kws s
def intS : ByteArray := ⟨#[73, 110, 116]⟩
def conB (s : ByteArray) : Bool := lettersB lgB s && !(s.toList == intS.toList)
theorem firstB_at {f : UInt8 → Bool} {s : ByteArray} (h : 0 < s.size) : firstB f s = f s[0] := by
 have h1 := ba_head s h
 unfold firstB
 cases hl : s.data.toList with
 | nil => rw [hl] at h1; simp at h1
 | cons a r => rw [hl] at h1; simp at h1; simp [h1]
theorem specSmall (c : UInt8) (w : World) : Calls Try.prog 62 #[.int .u8 c.toNat] w fun e w' => e = .returned (.bool (smB c)) ∧ w = w' := by
 have hd := LH (show smB c = decide (97 ≤ c.toNat ∧ c.toNat ≤ 122) from rfl)
 by_cases h1 : 97 ≤ (c.toNat : Int)
 ·
  by_cases h2 : (c.toNat : Int) ≤ 122
  · go_enter Try.func62, Try.ntmps62
    go_wp2_with fail
    go_ret
    exact ⟨ret_bool (by rw [hd.out, decide_eq_true (by omega)]), rfl⟩
  · have h3 : decide ((c.toNat : Int) ≤ 122) = false := by simpa using h2
    go_enter Try.func62, Try.ntmps62
    go_wp2_with fail
    go_ret
    exact ⟨ret_bool (by rw [hd.out, decide_eq_false (by omega)]), rfl⟩
 ·
  have h3 : decide (97 ≤ (c.toNat : Int)) = false := by simpa using h1
  go_enter Try.func62, Try.ntmps62
  go_wp2_with fail
  go_ret
  exact ⟨ret_bool (by rw [hd.out, decide_eq_false (by omega)]), rfl⟩
theorem specLarge (c : UInt8) (w : World) : Calls Try.prog 63 #[.int .u8 c.toNat] w fun e w' => e = .returned (.bool (lgB c)) ∧ w = w' := by
 have hd := LH (show lgB c = decide (65 ≤ c.toNat ∧ c.toNat ≤ 90) from rfl)
 by_cases h1 : 65 ≤ (c.toNat : Int)
 ·
  by_cases h2 : (c.toNat : Int) ≤ 90
  · go_enter Try.func63, Try.ntmps63
    go_wp2_with fail
    go_ret
    exact ⟨ret_bool (by rw [hd.out, decide_eq_true (by omega)]), rfl⟩
  · have h3 : decide ((c.toNat : Int) ≤ 90) = false := by simpa using h2
    go_enter Try.func63, Try.ntmps63
    go_wp2_with fail
    go_ret
    exact ⟨ret_bool (by rw [hd.out, decide_eq_false (by omega)]), rfl⟩
 ·
  have h3 : decide (65 ≤ (c.toNat : Int)) = false := by simpa using h1
  go_enter Try.func63, Try.ntmps63
  go_wp2_with fail
  go_ret
  exact ⟨ret_bool (by rw [hd.out, decide_eq_false (by omega)]), rfl⟩
theorem smB_eq (c : UInt8) : smB c = smallB c := by unfold smB smallB; rw [Bool.eq_iff_iff]; simp
theorem lgB_eq (c : UInt8) : lgB c = largeB c := by unfold lgB largeB; rw [Bool.eq_iff_iff]; simp
theorem drop_cons_at (s : ByteArray) (i : Nat) (h : i < s.size) : s.data.toList.drop i = s[i] :: s.data.toList.drop (i + 1) := by
 have h2 : i < s.data.toList.length := by rw [ba_len]; exact h
 rw [List.drop_eq_getElem_cons h2]
 rfl
theorem spanN_step {p : UInt8 → Bool} (s : ByteArray) (i : Nat) (h : i < s.size) (hp : p s[i] = true) : spanN p (s.data.toList.drop i) = spanN p (s.data.toList.drop (i + 1)) + 1 := by
 rw [drop_cons_at s i h]; simp [spanN, hp]
theorem spanN_stop {p : UInt8 → Bool} (s : ByteArray) (i : Nat) (h : i < s.size) (hp : p s[i] = false) : spanN p (s.data.toList.drop i) = 0 := by
 rw [drop_cons_at s i h]; simp [spanN, hp]
theorem spanN_end {p : UInt8 → Bool} (s : ByteArray) (i : Nat) (h : s.size ≤ i) : spanN p (s.data.toList.drop i) = 0 := by
 rw [List.drop_eq_nil_of_le (by rw [ba_len]; exact h)]; rfl
theorem extract_eq (s : ByteArray) (a b : Nat) : s.extract a b = ⟨((s.data.toList.drop a).take (b - a)).toArray⟩ := by
 have h := Lib.extract_data s a b
 cases hx : s.extract a b with
 | mk d => rw [hx] at h; simp only at h; rw [← h]
def oneV (l : List UInt8) (at0 : Nat) : GToken × Nat × Bool :=
 match l with
 | [] => (⟨0, ⟨#[]⟩, 0, 0⟩, 0, false)
 | b :: r =>
  if smallB b || largeB b then
   let n := spanN (fun c => smallB c || largeB c) (b :: r)
   (⟨if largeB b then 2 else 1, ⟨((b :: r).take n).toArray⟩, 0, at0⟩, at0 + n, decide (n ≤ 8))
  else if digitB b then
   let n := spanN digitB (b :: r)
   (⟨3, ⟨#[]⟩, (numI ⟨((b :: r).take n).toArray⟩).1, at0⟩, at0 + n, (numI ⟨((b :: r).take n).toArray⟩).2)
  else (⟨4, ⟨(pSignAt (b :: r)).toArray⟩, 0, at0⟩, at0 + (pSignAt (b :: r)).length, !(pSignAt (b :: r)).isEmpty)
theorem tokN_one (k : Nat) (b : UInt8) (r : List UInt8) (at0 : Nat) (acc : List GToken) (hb : (b == 32 || b == 10) = false) :
 tokN (k + 1) (b :: r) at0 acc = if (oneV (b :: r) at0).2.2 then tokN k ((b :: r).drop ((oneV (b :: r) at0).2.1 - at0)) (oneV (b :: r) at0).2.1 (acc ++ [(oneV (b :: r) at0).1]) else none := by
 simp only [tokN, hb, oneV]
 by_cases h1 : (smallB b || largeB b) = true
 · simp only [h1, if_true, if_false, Bool.false_eq_true, decide_eq_true_eq, Nat.add_sub_cancel_left]
 · simp only [h1, if_false, Bool.false_eq_true]
   by_cases h2 : digitB b = true
   · simp only [h2, if_true, Nat.add_sub_cancel_left]
   · simp only [h2, if_false, Bool.false_eq_true, Nat.add_sub_cancel_left]
     cases hs : (pSignAt (b :: r)).isEmpty <;> simp [hs]
def signV (s : ByteArray) (i : Nat) : ByteArray := ⟨(pSignAt (s.data.toList.drop i)).toArray⟩
def signsC : ByteArray := ⟨#[40, 41, 123, 125, 59, 61, 124, 43, 45, 42, 60, 95]⟩
theorem ba_eq {a b : ByteArray} (h : a.data.toList = b.data.toList) : a = b := by
 cases a with | mk a => cases b with | mk b => simp at h; rw [h]
theorem two_eq (s : ByteArray) (i : Nat) (x y : UInt8) (h : i + 1 < s.size) : ((s.extract i (i + 2)).toList == [x, y]) = (s[i] == x && s[i + 1] == y) := by
 rw [ByteArray.toList_eq, Lib.extract_data, drop_cons_at s i (by omega), drop_cons_at s (i + 1) h]
 simp [Nat.add_sub_cancel_left]
theorem signV_two (s : ByteArray) (i : Nat) (h : i + 1 < s.size) (h2 : (((s.extract i (i + 2)).toList == [45, 62]) || ((s.extract i (i + 2)).toList == [61, 61])) = true) : signV s i = s.extract i (i + 2) := by
 rw [two_eq s i _ _ h, two_eq s i _ _ h] at h2
 refine ba_eq ?_
 unfold signV
 rw [Lib.extract_data, drop_cons_at s i (by omega), drop_cons_at s (i + 1) h]
 generalize s[i] = a at h2 ⊢
 generalize s[i + 1] = b at h2 ⊢
 simp only [Bool.or_eq_true, Bool.and_eq_true, beq_iff_eq] at h2
 rcases h2 with ⟨rfl, rfl⟩ | ⟨rfl, rfl⟩ <;> simp [pSignAt, Nat.add_sub_cancel_left]
theorem pSignAt_one (l : List UInt8) (a : UInt8) (h : (∀ b r, l = b :: r → ((a == 45 && b == 62) || (a == 61 && b == 61)) = false)) : pSignAt (a :: l) = if pSigns.contains a then [a] else [] := by
 unfold pSignAt
 split
 · rename_i r he; simp at he; obtain ⟨rfl, rfl⟩ := he; have := h _ _ rfl; simp at this
 · rename_i r he; simp at he; obtain ⟨rfl, rfl⟩ := he; have := h _ _ rfl; simp at this
 · rename_i x r h1 h2 he; simp at he; obtain ⟨rfl, -⟩ := he; rfl
 · rename_i he; simp at he
theorem signV_one (s : ByteArray) (i : Nat) (hi : i < s.size) (h : i + 1 < s.size → (((s.extract i (i + 2)).toList == [45, 62]) || ((s.extract i (i + 2)).toList == [61, 61])) = false) :
 signV s i = ⟨(if pSigns.contains s[i] then [s[i]] else []).toArray⟩ := by
 unfold signV
 rw [drop_cons_at s i hi, pSignAt_one]
 intro b r he
 by_cases h1 : i + 1 < s.size
 · have h2 := h h1
   rw [two_eq s i _ _ h1, two_eq s i _ _ h1] at h2
   rw [drop_cons_at s (i + 1) h1] at he
   obtain ⟨rfl, rfl⟩ := List.cons.inj he
   exact h2
 · rw [List.drop_eq_nil_of_le (by rw [ba_len]; omega)] at he
   cases he
theorem signsC_size : signsC.size = 12 := rfl
theorem signsC_mem (s : ByteArray) (i : Nat) (hi : i < s.size) (j : Nat) (hj : j < signsC.size) (h : (signsC[j] == s[i]) = true) : pSigns.contains s[i] = true := by
 have h1 : signsC[j] = s[i] := by simpa using h
 rw [List.contains_iff_mem, ← h1]
 have h2 : signsC[j] = signsC.data.toList[j]'(by rw [ba_len]; exact hj) := rfl
 rw [h2]
 exact List.getElem_mem _
theorem signsC_none (b : UInt8) (h : ∀ q (hq : q < signsC.size), (signsC[q] == b) = false) : pSigns.contains b = false := by
 cases hc : pSigns.contains b with
 | false => rfl
 | true =>
  rw [List.contains_iff_mem] at hc
  obtain ⟨q, hq, he⟩ := List.getElem_of_mem (l := signsC.data.toList) hc
  have h1 := h q (by rw [← ba_len]; exact hq)
  have h2 : signsC[q]'(by rw [← ba_len]; exact hq) = signsC.data.toList[q] := rfl
  rw [h2, he] at h1
  simp at h1
theorem specDigit (c : UInt8) (w : World) : Calls Try.prog 64 #[.int .u8 c.toNat] w fun e w' => e = .returned (.bool (digitB c)) ∧ w = w' := by
 have hd := LH (show digitB c = decide (48 ≤ c.toNat ∧ c.toNat ≤ 57) by unfold digitB; rw [Bool.eq_iff_iff]; simp)
 by_cases h1 : 48 ≤ (c.toNat : Int)
 ·
  by_cases h2 : (c.toNat : Int) ≤ 57
  · go_enter Try.func64, Try.ntmps64
    go_wp2_with fail
    go_ret
    exact ⟨ret_bool (by rw [hd.out, decide_eq_true (by omega)]), rfl⟩
  · have h3 : decide ((c.toNat : Int) ≤ 57) = false := by simpa using h2
    go_enter Try.func64, Try.ntmps64
    go_wp2_with fail
    go_ret
    exact ⟨ret_bool (by rw [hd.out, decide_eq_false (by omega)]), rfl⟩
 ·
  have h3 : decide (48 ≤ (c.toNat : Int)) = false := by simpa using h1
  go_enter Try.func64, Try.ntmps64
  go_wp2_with fail
  go_ret
  exact ⟨ret_bool (by rw [hd.out, decide_eq_false (by omega)]), rfl⟩
theorem one_eq (s : ByteArray) (i : Nat) (hi : i < s.size) : s.extract i (i + 1) = ⟨[s[i]].toArray⟩ := by
 refine ba_eq ?_
 rw [Lib.extract_data, drop_cons_at s i hi]
 simp [Nat.add_sub_cancel_left]
theorem u8_beq (a b : UInt8) : (((a.toNat : Nat) : Int) == ((b.toNat : Nat) : Int)) = (a == b) := by
 rw [Bool.eq_iff_iff]
 simp only [beq_iff_eq]
 constructor
 · intro h; exact UInt8.toNat_inj.1 (by omega)
 · rintro rfl; rfl
theorem l2Sign (s : ByteArray) (i : Nat) (w : World) (hi : i < s.size) (hs : s.size ≤ 3000) :
 Calls Try.prog 66 #[.string s, .int .i64 i] w fun e w' => e = .returned (.string (signV s i)) ∧ Below w.heap.size w w' := by
 have w1 : IntKind.i64.wrap ((i : Int) + 1) = (i : Int) + 1 := (IntWalk.i64_left _).trans (IntWalk.wrap64_in ((i : Int) + 1) (by omega))
 have w2 : IntKind.i64.wrap ((i : Int) + 2) = (i : Int) + 2 := (IntWalk.i64_left _).trans (IntWalk.wrap64_in ((i : Int) + 2) (by omega))
 have H2 := LH (signV_two s i)
 have H1 := LH (signV_one s i hi)
 cases d1 : decide ((i : Int) + 1 < (s.size : Int))
 case' true => cases e1 : ((s.extract i (i + 2)).toList == [45, 62])
 case' true.false => cases e2 : ((s.extract i (i + 2)).toList == [61, 61])
 case' true.true =>
  have hi2 : i + 2 ≤ s.size := by have := of_decide_eq_true d1; omega
  have hi3 : (i : Int) + 2 ≤ (s.size : Int) := by omega
  have HV := LH (H2.out (by have := of_decide_eq_true d1; omega) (by rw [e1]; rfl))
  go_enter Try.func66, Try.ntmps66
  go_wp2_with fail
  go_ret
  exact ⟨by rw [HV.out]; rfl, Below.refl _ _⟩
 case' true.false.true =>
  have hi2 : i + 2 ≤ s.size := by have := of_decide_eq_true d1; omega
  have hi3 : (i : Int) + 2 ≤ (s.size : Int) := by omega
  have HV := LH (H2.out (by have := of_decide_eq_true d1; omega) (by rw [e1, e2]; rfl))
  go_enter Try.func66, Try.ntmps66
  go_wp2_with fail
  go_ret
  exact ⟨by rw [HV.out]; rfl, Below.refl _ _⟩
 case' false => have HV := LH (H1.out fun h => by have := of_decide_eq_false d1; omega)
 case' true.false.false =>
  have HV := LH (H1.out fun h => by rw [e1, e2]; rfl)
  have hi2 : i + 2 ≤ s.size := by have := of_decide_eq_true d1; omega
  have hi3 : (i : Int) + 2 ≤ (s.size : Int) := by omega
 all_goals
  clear H1 H2
  go_enter Try.func66, Try.ntmps66
  go_wp2_with fail
  rw [show (⟨#[40, 41, 123, 125, 59, 61, 124, 43, 45, 42, 60, 95]⟩ : ByteArray) = signsC from rfl]
  go_loopw [6] (fun v wr => ∃ j : Nat, j ≤ signsC.size ∧ v = .int .i64 j ∧ Hid (∀ q (hq : q < signsC.size), q < j → (signsC[q] == s[i]) = false) ∧ Hid (Below w.heap.size w wr)) (fun v _ => signsC.size - (intOf v).toNat)
  case atStart => exact ⟨0, by omega, by go_num, LH fun q _ h => by omega, LH (Below.refl _ _)⟩
  case round =>
   obtain ⟨j, hj, rfl, Hn, HB⟩ := hrel
   have hsz := LH signsC_size
   have hj12 : j ≤ 12 := by rw [← hsz.out]; exact hj
   by_cases hlt : j < signsC.size
   ·
    have dl : decide ((j : Int) < (signsC.size : Int)) = true := decide_eq_true (by omega)
    have HE := LH (u8_beq signsC[j] s[i])
    have HM := LH (signsC_mem s i hi j hlt)
    cases he : (((signsC[j].toNat : Nat) : Int) == ((s[i].toNat : Nat) : Int))
    ·
     have HF := LH (show (signsC[j] == s[i]) = false by rw [← HE.out]; exact he)
     go_wp2_with fail
     go_quiet (fail)
     go_wp2_with fail
     go_roundw
     case rel => exact ⟨j + 1, by omega, by go_num, LH fun q hq h => by
       rcases Nat.lt_or_ge q j with h1 | h1
       · exact Hn.out q hq h1
       · obtain rfl : q = j := by omega
         exact HF.out, LH (belowN HB.out _)⟩
     case measure => simp [intOf]; omega
    ·
     have HT := LH (HM.out (by rw [← HE.out]; exact he))
     go_wp2_with fail
     go_quiet (fail)
     go_wp2_with fail
     go_ret
     refine ⟨?_, belowN HB.out _⟩
     rw [HV.out, HT.out]
     have := one_eq s i hi
     rw [if_pos rfl, ← this]
     rfl
   · have dl : decide ((j : Int) < (signsC.size : Int)) = false := decide_eq_false (by omega)
     have HF := LH (signsC_none s[i] fun q hq => Hn.out q hq (by omega))
     go_wp2_with fail
     go_ret
     refine ⟨?_, HB.out⟩
     rw [HV.out, HF.out]
     rfl
def letB (c : UInt8) : Bool := smallB c || largeB c
theorem oneV_letters (s : ByteArray) (i q : Nat) (hi : i < s.size) (hq : i ≤ q) (hc : letB s[i] = true) (hn : spanN letB (s.data.toList.drop i) = q - i) (k : Int) (hk : k = if largeB s[i] then 2 else 1) :
 oneV (s.data.toList.drop i) i = (⟨k, s.extract i q, 0, i⟩, q, decide ((q : Int) - (i : Int) ≤ 8)) := by
 rw [extract_eq]
 rw [drop_cons_at s i hi] at hn ⊢
 unfold letB at hc hn
 subst hk
 simp only [oneV, hc, if_true, hn]
 rw [show i + (q - i) = q by omega, show decide (q - i ≤ 8) = decide ((q : Int) - (i : Int) ≤ 8) by rw [decide_eq_decide]; omega]
theorem oneV_digits (s : ByteArray) (i q : Nat) (hi : i < s.size) (hq : i ≤ q) (hc : letB s[i] = false) (hd : digitB s[i] = true) (hn : spanN digitB (s.data.toList.drop i) = q - i) :
 oneV (s.data.toList.drop i) i = (⟨3, ⟨#[]⟩, (numI (s.extract i q)).1, i⟩, q, (numI (s.extract i q)).2) := by
 rw [extract_eq]
 rw [drop_cons_at s i hi] at hn ⊢
 unfold letB at hc
 simp only [oneV, hc, hd, if_true, if_false, Bool.false_eq_true, hn]
 rw [show i + (q - i) = q by omega]
theorem oneV_sign (s : ByteArray) (i : Nat) (hi : i < s.size) (hc : letB s[i] = false) (hd : digitB s[i] = false) :
 oneV (s.data.toList.drop i) i = (⟨4, signV s i, 0, i⟩, i + (signV s i).size, !(signV s i).data.toList.isEmpty) := by
 unfold signV
 rw [drop_cons_at s i hi]
 unfold letB at hc
 simp only [oneV, hc, hd, if_false, Bool.false_eq_true]
 rfl
theorem letB_eq (c : UInt8) : letB c = (smB c || lgB c) := by unfold letB; rw [smB_eq, lgB_eq]
def tokA (t : GToken) : Value := .agg #[.int .i64 t.kind, .string t.text, .int .i64 t.n, .int .i64 t.pos]
def TokOneR (s : ByteArray) (i : Nat) (w : World) (e : Ending) (w' : World) : Prop := e = .returned (.tuple #[tokA (oneV (s.data.toList.drop i) i).1, .int .i64 (oneV (s.data.toList.drop i) i).2.1, .bool (oneV (s.data.toList.drop i) i).2.2]) ∧ Below w.heap.size w w'
theorem l2One (s : ByteArray) (i : Nat) (w : World) (hi : i < s.size) (hs : s.size ≤ 3000) :
 Calls Try.prog 44 #[.string s, .int .i64 i] w (TokOneR s i w) := by
 have hi2 : (i : Int) < (s.size : Int) := by omega
 have HL := LH (letB_eq s[i])
 have HS := LH (show (smB s[i] || lgB s[i]) = letB s[i] from (letB_eq s[i]).symm)
 have HLG := LH (lgB_eq s[i])
 obtain ⟨w1, e1, R1, hz1, K1⟩ := boxed w 78 #[.int .i64 0, .string ⟨#[]⟩, .int .i64 0, .int .i64 0]
 have hc1 := fun k => R1.out.cell k
 have hf1 := fun k => R1.out.frozen k
 have hl1 := R1.out.lt
 have B1 := LH (show Below w.heap.size w w1 by rw [e1]; exact (Below.refl _ _).alloc (Nat.le_refl _) _)
 go_enter Try.func44, Try.ntmps44
 refine wp_hide (fun BP hBP => ?_)
 have HBP := LH hBP
 clear hBP
 go_wp2_with fail
 rw [← e1]
 clear e1
 refine (specSmall s[i] _).mono ?_
 rintro e w2 ⟨rfl, rfl⟩
 cases hsm : smB s[i]
 ·
  go_wp2_with fail
  refine (specLarge s[i] _).mono ?_
  rintro e w2 ⟨rfl, rfl⟩
  cases hlg : lgB s[i]
  ·
   have HNL := LH (show letB s[i] = false by rw [HL.out, hsm, hlg]; rfl)
   go_wp2_with fail
   refine (specDigit s[i] _).mono ?_
   rintro e w2 ⟨rfl, rfl⟩
   cases hdg : digitB s[i]
   ·
    have HEQ0 := LH (oneV_sign s i hi HNL.out hdg)
    have hsz : (signV s i).size ≤ 2 := by
     have h1 := ba_len (signV s i)
     have h2 : (pSignAt (s.data.toList.drop i)).length ≤ 2 := by
      unfold pSignAt
      split <;> simp
      split <;> simp
     unfold signV at h1 ⊢
     simp only at h1
     omega
    have HSN := LH (l2Sign s i w1 hi hs)
    go_wp2_with fail
    refine HSN.out.mono ?_
    rintro e w4 ⟨rfl, hb4⟩
    obtain ⟨sg, hsg⟩ : ∃ x, signV s i = x := ⟨_, rfl⟩
    rw [hsg] at hsz HEQ0 ⊢
    have hwk : IntKind.i64.wrap ((i : Int) + (sg.size : Int)) = (i : Int) + (sg.size : Int) := (IntWalk.i64_left _).trans (IntWalk.wrap64_in ((i : Int) + (sg.size : Int)) (by omega))
    have B4 := LH (B1.out.trans (hb4.mono (by omega)))
    have R4 := LH (R1.out.below hb4 R1.out.lt)
    have hc4 := fun k => R4.out.cell k
    have hf4 := fun k => R4.out.frozen k
    have hl4 := R4.out.lt
    clear hc1 hf1 hl1 B1 R1 hb4 hsg
    have B1 := B4
    have R1 := R4
    have hc1 := hc4
    clear B4 R4 hc4
    cases hne : (sg.toList == [])
    ·
     have HEQ := LH (show oneV (s.data.toList.drop i) i = (⟨4, sg, 0, i⟩, i + sg.size, true) by rw [HEQ0.out, ← ByteArray.toList_eq]; cases hh : sg.toList <;> simp_all)
     go_wp2_with fail
     obtain ⟨w5, e5, R5, hz5, K5⟩ := stored4 R1.out (.int .i64 4) (.string sg) (.int .i64 0) (.int .i64 i)
     rw [← e5]
     have hc5 := fun k => R5.out.cell k
     have B5 := LH (B1.out.trans (K5.out.below (B := w.heap.size) (by omega) (Nat.le_refl _)))
     clear e5 hc1
     show BP _ _
     rw [HBP.out]
     refine bodyPost_ret (v := .tuple #[.agg #[.int .i64 4, .string sg, .int .i64 0, .int .i64 i], .int .i64 ((i : Int) + (sg.size : Int)), .bool true]) (by simp [results, Try.results44, go_sem, hc5]) rfl ?_
     exact ⟨by rw [HEQ.out]; rfl, B5.out⟩
    ·
     have HEQ := LH (show oneV (s.data.toList.drop i) i = (⟨4, sg, 0, i⟩, i + sg.size, false) by rw [HEQ0.out, ← ByteArray.toList_eq]; cases hh : sg.toList <;> simp_all)
     go_wp2_with fail
     obtain ⟨w5, e5, R5, hz5, K5⟩ := stored4 R1.out (.int .i64 4) (.string sg) (.int .i64 0) (.int .i64 i)
     rw [← e5]
     have hc5 := fun k => R5.out.cell k
     have B5 := LH (B1.out.trans (K5.out.below (B := w.heap.size) (by omega) (Nat.le_refl _)))
     clear e5 hc1
     show BP _ _
     rw [HBP.out]
     refine bodyPost_ret (v := .tuple #[.agg #[.int .i64 4, .string sg, .int .i64 0, .int .i64 i], .int .i64 ((i : Int) + (sg.size : Int)), .bool false]) (by simp [results, Try.results44, go_sem, hc5]) rfl ?_
     exact ⟨by rw [HEQ.out]; rfl, B5.out⟩
   ·
    go_wp2_with fail
    go_loop [7] (fun v => ∃ q : Nat, v = .int .i64 q ∧ i ≤ q ∧ q ≤ s.size ∧ Hid (spanN digitB (s.data.toList.drop i) = (q - i) + spanN digitB (s.data.toList.drop q))) (fun v => s.size - (intOf v).toNat)
    case atStart => exact ⟨i, by go_num, Nat.le_refl _, by omega, LH (by omega)⟩
    case round =>
     obtain ⟨q, rfl, hiq, hqs, HN⟩ := hrel
     have hn0 := True.intro
     by_cases hlt : q < s.size
     ·
      have dl : decide ((q : Int) < (s.size : Int)) = true := decide_eq_true (by omega)
      have hlt2 : (q : Int) < (s.size : Int) := by omega
      have hw1 : IntKind.i64.wrap ((q : Int) + 1) = (q : Int) + 1 := (IntWalk.i64_left _).trans (IntWalk.wrap64_in ((q : Int) + 1) (by omega))
      have HST := LH (spanN_step (p := digitB) s q hlt)
      have HSP := LH (spanN_stop (p := digitB) s q hlt)
      go_wp2_with fail
      refine (specDigit s[q] _).mono ?_
      rintro e w2 ⟨rfl, rfl⟩
      cases hdq : digitB s[q]
      ·
       have HZ := LH (HSP.out hdq)
       have HEQ := LH (oneV_digits s i q hi hiq HNL.out hdg (by rw [HN.out, HZ.out]; omega))
       clear hn0
       have hsl : (i : Int) ≤ (q : Int) := by omega
       have hsq : (q : Int) ≤ (s.size : Int) := by omega
       have hxs : (s.extract i q).size ≤ 9223372036854775807 := by simp [ByteArray.size_extract]; omega
       obtain ⟨tx, htx⟩ : ∃ x, s.extract i q = x := ⟨_, rfl⟩
       rw [htx] at hxs HEQ
       have hnw := LH (specNumber tx w1 hxs)
       go_wp2_with fail
       clear htx
       refine hnw.out.mono ?_
       rintro e w4 ⟨rfl, hb4⟩
       have B4 := LH (B1.out.trans (hb4.mono (by omega)))
       have R4 := LH (R1.out.below hb4 R1.out.lt)
       have hc4 := fun k => R4.out.cell k
       have hf4 := fun k => R4.out.frozen k
       have hl4 := R4.out.lt
       clear hc1 hf1 hl1 B1 R1 hb4
       have B1 := B4
       have R1 := R4
       have hc1 := hc4
       clear B4 R4 hc4
       go_wp2_with fail
       obtain ⟨w5, e5, R5, hz5, K5⟩ := stored4 R1.out (.int .i64 3) (.string ⟨#[]⟩) (.int .i64 (numI tx).1) (.int .i64 i)
       rw [← e5]
       have hc5 := fun k => R5.out.cell k
       have B5 := LH (B1.out.trans (K5.out.below (B := w.heap.size) (by omega) (Nat.le_refl _)))
       clear e5 hc1
       show BP _ _
       rw [HBP.out]
       refine bodyPost_ret (v := .tuple #[.agg #[.int .i64 3, .string ⟨#[]⟩, .int .i64 (numI tx).1, .int .i64 i], .int .i64 q, .bool (numI tx).2]) (by simp [results, Try.results44, go_sem, hc5]) rfl ?_
       exact ⟨by rw [HEQ.out]; rfl, B5.out⟩
      · have HZ := LH (HST.out hdq)
        go_wp2_with fail
        go_round
        case rel => exact ⟨q + 1, by go_num, by omega, by omega, LH (by rw [HN.out, HZ.out]; omega)⟩
        case measure => simp [intOf]; omega
     ·
      have dl : decide ((q : Int) < (s.size : Int)) = false := decide_eq_false (by omega)
      have HZ := LH (spanN_end (p := digitB) s q (by omega))
      have HEQ := LH (oneV_digits s i q hi hiq HNL.out hdg (by rw [HN.out, HZ.out]; omega))
      clear hn0
      have hsl : (i : Int) ≤ (q : Int) := by omega
      have hsq : (q : Int) ≤ (s.size : Int) := by omega
      have hxs : (s.extract i q).size ≤ 9223372036854775807 := by simp [ByteArray.size_extract]; omega
      obtain ⟨tx, htx⟩ : ∃ x, s.extract i q = x := ⟨_, rfl⟩
      rw [htx] at hxs HEQ
      have hnw := LH (specNumber tx w1 hxs)
      go_wp2_with fail
      clear htx
      refine hnw.out.mono ?_
      rintro e w4 ⟨rfl, hb4⟩
      have B4 := LH (B1.out.trans (hb4.mono (by omega)))
      have R4 := LH (R1.out.below hb4 R1.out.lt)
      have hc4 := fun k => R4.out.cell k
      have hf4 := fun k => R4.out.frozen k
      have hl4 := R4.out.lt
      clear hc1 hf1 hl1 B1 R1 hb4
      have B1 := B4
      have R1 := R4
      have hc1 := hc4
      clear B4 R4 hc4
      go_wp2_with fail
      obtain ⟨w5, e5, R5, hz5, K5⟩ := stored4 R1.out (.int .i64 3) (.string ⟨#[]⟩) (.int .i64 (numI tx).1) (.int .i64 i)
      rw [← e5]
      have hc5 := fun k => R5.out.cell k
      have B5 := LH (B1.out.trans (K5.out.below (B := w.heap.size) (by omega) (Nat.le_refl _)))
      clear e5 hc1
      show BP _ _
      rw [HBP.out]
      refine bodyPost_ret (v := .tuple #[.agg #[.int .i64 3, .string ⟨#[]⟩, .int .i64 (numI tx).1, .int .i64 i], .int .i64 q, .bool (numI tx).2]) (by simp [results, Try.results44, go_sem, hc5]) rfl ?_
      exact ⟨by rw [HEQ.out]; rfl, B5.out⟩
  ·
   have HLET := LH (show letB s[i] = true by rw [HL.out, hlg]; simp)
   go_wp2_with fail
   go_loop [7] (fun v => ∃ q : Nat, v = .int .i64 q ∧ i ≤ q ∧ q ≤ s.size ∧ Hid (spanN letB (s.data.toList.drop i) = (q - i) + spanN letB (s.data.toList.drop q))) (fun v => s.size - (intOf v).toNat)
   case atStart => exact ⟨i, by go_num, Nat.le_refl _, by omega, LH (by omega)⟩
   case round =>
    obtain ⟨q, rfl, hiq, hqs, HN⟩ := hrel
    have hn0 := True.intro
    by_cases hlt : q < s.size
    ·
     have dl : decide ((q : Int) < (s.size : Int)) = true := decide_eq_true (by omega)
     have hlt2 : (q : Int) < (s.size : Int) := by omega
     have hw1 : IntKind.i64.wrap ((q : Int) + 1) = (q : Int) + 1 := (IntWalk.i64_left _).trans (IntWalk.wrap64_in ((q : Int) + 1) (by omega))
     have HLQ := LH (letB_eq s[q])
     have HST := LH (spanN_step (p := letB) s q hlt)
     have HSP := LH (spanN_stop (p := letB) s q hlt)
     go_wp2_with fail
     refine (specSmall s[q] _).mono ?_
     rintro e w2 ⟨rfl, rfl⟩
     cases hsq0 : smB s[q]
     ·
      go_wp2_with fail
      refine (specLarge s[q] _).mono ?_
      rintro e w2 ⟨rfl, rfl⟩
      cases hlq : lgB s[q]
      ·
       have HZ := LH (HSP.out (by rw [HLQ.out, hsq0, hlq]; rfl))
       have HQ := LH (oneV_letters s i q hi hiq HLET.out (by rw [HN.out, HZ.out]; omega))
       clear hn0
       have hsl : (i : Int) ≤ (q : Int) := by omega
       have hsq : (q : Int) ≤ (s.size : Int) := by omega
       have hwk : IntKind.i64.wrap ((q : Int) - (i : Int)) = (q : Int) - (i : Int) := (IntWalk.i64_left _).trans (IntWalk.wrap64_in ((q : Int) - (i : Int)) (by omega))
       go_wp2_with fail
       refine (specLarge s[i] _).mono ?_
       rintro e w2 ⟨rfl, rfl⟩
       cases hl : lgB s[i]
       · have HEQ := LH (HQ.out 1 (by rw [← HLG.out, hl]; rfl))
         go_wp2_with fail
         obtain ⟨w5, e5, R5, hz5, K5⟩ := stored4 R1.out (.int .i64 1) (.string (s.extract i q)) (.int .i64 0) (.int .i64 i)
         rw [← e5]
         have hc5 := fun k => R5.out.cell k
         have B5 := LH (B1.out.trans (K5.out.below (B := w.heap.size) (by omega) (Nat.le_refl _)))
         clear e5 hc1
         show BP _ _
         rw [HBP.out]
         refine bodyPost_ret (v := .tuple #[.agg #[.int .i64 1, .string (s.extract i q), .int .i64 0, .int .i64 i], .int .i64 q, .bool (decide ((q : Int) - (i : Int) ≤ 8))]) (by simp [results, Try.results44, go_sem, hc5]) rfl ?_
         exact ⟨by rw [HEQ.out]; rfl, B5.out⟩
       · have HEQ := LH (HQ.out 2 (by rw [← HLG.out, hl]; rfl))
         go_wp2_with fail
         obtain ⟨w5, e5, R5, hz5, K5⟩ := stored4 R1.out (.int .i64 2) (.string (s.extract i q)) (.int .i64 0) (.int .i64 i)
         rw [← e5]
         have hc5 := fun k => R5.out.cell k
         have B5 := LH (B1.out.trans (K5.out.below (B := w.heap.size) (by omega) (Nat.le_refl _)))
         clear e5 hc1
         show BP _ _
         rw [HBP.out]
         refine bodyPost_ret (v := .tuple #[.agg #[.int .i64 2, .string (s.extract i q), .int .i64 0, .int .i64 i], .int .i64 q, .bool (decide ((q : Int) - (i : Int) ≤ 8))]) (by simp [results, Try.results44, go_sem, hc5]) rfl ?_
         exact ⟨by rw [HEQ.out]; rfl, B5.out⟩
      · have HZ := LH (HST.out (by rw [HLQ.out, hsq0, hlq]; rfl))
        go_wp2_with fail
        go_round
        case rel => exact ⟨q + 1, by go_num, by omega, by omega, LH (by rw [HN.out, HZ.out]; omega)⟩
        case measure => simp [intOf]; omega
     · have HZ := LH (HST.out (by rw [HLQ.out, hsq0]; rfl))
       go_wp2_with fail
       go_round
       case rel => exact ⟨q + 1, by go_num, by omega, by omega, LH (by rw [HN.out, HZ.out]; omega)⟩
       case measure => simp [intOf]; omega
    ·
     have dl : decide ((q : Int) < (s.size : Int)) = false := decide_eq_false (by omega)
     have HZ := LH (spanN_end (p := letB) s q (by omega))
     have HQ := LH (oneV_letters s i q hi hiq HLET.out (by rw [HN.out, HZ.out]; omega))
     clear hn0
     have hsl : (i : Int) ≤ (q : Int) := by omega
     have hsq : (q : Int) ≤ (s.size : Int) := by omega
     have hwk : IntKind.i64.wrap ((q : Int) - (i : Int)) = (q : Int) - (i : Int) := (IntWalk.i64_left _).trans (IntWalk.wrap64_in ((q : Int) - (i : Int)) (by omega))
     go_wp2_with fail
     refine (specLarge s[i] _).mono ?_
     rintro e w2 ⟨rfl, rfl⟩
     cases hl : lgB s[i]
     ·
      have HEQ := LH (HQ.out 1 (by rw [← HLG.out, hl]; rfl))
      go_wp2_with fail
      obtain ⟨w5, e5, R5, hz5, K5⟩ := stored4 R1.out (.int .i64 1) (.string (s.extract i q)) (.int .i64 0) (.int .i64 i)
      rw [← e5]
      have hc5 := fun k => R5.out.cell k
      have B5 := LH (B1.out.trans (K5.out.below (B := w.heap.size) (by omega) (Nat.le_refl _)))
      clear e5 hc1
      show BP _ _
      rw [HBP.out]
      refine bodyPost_ret (v := .tuple #[.agg #[.int .i64 1, .string (s.extract i q), .int .i64 0, .int .i64 i], .int .i64 q, .bool (decide ((q : Int) - (i : Int) ≤ 8))]) (by simp [results, Try.results44, go_sem, hc5]) rfl ?_
      exact ⟨by rw [HEQ.out]; rfl, B5.out⟩
     ·
      have HEQ := LH (HQ.out 2 (by rw [← HLG.out, hl]; rfl))
      go_wp2_with fail
      obtain ⟨w5, e5, R5, hz5, K5⟩ := stored4 R1.out (.int .i64 2) (.string (s.extract i q)) (.int .i64 0) (.int .i64 i)
      rw [← e5]
      have hc5 := fun k => R5.out.cell k
      have B5 := LH (B1.out.trans (K5.out.below (B := w.heap.size) (by omega) (Nat.le_refl _)))
      clear e5 hc1
      show BP _ _
      rw [HBP.out]
      refine bodyPost_ret (v := .tuple #[.agg #[.int .i64 2, .string (s.extract i q), .int .i64 0, .int .i64 i], .int .i64 q, .bool (decide ((q : Int) - (i : Int) ≤ 8))]) (by simp [results, Try.results44, go_sem, hc5]) rfl ?_
      exact ⟨by rw [HEQ.out]; rfl, B5.out⟩
 ·
  have HLET := LH (show letB s[i] = true by rw [HL.out, hsm]; simp)
  go_wp2_with fail
  go_loop [7] (fun v => ∃ q : Nat, v = .int .i64 q ∧ i ≤ q ∧ q ≤ s.size ∧ Hid (spanN letB (s.data.toList.drop i) = (q - i) + spanN letB (s.data.toList.drop q))) (fun v => s.size - (intOf v).toNat)
  case atStart => exact ⟨i, by go_num, Nat.le_refl _, by omega, LH (by omega)⟩
  case round =>
   obtain ⟨q, rfl, hiq, hqs, HN⟩ := hrel
   have hn0 := True.intro
   by_cases hlt : q < s.size
   ·
    have dl : decide ((q : Int) < (s.size : Int)) = true := decide_eq_true (by omega)
    have hlt2 : (q : Int) < (s.size : Int) := by omega
    have hw1 : IntKind.i64.wrap ((q : Int) + 1) = (q : Int) + 1 := (IntWalk.i64_left _).trans (IntWalk.wrap64_in ((q : Int) + 1) (by omega))
    have HLQ := LH (letB_eq s[q])
    have HST := LH (spanN_step (p := letB) s q hlt)
    have HSP := LH (spanN_stop (p := letB) s q hlt)
    go_wp2_with fail
    refine (specSmall s[q] _).mono ?_
    rintro e w2 ⟨rfl, rfl⟩
    cases hsq0 : smB s[q]
    ·
     go_wp2_with fail
     refine (specLarge s[q] _).mono ?_
     rintro e w2 ⟨rfl, rfl⟩
     cases hlq : lgB s[q]
     ·
      have HZ := LH (HSP.out (by rw [HLQ.out, hsq0, hlq]; rfl))
      have HQ := LH (oneV_letters s i q hi hiq HLET.out (by rw [HN.out, HZ.out]; omega))
      clear hn0
      have hsl : (i : Int) ≤ (q : Int) := by omega
      have hsq : (q : Int) ≤ (s.size : Int) := by omega
      have hwk : IntKind.i64.wrap ((q : Int) - (i : Int)) = (q : Int) - (i : Int) := (IntWalk.i64_left _).trans (IntWalk.wrap64_in ((q : Int) - (i : Int)) (by omega))
      go_wp2_with fail
      refine (specLarge s[i] _).mono ?_
      rintro e w2 ⟨rfl, rfl⟩
      cases hl : lgB s[i]
      ·
       have HEQ := LH (HQ.out 1 (by rw [← HLG.out, hl]; rfl))
       go_wp2_with fail
       obtain ⟨w5, e5, R5, hz5, K5⟩ := stored4 R1.out (.int .i64 1) (.string (s.extract i q)) (.int .i64 0) (.int .i64 i)
       rw [← e5]
       have hc5 := fun k => R5.out.cell k
       have B5 := LH (B1.out.trans (K5.out.below (B := w.heap.size) (by omega) (Nat.le_refl _)))
       clear e5 hc1
       show BP _ _
       rw [HBP.out]
       refine bodyPost_ret (v := .tuple #[.agg #[.int .i64 1, .string (s.extract i q), .int .i64 0, .int .i64 i], .int .i64 q, .bool (decide ((q : Int) - (i : Int) ≤ 8))]) (by simp [results, Try.results44, go_sem, hc5]) rfl ?_
       exact ⟨by rw [HEQ.out]; rfl, B5.out⟩
      ·
       have HEQ := LH (HQ.out 2 (by rw [← HLG.out, hl]; rfl))
       go_wp2_with fail
       obtain ⟨w5, e5, R5, hz5, K5⟩ := stored4 R1.out (.int .i64 2) (.string (s.extract i q)) (.int .i64 0) (.int .i64 i)
       rw [← e5]
       have hc5 := fun k => R5.out.cell k
       have B5 := LH (B1.out.trans (K5.out.below (B := w.heap.size) (by omega) (Nat.le_refl _)))
       clear e5 hc1
       show BP _ _
       rw [HBP.out]
       refine bodyPost_ret (v := .tuple #[.agg #[.int .i64 2, .string (s.extract i q), .int .i64 0, .int .i64 i], .int .i64 q, .bool (decide ((q : Int) - (i : Int) ≤ 8))]) (by simp [results, Try.results44, go_sem, hc5]) rfl ?_
       exact ⟨by rw [HEQ.out]; rfl, B5.out⟩
     · have HZ := LH (HST.out (by rw [HLQ.out, hsq0, hlq]; rfl))
       go_wp2_with fail
       go_round
       case rel => exact ⟨q + 1, by go_num, by omega, by omega, LH (by rw [HN.out, HZ.out]; omega)⟩
       case measure => simp [intOf]; omega
    · have HZ := LH (HST.out (by rw [HLQ.out, hsq0]; rfl))
      go_wp2_with fail
      go_round
      case rel => exact ⟨q + 1, by go_num, by omega, by omega, LH (by rw [HN.out, HZ.out]; omega)⟩
      case measure => simp [intOf]; omega
   ·
    have dl : decide ((q : Int) < (s.size : Int)) = false := decide_eq_false (by omega)
    have HZ := LH (spanN_end (p := letB) s q (by omega))
    have HQ := LH (oneV_letters s i q hi hiq HLET.out (by rw [HN.out, HZ.out]; omega))
    clear hn0
    have hsl : (i : Int) ≤ (q : Int) := by omega
    have hsq : (q : Int) ≤ (s.size : Int) := by omega
    have hwk : IntKind.i64.wrap ((q : Int) - (i : Int)) = (q : Int) - (i : Int) := (IntWalk.i64_left _).trans (IntWalk.wrap64_in ((q : Int) - (i : Int)) (by omega))
    go_wp2_with fail
    refine (specLarge s[i] _).mono ?_
    rintro e w2 ⟨rfl, rfl⟩
    cases hl : lgB s[i]
    ·
     have HEQ := LH (HQ.out 1 (by rw [← HLG.out, hl]; rfl))
     go_wp2_with fail
     obtain ⟨w5, e5, R5, hz5, K5⟩ := stored4 R1.out (.int .i64 1) (.string (s.extract i q)) (.int .i64 0) (.int .i64 i)
     rw [← e5]
     have hc5 := fun k => R5.out.cell k
     have B5 := LH (B1.out.trans (K5.out.below (B := w.heap.size) (by omega) (Nat.le_refl _)))
     clear e5 hc1
     show BP _ _
     rw [HBP.out]
     refine bodyPost_ret (v := .tuple #[.agg #[.int .i64 1, .string (s.extract i q), .int .i64 0, .int .i64 i], .int .i64 q, .bool (decide ((q : Int) - (i : Int) ≤ 8))]) (by simp [results, Try.results44, go_sem, hc5]) rfl ?_
     exact ⟨by rw [HEQ.out]; rfl, B5.out⟩
    ·
     have HEQ := LH (HQ.out 2 (by rw [← HLG.out, hl]; rfl))
     go_wp2_with fail
     obtain ⟨w5, e5, R5, hz5, K5⟩ := stored4 R1.out (.int .i64 2) (.string (s.extract i q)) (.int .i64 0) (.int .i64 i)
     rw [← e5]
     have hc5 := fun k => R5.out.cell k
     have B5 := LH (B1.out.trans (K5.out.below (B := w.heap.size) (by omega) (Nat.le_refl _)))
     clear e5 hc1
     show BP _ _
     rw [HBP.out]
     refine bodyPost_ret (v := .tuple #[.agg #[.int .i64 2, .string (s.extract i q), .int .i64 0, .int .i64 i], .int .i64 q, .bool (decide ((q : Int) - (i : Int) ≤ 8))]) (by simp [results, Try.results44, go_sem, hc5]) rfl ?_
     exact ⟨by rw [HEQ.out]; rfl, B5.out⟩
end Go.Proofs.Ytamfolaicncblaa
