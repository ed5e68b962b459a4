/- The walk of the law FnNumbers. Conditions: none. -/
import Derived.Test.YtdcchfpgpdekmaaDrawStr
import Derived.Test.YtdcchfpgpdekmaaNumLaw
import Derived.Test.YtdcchfpgpdekmaaNumber
import Derived.Test.YtdcchfpgpdekmaaWord
namespace Go.Proofs.Ytdcchfpgpdekmaa
open Go.RowKit
set_option linter.unusedVariables false
set_option linter.unusedSimpArgs false
set_option maxHeartbeats 2000000

theorem implWordOkB (n : Int) (b : Bool) (h : decide (-1073741824 ≤ n ∧ n ≤ 1073741823) = b) (w : World) : Calls Try.prog 55 #[.int .i64 n] w fun e w' => e = .returned (.bool b) ∧ w = w' := by
  subst h; exact implWordOk n w

theorem specWordOkB (n : Int) (b : Bool) (h : decide (-1073741824 ≤ n ∧ n ≤ 1073741823) = b) (w : World) : Calls Try.prog 61 #[.int .i64 n] w fun e w' => e = .returned (.bool b) ∧ w = w' := by
  subst h; exact specWordOk n w

theorem bigYes {n : Nat} (A : Option Addr) (c : Nat) (hbi : (1048576 : Int) < (n : Int)) (w : World) : Calls Try.prog 51 #[.slice A n c] w fun e w' => e = .returned (.bool true) ∧ w = w' := by
  go_enter Try.func51, Try.ntmps51
  go_wp2_with fail
  go_ret
  exact ⟨rfl, rfl⟩

theorem bigNo {n : Nat} (A : Option Addr) (c : Nat) (hbi : ¬ (1048576 : Int) < (n : Int)) (w : World) : Calls Try.prog 51 #[.slice A n c] w fun e w' => e = .returned (.bool false) ∧ w = w' := by
  go_enter Try.func51, Try.ntmps51
  go_wp2_with fail
  go_ret
  exact ⟨rfl, rfl⟩

set_option maxRecDepth 20000 in
theorem walkNumbers (l : List Int) (A : Option Addr) (c : Nat) (w : World) (hs : Sl w (Lt w.heap.size) 1 A c (l.map (D.num .u8))) :
    Calls Try.prog 13 #[.slice A l.length c] w fun e w' => e = .returned (.bool true) ∧ Below w.heap.size w w' := by
  have S0 := Lib.hid hs
  have hln : l.length ≤ 9223372036854775807 := by simpa using hs.len
  clear hs
  by_cases hbig : 1048576 < l.length
  · have hbi : (1048576 : Int) < (l.length : Int) := by omega
    go_enter Try.func13, Try.ntmps13
    go_wp2_with fail
    refine (bigYes A c (by omega) w).mono ?_
    rintro e w1 ⟨rfl, rfl⟩
    go_wp2_with fail
    go_ret
    exact ⟨rfl, Below.refl _ _⟩
  have hbi : ¬ (1048576 : Int) < (l.length : Int) := by omega
  have hl : l.length ≤ 1048576 := by omega
  go_enter Try.func13, Try.ntmps13
  go_wp2_with fail
  refine (bigNo A c (by omega) w).mono ?_
  rintro e w1 ⟨rfl, rfl⟩
  go_wp2_with fail
  refine (drawDigits l A c w S0.out hl).mono ?_
  rintro e w1 ⟨n, rfl, hn, hb1⟩
  have B1 := Lib.hid hb1
  have S1 := Lib.hid (S0.out.below hb1 hb1.size)
  clear hb1
  go_wp2_with fail
  refine (implDigits' n _ hn.1 hn.2).mono ?_
  rintro e w2 ⟨rfl, rfl⟩
  have hz := digI_size n hn.1 hn.2
  have hnum := implNumber (digI n) w1 (by omega)
  have S1s := S1
  rcases numI_cases n with ⟨hc, hw, h0⟩ | ⟨⟨x, hc⟩, hw, h0⟩ | ⟨⟨x, hc⟩, hw⟩
  · rw [hc] at hnum
    clear hc
    go_wp2_with fail
    refine hnum.mono ?_
    rintro e w2 ⟨rfl, rfl⟩
    clear hnum
    go_wp2_with fail
    refine (specDigits n _ hn.1 hn.2).mono ?_
    rintro e w2 ⟨rfl, hb2⟩
    have B2 := Lib.hid (B1.out.trans (hb2.mono B1.out.size))
    have S2 := Lib.hid (S1.out.below hb2 hb2.size)
    clear hb2
    go_wp2_with fail
    refine (implWordOkB n true (decide_eq_true hw) _).mono ?_
    rintro e w3 ⟨rfl, rfl⟩
    go_wp2_with fail
    refine (drawNumber l A c _ S2.out hl).mono ?_
    rintro e w4 ⟨raw, rfl, hraw, hb4⟩
    have B4 := Lib.hid (B2.out.trans (hb4.mono B2.out.size))
    have S4 := Lib.hid (S2.out.below hb4 hb4.size)
    clear hb4
    have hnr := implNumber raw w4 (by omega)
    have hns := specNumber raw w4 (by omega)
    rcases numI_back raw with hr | ⟨y, hr, hy0, hy1, hy2⟩
    · rw [hr] at hnr hns
      clear hr
      go_wp2_with fail
      refine hnr.mono ?_
      rintro e w5 ⟨rfl, rfl⟩
      clear hnr
      go_wp2_with fail
      refine hns.mono ?_
      rintro e w5 ⟨rfl, hb5⟩
      have B5 := Lib.hid (B4.out.trans (hb5.mono B4.out.size))
      have S5 := Lib.hid (S4.out.below hb5 hb5.size)
      clear hb5 hns
      go_wp2_with fail
      refine (drawRound l A c _ S5.out hl).mono ?_
      rintro e w6 ⟨r, rfl, hr6, hb6⟩
      have B6 := Lib.hid (B5.out.trans (hb6.mono B5.out.size))
      have S6 := Lib.hid (S5.out.below hb6 hb6.size)
      clear hb6
      go_wp2_with fail
      refine (drawWordOk l A c _ S6.out hl).mono ?_
      rintro e w7 ⟨v, rfl, hv7, hb7⟩
      have B7 := Lib.hid (B6.out.trans (hb7.mono B6.out.size))
      clear hb7
      obtain ⟨b, hb⟩ : ∃ b, decide (-1073741824 ≤ r ∧ r ≤ 1073741823) = b := ⟨_, rfl⟩
      obtain ⟨b2, hb2⟩ : ∃ b, decide (-1073741824 ≤ v ∧ v ≤ 1073741823) = b := ⟨_, rfl⟩
      have HB := Lib.hid hb
      have HB2 := Lib.hid hb2
      have hrb : (roundI r == r) = b := by rw [← hb]; by_cases h : -1073741824 ≤ r ∧ r ≤ 1073741823; (rw [decide_eq_true h]; exact beq_iff_eq.2 ((roundI_id r).2 h)); (rw [decide_eq_false h]; exact beq_eq_false_iff_ne.2 (fun e => h ((roundI_id r).1 e)))
      have hrb2 : decide (roundI r = r) = b := by rw [← hrb]; rfl
      have HO := Lib.hid (decide_eq_true (roundI_ok r))
      clear hb hb2
      go_wp2_with fail
      refine (implRound r hr6.1 hr6.2 _).mono ?_
      rintro e w8 ⟨rfl, rfl⟩
      go_wp2_with fail
      refine (specRound r hr6.1 hr6.2 _).mono ?_
      rintro e w8 ⟨rfl, rfl⟩
      go_wp2_with fail
      refine (implRound r hr6.1 hr6.2 _).mono ?_
      rintro e w8 ⟨rfl, rfl⟩
      go_wp2_with fail
      refine (implWordOkB (roundI r) true HO.out _).mono ?_
      rintro e w8 ⟨rfl, rfl⟩
      go_wp2_with fail
      refine (implWordOkB v b2 HB2.out _).mono ?_
      rintro e w8 ⟨rfl, rfl⟩
      go_wp2_with fail
      refine (specWordOkB v b2 HB2.out _).mono ?_
      rintro e w8 ⟨rfl, rfl⟩
      go_wp2_with fail
      refine (implRound r hr6.1 hr6.2 _).mono ?_
      rintro e w8 ⟨rfl, rfl⟩
      go_wp2_with fail
      refine (implWordOkB r b HB.out _).mono ?_
      rintro e w8 ⟨rfl, rfl⟩
      go_wp2_with fail
      go_ret
      exact ⟨ret_bool (by simp), B7.out⟩
    · rw [hr] at hnr hns
      have hy := Lib.hid hy0
      clear hr hy0
      go_wp2_with fail
      refine hnr.mono ?_
      rintro e w5 ⟨rfl, rfl⟩
      clear hnr
      go_wp2_with fail
      refine hns.mono ?_
      rintro e w5 ⟨rfl, hb5⟩
      have B5 := Lib.hid (B4.out.trans (hb5.mono B4.out.size))
      have S5 := Lib.hid (S4.out.below hb5 hb5.size)
      clear hb5 hns
      go_wp2_with fail
      refine (drawRound l A c _ S5.out hl).mono ?_
      rintro e w6 ⟨r, rfl, hr6, hb6⟩
      have B6 := Lib.hid (B5.out.trans (hb6.mono B5.out.size))
      have S6 := Lib.hid (S5.out.below hb6 hb6.size)
      clear hb6
      go_wp2_with fail
      refine (drawWordOk l A c _ S6.out hl).mono ?_
      rintro e w7 ⟨v, rfl, hv7, hb7⟩
      have B7 := Lib.hid (B6.out.trans (hb7.mono B6.out.size))
      clear hb7
      obtain ⟨b, hb⟩ : ∃ b, decide (-1073741824 ≤ r ∧ r ≤ 1073741823) = b := ⟨_, rfl⟩
      obtain ⟨b2, hb2⟩ : ∃ b, decide (-1073741824 ≤ v ∧ v ≤ 1073741823) = b := ⟨_, rfl⟩
      have HB := Lib.hid hb
      have HB2 := Lib.hid hb2
      have hrb : (roundI r == r) = b := by rw [← hb]; by_cases h : -1073741824 ≤ r ∧ r ≤ 1073741823; (rw [decide_eq_true h]; exact beq_iff_eq.2 ((roundI_id r).2 h)); (rw [decide_eq_false h]; exact beq_eq_false_iff_ne.2 (fun e => h ((roundI_id r).1 e)))
      have hrb2 : decide (roundI r = r) = b := by rw [← hrb]; rfl
      have HO := Lib.hid (decide_eq_true (roundI_ok r))
      clear hb hb2
      go_wp2_with fail
      refine (implDigits' y _ (by omega) (by omega)).mono ?_
      rintro e w8 ⟨rfl, rfl⟩
      rw [hy.out]
      go_wp2_with fail
      refine (implRound r hr6.1 hr6.2 _).mono ?_
      rintro e w8 ⟨rfl, rfl⟩
      go_wp2_with fail
      refine (specRound r hr6.1 hr6.2 _).mono ?_
      rintro e w8 ⟨rfl, rfl⟩
      go_wp2_with fail
      refine (implRound r hr6.1 hr6.2 _).mono ?_
      rintro e w8 ⟨rfl, rfl⟩
      go_wp2_with fail
      refine (implWordOkB (roundI r) true HO.out _).mono ?_
      rintro e w8 ⟨rfl, rfl⟩
      go_wp2_with fail
      refine (implWordOkB v b2 HB2.out _).mono ?_
      rintro e w8 ⟨rfl, rfl⟩
      go_wp2_with fail
      refine (specWordOkB v b2 HB2.out _).mono ?_
      rintro e w8 ⟨rfl, rfl⟩
      go_wp2_with fail
      refine (implRound r hr6.1 hr6.2 _).mono ?_
      rintro e w8 ⟨rfl, rfl⟩
      go_wp2_with fail
      refine (implWordOkB r b HB.out _).mono ?_
      rintro e w8 ⟨rfl, rfl⟩
      go_wp2_with fail
      go_ret
      exact ⟨ret_bool (by simp), B7.out⟩
  · rw [hc] at hnum
    clear hc
    go_wp2_with fail
    refine hnum.mono ?_
    rintro e w2 ⟨rfl, rfl⟩
    clear hnum
    go_wp2_with fail
    refine (specDigits n _ hn.1 hn.2).mono ?_
    rintro e w2 ⟨rfl, hb2⟩
    have B2 := Lib.hid (B1.out.trans (hb2.mono B1.out.size))
    have S2 := Lib.hid (S1.out.below hb2 hb2.size)
    clear hb2
    go_wp2_with fail
    refine (implWordOkB n true (decide_eq_true hw) _).mono ?_
    rintro e w3 ⟨rfl, rfl⟩
    go_wp2_with fail
    refine (drawNumber l A c _ S2.out hl).mono ?_
    rintro e w4 ⟨raw, rfl, hraw, hb4⟩
    have B4 := Lib.hid (B2.out.trans (hb4.mono B2.out.size))
    have S4 := Lib.hid (S2.out.below hb4 hb4.size)
    clear hb4
    have hnr := implNumber raw w4 (by omega)
    have hns := specNumber raw w4 (by omega)
    rcases numI_back raw with hr | ⟨y, hr, hy0, hy1, hy2⟩
    · rw [hr] at hnr hns
      clear hr
      go_wp2_with fail
      refine hnr.mono ?_
      rintro e w5 ⟨rfl, rfl⟩
      clear hnr
      go_wp2_with fail
      refine hns.mono ?_
      rintro e w5 ⟨rfl, hb5⟩
      have B5 := Lib.hid (B4.out.trans (hb5.mono B4.out.size))
      have S5 := Lib.hid (S4.out.below hb5 hb5.size)
      clear hb5 hns
      go_wp2_with fail
      refine (drawRound l A c _ S5.out hl).mono ?_
      rintro e w6 ⟨r, rfl, hr6, hb6⟩
      have B6 := Lib.hid (B5.out.trans (hb6.mono B5.out.size))
      have S6 := Lib.hid (S5.out.below hb6 hb6.size)
      clear hb6
      go_wp2_with fail
      refine (drawWordOk l A c _ S6.out hl).mono ?_
      rintro e w7 ⟨v, rfl, hv7, hb7⟩
      have B7 := Lib.hid (B6.out.trans (hb7.mono B6.out.size))
      clear hb7
      obtain ⟨b, hb⟩ : ∃ b, decide (-1073741824 ≤ r ∧ r ≤ 1073741823) = b := ⟨_, rfl⟩
      obtain ⟨b2, hb2⟩ : ∃ b, decide (-1073741824 ≤ v ∧ v ≤ 1073741823) = b := ⟨_, rfl⟩
      have HB := Lib.hid hb
      have HB2 := Lib.hid hb2
      have hrb : (roundI r == r) = b := by rw [← hb]; by_cases h : -1073741824 ≤ r ∧ r ≤ 1073741823; (rw [decide_eq_true h]; exact beq_iff_eq.2 ((roundI_id r).2 h)); (rw [decide_eq_false h]; exact beq_eq_false_iff_ne.2 (fun e => h ((roundI_id r).1 e)))
      have hrb2 : decide (roundI r = r) = b := by rw [← hrb]; rfl
      have HO := Lib.hid (decide_eq_true (roundI_ok r))
      clear hb hb2
      go_wp2_with fail
      refine (implRound r hr6.1 hr6.2 _).mono ?_
      rintro e w8 ⟨rfl, rfl⟩
      go_wp2_with fail
      refine (specRound r hr6.1 hr6.2 _).mono ?_
      rintro e w8 ⟨rfl, rfl⟩
      go_wp2_with fail
      refine (implRound r hr6.1 hr6.2 _).mono ?_
      rintro e w8 ⟨rfl, rfl⟩
      go_wp2_with fail
      refine (implWordOkB (roundI r) true HO.out _).mono ?_
      rintro e w8 ⟨rfl, rfl⟩
      go_wp2_with fail
      refine (implWordOkB v b2 HB2.out _).mono ?_
      rintro e w8 ⟨rfl, rfl⟩
      go_wp2_with fail
      refine (specWordOkB v b2 HB2.out _).mono ?_
      rintro e w8 ⟨rfl, rfl⟩
      go_wp2_with fail
      refine (implRound r hr6.1 hr6.2 _).mono ?_
      rintro e w8 ⟨rfl, rfl⟩
      go_wp2_with fail
      refine (implWordOkB r b HB.out _).mono ?_
      rintro e w8 ⟨rfl, rfl⟩
      go_wp2_with fail
      go_ret
      exact ⟨ret_bool (by simp), B7.out⟩
    · rw [hr] at hnr hns
      have hy := Lib.hid hy0
      clear hr hy0
      go_wp2_with fail
      refine hnr.mono ?_
      rintro e w5 ⟨rfl, rfl⟩
      clear hnr
      go_wp2_with fail
      refine hns.mono ?_
      rintro e w5 ⟨rfl, hb5⟩
      have B5 := Lib.hid (B4.out.trans (hb5.mono B4.out.size))
      have S5 := Lib.hid (S4.out.below hb5 hb5.size)
      clear hb5 hns
      go_wp2_with fail
      refine (drawRound l A c _ S5.out hl).mono ?_
      rintro e w6 ⟨r, rfl, hr6, hb6⟩
      have B6 := Lib.hid (B5.out.trans (hb6.mono B5.out.size))
      have S6 := Lib.hid (S5.out.below hb6 hb6.size)
      clear hb6
      go_wp2_with fail
      refine (drawWordOk l A c _ S6.out hl).mono ?_
      rintro e w7 ⟨v, rfl, hv7, hb7⟩
      have B7 := Lib.hid (B6.out.trans (hb7.mono B6.out.size))
      clear hb7
      obtain ⟨b, hb⟩ : ∃ b, decide (-1073741824 ≤ r ∧ r ≤ 1073741823) = b := ⟨_, rfl⟩
      obtain ⟨b2, hb2⟩ : ∃ b, decide (-1073741824 ≤ v ∧ v ≤ 1073741823) = b := ⟨_, rfl⟩
      have HB := Lib.hid hb
      have HB2 := Lib.hid hb2
      have hrb : (roundI r == r) = b := by rw [← hb]; by_cases h : -1073741824 ≤ r ∧ r ≤ 1073741823; (rw [decide_eq_true h]; exact beq_iff_eq.2 ((roundI_id r).2 h)); (rw [decide_eq_false h]; exact beq_eq_false_iff_ne.2 (fun e => h ((roundI_id r).1 e)))
      have hrb2 : decide (roundI r = r) = b := by rw [← hrb]; rfl
      have HO := Lib.hid (decide_eq_true (roundI_ok r))
      clear hb hb2
      go_wp2_with fail
      refine (implDigits' y _ (by omega) (by omega)).mono ?_
      rintro e w8 ⟨rfl, rfl⟩
      rw [hy.out]
      go_wp2_with fail
      refine (implRound r hr6.1 hr6.2 _).mono ?_
      rintro e w8 ⟨rfl, rfl⟩
      go_wp2_with fail
      refine (specRound r hr6.1 hr6.2 _).mono ?_
      rintro e w8 ⟨rfl, rfl⟩
      go_wp2_with fail
      refine (implRound r hr6.1 hr6.2 _).mono ?_
      rintro e w8 ⟨rfl, rfl⟩
      go_wp2_with fail
      refine (implWordOkB (roundI r) true HO.out _).mono ?_
      rintro e w8 ⟨rfl, rfl⟩
      go_wp2_with fail
      refine (implWordOkB v b2 HB2.out _).mono ?_
      rintro e w8 ⟨rfl, rfl⟩
      go_wp2_with fail
      refine (specWordOkB v b2 HB2.out _).mono ?_
      rintro e w8 ⟨rfl, rfl⟩
      go_wp2_with fail
      refine (implRound r hr6.1 hr6.2 _).mono ?_
      rintro e w8 ⟨rfl, rfl⟩
      go_wp2_with fail
      refine (implWordOkB r b HB.out _).mono ?_
      rintro e w8 ⟨rfl, rfl⟩
      go_wp2_with fail
      go_ret
      exact ⟨ret_bool (by simp), B7.out⟩
  · rw [hc] at hnum
    clear hc
    go_wp2_with fail
    refine hnum.mono ?_
    rintro e w2 ⟨rfl, rfl⟩
    clear hnum
    go_wp2_with fail
    refine (specDigits n _ hn.1 hn.2).mono ?_
    rintro e w2 ⟨rfl, hb2⟩
    have B2 := Lib.hid (B1.out.trans (hb2.mono B1.out.size))
    have S2 := Lib.hid (S1.out.below hb2 hb2.size)
    clear hb2
    go_wp2_with fail
    refine (implWordOkB n false (decide_eq_false hw) _).mono ?_
    rintro e w3 ⟨rfl, rfl⟩
    go_wp2_with fail
    refine (drawNumber l A c _ S2.out hl).mono ?_
    rintro e w4 ⟨raw, rfl, hraw, hb4⟩
    have B4 := Lib.hid (B2.out.trans (hb4.mono B2.out.size))
    have S4 := Lib.hid (S2.out.below hb4 hb4.size)
    clear hb4
    have hnr := implNumber raw w4 (by omega)
    have hns := specNumber raw w4 (by omega)
    rcases numI_back raw with hr | ⟨y, hr, hy0, hy1, hy2⟩
    · rw [hr] at hnr hns
      clear hr
      go_wp2_with fail
      refine hnr.mono ?_
      rintro e w5 ⟨rfl, rfl⟩
      clear hnr
      go_wp2_with fail
      refine hns.mono ?_
      rintro e w5 ⟨rfl, hb5⟩
      have B5 := Lib.hid (B4.out.trans (hb5.mono B4.out.size))
      have S5 := Lib.hid (S4.out.below hb5 hb5.size)
      clear hb5 hns
      go_wp2_with fail
      refine (drawRound l A c _ S5.out hl).mono ?_
      rintro e w6 ⟨r, rfl, hr6, hb6⟩
      have B6 := Lib.hid (B5.out.trans (hb6.mono B5.out.size))
      have S6 := Lib.hid (S5.out.below hb6 hb6.size)
      clear hb6
      go_wp2_with fail
      refine (drawWordOk l A c _ S6.out hl).mono ?_
      rintro e w7 ⟨v, rfl, hv7, hb7⟩
      have B7 := Lib.hid (B6.out.trans (hb7.mono B6.out.size))
      clear hb7
      obtain ⟨b, hb⟩ : ∃ b, decide (-1073741824 ≤ r ∧ r ≤ 1073741823) = b := ⟨_, rfl⟩
      obtain ⟨b2, hb2⟩ : ∃ b, decide (-1073741824 ≤ v ∧ v ≤ 1073741823) = b := ⟨_, rfl⟩
      have HB := Lib.hid hb
      have HB2 := Lib.hid hb2
      have hrb : (roundI r == r) = b := by rw [← hb]; by_cases h : -1073741824 ≤ r ∧ r ≤ 1073741823; (rw [decide_eq_true h]; exact beq_iff_eq.2 ((roundI_id r).2 h)); (rw [decide_eq_false h]; exact beq_eq_false_iff_ne.2 (fun e => h ((roundI_id r).1 e)))
      have hrb2 : decide (roundI r = r) = b := by rw [← hrb]; rfl
      have HO := Lib.hid (decide_eq_true (roundI_ok r))
      clear hb hb2
      go_wp2_with fail
      refine (implRound r hr6.1 hr6.2 _).mono ?_
      rintro e w8 ⟨rfl, rfl⟩
      go_wp2_with fail
      refine (specRound r hr6.1 hr6.2 _).mono ?_
      rintro e w8 ⟨rfl, rfl⟩
      go_wp2_with fail
      refine (implRound r hr6.1 hr6.2 _).mono ?_
      rintro e w8 ⟨rfl, rfl⟩
      go_wp2_with fail
      refine (implWordOkB (roundI r) true HO.out _).mono ?_
      rintro e w8 ⟨rfl, rfl⟩
      go_wp2_with fail
      refine (implWordOkB v b2 HB2.out _).mono ?_
      rintro e w8 ⟨rfl, rfl⟩
      go_wp2_with fail
      refine (specWordOkB v b2 HB2.out _).mono ?_
      rintro e w8 ⟨rfl, rfl⟩
      go_wp2_with fail
      refine (implRound r hr6.1 hr6.2 _).mono ?_
      rintro e w8 ⟨rfl, rfl⟩
      go_wp2_with fail
      refine (implWordOkB r b HB.out _).mono ?_
      rintro e w8 ⟨rfl, rfl⟩
      go_wp2_with fail
      go_ret
      exact ⟨ret_bool (by simp), B7.out⟩
    · rw [hr] at hnr hns
      have hy := Lib.hid hy0
      clear hr hy0
      go_wp2_with fail
      refine hnr.mono ?_
      rintro e w5 ⟨rfl, rfl⟩
      clear hnr
      go_wp2_with fail
      refine hns.mono ?_
      rintro e w5 ⟨rfl, hb5⟩
      have B5 := Lib.hid (B4.out.trans (hb5.mono B4.out.size))
      have S5 := Lib.hid (S4.out.below hb5 hb5.size)
      clear hb5 hns
      go_wp2_with fail
      refine (drawRound l A c _ S5.out hl).mono ?_
      rintro e w6 ⟨r, rfl, hr6, hb6⟩
      have B6 := Lib.hid (B5.out.trans (hb6.mono B5.out.size))
      have S6 := Lib.hid (S5.out.below hb6 hb6.size)
      clear hb6
      go_wp2_with fail
      refine (drawWordOk l A c _ S6.out hl).mono ?_
      rintro e w7 ⟨v, rfl, hv7, hb7⟩
      have B7 := Lib.hid (B6.out.trans (hb7.mono B6.out.size))
      clear hb7
      obtain ⟨b, hb⟩ : ∃ b, decide (-1073741824 ≤ r ∧ r ≤ 1073741823) = b := ⟨_, rfl⟩
      obtain ⟨b2, hb2⟩ : ∃ b, decide (-1073741824 ≤ v ∧ v ≤ 1073741823) = b := ⟨_, rfl⟩
      have HB := Lib.hid hb
      have HB2 := Lib.hid hb2
      have hrb : (roundI r == r) = b := by rw [← hb]; by_cases h : -1073741824 ≤ r ∧ r ≤ 1073741823; (rw [decide_eq_true h]; exact beq_iff_eq.2 ((roundI_id r).2 h)); (rw [decide_eq_false h]; exact beq_eq_false_iff_ne.2 (fun e => h ((roundI_id r).1 e)))
      have hrb2 : decide (roundI r = r) = b := by rw [← hrb]; rfl
      have HO := Lib.hid (decide_eq_true (roundI_ok r))
      clear hb hb2
      go_wp2_with fail
      refine (implDigits' y _ (by omega) (by omega)).mono ?_
      rintro e w8 ⟨rfl, rfl⟩
      rw [hy.out]
      go_wp2_with fail
      refine (implRound r hr6.1 hr6.2 _).mono ?_
      rintro e w8 ⟨rfl, rfl⟩
      go_wp2_with fail
      refine (specRound r hr6.1 hr6.2 _).mono ?_
      rintro e w8 ⟨rfl, rfl⟩
      go_wp2_with fail
      refine (implRound r hr6.1 hr6.2 _).mono ?_
      rintro e w8 ⟨rfl, rfl⟩
      go_wp2_with fail
      refine (implWordOkB (roundI r) true HO.out _).mono ?_
      rintro e w8 ⟨rfl, rfl⟩
      go_wp2_with fail
      refine (implWordOkB v b2 HB2.out _).mono ?_
      rintro e w8 ⟨rfl, rfl⟩
      go_wp2_with fail
      refine (specWordOkB v b2 HB2.out _).mono ?_
      rintro e w8 ⟨rfl, rfl⟩
      go_wp2_with fail
      refine (implRound r hr6.1 hr6.2 _).mono ?_
      rintro e w8 ⟨rfl, rfl⟩
      go_wp2_with fail
      refine (implWordOkB r b HB.out _).mono ?_
      rintro e w8 ⟨rfl, rfl⟩
      go_wp2_with fail
      go_ret
      exact ⟨ret_bool (by simp), B7.out⟩
end Go.Proofs.Ytdcchfpgpdekmaa
