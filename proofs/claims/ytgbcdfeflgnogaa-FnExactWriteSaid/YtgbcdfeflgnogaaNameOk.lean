/- Names: is a text a name, a con, in the program and in the reference. Conditions: none. -/
import Derived.Test.YtgbcdfeflgnogaaName
namespace Go.Proofs.Ytgbcdfeflgnogaa
open Go.RowKit
set_option linter.unusedVariables false
set_option linter.unusedSimpArgs false
set_option maxHeartbeats 1000000

theorem intS_list : intS.toList = [73, 110, 116] := by rw [ByteArray.toList_eq]; rfl
theorem all_no {p : UInt8 → Bool} {l : List UInt8} {k : Nat} (h : k < l.length) (hd : p l[k] = false) : l.all p = false := by
  rw [← Bool.not_eq_true]; intro hh
  have := List.all_eq_true.1 hh _ (List.getElem_mem h)
  rw [hd] at this; cases this
theorem lettersB_size {f : UInt8 → Bool} {s : ByteArray} (h : inB (s.size : Int) 1 8 = false) : lettersB f s = false := by
  unfold lettersB inB at *
  have : decide (1 ≤ s.size ∧ s.size ≤ 8) = false := by
    simp only [decide_eq_false_iff_not] at h ⊢; omega
  rw [this]; rfl
theorem inB_size {s : ByteArray} (h : inB (s.size : Int) 1 8 = true) : 0 < s.size ∧ s.size ≤ 8 ∧ decide (1 ≤ s.size ∧ s.size ≤ 8) = true := by
  unfold inB at h
  simp only [decide_eq_true_eq] at h
  exact ⟨by omega, by omega, by simp; omega⟩

theorem implLetters (K : Nat) (hK : ∀ (args : Array Value) (w : World), (callFunc K args).run Try.prog w = .ok (.enter K args) w) (p : UInt8 → Bool) (H : ∀ (c : UInt8) (w : World), Calls Try.prog K #[.int .u8 c.toNat] w fun e w' => e = .returned (.bool (p c)) ∧ w = w')
    (s : ByteArray) (w : World) (hs : s.size ≤ 9223372036854775807) :
    Calls Try.prog 246 #[.string s, .func (.func K) #[] #[]] w fun e w' => e = .returned (.bool (lettersB p s)) ∧ w = w' := by
  have HW := Lib.hid (implWithin (s.size : Int) 1 8 w)
  cases hin : inB (s.size : Int) 1 8
  · have HV := Lib.hid (lettersB_size (f := p) hin)
    rw [hin] at HW
    clear hin
    go_enter Try.func246, Try.ntmps246
    go_wp2_with fail
    refine HW.out.mono ?_
    rintro e w1 ⟨rfl, rfl⟩
    go_wp2_with fail
    go_ret
    exact ⟨ret_bool HV.out.symm, rfl⟩
  · obtain ⟨h0, h8, hd⟩ := inB_size hin
    rw [hin] at HW
    have HF := Lib.hid (firstB_at (f := p) h0)
    have HD := Lib.hid hd
    have HC := Lib.hid (H s[0] w)
    have h0i : (0 : Int) < s.size := by omega
    clear hin hd
    cases hp : p s[0]
    · have HV := Lib.hid (show lettersB p s = false by unfold lettersB; rw [HD.out, HF.out, hp]; rfl)
      rw [hp] at HC
      clear hp
      go_enter Try.func246, Try.ntmps246
      go_wp2_with fail
      refine HW.out.mono ?_
      rintro e w1 ⟨rfl, rfl⟩
      go_wp2_with fail
      refine HC.out.mono ?_
      rintro e w1 ⟨rfl, rfl⟩
      go_wp2_with fail
      go_ret
      exact ⟨ret_bool HV.out.symm, rfl⟩
    · have HV := Lib.hid (show lettersB p s = s.data.toList.all ltB by unfold lettersB; rw [HD.out, HF.out, hp]; rfl)
      rw [hp] at HC
      have HR := Lib.hid (implRun 293 (enters Try.func293 (by kernel_rfl) (by kernel_rfl)) ltB implLetter s 0 w (by omega) hs)
      rw [List.drop_zero] at HR
      have HN := Lib.hid (show (((runN ltB s.data.toList : Nat) : Int) == (s.size : Int)) = s.data.toList.all ltB from by
        have h := runN_iff (p := ltB) (l := s.data.toList)
        rw [ba_len] at h
        cases ha : s.data.toList.all ltB
        · rw [beq_eq_false_iff_ne]; intro e; have := h.1 (by omega); rw [ha] at this; cases this
        · rw [beq_iff_eq]; have := h.2 ha; omega)
      clear hp
      go_enter Try.func246, Try.ntmps246
      go_wp2_with fail
      refine HW.out.mono ?_
      rintro e w1 ⟨rfl, rfl⟩
      go_wp2_with fail
      refine HC.out.mono ?_
      rintro e w1 ⟨rfl, rfl⟩
      go_wp2_with fail
      refine HR.out.mono ?_
      rintro e w1 ⟨rfl, rfl⟩
      go_wp2_with fail
      go_ret
      exact ⟨ret_bool (by rw [HV.out, ← HN.out]), rfl⟩

theorem implNameOk (s : ByteArray) (w : World) (hs : s.size ≤ 9223372036854775807) : Calls Try.prog 194 #[.string s] w fun e w' => e = .returned (.bool (nameB s)) ∧ Below w.heap.size w w' := by
  have HL := Lib.hid (implLetters 247 (enters Try.func247 (by kernel_rfl) (by kernel_rfl)) smB implSmall s w hs)
  cases hl : lettersB smB s
  · have HV := Lib.hid (show nameB s = false by unfold nameB; rw [hl]; rfl)
    rw [hl] at HL
    clear hl
    go_enter Try.func194, Try.ntmps194
    go_wp2_with fail
    refine HL.out.mono ?_
    rintro e w1 ⟨rfl, rfl⟩
    go_wp2_with fail
    go_ret
    exact ⟨ret_bool HV.out.symm, Below.refl _ _⟩
  · have HV := Lib.hid (show nameB s = !inStrs kws s by unfold nameB; rw [hl]; rfl)
    rw [hl] at HL
    clear hl
    go_enter Try.func194, Try.ntmps194
    go_wp2_with fail
    refine HL.out.mono ?_
    rintro e w1 ⟨rfl, rfl⟩
    go_wp2_with fail
    refine (implKeyword s _).mono ?_
    rintro e w2 ⟨rfl, hb⟩
    have HB := Lib.hid hb
    clear hb
    go_wp2_with fail
    go_ret
    exact ⟨ret_bool HV.out.symm, HB.out⟩
theorem implConOk (s : ByteArray) (w : World) (hs : s.size ≤ 9223372036854775807) : Calls Try.prog 195 #[.string s] w fun e w' => e = .returned (.bool (conB s)) ∧ w = w' := by
  have HL := Lib.hid (implLetters 249 (enters Try.func249 (by kernel_rfl) (by kernel_rfl)) lgB implLarge s w hs)
  cases hl : lettersB lgB s
  · have HV := Lib.hid (show conB s = false by unfold conB; rw [hl]; rfl)
    rw [hl] at HL
    clear hl
    go_enter Try.func195, Try.ntmps195
    go_wp2_with fail
    refine HL.out.mono ?_
    rintro e w1 ⟨rfl, rfl⟩
    go_wp2_with fail
    go_ret
    exact ⟨ret_bool HV.out.symm, rfl⟩
  · have HV := Lib.hid (show conB s = !(s.toList == intS.toList) by unfold conB; rw [hl]; rfl)
    rw [hl] at HL
    clear hl
    go_enter Try.func195, Try.ntmps195
    go_wp2_with fail
    refine HL.out.mono ?_
    rintro e w1 ⟨rfl, rfl⟩
    go_wp2_with fail
    go_ret
    exact ⟨ret_bool (by rw [HV.out, intS_list]), rfl⟩

theorem specName (s : ByteArray) (w : World) (hs : s.size ≤ 9223372036854775807) : Calls Try.prog 186 #[.string s] w fun e w' => e = .returned (.bool (nameB s)) ∧ Below w.heap.size w w' := by
  have HSM := Lib.hid (fun (c : UInt8) (v : Bool) (h : smB c = v) => show Calls Try.prog 183 #[.int .u8 c.toNat] w fun e w' => e = .returned (.bool v) ∧ w = w' from by rw [← h]; exact specSmall c w)
  have HLG := Lib.hid (fun (c : UInt8) (v : Bool) (h : lgB c = v) => show Calls Try.prog 184 #[.int .u8 c.toNat] w fun e w' => e = .returned (.bool v) ∧ w = w' from by rw [← h]; exact specLarge c w)
  have HIN := Lib.hid (fun (v : Bool) (h : inB (s.size : Int) 1 8 = v) => show Calls Try.prog 99 #[.int .i64 (s.size : Int), .int .i64 1, .int .i64 8] w fun e w' => e = .returned (.bool v) ∧ w = w' from by rw [← h]; exact specIn (s.size : Int) 1 8 w)
  go_enter Try.func186, Try.ntmps186
  go_wp2_with fail
  go_loop [3] (fun i => ∃ k : Nat, k ≤ s.size ∧ i = .int .i64 k ∧ Hid ((s.data.toList.take k).all ltB = true)) (fun i => s.size - (intOf i).toNat)
  case atStart => exact ⟨0, by omega, by go_num, Lib.hid (by simp)⟩
  case round =>
    obtain ⟨k, hk, rfl, HA⟩ := hrel
    by_cases hlt : k < s.size
    · have HSN := Lib.hid (take_snoc_b s k hlt)
      cases hsm : smB s[k]
      case' false => cases hlg : lgB s[k]
      case false.false =>
        have HNO := Lib.hid (show s.data.toList.all ltB = false by
          have h := all_no (p := ltB) (l := s.data.toList) (k := k) (by rw [ba_len]; exact hlt) (by show ltB s[k] = false; unfold ltB; rw [hsm, hlg]; rfl)
          exact h)
        have HV := Lib.hid (show nameB s = false by unfold nameB lettersB; rw [HNO.out]; simp)
        have C1 := Lib.hid (HSM.out s[k] _ hsm)
        have C2 := Lib.hid (HLG.out s[k] _ hlg)
        clear hsm hlg
        go_wp2_with fail
        refine C1.out.mono ?_
        rintro e w1 ⟨rfl, rfl⟩
        go_wp2_with fail
        refine C2.out.mono ?_
        rintro e w1 ⟨rfl, rfl⟩
        go_wp2_with fail
        go_ret
        exact ⟨ret_bool HV.out.symm, Below.refl _ _⟩
      case false.true =>
        have HA2 := Lib.hid (show (s.data.toList.take (k + 1)).all ltB = true by rw [HSN.out, List.all_append, HA.out]; simp [ltB, hlg])
        have C1 := Lib.hid (HSM.out s[k] _ hsm)
        have C2 := Lib.hid (HLG.out s[k] _ hlg)
        clear hsm hlg
        go_wp2_with fail
        refine C1.out.mono ?_
        rintro e w1 ⟨rfl, rfl⟩
        go_wp2_with fail
        refine C2.out.mono ?_
        rintro e w1 ⟨rfl, rfl⟩
        go_wp2_with fail
        go_round
        case rel => exact ⟨k + 1, by omega, by go_num, HA2⟩
        case measure => simp [intOf]; omega
      case true =>
        have HA2 := Lib.hid (show (s.data.toList.take (k + 1)).all ltB = true by rw [HSN.out, List.all_append, HA.out]; simp [ltB, hsm])
        have C1 := Lib.hid (HSM.out s[k] _ hsm)
        clear hsm
        go_wp2_with fail
        refine C1.out.mono ?_
        rintro e w1 ⟨rfl, rfl⟩
        go_wp2_with fail
        go_round
        case rel => exact ⟨k + 1, by omega, by go_num, HA2⟩
        case measure => simp [intOf]; omega
    · have HALL := Lib.hid (show s.data.toList.all ltB = true by
        have h1 := HA.out
        rw [List.take_of_length_le (by rw [ba_len]; omega)] at h1
        exact h1)
      cases hin : inB (s.size : Int) 1 8
      · have HV := Lib.hid (show nameB s = false by unfold nameB; rw [lettersB_size hin]; rfl)
        have C1 := Lib.hid (HIN.out _ hin)
        clear hin
        go_wp2_with fail
        refine C1.out.mono ?_
        rintro e w1 ⟨rfl, rfl⟩
        go_wp2_with fail
        go_ret
        exact ⟨ret_bool HV.out.symm, Below.refl _ _⟩
      · obtain ⟨h0, h8, hd⟩ := inB_size hin
        have C1 := Lib.hid (HIN.out _ hin)
        have HF := Lib.hid (firstB_at (f := smB) h0)
        have HD := Lib.hid hd
        have h0i : (0 : Int) < s.size := by omega
        clear hin hd
        cases hp : smB s[0]
        · have HV := Lib.hid (show nameB s = false by unfold nameB lettersB; rw [HD.out, HF.out, hp]; rfl)
          have C2 := Lib.hid (HSM.out s[0] _ hp)
          clear hp
          go_wp2_with fail
          refine C1.out.mono ?_
          rintro e w1 ⟨rfl, rfl⟩
          go_wp2_with fail
          refine C2.out.mono ?_
          rintro e w1 ⟨rfl, rfl⟩
          go_wp2_with fail
          go_ret
          exact ⟨ret_bool HV.out.symm, Below.refl _ _⟩
        · have C2 := Lib.hid (HSM.out s[0] _ hp)
          have HV := Lib.hid (show nameB s = !inStrs kws s by unfold nameB lettersB; rw [HD.out, HF.out, hp, HALL.out]; rfl)
          clear hp
          go_wp2_with fail
          refine C1.out.mono ?_
          rintro e w1 ⟨rfl, rfl⟩
          go_wp2_with fail
          refine C2.out.mono ?_
          rintro e w1 ⟨rfl, rfl⟩
          go_wp2_with fail
          refine (specKeyword s _).mono ?_
          rintro e w2 ⟨rfl, hb⟩
          have HB := Lib.hid hb
          clear hb
          go_wp2_with fail
          go_ret
          exact ⟨ret_bool HV.out.symm, HB.out⟩

theorem specCon (s : ByteArray) (w : World) (hs : s.size ≤ 9223372036854775807) : Calls Try.prog 98 #[.string s] w fun e w' => e = .returned (.bool (conB s)) ∧ w = w' := by
  have HSM := Lib.hid (fun (c : UInt8) (v : Bool) (h : smB c = v) => show Calls Try.prog 183 #[.int .u8 c.toNat] w fun e w' => e = .returned (.bool v) ∧ w = w' from by rw [← h]; exact specSmall c w)
  have HLG := Lib.hid (fun (c : UInt8) (v : Bool) (h : lgB c = v) => show Calls Try.prog 184 #[.int .u8 c.toNat] w fun e w' => e = .returned (.bool v) ∧ w = w' from by rw [← h]; exact specLarge c w)
  have HIN := Lib.hid (fun (v : Bool) (h : inB (s.size : Int) 1 8 = v) => show Calls Try.prog 99 #[.int .i64 (s.size : Int), .int .i64 1, .int .i64 8] w fun e w' => e = .returned (.bool v) ∧ w = w' from by rw [← h]; exact specIn (s.size : Int) 1 8 w)
  go_enter Try.func98, Try.ntmps98
  go_wp2_with fail
  go_loop [3] (fun i => ∃ k : Nat, k ≤ s.size ∧ i = .int .i64 k ∧ Hid ((s.data.toList.take k).all ltB = true)) (fun i => s.size - (intOf i).toNat)
  case atStart => exact ⟨0, by omega, by go_num, Lib.hid (by simp)⟩
  case round =>
    obtain ⟨k, hk, rfl, HA⟩ := hrel
    by_cases hlt : k < s.size
    · have HSN := Lib.hid (take_snoc_b s k hlt)
      cases hsm : smB s[k]
      case' false => cases hlg : lgB s[k]
      case false.false =>
        have HNO := Lib.hid (show s.data.toList.all ltB = false by
          have h := all_no (p := ltB) (l := s.data.toList) (k := k) (by rw [ba_len]; exact hlt) (by show ltB s[k] = false; unfold ltB; rw [hsm, hlg]; rfl)
          exact h)
        have HV := Lib.hid (show conB s = false by unfold conB lettersB; rw [HNO.out]; simp)
        have C1 := Lib.hid (HSM.out s[k] _ hsm)
        have C2 := Lib.hid (HLG.out s[k] _ hlg)
        clear hsm hlg
        go_wp2_with fail
        refine C1.out.mono ?_
        rintro e w1 ⟨rfl, rfl⟩
        go_wp2_with fail
        refine C2.out.mono ?_
        rintro e w1 ⟨rfl, rfl⟩
        go_wp2_with fail
        go_ret
        exact ⟨ret_bool HV.out.symm, rfl⟩
      case false.true =>
        have HA2 := Lib.hid (show (s.data.toList.take (k + 1)).all ltB = true by rw [HSN.out, List.all_append, HA.out]; simp [ltB, hlg])
        have C1 := Lib.hid (HSM.out s[k] _ hsm)
        have C2 := Lib.hid (HLG.out s[k] _ hlg)
        clear hsm hlg
        go_wp2_with fail
        refine C1.out.mono ?_
        rintro e w1 ⟨rfl, rfl⟩
        go_wp2_with fail
        refine C2.out.mono ?_
        rintro e w1 ⟨rfl, rfl⟩
        go_wp2_with fail
        go_round
        case rel => exact ⟨k + 1, by omega, by go_num, HA2⟩
        case measure => simp [intOf]; omega
      case true =>
        have HA2 := Lib.hid (show (s.data.toList.take (k + 1)).all ltB = true by rw [HSN.out, List.all_append, HA.out]; simp [ltB, hsm])
        have C1 := Lib.hid (HSM.out s[k] _ hsm)
        clear hsm
        go_wp2_with fail
        refine C1.out.mono ?_
        rintro e w1 ⟨rfl, rfl⟩
        go_wp2_with fail
        go_round
        case rel => exact ⟨k + 1, by omega, by go_num, HA2⟩
        case measure => simp [intOf]; omega
    · have HALL := Lib.hid (show s.data.toList.all ltB = true by
        have h1 := HA.out
        rw [List.take_of_length_le (by rw [ba_len]; omega)] at h1
        exact h1)
      cases hin : inB (s.size : Int) 1 8
      · have HV := Lib.hid (show conB s = false by unfold conB; rw [lettersB_size hin]; rfl)
        have C1 := Lib.hid (HIN.out _ hin)
        clear hin
        go_wp2_with fail
        refine C1.out.mono ?_
        rintro e w1 ⟨rfl, rfl⟩
        go_wp2_with fail
        go_ret
        exact ⟨ret_bool HV.out.symm, rfl⟩
      · obtain ⟨h0, h8, hd⟩ := inB_size hin
        have C1 := Lib.hid (HIN.out _ hin)
        have HF := Lib.hid (firstB_at (f := lgB) h0)
        have HD := Lib.hid hd
        have h0i : (0 : Int) < s.size := by omega
        clear hin hd
        cases hp : lgB s[0]
        · have HV := Lib.hid (show conB s = false by unfold conB lettersB; rw [HD.out, HF.out, hp]; rfl)
          have C2 := Lib.hid (HLG.out s[0] _ hp)
          clear hp
          go_wp2_with fail
          refine C1.out.mono ?_
          rintro e w1 ⟨rfl, rfl⟩
          go_wp2_with fail
          refine C2.out.mono ?_
          rintro e w1 ⟨rfl, rfl⟩
          go_wp2_with fail
          go_ret
          exact ⟨ret_bool HV.out.symm, rfl⟩
        · have C2 := Lib.hid (HLG.out s[0] _ hp)
          have HV := Lib.hid (show conB s = !(s.toList == intS.toList) by unfold conB lettersB; rw [HD.out, HF.out, hp, HALL.out]; rfl)
          clear hp
          go_wp2_with fail
          refine C1.out.mono ?_
          rintro e w1 ⟨rfl, rfl⟩
          go_wp2_with fail
          refine C2.out.mono ?_
          rintro e w1 ⟨rfl, rfl⟩
          go_wp2_with fail
          go_ret
          exact ⟨ret_bool (by rw [HV.out, intS_list]), rfl⟩
end Go.Proofs.Ytgbcdfeflgnogaa
