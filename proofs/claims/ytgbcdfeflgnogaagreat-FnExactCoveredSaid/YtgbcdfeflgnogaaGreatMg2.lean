/- Several texts of this claim in one: NameOk FuncP GNode FNode. Conditions: none but bounds on sizes. -/
import Derived.Test.YtgbcdfeflgnogaaGreatMg1
import Derived.WalkKit
import Derived.Test.YtgbcdfeflgnogaaGreatMg0
import Derived.Test.YtgbcdfeflgnogaaGreatRows
import Derived.Lib.Hide
/- Names: is a text a name, a con, in the program and in the reference. Conditions: none. -/
namespace Go.Proofs.YtgbcdfeflgnogaaGreat
open Go.RowKit
set_option linter.unusedVariables false
set_option linter.unusedSimpArgs false
set_option maxHeartbeats 1000000

theorem intS_list : intS.toList = [73, 110, 116] := by rw [ByteArray.toList_eq]; rfl
theorem all_no {p : UInt8 → Bool} {l : List UInt8} {k : Nat} (h : k < l.length) (hd : p l[k] = false) : l.all p = false := by
  rw [← Bool.not_eq_true]; intro hh
  have := List.all_eq_true.1 hh _ (List.getElem_mem h)
  rw [hd] at this; cases this
theorem lettersB_size {f : UInt8 → Bool} {s : ByteArray} (h : inB (s.size : Int) 1 8 = false) : lettersB f s = false := by
  unfold lettersB inB at *
  have : decide (1 ≤ s.size ∧ s.size ≤ 8) = false := by
    simp only [decide_eq_false_iff_not] at h ⊢; omega
  rw [this]; rfl
theorem inB_size {s : ByteArray} (h : inB (s.size : Int) 1 8 = true) : 0 < s.size ∧ s.size ≤ 8 ∧ decide (1 ≤ s.size ∧ s.size ≤ 8) = true := by
  unfold inB at h
  simp only [decide_eq_true_eq] at h
  exact ⟨by omega, by omega, by simp; omega⟩

theorem implLetters (K : Nat) (hK : ∀ (args : Array Value) (w : World), (callFunc K args).run Tryz.prog w = .ok (.enter K args) w) (p : UInt8 → Bool) (H : ∀ (c : UInt8) (w : World), Calls Tryz.prog K #[.int .u8 c.toNat] w fun e w' => e = .returned (.bool (p c)) ∧ w = w')
    (s : ByteArray) (w : World) (hs : s.size ≤ 9223372036854775807) :
    Calls Tryz.prog 72 #[.string s, .func (.func K) #[] #[]] w fun e w' => e = .returned (.bool (lettersB p s)) ∧ w = w' := by
  have HW := Lib.hid (implWithin (s.size : Int) 1 8 w)
  cases hin : inB (s.size : Int) 1 8
  · have HV := Lib.hid (lettersB_size (f := p) hin)
    rw [hin] at HW
    clear hin
    go_enter Tryz.func72, Tryz.ntmps72
    go_wp2_with fail
    refine HW.out.mono ?_
    rintro e w1 ⟨rfl, rfl⟩
    go_wp2_with fail
    go_ret
    exact ⟨ret_bool HV.out.symm, rfl⟩
  · obtain ⟨h0, h8, hd⟩ := inB_size hin
    rw [hin] at HW
    have HF := Lib.hid (firstB_at (f := p) h0)
    have HD := Lib.hid hd
    have HC := Lib.hid (H s[0] w)
    have h0i : (0 : Int) < s.size := by omega
    clear hin hd
    cases hp : p s[0]
    · have HV := Lib.hid (show lettersB p s = false by unfold lettersB; rw [HD.out, HF.out, hp]; rfl)
      rw [hp] at HC
      clear hp
      go_enter Tryz.func72, Tryz.ntmps72
      go_wp2_with fail
      refine HW.out.mono ?_
      rintro e w1 ⟨rfl, rfl⟩
      go_wp2_with fail
      refine HC.out.mono ?_
      rintro e w1 ⟨rfl, rfl⟩
      go_wp2_with fail
      go_ret
      exact ⟨ret_bool HV.out.symm, rfl⟩
    · have HV := Lib.hid (show lettersB p s = s.data.toList.all ltB by unfold lettersB; rw [HD.out, HF.out, hp]; rfl)
      rw [hp] at HC
      have HR := Lib.hid (implRun 92 (enters Tryz.func92 (by kernel_rfl) (by kernel_rfl)) ltB implLetter s 0 w (by omega) hs)
      rw [List.drop_zero] at HR
      have HN := Lib.hid (show (((runN ltB s.data.toList : Nat) : Int) == (s.size : Int)) = s.data.toList.all ltB from by
        have h := runN_iff (p := ltB) (l := s.data.toList)
        rw [ba_len] at h
        cases ha : s.data.toList.all ltB
        · rw [beq_eq_false_iff_ne]; intro e; have := h.1 (by omega); rw [ha] at this; cases this
        · rw [beq_iff_eq]; have := h.2 ha; omega)
      clear hp
      go_enter Tryz.func72, Tryz.ntmps72
      go_wp2_with fail
      refine HW.out.mono ?_
      rintro e w1 ⟨rfl, rfl⟩
      go_wp2_with fail
      refine HC.out.mono ?_
      rintro e w1 ⟨rfl, rfl⟩
      go_wp2_with fail
      refine HR.out.mono ?_
      rintro e w1 ⟨rfl, rfl⟩
      go_wp2_with fail
      go_ret
      exact ⟨ret_bool (by rw [HV.out, ← HN.out]), rfl⟩

theorem implNameOk (s : ByteArray) (w : World) (hs : s.size ≤ 9223372036854775807) : Calls Tryz.prog 55 #[.string s] w fun e w' => e = .returned (.bool (nameB s)) ∧ Below w.heap.size w w' := by
  have HL := Lib.hid (implLetters 73 (enters Tryz.func73 (by kernel_rfl) (by kernel_rfl)) smB implSmall s w hs)
  cases hl : lettersB smB s
  · have HV := Lib.hid (show nameB s = false by unfold nameB; rw [hl]; rfl)
    rw [hl] at HL
    clear hl
    go_enter Tryz.func55, Tryz.ntmps55
    go_wp2_with fail
    refine HL.out.mono ?_
    rintro e w1 ⟨rfl, rfl⟩
    go_wp2_with fail
    go_ret
    exact ⟨ret_bool HV.out.symm, Below.refl _ _⟩
  · have HV := Lib.hid (show nameB s = !inStrs kws s by unfold nameB; rw [hl]; rfl)
    rw [hl] at HL
    clear hl
    go_enter Tryz.func55, Tryz.ntmps55
    go_wp2_with fail
    refine HL.out.mono ?_
    rintro e w1 ⟨rfl, rfl⟩
    go_wp2_with fail
    refine (implKeyword s _).mono ?_
    rintro e w2 ⟨rfl, hb⟩
    have HB := Lib.hid hb
    clear hb
    go_wp2_with fail
    go_ret
    exact ⟨ret_bool HV.out.symm, HB.out⟩
theorem implConOk (s : ByteArray) (w : World) (hs : s.size ≤ 9223372036854775807) : Calls Tryz.prog 56 #[.string s] w fun e w' => e = .returned (.bool (conB s)) ∧ w = w' := by
  have HL := Lib.hid (implLetters 75 (enters Tryz.func75 (by kernel_rfl) (by kernel_rfl)) lgB implLarge s w hs)
  cases hl : lettersB lgB s
  · have HV := Lib.hid (show conB s = false by unfold conB; rw [hl]; rfl)
    rw [hl] at HL
    clear hl
    go_enter Tryz.func56, Tryz.ntmps56
    go_wp2_with fail
    refine HL.out.mono ?_
    rintro e w1 ⟨rfl, rfl⟩
    go_wp2_with fail
    go_ret
    exact ⟨ret_bool HV.out.symm, rfl⟩
  · have HV := Lib.hid (show conB s = !(s.toList == intS.toList) by unfold conB; rw [hl]; rfl)
    rw [hl] at HL
    clear hl
    go_enter Tryz.func56, Tryz.ntmps56
    go_wp2_with fail
    refine HL.out.mono ?_
    rintro e w1 ⟨rfl, rfl⟩
    go_wp2_with fail
    go_ret
    exact ⟨ret_bool (by rw [HV.out, intS_list]), rfl⟩

theorem specName (s : ByteArray) (w : World) (hs : s.size ≤ 9223372036854775807) : Calls Tryz.prog 44 #[.string s] w fun e w' => e = .returned (.bool (nameB s)) ∧ Below w.heap.size w w' := by
  have HSM := Lib.hid (fun (c : UInt8) (v : Bool) (h : smB c = v) => show Calls Tryz.prog 41 #[.int .u8 c.toNat] w fun e w' => e = .returned (.bool v) ∧ w = w' from by rw [← h]; exact specSmall c w)
  have HLG := Lib.hid (fun (c : UInt8) (v : Bool) (h : lgB c = v) => show Calls Tryz.prog 42 #[.int .u8 c.toNat] w fun e w' => e = .returned (.bool v) ∧ w = w' from by rw [← h]; exact specLarge c w)
  have HIN := Lib.hid (fun (v : Bool) (h : inB (s.size : Int) 1 8 = v) => show Calls Tryz.prog 22 #[.int .i64 (s.size : Int), .int .i64 1, .int .i64 8] w fun e w' => e = .returned (.bool v) ∧ w = w' from by rw [← h]; exact specIn (s.size : Int) 1 8 w)
  go_enter Tryz.func44, Tryz.ntmps44
  go_wp2_with fail
  go_loop [3] (fun i => ∃ k : Nat, k ≤ s.size ∧ i = .int .i64 k ∧ Hid ((s.data.toList.take k).all ltB = true)) (fun i => s.size - (intOf i).toNat)
  case atStart => exact ⟨0, by omega, by go_num, Lib.hid (by simp)⟩
  case round =>
    obtain ⟨k, hk, rfl, HA⟩ := hrel
    by_cases hlt : k < s.size
    · have HSN := Lib.hid (take_snoc_b s k hlt)
      cases hsm : smB s[k]
      case' false => cases hlg : lgB s[k]
      case false.false =>
        have HNO := Lib.hid (show s.data.toList.all ltB = false by
          have h := all_no (p := ltB) (l := s.data.toList) (k := k) (by rw [ba_len]; exact hlt) (by show ltB s[k] = false; unfold ltB; rw [hsm, hlg]; rfl)
          exact h)
        have HV := Lib.hid (show nameB s = false by unfold nameB lettersB; rw [HNO.out]; simp)
        have C1 := Lib.hid (HSM.out s[k] _ hsm)
        have C2 := Lib.hid (HLG.out s[k] _ hlg)
        clear hsm hlg
        go_wp2_with fail
        refine C1.out.mono ?_
        rintro e w1 ⟨rfl, rfl⟩
        go_wp2_with fail
        refine C2.out.mono ?_
        rintro e w1 ⟨rfl, rfl⟩
        go_wp2_with fail
        go_ret
        exact ⟨ret_bool HV.out.symm, Below.refl _ _⟩
      case false.true =>
        have HA2 := Lib.hid (show (s.data.toList.take (k + 1)).all ltB = true by rw [HSN.out, List.all_append, HA.out]; simp [ltB, hlg])
        have C1 := Lib.hid (HSM.out s[k] _ hsm)
        have C2 := Lib.hid (HLG.out s[k] _ hlg)
        clear hsm hlg
        go_wp2_with fail
        refine C1.out.mono ?_
        rintro e w1 ⟨rfl, rfl⟩
        go_wp2_with fail
        refine C2.out.mono ?_
        rintro e w1 ⟨rfl, rfl⟩
        go_wp2_with fail
        go_round
        case rel => exact ⟨k + 1, by omega, by go_num, HA2⟩
        case measure => simp [intOf]; omega
      case true =>
        have HA2 := Lib.hid (show (s.data.toList.take (k + 1)).all ltB = true by rw [HSN.out, List.all_append, HA.out]; simp [ltB, hsm])
        have C1 := Lib.hid (HSM.out s[k] _ hsm)
        clear hsm
        go_wp2_with fail
        refine C1.out.mono ?_
        rintro e w1 ⟨rfl, rfl⟩
        go_wp2_with fail
        go_round
        case rel => exact ⟨k + 1, by omega, by go_num, HA2⟩
        case measure => simp [intOf]; omega
    · have HALL := Lib.hid (show s.data.toList.all ltB = true by
        have h1 := HA.out
        rw [List.take_of_length_le (by rw [ba_len]; omega)] at h1
        exact h1)
      cases hin : inB (s.size : Int) 1 8
      · have HV := Lib.hid (show nameB s = false by unfold nameB; rw [lettersB_size hin]; rfl)
        have C1 := Lib.hid (HIN.out _ hin)
        clear hin
        go_wp2_with fail
        refine C1.out.mono ?_
        rintro e w1 ⟨rfl, rfl⟩
        go_wp2_with fail
        go_ret
        exact ⟨ret_bool HV.out.symm, Below.refl _ _⟩
      · obtain ⟨h0, h8, hd⟩ := inB_size hin
        have C1 := Lib.hid (HIN.out _ hin)
        have HF := Lib.hid (firstB_at (f := smB) h0)
        have HD := Lib.hid hd
        have h0i : (0 : Int) < s.size := by omega
        clear hin hd
        cases hp : smB s[0]
        · have HV := Lib.hid (show nameB s = false by unfold nameB lettersB; rw [HD.out, HF.out, hp]; rfl)
          have C2 := Lib.hid (HSM.out s[0] _ hp)
          clear hp
          go_wp2_with fail
          refine C1.out.mono ?_
          rintro e w1 ⟨rfl, rfl⟩
          go_wp2_with fail
          refine C2.out.mono ?_
          rintro e w1 ⟨rfl, rfl⟩
          go_wp2_with fail
          go_ret
          exact ⟨ret_bool HV.out.symm, Below.refl _ _⟩
        · have C2 := Lib.hid (HSM.out s[0] _ hp)
          have HV := Lib.hid (show nameB s = !inStrs kws s by unfold nameB lettersB; rw [HD.out, HF.out, hp, HALL.out]; rfl)
          clear hp
          go_wp2_with fail
          refine C1.out.mono ?_
          rintro e w1 ⟨rfl, rfl⟩
          go_wp2_with fail
          refine C2.out.mono ?_
          rintro e w1 ⟨rfl, rfl⟩
          go_wp2_with fail
          refine (specKeyword s _).mono ?_
          rintro e w2 ⟨rfl, hb⟩
          have HB := Lib.hid hb
          clear hb
          go_wp2_with fail
          go_ret
          exact ⟨ret_bool HV.out.symm, HB.out⟩

theorem specCon (s : ByteArray) (w : World) (hs : s.size ≤ 9223372036854775807) : Calls Tryz.prog 21 #[.string s] w fun e w' => e = .returned (.bool (conB s)) ∧ w = w' := by
  have HSM := Lib.hid (fun (c : UInt8) (v : Bool) (h : smB c = v) => show Calls Tryz.prog 41 #[.int .u8 c.toNat] w fun e w' => e = .returned (.bool v) ∧ w = w' from by rw [← h]; exact specSmall c w)
  have HLG := Lib.hid (fun (c : UInt8) (v : Bool) (h : lgB c = v) => show Calls Tryz.prog 42 #[.int .u8 c.toNat] w fun e w' => e = .returned (.bool v) ∧ w = w' from by rw [← h]; exact specLarge c w)
  have HIN := Lib.hid (fun (v : Bool) (h : inB (s.size : Int) 1 8 = v) => show Calls Tryz.prog 22 #[.int .i64 (s.size : Int), .int .i64 1, .int .i64 8] w fun e w' => e = .returned (.bool v) ∧ w = w' from by rw [← h]; exact specIn (s.size : Int) 1 8 w)
  go_enter Tryz.func21, Tryz.ntmps21
  go_wp2_with fail
  go_loop [3] (fun i => ∃ k : Nat, k ≤ s.size ∧ i = .int .i64 k ∧ Hid ((s.data.toList.take k).all ltB = true)) (fun i => s.size - (intOf i).toNat)
  case atStart => exact ⟨0, by omega, by go_num, Lib.hid (by simp)⟩
  case round =>
    obtain ⟨k, hk, rfl, HA⟩ := hrel
    by_cases hlt : k < s.size
    · have HSN := Lib.hid (take_snoc_b s k hlt)
      cases hsm : smB s[k]
      case' false => cases hlg : lgB s[k]
      case false.false =>
        have HNO := Lib.hid (show s.data.toList.all ltB = false by
          have h := all_no (p := ltB) (l := s.data.toList) (k := k) (by rw [ba_len]; exact hlt) (by show ltB s[k] = false; unfold ltB; rw [hsm, hlg]; rfl)
          exact h)
        have HV := Lib.hid (show conB s = false by unfold conB lettersB; rw [HNO.out]; simp)
        have C1 := Lib.hid (HSM.out s[k] _ hsm)
        have C2 := Lib.hid (HLG.out s[k] _ hlg)
        clear hsm hlg
        go_wp2_with fail
        refine C1.out.mono ?_
        rintro e w1 ⟨rfl, rfl⟩
        go_wp2_with fail
        refine C2.out.mono ?_
        rintro e w1 ⟨rfl, rfl⟩
        go_wp2_with fail
        go_ret
        exact ⟨ret_bool HV.out.symm, rfl⟩
      case false.true =>
        have HA2 := Lib.hid (show (s.data.toList.take (k + 1)).all ltB = true by rw [HSN.out, List.all_append, HA.out]; simp [ltB, hlg])
        have C1 := Lib.hid (HSM.out s[k] _ hsm)
        have C2 := Lib.hid (HLG.out s[k] _ hlg)
        clear hsm hlg
        go_wp2_with fail
        refine C1.out.mono ?_
        rintro e w1 ⟨rfl, rfl⟩
        go_wp2_with fail
        refine C2.out.mono ?_
        rintro e w1 ⟨rfl, rfl⟩
        go_wp2_with fail
        go_round
        case rel => exact ⟨k + 1, by omega, by go_num, HA2⟩
        case measure => simp [intOf]; omega
      case true =>
        have HA2 := Lib.hid (show (s.data.toList.take (k + 1)).all ltB = true by rw [HSN.out, List.all_append, HA.out]; simp [ltB, hsm])
        have C1 := Lib.hid (HSM.out s[k] _ hsm)
        clear hsm
        go_wp2_with fail
        refine C1.out.mono ?_
        rintro e w1 ⟨rfl, rfl⟩
        go_wp2_with fail
        go_round
        case rel => exact ⟨k + 1, by omega, by go_num, HA2⟩
        case measure => simp [intOf]; omega
    · have HALL := Lib.hid (show s.data.toList.all ltB = true by
        have h1 := HA.out
        rw [List.take_of_length_le (by rw [ba_len]; omega)] at h1
        exact h1)
      cases hin : inB (s.size : Int) 1 8
      · have HV := Lib.hid (show conB s = false by unfold conB; rw [lettersB_size hin]; rfl)
        have C1 := Lib.hid (HIN.out _ hin)
        clear hin
        go_wp2_with fail
        refine C1.out.mono ?_
        rintro e w1 ⟨rfl, rfl⟩
        go_wp2_with fail
        go_ret
        exact ⟨ret_bool HV.out.symm, rfl⟩
      · obtain ⟨h0, h8, hd⟩ := inB_size hin
        have C1 := Lib.hid (HIN.out _ hin)
        have HF := Lib.hid (firstB_at (f := lgB) h0)
        have HD := Lib.hid hd
        have h0i : (0 : Int) < s.size := by omega
        clear hin hd
        cases hp : lgB s[0]
        · have HV := Lib.hid (show conB s = false by unfold conB lettersB; rw [HD.out, HF.out, hp]; rfl)
          have C2 := Lib.hid (HLG.out s[0] _ hp)
          clear hp
          go_wp2_with fail
          refine C1.out.mono ?_
          rintro e w1 ⟨rfl, rfl⟩
          go_wp2_with fail
          refine C2.out.mono ?_
          rintro e w1 ⟨rfl, rfl⟩
          go_wp2_with fail
          go_ret
          exact ⟨ret_bool HV.out.symm, rfl⟩
        · have C2 := Lib.hid (HLG.out s[0] _ hp)
          have HV := Lib.hid (show conB s = !(s.toList == intS.toList) by unfold conB lettersB; rw [HD.out, HF.out, hp, HALL.out]; rfl)
          clear hp
          go_wp2_with fail
          refine C1.out.mono ?_
          rintro e w1 ⟨rfl, rfl⟩
          go_wp2_with fail
          refine C2.out.mono ?_
          rintro e w1 ⟨rfl, rfl⟩
          go_wp2_with fail
          go_ret
          exact ⟨ret_bool (by rw [HV.out, intS_list]), rfl⟩
end Go.Proofs.YtgbcdfeflgnogaaGreat

/- Plain facts on the first of a list that a predicate takes (no program in sight). Conditions: none. -/
namespace Go.Proofs.YtgbcdfeflgnogaaGreat

/-- the place of the first that p takes; -1: there is none -/
def idxI {α : Type} (p : α → Bool) : List α → Int
  | [] => -1
  | x :: r => if p x then 0 else if idxI p r < 0 then -1 else idxI p r + 1

/-- none of the first j is taken -/
def noneTo {α : Type} (p : α → Bool) (l : List α) (j : Nat) : Prop := ∀ i (h : i < l.length), i < j → p l[i] = false

theorem noneTo_zero {α : Type} (p : α → Bool) (l : List α) : noneTo p l 0 := fun i _ h => by omega

theorem noneTo_succ {α : Type} {p : α → Bool} {l : List α} {j : Nat} (h : noneTo p l j) (hj : j < l.length) (he : p l[j] = false) : noneTo p l (j + 1) := fun i hi hij => by
  rcases Nat.lt_or_ge i j with h1 | h1
  · exact h i hi h1
  · obtain rfl : i = j := by omega
    exact he

theorem noneTo_tail {α : Type} {p : α → Bool} {x : α} {r : List α} {j : Nat} (h : noneTo p (x :: r) (j + 1)) : noneTo p r j := fun i hi hij => by
  have := h (i + 1) (by simpa using hi) (by omega)
  simpa using this

theorem idxI_none {α : Type} {p : α → Bool} : ∀ {l : List α}, noneTo p l l.length → idxI p l = -1
  | [], _ => rfl
  | x :: r, h => by
    have h0 := h 0 (by simp) (by simp)
    simp only [List.getElem_cons_zero] at h0
    have h1 := idxI_none (p := p) (l := r) (noneTo_tail (j := r.length) (by simpa using h))
    simp [idxI, h0, h1]

theorem idxI_at {α : Type} {p : α → Bool} : ∀ {l : List α} {j : Nat}, noneTo p l j → (hj : j < l.length) → p l[j] = true → idxI p l = j
  | [], _, _, hj, _ => by simp at hj
  | x :: r, 0, _, _, he => by simp only [List.getElem_cons_zero] at he; simp [idxI, he]
  | x :: r, j + 1, h, hj, he => by
    have h0 := h 0 (by simp) (by omega)
    simp only [List.getElem_cons_zero] at h0
    have h1 := idxI_at (p := p) (l := r) (j := j) (noneTo_tail h) (by simpa using hj) (by simpa using he)
    simp only [idxI, h0, h1]
    have : ¬ ((j : Int) < 0) := by omega
    simp [this]

theorem idxI_any_false {α : Type} {p : α → Bool} : ∀ {l : List α}, l.any p = false → idxI p l = -1
  | [], _ => rfl
  | x :: r, h => by
    simp only [List.any_cons, Bool.or_eq_false_iff] at h
    simp [idxI, h.1, idxI_any_false h.2]

theorem idxI_any_true {α : Type} {p : α → Bool} : ∀ {l : List α}, l.any p = true → 0 ≤ idxI p l
  | [], h => by simp at h
  | x :: r, h => by
    simp only [List.any_cons, Bool.or_eq_true] at h
    unfold idxI
    split
    · omega
    · rename_i hx
      rcases h with h | h
      · exact absurd h hx
      · have := idxI_any_true h
        split <;> omega

/-- where there is one: its place, and it is taken -/
theorem idxI_spec {α : Type} {p : α → Bool} : ∀ {l : List α}, 0 ≤ idxI p l → ∃ j, ∃ h : j < l.length, idxI p l = j ∧ p l[j] = true ∧ noneTo p l j
  | [], h => by simp [idxI] at h
  | x :: r, h => by
    unfold idxI at h ⊢
    by_cases hx : p x = true
    · rw [if_pos hx] at h ⊢
      exact ⟨0, by simp, rfl, by simpa using hx, fun i _ h => by omega⟩
    · rw [if_neg hx] at h ⊢
      by_cases hr : idxI p r < 0
      · rw [if_pos hr] at h; omega
      · rw [if_neg hr] at h ⊢
        obtain ⟨j, hj, e, hp, hn⟩ := idxI_spec (p := p) (l := r) (by omega)
        refine ⟨j + 1, by simpa using hj, by rw [e]; simp, by simpa using hp, fun i hi hij => ?_⟩
        match i with
        | 0 => simpa using hx
        | i + 1 => have := hn i (by simpa using hi) (by omega); simpa using this

theorem idxI_lt {α : Type} {p : α → Bool} {l : List α} : idxI p l < l.length ∨ idxI p l = -1 := by
  by_cases h : 0 ≤ idxI p l
  · obtain ⟨j, hj, e, _⟩ := idxI_spec h; rw [e]; left; omega
  · right
    have : ∀ l : List α, -1 ≤ idxI p l := by
      intro l
      induction l with
      | nil => simp [idxI]
      | cons x r ih => unfold idxI; split; omega; split <;> omega
    have := this l; omega
end Go.Proofs.YtgbcdfeflgnogaaGreat

/- The data of the Go struct Node: how it lies in memory (no program in sight). Conditions: none. -/
namespace Go.Proofs.YtgbcdfeflgnogaaGreat
open Go.RowKit
set_option linter.unusedVariables false
set_option linter.unusedSimpArgs false

inductive GNode where
  | mk (op : Int) (n : Int) (s : ByteArray) (t : ByteArray) (kids : List GNode)
def GNode.op : GNode → Int | .mk x _ _ _ _ => x
def GNode.n : GNode → Int | .mk _ x _ _ _ => x
def GNode.s : GNode → ByteArray | .mk _ _ x _ _ => x
def GNode.t : GNode → ByteArray | .mk _ _ _ x _ => x
def GNode.kids : GNode → List GNode | .mk _ _ _ _ x => x

mutual
def GNode.toD : GNode → D | .mk op n s t kids => .agg [.num .i64 op, .num .i64 n, .str s, .str t, .sl 5 (GNode.toDs kids)]
def GNode.toDs : List GNode → List D | [] => [] | t :: r => t.toD :: GNode.toDs r
end

theorem GNode.toDs_map : ∀ l : List GNode, GNode.toDs l = l.map GNode.toD
  | [] => rfl
  | t :: r => by simp only [GNode.toDs, List.map_cons, GNode.toDs_map r]

mutual
/-- how much it holds, as the laws count it -/
def GNode.bulk : GNode → Nat | .mk _ _ s t kids => s.size + t.size + GNode.bulks kids
def GNode.bulks : List GNode → Nat | [] => 0 | t :: r => 1 + t.bulk + GNode.bulks r
end
theorem GNode.bulks_eq : ∀ l : List GNode, GNode.bulks l = bulkL GNode.bulk l
  | [] => rfl
  | t :: r => by simp only [GNode.bulks, bulkL, GNode.bulks_eq r]

theorem GNode.bulk_eq (t : GNode) : t.bulk = t.s.size + t.t.size + bulkL GNode.bulk t.kids := by
  cases t; simp only [GNode.bulk, GNode.bulks_eq, GNode.op, GNode.n, GNode.s, GNode.t, GNode.kids]

/-- the facts of a struct that lies in memory: its cells are .int .i64 t.op, .int .i64 t.n, .string t.s, .string t.t, .slice A1 t.kids.length c1 -/
def GNode.At (w : World) (S : Nat → Prop) (A1 : Option Addr) (c1 : Nat) (t : GNode) : Prop :=
  (Lit.int .i64 t.op).wf = true ∧ (Lit.int .i64 t.n).wf = true ∧ t.s.size ≤ maxLen ∧ t.t.size ≤ maxLen ∧ Sl w S 5 A1 c1 (t.kids.map GNode.toD)

theorem GNode.rd {w : World} {S : Nat → Prop} {t : GNode} {cs : List Value} (h : t.toD.rd w S cs) : ∃ A1 c1, cs = [.int .i64 t.op, .int .i64 t.n, .string t.s, .string t.t, .slice A1 t.kids.length c1] ∧ GNode.At w S A1 c1 t := by
  cases t with
  | mk op n s t kids =>
  simp only [GNode.toD, GNode.toDs_map] at h
  rw [D.rd_agg] at h
  rw [D.rdF_cons] at h
  obtain ⟨x0, r0, rfl, k0, h⟩ := h
  obtain ⟨rfl, h0⟩ := D.rd_num.1 k0
  rw [D.rdF_cons] at h
  obtain ⟨x1, r1, rfl, k1, h⟩ := h
  obtain ⟨rfl, h1⟩ := D.rd_num.1 k1
  rw [D.rdF_cons] at h
  obtain ⟨x2, r2, rfl, k2, h⟩ := h
  obtain ⟨rfl, h2⟩ := D.rd_str.1 k2
  rw [D.rdF_cons] at h
  obtain ⟨x3, r3, rfl, k3, h⟩ := h
  obtain ⟨rfl, h3⟩ := D.rd_str.1 k3
  rw [D.rdF_cons] at h
  obtain ⟨x4, r4, rfl, k4, h⟩ := h
  obtain ⟨A1, c1, rfl, h4⟩ := D.rd_sl.1 k4
  obtain rfl := D.rdF_nil.1 h
  exact ⟨A1, c1, by simp [GNode.op, GNode.n, GNode.s, GNode.t, GNode.kids], h0, h1, h2, h3, h4⟩

theorem GNode.rd_mk {w : World} {S : Nat → Prop} {t : GNode} {A1 : Option Addr} {c1 : Nat} (h : GNode.At w S A1 c1 t) : t.toD.rd w S [.int .i64 t.op, .int .i64 t.n, .string t.s, .string t.t, .slice A1 t.kids.length c1] := by
  cases t with
  | mk op n s t kids =>
  simp only [GNode.toD, GNode.toDs_map]
  unfold GNode.At at h
  obtain ⟨h0, h1, h2, h3, h4⟩ := h
  rw [D.rd_agg]
  exact D.rdF_cons.2 ⟨[_], [_, _, _, _], rfl, D.rd_num.2 ⟨rfl, h0⟩, D.rdF_cons.2 ⟨[_], [_, _, _], rfl, D.rd_num.2 ⟨rfl, h1⟩, D.rdF_cons.2 ⟨[_], [_, _], rfl, D.rd_str.2 ⟨rfl, h2⟩, D.rdF_cons.2 ⟨[_], [_], rfl, D.rd_str.2 ⟨rfl, h3⟩, D.rdF_cons.2 ⟨[_], [], rfl, D.rd_sl.2 ⟨A1, c1, by simp [GNode.kids], h4⟩, D.rdF_nil.2 rfl⟩⟩⟩⟩⟩

theorem GNode.elem {w : World} {S : Nat → Prop} {A : Option Addr} {c : Nat} {l : List GNode} (h : Sl w S 5 A c (l.map GNode.toD)) (i : Nat) (hi : i < l.length) :
    ∃ b off A1 c1, A = some ⟨b, off, none⟩ ∧ S b ∧ w.cell? ⟨b, off + i * 5, none⟩ = some (.int .i64 l[i].op) ∧ w.cell? ⟨b, off + i * 5 + 1, none⟩ = some (.int .i64 l[i].n) ∧ w.cell? ⟨b, off + i * 5 + 2, none⟩ = some (.string l[i].s) ∧ w.cell? ⟨b, off + i * 5 + 3, none⟩ = some (.string l[i].t) ∧ w.cell? ⟨b, off + i * 5 + 4, none⟩ = some (.slice A1 l[i].kids.length c1) ∧ GNode.At w S A1 c1 l[i] := by
  obtain ⟨b, off, cs, e, hb, hl, hc, hr⟩ := Sl.get h i (by simpa using hi)
  rw [List.getElem_map] at hr
  obtain ⟨A1, c1, rfl, h1⟩ := GNode.rd hr
  exact ⟨b, off, A1, c1, e, hb, hc 0 _ rfl, hc 1 _ rfl, hc 2 _ rfl, hc 3 _ rfl, hc 4 _ rfl, h1⟩

theorem GNode.At.keep {w w' : World} {S S' : Nat → Prop} {t : GNode} {A1 : Option Addr} {c1 : Nat} (h : GNode.At w S A1 c1 t) (hk : ∀ b, S b → S' b ∧ w'.heap[b]? = w.heap[b]?) : GNode.At w' S' A1 c1 t := by
  unfold GNode.At at h ⊢
  obtain ⟨h0, h1, h2, h3, h4⟩ := h
  exact ⟨h0, h1, h2, h3, h4.keep hk⟩
theorem GNode.At.below {w w' : World} {B B' : Nat} {t : GNode} {A1 : Option Addr} {c1 : Nat} (h : GNode.At w (Lt B) A1 c1 t) (hb : Below B w w') (hB : B ≤ B') : GNode.At w' (Lt B') A1 c1 t :=
  h.keep (keep_below hb hB)

/-- the same, owned -/
def GNode.Ow (w : World) (S : Nat → Prop) (A1 : Option Addr) (c1 : Nat) (t : GNode) : Prop :=
  (Lit.int .i64 t.op).wf = true ∧ (Lit.int .i64 t.n).wf = true ∧ t.s.size ≤ maxLen ∧ t.t.size ≤ maxLen ∧ Osl w S 5 A1 c1 (t.kids.map GNode.toD)

theorem GNode.own_mk {w : World} {S : Nat → Prop} {t : GNode} {A1 : Option Addr} {c1 : Nat} (h : GNode.Ow w S A1 c1 t) : t.toD.own w S [.int .i64 t.op, .int .i64 t.n, .string t.s, .string t.t, .slice A1 t.kids.length c1] := by
  cases t with
  | mk op n s t kids =>
  simp only [GNode.toD, GNode.toDs_map]
  unfold GNode.Ow at h
  obtain ⟨h0, h1, h2, h3, h4⟩ := h
  rw [D.own_agg]
  exact D.ownF_plain (c1 := [_]) (c2 := [_, _, _, _]) (D.own_num.2 ⟨rfl, h0⟩) (D.ownF_plain (c1 := [_]) (c2 := [_, _, _]) (D.own_num.2 ⟨rfl, h1⟩) (D.ownF_plain (c1 := [_]) (c2 := [_, _]) (D.own_str.2 ⟨rfl, h2⟩) (D.ownF_plain (c1 := [_]) (c2 := [_]) (D.own_str.2 ⟨rfl, h3⟩) (D.ownF_last (D.own_sl.2 ⟨A1, c1, by simp [GNode.kids], h4⟩)))))

theorem GNode.Ow.keep {w w' : World} {S S' : Nat → Prop} {t : GNode} {A1 : Option Addr} {c1 : Nat} (h : GNode.Ow w S A1 c1 t) (hk : ∀ b, S b → S' b ∧ w'.heap[b]? = w.heap[b]?) : GNode.Ow w' S' A1 c1 t := by
  unfold GNode.Ow at h ⊢
  obtain ⟨h0, h1, h2, h3, h4⟩ := h
  exact ⟨h0, h1, h2, h3, h4.keep hk⟩
theorem GNode.Ow.at {w : World} {S : Nat → Prop} {t : GNode} {A1 : Option Addr} {c1 : Nat} (h : GNode.Ow w S A1 c1 t) : GNode.At w S A1 c1 t := by
  unfold GNode.Ow at h
  unfold GNode.At
  obtain ⟨h0, h1, h2, h3, h4⟩ := h
  exact ⟨h0, h1, h2, h3, h4.sl⟩

end Go.Proofs.YtgbcdfeflgnogaaGreat

/- slices.IndexFunc and slices.ContainsFunc at Node, with whatever predicate that only makes memory of its own. Conditions: none. -/
namespace Go.Proofs.YtgbcdfeflgnogaaGreat
open Go.RowKit
set_option linter.unusedVariables false
set_option linter.unusedSimpArgs false
set_option maxHeartbeats 400000

theorem indexFuncNode (K : Nat) (hK : ∀ (args : Array Value) (w : World), (callFunc K args).run Tryz.prog w = .ok (.enter K args) w) (caps : Array Value) (p : GNode → Bool) (l : List GNode) (A : Option Addr) (c : Nat) (w : World) (hs : Sl w (Lt w.heap.size) 5 A c (l.map GNode.toD))
    (H : ∀ x, x ∈ l → ∀ (A1 : Option Addr) (c1 : Nat) (w2 : World), Below w.heap.size w w2 → GNode.At w2 (Lt w2.heap.size) A1 c1 x →
      Calls Tryz.prog K (#[.agg #[.int .i64 x.op, .int .i64 x.n, .string x.s, .string x.t, .slice A1 x.kids.length c1]] ++ caps) w2 fun e w' => e = .returned (.bool (p x)) ∧ Below w2.heap.size w2 w') :
    Calls Tryz.prog 82 #[.slice A l.length c, .func (.func K) #[] caps] w fun e w' => e = .returned (.int .i64 (idxI p l)) ∧ Below w.heap.size w w' := by
  have hlen : l.length ≤ 9223372036854775807 := by simpa using hs.len
  have HH := Lib.hid H
  clear H
  go_enter Tryz.func82, Tryz.ntmps82
  go_wp2_with fail
  go_loopw [8] (fun i wr => ∃ j : Nat, j ≤ l.length ∧ i = .int .i64 j ∧ noneTo p l j ∧ Below w.heap.size w wr) (fun i _ => l.length - (intOf i).toNat)
  case atStart => exact ⟨0, by omega, by go_num, noneTo_zero p l, Below.refl _ _⟩
  case round =>
    obtain ⟨j, hj, rfl, hno, hbl⟩ := hrel
    have Hno := Lib.hid hno
    clear hno
    have hsz := hbl.size
    by_cases hlt : j < l.length
    · have htr := GNode.elem (hs.below hbl (Nat.le_refl _)) j hlt
      obtain ⟨b, off, A1, c1, rfl, hSb, g0, g1, g2, g3, g4, hat⟩ := htr
      have hmem : l[j] ∈ l := List.getElem_mem hlt
      go_wp2_with fail
      refine (HH.out _ hmem _ _ _ hbl (hat.below (Below.refl _ _) hsz)).mono ?_
      rintro e w1 ⟨rfl, hb1⟩
      cases he : p l[j]
      · have hn := Lib.hid (noneTo_succ Hno.out hlt he)
        go_wp2_with fail
        go_roundw
        case rel => exact ⟨j + 1, by omega, by go_num, hn.out, hbl.trans (hb1.mono hsz)⟩
        case measure => simp [intOf]; omega
      · have hn := Lib.hid (idxI_at Hno.out hlt he)
        go_wp2_with fail
        go_ret
        exact ⟨ret_int hn.out.symm, hbl.trans (hb1.mono hsz)⟩
    · have hjl : j = l.length := by omega
      have Hj := Lib.hid hjl
      clear hjl
      go_wp2_with fail
      go_ret
      exact ⟨ret_int (idxI_none (by have := Hno.out; rw [Hj.out] at this; exact this)).symm, hbl⟩

theorem containsFuncNode (K : Nat) (hK : ∀ (args : Array Value) (w : World), (callFunc K args).run Tryz.prog w = .ok (.enter K args) w) (caps : Array Value) (p : GNode → Bool) (l : List GNode) (A : Option Addr) (c : Nat) (w : World) (hs : Sl w (Lt w.heap.size) 5 A c (l.map GNode.toD))
    (H : ∀ x, x ∈ l → ∀ (A1 : Option Addr) (c1 : Nat) (w2 : World), Below w.heap.size w w2 → GNode.At w2 (Lt w2.heap.size) A1 c1 x →
      Calls Tryz.prog K (#[.agg #[.int .i64 x.op, .int .i64 x.n, .string x.s, .string x.t, .slice A1 x.kids.length c1]] ++ caps) w2 fun e w' => e = .returned (.bool (p x)) ∧ Below w2.heap.size w2 w') :
    Calls Tryz.prog 63 #[.slice A l.length c, .func (.func K) #[] caps] w fun e w' => e = .returned (.bool (l.any p)) ∧ Below w.heap.size w w' := by
  have HH := Lib.hid H
  clear H
  go_enter Tryz.func63, Tryz.ntmps63
  go_wp2_with fail
  refine (indexFuncNode K hK caps p l A c w hs HH.out).mono ?_
  rintro e w1 ⟨rfl, hb1⟩
  cases ha : l.any p
  · have hi := idxI_any_false ha
    rw [hi]
    have Ha := Lib.hid ha
    clear ha hi
    go_wp2_with fail
    go_ret
    exact ⟨ret_bool Ha.out.symm, hb1⟩
  · have hi := idxI_any_true ha
    have Ha := Lib.hid ha
    clear ha
    generalize idxI p l = x at *
    go_wp2_with fail
    go_ret
    exact ⟨ret_bool Ha.out.symm, hb1⟩

end Go.Proofs.YtgbcdfeflgnogaaGreat
