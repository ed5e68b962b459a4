/- Names: letters, names and cons, in the program and in the reference. Conditions: none. -/
import Derived.Test.YtgbcdfeflgnogaaKeyword
import Derived.Test.YtgbcdfeflgnogaaNumber
import Derived.Test.YtgbcdfeflgnogaaWithin
namespace Go.Proofs.Ytgbcdfeflgnogaa
open Go.RowKit
set_option linter.unusedVariables false
set_option linter.unusedSimpArgs false
set_option maxHeartbeats 1000000

def smB (c : UInt8) : Bool := decide (97 ≤ c.toNat ∧ c.toNat ≤ 122)
def lgB (c : UInt8) : Bool := decide (65 ≤ c.toNat ∧ c.toNat ≤ 90)
def ltB (c : UInt8) : Bool := smB c || lgB c
def firstB (f : UInt8 → Bool) (s : ByteArray) : Bool := match s.data.toList with | [] => false | c :: _ => f c
def lettersB (f : UInt8 → Bool) (s : ByteArray) : Bool := decide (1 ≤ s.size ∧ s.size ≤ 8) && firstB f s && s.data.toList.all ltB
def nameB (s : ByteArray) : Bool := lettersB smB s && !inStrs kws s
def intS : ByteArray := ⟨#[73, 110, 116]⟩
def conB (s : ByteArray) : Bool := lettersB lgB s && !(s.toList == intS.toList)
theorem firstB_at {f : UInt8 → Bool} {s : ByteArray} (h : 0 < s.size) : firstB f s = f s[0] := by
  have h1 := ba_head s h
  unfold firstB
  cases hl : s.data.toList with
  | nil => rw [hl] at h1; simp at h1
  | cons a r => rw [hl] at h1; simp at h1; simp [h1]


theorem specSmall (c : UInt8) (w : World) : Calls Try.prog 183 #[.int .u8 c.toNat] w fun e w' => e = .returned (.bool (smB c)) ∧ w = w' := by
  have hd := Lib.hid (show smB c = decide (97 ≤ c.toNat ∧ c.toNat ≤ 122) from rfl)
  by_cases h1 : 97 ≤ (c.toNat : Int)
  · by_cases h2 : (c.toNat : Int) ≤ 122
    · go_enter Try.func183, Try.ntmps183
      go_wp2_with fail
      go_ret
      exact ⟨ret_bool (by rw [hd.out, decide_eq_true (by omega)]), rfl⟩
    · have h3 : decide ((c.toNat : Int) ≤ 122) = false := by simpa using h2
      go_enter Try.func183, Try.ntmps183
      go_wp2_with fail
      go_ret
      exact ⟨ret_bool (by rw [hd.out, decide_eq_false (by omega)]), rfl⟩
  · have h3 : decide (97 ≤ (c.toNat : Int)) = false := by simpa using h1
    go_enter Try.func183, Try.ntmps183
    go_wp2_with fail
    go_ret
    exact ⟨ret_bool (by rw [hd.out, decide_eq_false (by omega)]), rfl⟩

theorem specLarge (c : UInt8) (w : World) : Calls Try.prog 184 #[.int .u8 c.toNat] w fun e w' => e = .returned (.bool (lgB c)) ∧ w = w' := by
  have hd := Lib.hid (show lgB c = decide (65 ≤ c.toNat ∧ c.toNat ≤ 90) from rfl)
  by_cases h1 : 65 ≤ (c.toNat : Int)
  · by_cases h2 : (c.toNat : Int) ≤ 90
    · go_enter Try.func184, Try.ntmps184
      go_wp2_with fail
      go_ret
      exact ⟨ret_bool (by rw [hd.out, decide_eq_true (by omega)]), rfl⟩
    · have h3 : decide ((c.toNat : Int) ≤ 90) = false := by simpa using h2
      go_enter Try.func184, Try.ntmps184
      go_wp2_with fail
      go_ret
      exact ⟨ret_bool (by rw [hd.out, decide_eq_false (by omega)]), rfl⟩
  · have h3 : decide (65 ≤ (c.toNat : Int)) = false := by simpa using h1
    go_enter Try.func184, Try.ntmps184
    go_wp2_with fail
    go_ret
    exact ⟨ret_bool (by rw [hd.out, decide_eq_false (by omega)]), rfl⟩

theorem implSmall (c : UInt8) (w : World) : Calls Try.prog 247 #[.int .u8 c.toNat] w fun e w' => e = .returned (.bool (smB c)) ∧ w = w' := by
  have hd := Lib.hid (show smB c = decide (97 ≤ c.toNat ∧ c.toNat ≤ 122) from rfl)
  by_cases h1 : 97 ≤ (c.toNat : Int)
  · by_cases h2 : (c.toNat : Int) ≤ 122
    · go_enter Try.func247, Try.ntmps247
      go_wp2_with fail
      go_ret
      exact ⟨ret_bool (by rw [hd.out, decide_eq_true (by omega)]), rfl⟩
    · have h3 : decide ((c.toNat : Int) ≤ 122) = false := by simpa using h2
      go_enter Try.func247, Try.ntmps247
      go_wp2_with fail
      go_ret
      exact ⟨ret_bool (by rw [hd.out, decide_eq_false (by omega)]), rfl⟩
  · have h3 : decide (97 ≤ (c.toNat : Int)) = false := by simpa using h1
    go_enter Try.func247, Try.ntmps247
    go_wp2_with fail
    go_ret
    exact ⟨ret_bool (by rw [hd.out, decide_eq_false (by omega)]), rfl⟩

theorem implLarge (c : UInt8) (w : World) : Calls Try.prog 249 #[.int .u8 c.toNat] w fun e w' => e = .returned (.bool (lgB c)) ∧ w = w' := by
  have hd := Lib.hid (show lgB c = decide (65 ≤ c.toNat ∧ c.toNat ≤ 90) from rfl)
  by_cases h1 : 65 ≤ (c.toNat : Int)
  · by_cases h2 : (c.toNat : Int) ≤ 90
    · go_enter Try.func249, Try.ntmps249
      go_wp2_with fail
      go_ret
      exact ⟨ret_bool (by rw [hd.out, decide_eq_true (by omega)]), rfl⟩
    · have h3 : decide ((c.toNat : Int) ≤ 90) = false := by simpa using h2
      go_enter Try.func249, Try.ntmps249
      go_wp2_with fail
      go_ret
      exact ⟨ret_bool (by rw [hd.out, decide_eq_false (by omega)]), rfl⟩
  · have h3 : decide (65 ≤ (c.toNat : Int)) = false := by simpa using h1
    go_enter Try.func249, Try.ntmps249
    go_wp2_with fail
    go_ret
    exact ⟨ret_bool (by rw [hd.out, decide_eq_false (by omega)]), rfl⟩

theorem implLetter (c : UInt8) (w : World) : Calls Try.prog 293 #[.int .u8 c.toNat] w fun e w' => e = .returned (.bool (ltB c)) ∧ w = w' := by
  cases h1 : smB c
  · have HV := Lib.hid (show ltB c = lgB c by unfold ltB; rw [h1]; rfl)
    have HS := Lib.hid (implSmall c w)
    rw [h1] at HS
    clear h1
    go_enter Try.func293, Try.ntmps293
    go_wp2_with fail
    refine HS.out.mono ?_
    rintro e w1 ⟨rfl, rfl⟩
    go_wp2_with fail
    refine (implLarge c _).mono ?_
    rintro e w1 ⟨rfl, rfl⟩
    go_wp2_with fail
    go_ret
    exact ⟨ret_bool HV.out.symm, rfl⟩
  · have HV := Lib.hid (show ltB c = true by unfold ltB; rw [h1]; rfl)
    have HS := Lib.hid (implSmall c w)
    rw [h1] at HS
    clear h1
    go_enter Try.func293, Try.ntmps293
    go_wp2_with fail
    refine HS.out.mono ?_
    rintro e w1 ⟨rfl, rfl⟩
    go_wp2_with fail
    go_ret
    exact ⟨ret_bool HV.out.symm, rfl⟩

/-- how many bytes from the first on are of a kind -/
def runN (p : UInt8 → Bool) : List UInt8 → Nat
  | [] => 0
  | c :: r => if p c = true then runN p r + 1 else 0
theorem runN_at {p : UInt8 → Bool} : ∀ {l : List UInt8} {k : Nat}, (l.take k).all p = true → (h : k < l.length) → p l[k] = false → runN p l = k
  | [], k, _, h, _ => by simp at h
  | c :: r, 0, _, _, hp => by simp only [List.getElem_cons_zero] at hp; rw [runN, if_neg (by rw [hp]; simp)]
  | c :: r, k + 1, ha, h, hp => by
    simp only [List.take_succ_cons, List.all_cons, Bool.and_eq_true] at ha
    rw [runN, if_pos ha.1, runN_at ha.2 (by simpa using h) (by simpa using hp)]
theorem runN_all {p : UInt8 → Bool} : ∀ {l : List UInt8}, l.all p = true → runN p l = l.length
  | [], _ => rfl
  | c :: r, h => by
    simp only [List.all_cons, Bool.and_eq_true] at h
    rw [runN, if_pos h.1, runN_all h.2]; rfl
theorem runN_le (p : UInt8 → Bool) : ∀ l : List UInt8, runN p l ≤ l.length
  | [] => Nat.le_refl _
  | c :: r => by
    rw [runN]
    split
    · have := runN_le p r; simp; omega
    · omega
theorem runN_iff {p : UInt8 → Bool} : ∀ {l : List UInt8}, runN p l = l.length ↔ l.all p = true
  | [] => by simp [runN]
  | c :: r => by
    rw [runN, List.all_cons, List.length_cons]
    by_cases h : p c = true
    · rw [if_pos h, h, Bool.true_and, ← runN_iff]; omega
    · rw [if_neg h]
      have : p c = false := by simpa using h
      rw [this]; simp
theorem drop_get (s : ByteArray) (a k : Nat) (h : a + k < s.size) : (s.data.toList.drop a)[k]'(by rw [List.length_drop, ba_len]; omega) = s[a + k] := by
  rw [List.getElem_drop]; rfl
theorem drop_snoc (s : ByteArray) (a k : Nat) (h : a + k < s.size) : (s.data.toList.drop a).take (k + 1) = (s.data.toList.drop a).take k ++ [s[a + k]] := by
  rw [List.take_succ_eq_append_getElem (by rw [List.length_drop, ba_len]; omega), drop_get s a k h]

theorem implRun (K : Nat) (hK : ∀ (args : Array Value) (w : World), (callFunc K args).run Try.prog w = .ok (.enter K args) w) (p : UInt8 → Bool) (H : ∀ (c : UInt8) (w : World), Calls Try.prog K #[.int .u8 c.toNat] w fun e w' => e = .returned (.bool (p c)) ∧ w = w')
    (s : ByteArray) (a : Nat) (w : World) (ha : a ≤ s.size) (hs : s.size ≤ 9223372036854775807) :
    Calls Try.prog 292 #[.string s, .int .i64 (a : Int), .func (.func K) #[] #[]] w fun e w' => e = .returned (.int .i64 (runN p (s.data.toList.drop a) : Nat)) ∧ w = w' := by
  have HH := Lib.hid H
  clear H
  go_enter Try.func292, Try.ntmps292
  go_wp2_with fail
  go_loop [7] (fun n => ∃ k : Nat, a + k ≤ s.size ∧ n = .int .i64 k ∧ Hid (((s.data.toList.drop a).take k).all p = true)) (fun n => s.size - (intOf n).toNat)
  case atStart => exact ⟨0, by omega, by go_num, Lib.hid (by simp)⟩
  case round =>
    obtain ⟨k, hk, rfl, HA⟩ := hrel
    by_cases hlt : a + k < s.size
    · have hlt' : (a : Int) + (k : Int) < s.size := by omega
      have HSN := Lib.hid (drop_snoc s a k hlt)
      have HG := Lib.hid (drop_get s a k hlt)
      have HL := Lib.hid (show k < (s.data.toList.drop a).length by rw [List.length_drop, ba_len]; omega)
      cases hp : p s[a + k]
      · have HV := Lib.hid (runN_at HA.out HL.out (by rw [HG.out]; exact hp))
        have HC := Lib.hid (HH.out s[a + k] w)
        rw [hp] at HC
        clear hp
        go_wp2_with fail
        refine HC.out.mono ?_
        rintro e w1 ⟨rfl, rfl⟩
        go_wp2_with fail
        go_ret
        exact ⟨ret_int (by rw [HV.out]), rfl⟩
      · have HA2 := Lib.hid (show ((s.data.toList.drop a).take (k + 1)).all p = true by rw [HSN.out, List.all_append, HA.out]; simp [hp])
        have HC := Lib.hid (HH.out s[a + k] w)
        rw [hp] at HC
        clear hp
        go_wp2_with fail
        refine HC.out.mono ?_
        rintro e w1 ⟨rfl, rfl⟩
        go_wp2_with fail
        go_round
        case rel => exact ⟨k + 1, by omega, by go_num, HA2⟩
        case measure => simp [intOf]; omega
    · have HV := Lib.hid (show runN p (s.data.toList.drop a) = k by
        have h1 := HA.out
        have hl : (s.data.toList.drop a).length = k := by rw [List.length_drop, ba_len]; omega
        rw [List.take_of_length_le (by omega)] at h1
        rw [runN_all h1, hl])
      have hlt' : decide ((a : Int) + (k : Int) < s.size) = false := by simp; omega
      go_wp2_with fail
      go_ret
      exact ⟨ret_int (by rw [HV.out]), rfl⟩
end Go.Proofs.Ytgbcdfeflgnogaa
