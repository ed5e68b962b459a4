/- Several texts of this claim in one: NumP Number Within Name. Conditions: none but bounds on sizes. -/
import Derived.Test.YtgbcdfeflgnogaaGreatMg0
import Derived.Test.YtgbcdfeflgnogaaGreatRows
import Derived.BigQuiet
/- Plain facts on digits that are read (no program in sight). Conditions: none. -/
namespace Go.Proofs.YtgbcdfeflgnogaaGreat
open Go.RowKit
set_option linter.unusedVariables false

/-- what digits come to -/
def nval (l : List UInt8) : Nat := l.foldl (fun n c => 10 * n + (c.toNat - 48)) 0
def isDig (c : UInt8) : Bool := decide (48 ≤ c.toNat ∧ c.toNat ≤ 57)

theorem nval_snoc (l : List UInt8) (c : UInt8) : nval (l ++ [c]) = 10 * nval l + (c.toNat - 48) := by simp [nval]

theorem nval_lt (n : Nat) : ∀ l : List UInt8, l.length = n → l.all isDig = true → nval l < 10 ^ n := by
  induction n with
  | zero => intro l h _; rw [List.eq_nil_of_length_eq_zero h]; simp [nval]
  | succ n ih =>
    intro l h hd
    have hne : l ≠ [] := by intro e; rw [e] at h; simp at h
    have e := List.dropLast_concat_getLast hne
    rw [← e] at hd ⊢
    rw [List.all_append, Bool.and_eq_true] at hd
    have h1 := ih l.dropLast (by simp [h]) hd.1
    have h2 : isDig (l.getLast hne) = true := by simpa using hd.2
    unfold isDig at h2
    have h3 := of_decide_eq_true h2
    rw [nval_snoc, Nat.pow_succ]
    omega

theorem one_dig (c : UInt8) (h : isDig c = true) : one (48 + ((c.toNat - 48 : Nat) : Int)) = ⟨#[c]⟩ := by
  have h3 := of_decide_eq_true h
  unfold one
  have e : (48 + ((c.toNat - 48 : Nat) : Int)).toNat = c.toNat := by omega
  rw [e]
  simp

theorem ba_toList_one (c : UInt8) : (ByteArray.mk #[c]).data.toList = [c] := rfl

/-- the digits of what digits come to are those digits, unless there is a zero too many ahead -/
theorem digU_nval (n : Nat) : ∀ l : List UInt8, l.length = n + 1 → l.all isDig = true → (l.head? ≠ some 48 ∨ n = 0) → digU (nval l) = ⟨l.toArray⟩ ∧ (l.head? ≠ some 48 → 0 < nval l) := by
  induction n with
  | zero =>
    intro l h hd _
    match l, h with
    | [c], _ =>
      have hc : isDig c = true := by simpa using hd
      have h3 := of_decide_eq_true hc
      have e : nval [c] = c.toNat - 48 := by simp [nval]
      refine ⟨?_, fun hh => ?_⟩
      · rw [e, digU_lt (by omega), one_dig c hc]
      · rw [e]
        rcases Nat.lt_or_ge 48 c.toNat with h4 | h4
        · omega
        · have : c.toNat = 48 := by omega
          exact absurd (by simp; exact UInt8.toNat_inj.1 this) hh
  | succ n ih =>
    intro l h hd hz
    have hne : l ≠ [] := by intro e; rw [e] at h; simp at h
    have e := List.dropLast_concat_getLast hne
    have hhead : l.dropLast.head? = l.head? := by
      match l, h with
      | a :: b :: r, _ => simp [List.dropLast]
    have hz' : l.head? ≠ some 48 := by rcases hz with hz | hz; exact hz; omega
    rw [← e] at hd
    rw [List.all_append, Bool.and_eq_true] at hd
    obtain ⟨h1, h2⟩ := ih l.dropLast (by simp [h]) hd.1 (.inl (by rw [hhead]; exact hz'))
    have h2 := h2 (by rw [hhead]; exact hz')
    have h4 : isDig (l.getLast hne) = true := by simpa using hd.2
    have h3 := of_decide_eq_true h4
    have ev : nval l = 10 * nval l.dropLast + ((l.getLast hne).toNat - 48) := by rw [← nval_snoc, e]
    refine ⟨?_, fun _ => by omega⟩
    rw [ev, digU_ge (by omega)]
    have e1 : (10 * nval l.dropLast + ((l.getLast hne).toNat - 48)) / 10 = nval l.dropLast := by omega
    have e2 : (10 * nval l.dropLast + ((l.getLast hne).toNat - 48)) % 10 = (l.getLast hne).toNat - 48 := by omega
    rw [e1, e2, h1, one_dig _ h4]
    apply ByteArray.ext
    simp only [ByteArray.data_append]
    conv => rhs; rw [← e]
    simp

/-- the first digit is none too many -/
theorem digU_head (k : Nat) : ∀ n : Nat, n < k → 0 < n → (digU n).data.toList.head? ≠ some 48 ∧ (digU n).data.toList ≠ [] := by
  induction k with
  | zero => intro n h; omega
  | succ k ih =>
    intro n h h0
    by_cases h10 : n < 10
    · rw [digU_lt h10]
      have e : (one (48 + (n : Int))).data.toList = [UInt8.ofNat (48 + n)] := by
        unfold one
        have : (48 + (n : Int)).toNat = 48 + n := by omega
        rw [this]
      rw [e]
      refine ⟨fun hh => ?_, by simp⟩
      simp only [List.head?_cons, Option.some.injEq] at hh
      have := congrArg UInt8.toNat hh
      simp at this
      omega
    · rw [digU_ge (by omega)]
      obtain ⟨h1, h2⟩ := ih (n / 10) (by omega) (by omega)
      simp only [ByteArray.data_append, Array.toList_append]
      refine ⟨?_, by simp [h2]⟩
      obtain ⟨c, r, e⟩ := List.exists_cons_of_ne_nil h2
      rw [e] at h1 ⊢
      simpa using h1

theorem digU_nval_iff (l : List UInt8) (hl : l ≠ []) (hd : l.all isDig = true) : digU (nval l) = ⟨l.toArray⟩ ↔ ¬ (l.head? = some 48 ∧ 1 < l.length) := by
  have hlen : 0 < l.length := List.length_pos_iff.2 hl
  constructor
  · intro h ⟨h1, h2⟩
    have hdata : (digU (nval l)).data.toList = l := by rw [h]
    rcases Nat.eq_zero_or_pos (nval l) with h0 | h0
    · rw [h0, digU_lt (by omega)] at hdata
      have : (one (48 + ((0 : Nat) : Int))).data.toList.length = l.length := by rw [hdata]
      have e1 : (one (48 + ((0 : Nat) : Int))).data.toList.length = 1 := rfl
      omega
    · have := (digU_head (nval l + 1) (nval l) (by omega) h0).1
      rw [hdata] at this
      exact this h1
  · intro h
    refine (digU_nval (l.length - 1) l (by omega) hd ?_).1
    by_cases h1 : l.head? = some 48
    · right
      rcases Nat.lt_or_ge 1 l.length with h2 | h2
      · exact absurd ⟨h1, h2⟩ h
      · omega
    · exact .inl h1

/-- what Number gives -/
def numOk (l : List UInt8) : Bool := decide (1 ≤ l.length ∧ l.length ≤ 10) && (!(l.head? == some 48 && decide (1 < l.length)) && (l.all isDig && decide (nval l ≤ 1073741823)))
def numI (s : ByteArray) : Int × Bool := if numOk s.data.toList then (((nval s.data.toList : Nat) : Int), true) else (0, false)

theorem nval_lt10 (l : List UInt8) (h : l.length ≤ 10) (hd : l.all isDig = true) : nval l < 10000000000 := by
  have h1 := nval_lt l.length l rfl hd
  have h2 : 10 ^ l.length ≤ 10 ^ 10 := Nat.pow_le_pow_right (by omega) h
  omega

theorem take_snoc_b (s : ByteArray) (k : Nat) (h : k < s.size) : s.data.toList.take (k + 1) = s.data.toList.take k ++ [s[k]] := by
  rw [List.take_succ_eq_append_getElem (by simpa using h)]; rfl

theorem all_take_false {l : List UInt8} {k : Nat} (h : k < l.length) (hd : isDig l[k] = false) : l.all isDig = false := by
  rw [← Bool.not_eq_true]; intro hh
  have := List.all_eq_true.1 hh _ (List.getElem_mem h)
  rw [hd] at this; cases this

end Go.Proofs.YtgbcdfeflgnogaaGreat

/- Number, in the program and in the reference. Conditions: none. -/
namespace Go.Proofs.YtgbcdfeflgnogaaGreat
open Go.RowKit
set_option linter.unusedVariables false
set_option linter.unusedSimpArgs false
set_option maxHeartbeats 1000000

theorem ret_ib {a b : Int} {c d : Bool} (h : a = b) (h2 : c = d) : Ending.returned (.tuple #[.int .i64 a, .bool c]) = .returned (.tuple #[.int .i64 b, .bool d]) := by rw [h, h2]

theorem numI_false {s : ByteArray} (h : numOk s.data.toList = false) : numI s = (0, false) := by unfold numI; rw [h]; rfl
theorem numI_true {s : ByteArray} (h : numOk s.data.toList = true) : numI s = (((nval s.data.toList : Nat) : Int), true) := by unfold numI; rw [h]; rfl

theorem ba_len (s : ByteArray) : s.data.toList.length = s.size := by cases s; rfl
theorem ba_head (s : ByteArray) (h : 0 < s.size) : s.data.toList.head? = some s[0] := by
  rw [List.head?_eq_getElem?, List.getElem?_eq_getElem (by rw [ba_len]; exact h)]; rfl

end Go.Proofs.YtgbcdfeflgnogaaGreat

/- within and l1In: a number between two. Conditions: none. -/
namespace Go.Proofs.YtgbcdfeflgnogaaGreat
open Go.RowKit
set_option linter.unusedVariables false

/-- behind draws -/
theorem belowN {B : Nat} {a w : World} (h : Below B a w) (n : Nat) : Below B a (w.drewN n) := ⟨h.os, h.tape, h.output, h.size, h.block⟩

/-- is a number from one on, up to another? -/
def inB (n lo hi : Int) : Bool := decide (lo ≤ n ∧ n ≤ hi)
theorem inB_true {n lo hi : Int} (h : lo ≤ n ∧ n ≤ hi) : inB n lo hi = true := decide_eq_true h
theorem inB_false {n lo hi : Int} (h : ¬ (lo ≤ n ∧ n ≤ hi)) : inB n lo hi = false := decide_eq_false h

theorem implWithin (n lo hi : Int) (w : World) : Calls Tryz.prog 54 #[.int .i64 n, .int .i64 lo, .int .i64 hi] w fun e w' => e = .returned (.bool (inB n lo hi)) ∧ w = w' := by
  by_cases h1 : lo ≤ n
  · by_cases h2 : n ≤ hi
    · go_enter Tryz.func54, Tryz.ntmps54
      go_wp2_with fail
      go_ret
      exact ⟨ret_bool (by rw [inB_true ⟨h1, h2⟩]), rfl⟩
    · have h3 : decide (n ≤ hi) = false := by simpa using h2
      go_enter Tryz.func54, Tryz.ntmps54
      go_wp2_with fail
      go_ret
      exact ⟨ret_bool (by rw [inB_false (by omega)]), rfl⟩
  · have h3 : decide (lo ≤ n) = false := by simpa using h1
    go_enter Tryz.func54, Tryz.ntmps54
    go_wp2_with fail
    go_ret
    exact ⟨ret_bool (by rw [inB_false (by omega)]), rfl⟩

theorem specIn (n lo hi : Int) (w : World) : Calls Tryz.prog 22 #[.int .i64 n, .int .i64 lo, .int .i64 hi] w fun e w' => e = .returned (.bool (inB n lo hi)) ∧ w = w' := by
  by_cases h1 : lo ≤ n
  · by_cases h2 : n ≤ hi
    · go_enter Tryz.func22, Tryz.ntmps22
      go_wp2_with fail
      go_ret
      exact ⟨ret_bool (by rw [inB_true ⟨h1, h2⟩]), rfl⟩
    · have h3 : decide (n ≤ hi) = false := by simpa using h2
      go_enter Tryz.func22, Tryz.ntmps22
      go_wp2_with fail
      go_ret
      exact ⟨ret_bool (by rw [inB_false (by omega)]), rfl⟩
  · have h3 : decide (lo ≤ n) = false := by simpa using h1
    go_enter Tryz.func22, Tryz.ntmps22
    go_wp2_with fail
    go_ret
    exact ⟨ret_bool (by rw [inB_false (by omega)]), rfl⟩
theorem implWithinT (n lo hi : Int) (w : World) (h : lo ≤ n ∧ n ≤ hi) : Calls Tryz.prog 54 #[.int .i64 n, .int .i64 lo, .int .i64 hi] w fun e w' => e = .returned (.bool true) ∧ w' = w :=
  (implWithin n lo hi w).mono fun _ _ ⟨he, hw⟩ => ⟨by rw [he, inB_true h], hw.symm⟩
theorem implWithinF (n lo hi : Int) (w : World) (h : ¬ (lo ≤ n ∧ n ≤ hi)) : Calls Tryz.prog 54 #[.int .i64 n, .int .i64 lo, .int .i64 hi] w fun e w' => e = .returned (.bool false) ∧ w' = w :=
  (implWithin n lo hi w).mono fun _ _ ⟨he, hw⟩ => ⟨by rw [he, inB_false h], hw.symm⟩
theorem specInT (n lo hi : Int) (w : World) (h : lo ≤ n ∧ n ≤ hi) : Calls Tryz.prog 22 #[.int .i64 n, .int .i64 lo, .int .i64 hi] w fun e w' => e = .returned (.bool true) ∧ w' = w :=
  (specIn n lo hi w).mono fun _ _ ⟨he, hw⟩ => ⟨by rw [he, inB_true h], hw.symm⟩
theorem specInF (n lo hi : Int) (w : World) (h : ¬ (lo ≤ n ∧ n ≤ hi)) : Calls Tryz.prog 22 #[.int .i64 n, .int .i64 lo, .int .i64 hi] w fun e w' => e = .returned (.bool false) ∧ w' = w :=
  (specIn n lo hi w).mono fun _ _ ⟨he, hw⟩ => ⟨by rw [he, inB_false h], hw.symm⟩
end Go.Proofs.YtgbcdfeflgnogaaGreat

/- Names: letters, names and cons, in the program and in the reference. Conditions: none. -/
namespace Go.Proofs.YtgbcdfeflgnogaaGreat
open Go.RowKit
set_option linter.unusedVariables false
set_option linter.unusedSimpArgs false
set_option maxHeartbeats 1000000

def smB (c : UInt8) : Bool := decide (97 ≤ c.toNat ∧ c.toNat ≤ 122)
def lgB (c : UInt8) : Bool := decide (65 ≤ c.toNat ∧ c.toNat ≤ 90)
def ltB (c : UInt8) : Bool := smB c || lgB c
def firstB (f : UInt8 → Bool) (s : ByteArray) : Bool := match s.data.toList with | [] => false | c :: _ => f c
def lettersB (f : UInt8 → Bool) (s : ByteArray) : Bool := decide (1 ≤ s.size ∧ s.size ≤ 8) && firstB f s && s.data.toList.all ltB
def nameB (s : ByteArray) : Bool := lettersB smB s && !inStrs kws s
def intS : ByteArray := ⟨#[73, 110, 116]⟩
def conB (s : ByteArray) : Bool := lettersB lgB s && !(s.toList == intS.toList)
theorem firstB_at {f : UInt8 → Bool} {s : ByteArray} (h : 0 < s.size) : firstB f s = f s[0] := by
  have h1 := ba_head s h
  unfold firstB
  cases hl : s.data.toList with
  | nil => rw [hl] at h1; simp at h1
  | cons a r => rw [hl] at h1; simp at h1; simp [h1]


theorem specSmall (c : UInt8) (w : World) : Calls Tryz.prog 41 #[.int .u8 c.toNat] w fun e w' => e = .returned (.bool (smB c)) ∧ w = w' := by
  have hd := Lib.hid (show smB c = decide (97 ≤ c.toNat ∧ c.toNat ≤ 122) from rfl)
  by_cases h1 : 97 ≤ (c.toNat : Int)
  · by_cases h2 : (c.toNat : Int) ≤ 122
    · go_enter Tryz.func41, Tryz.ntmps41
      go_wp2_with fail
      go_ret
      exact ⟨ret_bool (by rw [hd.out, decide_eq_true (by omega)]), rfl⟩
    · have h3 : decide ((c.toNat : Int) ≤ 122) = false := by simpa using h2
      go_enter Tryz.func41, Tryz.ntmps41
      go_wp2_with fail
      go_ret
      exact ⟨ret_bool (by rw [hd.out, decide_eq_false (by omega)]), rfl⟩
  · have h3 : decide (97 ≤ (c.toNat : Int)) = false := by simpa using h1
    go_enter Tryz.func41, Tryz.ntmps41
    go_wp2_with fail
    go_ret
    exact ⟨ret_bool (by rw [hd.out, decide_eq_false (by omega)]), rfl⟩

theorem specLarge (c : UInt8) (w : World) : Calls Tryz.prog 42 #[.int .u8 c.toNat] w fun e w' => e = .returned (.bool (lgB c)) ∧ w = w' := by
  have hd := Lib.hid (show lgB c = decide (65 ≤ c.toNat ∧ c.toNat ≤ 90) from rfl)
  by_cases h1 : 65 ≤ (c.toNat : Int)
  · by_cases h2 : (c.toNat : Int) ≤ 90
    · go_enter Tryz.func42, Tryz.ntmps42
      go_wp2_with fail
      go_ret
      exact ⟨ret_bool (by rw [hd.out, decide_eq_true (by omega)]), rfl⟩
    · have h3 : decide ((c.toNat : Int) ≤ 90) = false := by simpa using h2
      go_enter Tryz.func42, Tryz.ntmps42
      go_wp2_with fail
      go_ret
      exact ⟨ret_bool (by rw [hd.out, decide_eq_false (by omega)]), rfl⟩
  · have h3 : decide (65 ≤ (c.toNat : Int)) = false := by simpa using h1
    go_enter Tryz.func42, Tryz.ntmps42
    go_wp2_with fail
    go_ret
    exact ⟨ret_bool (by rw [hd.out, decide_eq_false (by omega)]), rfl⟩

theorem implSmall (c : UInt8) (w : World) : Calls Tryz.prog 73 #[.int .u8 c.toNat] w fun e w' => e = .returned (.bool (smB c)) ∧ w = w' := by
  have hd := Lib.hid (show smB c = decide (97 ≤ c.toNat ∧ c.toNat ≤ 122) from rfl)
  by_cases h1 : 97 ≤ (c.toNat : Int)
  · by_cases h2 : (c.toNat : Int) ≤ 122
    · go_enter Tryz.func73, Tryz.ntmps73
      go_wp2_with fail
      go_ret
      exact ⟨ret_bool (by rw [hd.out, decide_eq_true (by omega)]), rfl⟩
    · have h3 : decide ((c.toNat : Int) ≤ 122) = false := by simpa using h2
      go_enter Tryz.func73, Tryz.ntmps73
      go_wp2_with fail
      go_ret
      exact ⟨ret_bool (by rw [hd.out, decide_eq_false (by omega)]), rfl⟩
  · have h3 : decide (97 ≤ (c.toNat : Int)) = false := by simpa using h1
    go_enter Tryz.func73, Tryz.ntmps73
    go_wp2_with fail
    go_ret
    exact ⟨ret_bool (by rw [hd.out, decide_eq_false (by omega)]), rfl⟩

theorem implLarge (c : UInt8) (w : World) : Calls Tryz.prog 75 #[.int .u8 c.toNat] w fun e w' => e = .returned (.bool (lgB c)) ∧ w = w' := by
  have hd := Lib.hid (show lgB c = decide (65 ≤ c.toNat ∧ c.toNat ≤ 90) from rfl)
  by_cases h1 : 65 ≤ (c.toNat : Int)
  · by_cases h2 : (c.toNat : Int) ≤ 90
    · go_enter Tryz.func75, Tryz.ntmps75
      go_wp2_with fail
      go_ret
      exact ⟨ret_bool (by rw [hd.out, decide_eq_true (by omega)]), rfl⟩
    · have h3 : decide ((c.toNat : Int) ≤ 90) = false := by simpa using h2
      go_enter Tryz.func75, Tryz.ntmps75
      go_wp2_with fail
      go_ret
      exact ⟨ret_bool (by rw [hd.out, decide_eq_false (by omega)]), rfl⟩
  · have h3 : decide (65 ≤ (c.toNat : Int)) = false := by simpa using h1
    go_enter Tryz.func75, Tryz.ntmps75
    go_wp2_with fail
    go_ret
    exact ⟨ret_bool (by rw [hd.out, decide_eq_false (by omega)]), rfl⟩

theorem implLetter (c : UInt8) (w : World) : Calls Tryz.prog 92 #[.int .u8 c.toNat] w fun e w' => e = .returned (.bool (ltB c)) ∧ w = w' := by
  cases h1 : smB c
  · have HV := Lib.hid (show ltB c = lgB c by unfold ltB; rw [h1]; rfl)
    have HS := Lib.hid (implSmall c w)
    rw [h1] at HS
    clear h1
    go_enter Tryz.func92, Tryz.ntmps92
    go_wp2_with fail
    refine HS.out.mono ?_
    rintro e w1 ⟨rfl, rfl⟩
    go_wp2_with fail
    refine (implLarge c _).mono ?_
    rintro e w1 ⟨rfl, rfl⟩
    go_wp2_with fail
    go_ret
    exact ⟨ret_bool HV.out.symm, rfl⟩
  · have HV := Lib.hid (show ltB c = true by unfold ltB; rw [h1]; rfl)
    have HS := Lib.hid (implSmall c w)
    rw [h1] at HS
    clear h1
    go_enter Tryz.func92, Tryz.ntmps92
    go_wp2_with fail
    refine HS.out.mono ?_
    rintro e w1 ⟨rfl, rfl⟩
    go_wp2_with fail
    go_ret
    exact ⟨ret_bool HV.out.symm, rfl⟩

/-- how many bytes from the first on are of a kind -/
def runN (p : UInt8 → Bool) : List UInt8 → Nat
  | [] => 0
  | c :: r => if p c = true then runN p r + 1 else 0
theorem runN_at {p : UInt8 → Bool} : ∀ {l : List UInt8} {k : Nat}, (l.take k).all p = true → (h : k < l.length) → p l[k] = false → runN p l = k
  | [], k, _, h, _ => by simp at h
  | c :: r, 0, _, _, hp => by simp only [List.getElem_cons_zero] at hp; rw [runN, if_neg (by rw [hp]; simp)]
  | c :: r, k + 1, ha, h, hp => by
    simp only [List.take_succ_cons, List.all_cons, Bool.and_eq_true] at ha
    rw [runN, if_pos ha.1, runN_at ha.2 (by simpa using h) (by simpa using hp)]
theorem runN_all {p : UInt8 → Bool} : ∀ {l : List UInt8}, l.all p = true → runN p l = l.length
  | [], _ => rfl
  | c :: r, h => by
    simp only [List.all_cons, Bool.and_eq_true] at h
    rw [runN, if_pos h.1, runN_all h.2]; rfl
theorem runN_le (p : UInt8 → Bool) : ∀ l : List UInt8, runN p l ≤ l.length
  | [] => Nat.le_refl _
  | c :: r => by
    rw [runN]
    split
    · have := runN_le p r; simp; omega
    · omega
theorem runN_iff {p : UInt8 → Bool} : ∀ {l : List UInt8}, runN p l = l.length ↔ l.all p = true
  | [] => by simp [runN]
  | c :: r => by
    rw [runN, List.all_cons, List.length_cons]
    by_cases h : p c = true
    · rw [if_pos h, h, Bool.true_and, ← runN_iff]; omega
    · rw [if_neg h]
      have : p c = false := by simpa using h
      rw [this]; simp
theorem drop_get (s : ByteArray) (a k : Nat) (h : a + k < s.size) : (s.data.toList.drop a)[k]'(by rw [List.length_drop, ba_len]; omega) = s[a + k] := by
  rw [List.getElem_drop]; rfl
theorem drop_snoc (s : ByteArray) (a k : Nat) (h : a + k < s.size) : (s.data.toList.drop a).take (k + 1) = (s.data.toList.drop a).take k ++ [s[a + k]] := by
  rw [List.take_succ_eq_append_getElem (by rw [List.length_drop, ba_len]; omega), drop_get s a k h]

theorem implRun (K : Nat) (hK : ∀ (args : Array Value) (w : World), (callFunc K args).run Tryz.prog w = .ok (.enter K args) w) (p : UInt8 → Bool) (H : ∀ (c : UInt8) (w : World), Calls Tryz.prog K #[.int .u8 c.toNat] w fun e w' => e = .returned (.bool (p c)) ∧ w = w')
    (s : ByteArray) (a : Nat) (w : World) (ha : a ≤ s.size) (hs : s.size ≤ 9223372036854775807) :
    Calls Tryz.prog 91 #[.string s, .int .i64 (a : Int), .func (.func K) #[] #[]] w fun e w' => e = .returned (.int .i64 (runN p (s.data.toList.drop a) : Nat)) ∧ w = w' := by
  have HH := Lib.hid H
  clear H
  go_enter Tryz.func91, Tryz.ntmps91
  go_wp2_with fail
  go_loop [7] (fun n => ∃ k : Nat, a + k ≤ s.size ∧ n = .int .i64 k ∧ Hid (((s.data.toList.drop a).take k).all p = true)) (fun n => s.size - (intOf n).toNat)
  case atStart => exact ⟨0, by omega, by go_num, Lib.hid (by simp)⟩
  case round =>
    obtain ⟨k, hk, rfl, HA⟩ := hrel
    by_cases hlt : a + k < s.size
    · have hlt' : (a : Int) + (k : Int) < s.size := by omega
      have HSN := Lib.hid (drop_snoc s a k hlt)
      have HG := Lib.hid (drop_get s a k hlt)
      have HL := Lib.hid (show k < (s.data.toList.drop a).length by rw [List.length_drop, ba_len]; omega)
      cases hp : p s[a + k]
      · have HV := Lib.hid (runN_at HA.out HL.out (by rw [HG.out]; exact hp))
        have HC := Lib.hid (HH.out s[a + k] w)
        rw [hp] at HC
        clear hp
        go_wp2_with fail
        refine HC.out.mono ?_
        rintro e w1 ⟨rfl, rfl⟩
        go_wp2_with fail
        go_ret
        exact ⟨ret_int (by rw [HV.out]), rfl⟩
      · have HA2 := Lib.hid (show ((s.data.toList.drop a).take (k + 1)).all p = true by rw [HSN.out, List.all_append, HA.out]; simp [hp])
        have HC := Lib.hid (HH.out s[a + k] w)
        rw [hp] at HC
        clear hp
        go_wp2_with fail
        refine HC.out.mono ?_
        rintro e w1 ⟨rfl, rfl⟩
        go_wp2_with fail
        go_round
        case rel => exact ⟨k + 1, by omega, by go_num, HA2⟩
        case measure => simp [intOf]; omega
    · have HV := Lib.hid (show runN p (s.data.toList.drop a) = k by
        have h1 := HA.out
        have hl : (s.data.toList.drop a).length = k := by rw [List.length_drop, ba_len]; omega
        rw [List.take_of_length_le (by omega)] at h1
        rw [runN_all h1, hl])
      have hlt' : decide ((a : Int) + (k : Int) < s.size) = false := by simp; omega
      go_wp2_with fail
      go_ret
      exact ⟨ret_int (by rw [HV.out]), rfl⟩
end Go.Proofs.YtgbcdfeflgnogaaGreat
