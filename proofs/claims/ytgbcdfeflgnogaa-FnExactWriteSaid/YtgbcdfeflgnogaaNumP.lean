/- Plain facts on digits that are read (no program in sight). Conditions: none. -/
import Derived.Test.YtgbcdfeflgnogaaPw
namespace Go.Proofs.Ytgbcdfeflgnogaa
open Go.RowKit
set_option linter.unusedVariables false

/-- what digits come to -/
def nval (l : List UInt8) : Nat := l.foldl (fun n c => 10 * n + (c.toNat - 48)) 0
def isDig (c : UInt8) : Bool := decide (48 ≤ c.toNat ∧ c.toNat ≤ 57)

theorem nval_snoc (l : List UInt8) (c : UInt8) : nval (l ++ [c]) = 10 * nval l + (c.toNat - 48) := by simp [nval]

theorem nval_lt (n : Nat) : ∀ l : List UInt8, l.length = n → l.all isDig = true → nval l < 10 ^ n := by
  induction n with
  | zero => intro l h _; rw [List.eq_nil_of_length_eq_zero h]; simp [nval]
  | succ n ih =>
    intro l h hd
    have hne : l ≠ [] := by intro e; rw [e] at h; simp at h
    have e := List.dropLast_concat_getLast hne
    rw [← e] at hd ⊢
    rw [List.all_append, Bool.and_eq_true] at hd
    have h1 := ih l.dropLast (by simp [h]) hd.1
    have h2 : isDig (l.getLast hne) = true := by simpa using hd.2
    unfold isDig at h2
    have h3 := of_decide_eq_true h2
    rw [nval_snoc, Nat.pow_succ]
    omega

theorem one_dig (c : UInt8) (h : isDig c = true) : one (48 + ((c.toNat - 48 : Nat) : Int)) = ⟨#[c]⟩ := by
  have h3 := of_decide_eq_true h
  unfold one
  have e : (48 + ((c.toNat - 48 : Nat) : Int)).toNat = c.toNat := by omega
  rw [e]
  simp

theorem ba_toList_one (c : UInt8) : (ByteArray.mk #[c]).data.toList = [c] := rfl

/-- the digits of what digits come to are those digits, unless there is a zero too many ahead -/
theorem digU_nval (n : Nat) : ∀ l : List UInt8, l.length = n + 1 → l.all isDig = true → (l.head? ≠ some 48 ∨ n = 0) → digU (nval l) = ⟨l.toArray⟩ ∧ (l.head? ≠ some 48 → 0 < nval l) := by
  induction n with
  | zero =>
    intro l h hd _
    match l, h with
    | [c], _ =>
      have hc : isDig c = true := by simpa using hd
      have h3 := of_decide_eq_true hc
      have e : nval [c] = c.toNat - 48 := by simp [nval]
      refine ⟨?_, fun hh => ?_⟩
      · rw [e, digU_lt (by omega), one_dig c hc]
      · rw [e]
        rcases Nat.lt_or_ge 48 c.toNat with h4 | h4
        · omega
        · have : c.toNat = 48 := by omega
          exact absurd (by simp; exact UInt8.toNat_inj.1 this) hh
  | succ n ih =>
    intro l h hd hz
    have hne : l ≠ [] := by intro e; rw [e] at h; simp at h
    have e := List.dropLast_concat_getLast hne
    have hhead : l.dropLast.head? = l.head? := by
      match l, h with
      | a :: b :: r, _ => simp [List.dropLast]
    have hz' : l.head? ≠ some 48 := by rcases hz with hz | hz; exact hz; omega
    rw [← e] at hd
    rw [List.all_append, Bool.and_eq_true] at hd
    obtain ⟨h1, h2⟩ := ih l.dropLast (by simp [h]) hd.1 (.inl (by rw [hhead]; exact hz'))
    have h2 := h2 (by rw [hhead]; exact hz')
    have h4 : isDig (l.getLast hne) = true := by simpa using hd.2
    have h3 := of_decide_eq_true h4
    have ev : nval l = 10 * nval l.dropLast + ((l.getLast hne).toNat - 48) := by rw [← nval_snoc, e]
    refine ⟨?_, fun _ => by omega⟩
    rw [ev, digU_ge (by omega)]
    have e1 : (10 * nval l.dropLast + ((l.getLast hne).toNat - 48)) / 10 = nval l.dropLast := by omega
    have e2 : (10 * nval l.dropLast + ((l.getLast hne).toNat - 48)) % 10 = (l.getLast hne).toNat - 48 := by omega
    rw [e1, e2, h1, one_dig _ h4]
    apply ByteArray.ext
    simp only [ByteArray.data_append]
    conv => rhs; rw [← e]
    simp

/-- the first digit is none too many -/
theorem digU_head (k : Nat) : ∀ n : Nat, n < k → 0 < n → (digU n).data.toList.head? ≠ some 48 ∧ (digU n).data.toList ≠ [] := by
  induction k with
  | zero => intro n h; omega
  | succ k ih =>
    intro n h h0
    by_cases h10 : n < 10
    · rw [digU_lt h10]
      have e : (one (48 + (n : Int))).data.toList = [UInt8.ofNat (48 + n)] := by
        unfold one
        have : (48 + (n : Int)).toNat = 48 + n := by omega
        rw [this]
      rw [e]
      refine ⟨fun hh => ?_, by simp⟩
      simp only [List.head?_cons, Option.some.injEq] at hh
      have := congrArg UInt8.toNat hh
      simp at this
      omega
    · rw [digU_ge (by omega)]
      obtain ⟨h1, h2⟩ := ih (n / 10) (by omega) (by omega)
      simp only [ByteArray.data_append, Array.toList_append]
      refine ⟨?_, by simp [h2]⟩
      obtain ⟨c, r, e⟩ := List.exists_cons_of_ne_nil h2
      rw [e] at h1 ⊢
      simpa using h1

theorem digU_nval_iff (l : List UInt8) (hl : l ≠ []) (hd : l.all isDig = true) : digU (nval l) = ⟨l.toArray⟩ ↔ ¬ (l.head? = some 48 ∧ 1 < l.length) := by
  have hlen : 0 < l.length := List.length_pos_iff.2 hl
  constructor
  · intro h ⟨h1, h2⟩
    have hdata : (digU (nval l)).data.toList = l := by rw [h]
    rcases Nat.eq_zero_or_pos (nval l) with h0 | h0
    · rw [h0, digU_lt (by omega)] at hdata
      have : (one (48 + ((0 : Nat) : Int))).data.toList.length = l.length := by rw [hdata]
      have e1 : (one (48 + ((0 : Nat) : Int))).data.toList.length = 1 := rfl
      omega
    · have := (digU_head (nval l + 1) (nval l) (by omega) h0).1
      rw [hdata] at this
      exact this h1
  · intro h
    refine (digU_nval (l.length - 1) l (by omega) hd ?_).1
    by_cases h1 : l.head? = some 48
    · right
      rcases Nat.lt_or_ge 1 l.length with h2 | h2
      · exact absurd ⟨h1, h2⟩ h
      · omega
    · exact .inl h1

/-- what Number gives -/
def numOk (l : List UInt8) : Bool := decide (1 ≤ l.length ∧ l.length ≤ 10) && (!(l.head? == some 48 && decide (1 < l.length)) && (l.all isDig && decide (nval l ≤ 1073741823)))
def numI (s : ByteArray) : Int × Bool := if numOk s.data.toList then (((nval s.data.toList : Nat) : Int), true) else (0, false)

theorem nval_lt10 (l : List UInt8) (h : l.length ≤ 10) (hd : l.all isDig = true) : nval l < 10000000000 := by
  have h1 := nval_lt l.length l rfl hd
  have h2 : 10 ^ l.length ≤ 10 ^ 10 := Nat.pow_le_pow_right (by omega) h
  omega

theorem take_snoc_b (s : ByteArray) (k : Nat) (h : k < s.size) : s.data.toList.take (k + 1) = s.data.toList.take k ++ [s[k]] := by
  rw [List.take_succ_eq_append_getElem (by simpa using h)]; rfl

theorem all_take_false {l : List UInt8} {k : Nat} (h : k < l.length) (hd : isDig l[k] = false) : l.all isDig = false := by
  rw [← Bool.not_eq_true]; intro hh
  have := List.all_eq_true.1 hh _ (List.getElem_mem h)
  rw [hd] at this; cases this

end Go.Proofs.Ytgbcdfeflgnogaa
