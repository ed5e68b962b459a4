/- Plain laws on decimal digits: what Number makes of Digits, and the other way round. Conditions: none. -/
import Derived.Test.YtdcchfpgpdekmaaNumP
namespace Go.Proofs.Ytdcchfpgpdekmaa
open Go.RowKit
set_option linter.unusedVariables false
set_option linter.unusedSimpArgs false

theorem digU_list (k : Nat) : ∀ n : Nat, n < k → (digU n).data.toList.all isDig = true ∧ nval (digU n).data.toList = n ∧ 1 ≤ (digU n).data.toList.length := by
  have hone : ∀ d : Nat, d < 10 → (one (48 + (d : Int))).data.toList = [UInt8.ofNat (48 + d)] ∧ isDig (UInt8.ofNat (48 + d)) = true ∧ (UInt8.ofNat (48 + d)).toNat = 48 + d := by
    intro d hd
    have e : (48 + (d : Int)).toNat = 48 + d := by omega
    have e2 : (UInt8.ofNat (48 + d)).toNat = 48 + d := by simp; omega
    refine ⟨by unfold one; rw [e], ?_, e2⟩
    unfold isDig
    rw [e2]
    exact decide_eq_true (by omega)
  induction k with
  | zero => intro n h; omega
  | succ k ih =>
    intro n h
    by_cases h10 : n < 10
    · obtain ⟨e1, e2, e3⟩ := hone n h10
      rw [digU_lt h10, e1]
      generalize UInt8.ofNat (48 + n) = d at *
      refine ⟨by simp [e2], ?_, by simp⟩
      simp only [nval, List.foldl_cons, List.foldl_nil, e3]
      omega
    · obtain ⟨e1, e2, e3⟩ := hone (n % 10) (by omega)
      obtain ⟨h1, h2, h3⟩ := ih (n / 10) (by omega)
      rw [digU_ge (by omega)]
      simp only [ByteArray.data_append, Array.toList_append]
      rw [e1]
      generalize UInt8.ofNat (48 + n % 10) = d at *
      refine ⟨by rw [List.all_append, h1]; simp [e2], ?_, by simp⟩
      rw [nval_snoc, h2, e3]
      omega

theorem numI_digI (n : Int) : (numI (digI n)).2 = decide (0 ≤ n ∧ n ≤ 1073741823) ∧ (0 ≤ n ∧ n ≤ 1073741823 → (numI (digI n)).1 = n) := by
  by_cases h0 : n < 0
  · have e : (digI n).data.toList.all isDig = false := by
      unfold digI
      rw [if_pos h0]
      simp only [ByteArray.data_append, Array.toList_append, List.all_append]
      have : (List.all [(45 : UInt8)] isDig) = false := by decide
      show (List.all [(45 : UInt8)] isDig && _) = false
      rw [this]; rfl
    have e2 : numOk (digI n).data.toList = false := by unfold numOk; rw [e]; simp
    refine ⟨?_, fun h => absurd h.1 (by omega)⟩
    unfold numI
    rw [e2, decide_eq_false (by omega)]; rfl
  · obtain ⟨h1, h2, h3⟩ := digU_list (n.toNat + 1) n.toNat (by omega)
    have ed : digI n = digU n.toNat := by unfold digI; rw [if_neg h0]
    rw [ed]
    by_cases hb : n ≤ 1073741823
    · have hl : (digU n.toNat).data.toList.length ≤ 10 := digU_size 9 n.toNat (by omega)
      have hh : ((digU n.toNat).data.toList.head? == some 48 && decide (1 < (digU n.toNat).data.toList.length)) = false := by
        rcases Nat.eq_zero_or_pos n.toNat with hz | hz
        · rw [hz, digU_lt (by omega)]; rfl
        · have := (digU_head (n.toNat + 1) n.toNat (by omega) hz).1
          have h5 : ((digU n.toNat).data.toList.head? == some 48) = false := by rw [beq_eq_false_iff_ne]; exact this
          rw [h5]; rfl
      have e2 : numOk (digU n.toNat).data.toList = true := by
        unfold numOk
        rw [h1, h2, hh, decide_eq_true (by omega), decide_eq_true (by omega)]; rfl
      unfold numI
      rw [e2, decide_eq_true (by omega), h2]
      refine ⟨rfl, fun _ => ?_⟩
      show ((n.toNat : Nat) : Int) = n
      omega
    · have e2 : numOk (digU n.toNat).data.toList = false := by
        unfold numOk
        rw [h2, decide_eq_false (p := n.toNat ≤ 1073741823) (by omega)]
        simp
      unfold numI
      rw [e2, decide_eq_false (by omega)]
      exact ⟨rfl, fun h => absurd h.2 (by omega)⟩

theorem digI_numI (s : ByteArray) : ((numI s).2 = false → (numI s).1 = 0) ∧ ((numI s).2 = true → digI (numI s).1 = s) := by
  cases h : numOk s.data.toList
  · unfold numI
    rw [h]
    exact ⟨fun _ => rfl, fun h => (by cases h)⟩
  · unfold numI
    rw [h]
    refine ⟨fun h => (by cases h), fun _ => ?_⟩
    show digI ((nval s.data.toList : Nat) : Int) = s
    unfold numOk at h
    simp only [Bool.and_eq_true, decide_eq_true_eq, Bool.not_eq_true'] at h
    obtain ⟨⟨h1, h2⟩, h3, h4, h5⟩ := h
    have hne : s.data.toList ≠ [] := fun e => by rw [e] at h1; simp at h1
    have := (digU_nval_iff s.data.toList hne h4).2 (fun ⟨g1, g2⟩ => by rw [g1, decide_eq_true g2] at h3; cases h3)
    unfold digI
    rw [if_neg (by omega)]
    have e : ((nval s.data.toList : Nat) : Int).toNat = nval s.data.toList := by omega
    rw [e, this]

theorem roundI_ok (n : Int) : -1073741824 ≤ roundI n ∧ roundI n ≤ 1073741823 := by
  unfold roundI; split <;> omega
theorem roundI_id (n : Int) : roundI n = n ↔ -1073741824 ≤ n ∧ n ≤ 1073741823 := by
  unfold roundI; split <;> omega
theorem numI_cases (n : Int) : (numI (digI n) = (n, true) ∧ (-1073741824 ≤ n ∧ n ≤ 1073741823) ∧ 0 ≤ n) ∨ ((∃ x, numI (digI n) = (x, false)) ∧ (-1073741824 ≤ n ∧ n ≤ 1073741823) ∧ ¬ 0 ≤ n) ∨ ((∃ x, numI (digI n) = (x, false)) ∧ ¬ (-1073741824 ≤ n ∧ n ≤ 1073741823)) := by
  obtain ⟨h1, h2⟩ := numI_digI n
  by_cases h : 0 ≤ n ∧ n ≤ 1073741823
  · rw [decide_eq_true h] at h1
    exact .inl ⟨Prod.ext (h2 h) h1, by omega, h.1⟩
  · rw [decide_eq_false h] at h1
    by_cases h3 : -1073741824 ≤ n ∧ n ≤ 1073741823
    · exact .inr (.inl ⟨⟨_, Prod.ext rfl h1⟩, h3, by omega⟩)
    · exact .inr (.inr ⟨⟨_, Prod.ext rfl h1⟩, h3⟩)

theorem numI_back (s : ByteArray) : numI s = (0, false) ∨ ∃ y : Int, numI s = (y, true) ∧ digI y = s ∧ 0 ≤ y ∧ y ≤ 1073741823 := by
  obtain ⟨h1, h2⟩ := digI_numI s
  cases h : numOk s.data.toList
  · left; unfold numI; rw [h]; rfl
  · right
    have e : numI s = (((nval s.data.toList : Nat) : Int), true) := by unfold numI; rw [h]; rfl
    rw [e] at h2
    refine ⟨_, e, h2 rfl, by omega, ?_⟩
    unfold numOk at h
    simp only [Bool.and_eq_true, decide_eq_true_eq] at h
    have := h.2.2.2
    omega

end Go.Proofs.Ytdcchfpgpdekmaa
