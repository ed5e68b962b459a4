/- Plain facts on numbers and their decimal digits (no program in sight). Conditions: none. -/
import Derived.WalkKit
namespace Go.Proofs.Ytgbcdfeflgnogaa
open Go.RowKit

/-- what Round gives -/
def roundI (n : Int) : Int := if 1073741823 < n % 2147483648 then n % 2147483648 - 2147483648 else n % 2147483648

theorem i64_and31 (n : Int) : bits .and .i64 n 2147483647 = n % 2147483648 := by
  have h127 : (BitVec.ofInt 64 2147483647).toNat = 2 ^ 31 - 1 := by decide
  have key : (BitVec.ofInt 64 n &&& BitVec.ofInt 64 2147483647).toNat = (n % ((2 ^ 64 : Nat) : Int)).toNat % 2 ^ 31 := by
    rw [BitVec.toNat_and, BitVec.toNat_ofInt, h127, Nat.and_two_pow_sub_one_eq_mod]
  show IntKind.i64.wrap ((BitVec.ofInt 64 n &&& BitVec.ofInt 64 2147483647).toNat : Nat) = n % 2147483648
  rw [key, IntKind.wrap_i64]
  omega

theorem tmod31 (n : Int) : (0 ≤ n → n.tmod 2147483648 = n % 2147483648) ∧ (n < 0 → n.tmod 2147483648 = - ((-n) % 2147483648)) := by
  constructor
  · intro h; exact Int.tmod_eq_emod_of_nonneg h
  · intro h
    have e : n.tmod 2147483648 = -((-n).tmod 2147483648) := by rw [Int.neg_tmod]; omega
    rw [e, Int.tmod_eq_emod_of_nonneg (by omega)]

theorem tmod10 (n : Int) : (0 ≤ n → n.tmod 10 = n % 10) ∧ (n < 0 → n.tmod 10 = - ((-n) % 10)) := by
  constructor
  · intro h; exact Int.tmod_eq_emod_of_nonneg h
  · intro h
    have e : n.tmod 10 = -((-n).tmod 10) := by rw [Int.neg_tmod]; omega
    rw [e, Int.tmod_eq_emod_of_nonneg (by omega)]

theorem tdiv10 (n : Int) : (0 ≤ n → n.tdiv 10 = n / 10) ∧ (n < 0 → n.tdiv 10 = - ((-n) / 10)) := by
  constructor
  · intro h; exact Int.tdiv_eq_ediv_of_nonneg h
  · intro h
    have e : n.tdiv 10 = -((-n).tdiv 10) := by rw [Int.neg_tdiv]; omega
    rw [e, Int.tdiv_eq_ediv_of_nonneg (by omega)]

/-- one byte as a string -/
def one (x : Int) : ByteArray := ⟨#[UInt8.ofNat x.toNat]⟩

/-- the decimal digits of a number that is not below 0 -/
def digU (n : Nat) : ByteArray := if h : n < 10 then one (48 + n) else digU (n / 10) ++ one (48 + (n % 10 : Nat))
termination_by n
decreasing_by omega

theorem digU_lt {n : Nat} (h : n < 10) : digU n = one (48 + n) := by rw [digU, dif_pos h]
theorem digU_ge {n : Nat} (h : 10 ≤ n) : digU n = digU (n / 10) ++ one (48 + (n % 10 : Nat)) := by rw [digU, dif_neg (by omega)]

/-- what Digits gives -/
def digI (n : Int) : ByteArray := if n < 0 then ⟨#[45]⟩ ++ digU (-n).toNat else digU n.toNat

@[go_sem] theorem one_size (x : Int) : (one x).size = 1 := rfl

theorem digU_size (k : Nat) : ∀ n : Nat, n < 10 ^ (k + 1) → (digU n).size ≤ k + 1 := by
  induction k with
  | zero => intro n h; rw [digU_lt (by omega)]; simp [one_size]
  | succ k ih =>
    intro n h
    by_cases h10 : n < 10
    · rw [digU_lt h10]; simp [one_size]
    · rw [digU_ge (by omega), ByteArray.size_append', one_size]
      have := ih (n / 10) (by rw [Nat.pow_succ] at h; omega)
      omega

theorem digU_size19 (n : Nat) (h : n ≤ 9223372036854775808) : (digU n).size ≤ 19 := digU_size 18 n (by omega)

/-- the digits met from the right: those of a, then s -/
def digR (a : Nat) (s : ByteArray) : ByteArray := if a = 0 then s else digU a ++ s

theorem digR_zero (s : ByteArray) : digR 0 s = s := rfl
theorem digR_start {a : Nat} (h : a ≠ 0) : digR a ⟨#[]⟩ = digU a := by
  unfold digR; rw [if_neg h]; apply ByteArray.ext; simp [ByteArray.data_append]

theorem ba_assoc (a b c : ByteArray) : a ++ b ++ c = a ++ (b ++ c) := by
  apply ByteArray.ext; simp [ByteArray.data_append]

theorem digR_step {a : Nat} (h : a ≠ 0) (s : ByteArray) : digR (a / 10) (one (48 + (a % 10 : Nat)) ++ s) = digR a s := by
  unfold digR
  rw [if_neg h]
  by_cases h10 : a < 10
  · rw [if_pos (by omega), digU_lt h10, Nat.mod_eq_of_lt h10]
  · rw [if_neg (by omega), digU_ge (n := a) (by omega), ba_assoc]

theorem digR_size (a : Nat) (s : ByteArray) : s.size ≤ (digR a s).size := by
  unfold digR
  split
  · exact Nat.le_refl _
  · rw [ByteArray.size_append']; omega

theorem encode_one {r : Int} (h0 : 0 ≤ r) (h1 : r < 128) : Utf8.encode r = one r := by
  have hv : Utf8.valid r = true := by simp [Utf8.valid]; omega
  unfold Utf8.encode one
  simp only [hv, if_true]
  rw [if_pos (by omega)]

/-- a slice of one byte that was just made, as a string -/
theorem run_string_one {P : Program} (w : World) (src dst e : TypeId) (x : Int) (hs : P.underlying src = some (.slice e)) (he : P.underlying e = some (.int .u8)) (hd : P.underlying dst = some .string) :
    (convert src dst (.slice (some ⟨w.heap.size, 0, none⟩) 1 1)).run P (w.alloc (.cells #[.int .u8 x] e)) = .ok (.string (one x)) (w.alloc (.cells #[.int .u8 x] e)) := by
  rw [run_convert_bytes_string _ src dst e (some ⟨w.heap.size, 0, none⟩) 1 1 hs he hd]
  have hl := run_loadCells_list (P := P) (w.alloc (.cells #[.int .u8 x] e)) ⟨w.heap.size, 0, none⟩ [.int .u8 x] (fun j v hj => by
    match j with
    | 0 =>
      have hv : Value.int .u8 x = v := by simpa using hj
      rw [← hv]
      show (w.alloc _).cell? ⟨w.heap.size, 0 + 0, none⟩ = _
      rw [World.cell?_alloc_at _ _ _ _ rfl]; rfl
    | j + 1 => simp at hj)
  rw [run_bytesToString _ _ 1 1 [x] (by simpa using hl)]
  rfl

theorem run_string_one_at {P : Program} (w : World) (src dst e : TypeId) (x : Int) (hs : P.underlying src = some (.slice e)) (he : P.underlying e = some (.int .u8)) (hd : P.underlying dst = some .string) (g : Nat) (hg : g = w.heap.size) :
    (convert src dst (.slice (some ⟨g, 0, none⟩) 1 1)).run P (w.alloc (.cells #[.int .u8 x] e)) = .ok (.string (one x)) (w.alloc (.cells #[.int .u8 x] e)) := by
  subst hg; exact run_string_one w src dst e x hs he hd

theorem ret_int {k : IntKind} {a b : Int} (h : a = b) : Ending.returned (.int k a) = .returned (.int k b) := by rw [h]
theorem ret_str {a b : ByteArray} (h : a = b) : Ending.returned (.string a) = .returned (.string b) := by rw [h]
theorem ret_bool {a b : Bool} (h : a = b) : Ending.returned (.bool a) = .returned (.bool b) := by rw [h]
theorem wf64 {a : Int} (h : (Lit.int .i64 a).wf = true) : -9223372036854775808 ≤ a ∧ a ≤ 9223372036854775807 := by
  simpa [Lit.wf, IntKind.min, IntKind.max, IntKind.signed, IntKind.bits] using h

end Go.Proofs.Ytgbcdfeflgnogaa
