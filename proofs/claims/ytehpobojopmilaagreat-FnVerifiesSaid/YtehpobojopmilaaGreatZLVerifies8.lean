/- Texts of the claim LVerifies in one: EvV Pw. Conditions: none but bounds on sizes. -/
import Derived.Test.YtehpobojopmilaaGreatZLVerifies1
import Derived.Test.YtehpobojopmilaaGreatZLVerifies2
import Derived.Test.YtehpobojopmilaaGreatZLVerifies3
import Derived.Test.YtehpobojopmilaaGreatZLVerifies4
import Derived.Test.YtehpobojopmilaaGreatZLVerifies5
import Derived.Test.YtehpobojopmilaaGreatZLVerifies6
import Derived.Test.YtehpobojopmilaaGreatZLVerifies7
import Derived.WalkKit
namespace Go.Proofs.YtehpobojopmilaaGreat
set_option maxRecDepth 20000
set_option linter.unusedVariables false
set_option linter.unusedSimpArgs false
set_option maxRecDepth 1000000
def PrgE (s : ByteArray) : Prop := ∃ tx : Ev.Tx, s = ⟨⟨Ev.txL tx 0 tx.n⟩⟩ ∧ Txt4 tx
def evp0 : ByteArray := ⟨#[100, 97, 116, 97, 32, 76, 105, 115, 116, 32, 97, 32, 61, 32, 78, 105, 108, 32, 124, 32, 67, 111, 110, 115, 32, 97, 32, 40, 76, 105, 115, 116, 32, 97, 41, 59, 10, 114, 101, 99, 32, 109, 97, 112, 32, 102, 32, 61, 32, 102, 117, 110, 32, 108, 32, 45, 62, 32, 99, 97, 115, 101, 32, 108, 32, 111, 102, 32, 123, 32, 78, 105, 108, 32, 45, 62, 32, 78, 105, 108, 59, 32, 67, 111, 110, 115, 32, 120, 32, 116, 32, 45, 62, 32, 67, 111, 110, 115, 32, 40, 102, 32, 120, 41, 32, 40, 109, 97, 112, 32, 102, 32, 116, 41, 32, 125, 32, 105, 110, 10, 114, 101, 99, 32, 115, 117, 109, 32, 108, 32, 61, 32, 99, 97, 115, 101, 32, 108, 32, 111, 102, 32, 123, 32, 78, 105, 108, 32, 45, 62, 32, 48, 59, 32, 67, 111, 110, 115, 32, 120, 32, 116, 32, 45, 62, 32, 120, 32, 43, 32, 115, 117, 109, 32, 116, 32, 125, 32, 105, 110, 10, 115, 117, 109, 32, 40, 109, 97, 112, 32, 40, 102, 117, 110, 32, 120, 32, 45, 62, 32, 120, 32, 42, 32, 120, 41, 32, 40, 67, 111, 110, 115, 32, 49, 32, 40, 67, 111, 110, 115, 32, 50, 32, 40, 67, 111, 110, 115, 32, 51, 32, 78, 105, 108, 41, 41, 41, 41, 10]⟩
def evp1 : ByteArray := ⟨#[100, 97, 116, 97, 32, 80, 97, 105, 114, 32, 97, 32, 98, 32, 61, 32, 80, 97, 105, 114, 32, 97, 32, 98, 59, 10, 100, 97, 116, 97, 32, 66, 111, 111, 108, 32, 61, 32, 84, 114, 117, 101, 32, 124, 32, 70, 97, 108, 115, 101, 59, 10, 108, 101, 116, 32, 105, 100, 32, 61, 32, 102, 117, 110, 32, 120, 32, 45, 62, 32, 120, 32, 105, 110, 10, 108, 101, 116, 32, 112, 32, 61, 32, 80, 97, 105, 114, 32, 40, 105, 100, 32, 51, 41, 32, 40, 105, 100, 32, 84, 114, 117, 101, 41, 32, 105, 110, 10, 99, 97, 115, 101, 32, 112, 32, 111, 102, 32, 123, 32, 80, 97, 105, 114, 32, 110, 32, 84, 114, 117, 101, 32, 45, 62, 32, 112, 117, 116, 32, 40, 110, 32, 43, 32, 49, 41, 59, 32, 80, 97, 105, 114, 32, 95, 32, 70, 97, 108, 115, 101, 32, 45, 62, 32, 48, 32, 125, 10]⟩
def evp2 : ByteArray := ⟨#[114, 101, 99, 32, 102, 97, 99, 116, 32, 110, 32, 61, 32, 105, 102, 32, 110, 32, 116, 104, 101, 110, 32, 110, 32, 42, 32, 102, 97, 99, 116, 32, 40, 110, 32, 45, 32, 49, 41, 32, 101, 108, 115, 101, 32, 49, 32, 105, 110, 10, 108, 101, 116, 32, 120, 32, 61, 32, 112, 117, 116, 32, 40, 102, 97, 99, 116, 32, 53, 41, 32, 105, 110, 10, 102, 97, 99, 116, 32, 50, 48, 10]⟩
def evp3 : ByteArray := ⟨#[100, 97, 116, 97, 32, 84, 114, 101, 101, 32, 61, 32, 76, 101, 97, 102, 32, 124, 32, 78, 111, 100, 101, 32, 84, 114, 101, 101, 32, 73, 110, 116, 32, 84, 114, 101, 101, 59, 10, 114, 101, 99, 32, 105, 110, 115, 32, 120, 32, 61, 32, 102, 117, 110, 32, 116, 32, 45, 62, 32, 99, 97, 115, 101, 32, 116, 32, 111, 102, 32, 123, 32, 76, 101, 97, 102, 32, 45, 62, 32, 78, 111, 100, 101, 32, 76, 101, 97, 102, 32, 120, 32, 76, 101, 97, 102, 59, 32, 78, 111, 100, 101, 32, 108, 32, 121, 32, 114, 32, 45, 62, 32, 105, 102, 32, 120, 32, 60, 32, 121, 32, 116, 104, 101, 110, 32, 78, 111, 100, 101, 32, 40, 105, 110, 115, 32, 120, 32, 108, 41, 32, 121, 32, 114, 32, 101, 108, 115, 101, 32, 78, 111, 100, 101, 32, 108, 32, 121, 32, 40, 105, 110, 115, 32, 120, 32, 114, 41, 32, 125, 32, 105, 110, 10, 114, 101, 99, 32, 119, 97, 108, 107, 32, 116, 32, 61, 32, 99, 97, 115, 101, 32, 116, 32, 111, 102, 32, 123, 32, 76, 101, 97, 102, 32, 45, 62, 32, 48, 59, 32, 78, 111, 100, 101, 32, 108, 32, 121, 32, 114, 32, 45, 62, 32, 108, 101, 116, 32, 97, 32, 61, 32, 119, 97, 108, 107, 32, 108, 32, 105, 110, 32, 108, 101, 116, 32, 98, 32, 61, 32, 112, 117, 116, 32, 121, 32, 105, 110, 32, 97, 32, 43, 32, 119, 97, 108, 107, 32, 114, 32, 43, 32, 49, 32, 125, 32, 105, 110, 10, 119, 97, 108, 107, 32, 40, 105, 110, 115, 32, 51, 32, 40, 105, 110, 115, 32, 57, 32, 40, 105, 110, 115, 32, 49, 32, 40, 105, 110, 115, 32, 53, 32, 76, 101, 97, 102, 41, 41, 41, 41, 10]⟩
def evp4 : ByteArray := ⟨#[100, 97, 116, 97, 32, 79, 112, 116, 32, 97, 32, 61, 32, 78, 111, 110, 101, 32, 124, 32, 83, 111, 109, 101, 32, 97, 59, 10, 100, 97, 116, 97, 32, 76, 105, 115, 116, 32, 97, 32, 61, 32, 78, 105, 108, 32, 124, 32, 67, 111, 110, 115, 32, 97, 32, 40, 76, 105, 115, 116, 32, 97, 41, 59, 10, 114, 101, 99, 32, 102, 105, 110, 100, 32, 107, 32, 61, 32, 102, 117, 110, 32, 108, 32, 45, 62, 32, 99, 97, 115, 101, 32, 108, 32, 111, 102, 32, 123, 32, 78, 105, 108, 32, 45, 62, 32, 78, 111, 110, 101, 59, 32, 67, 111, 110, 115, 32, 40, 83, 111, 109, 101, 32, 120, 41, 32, 116, 32, 45, 62, 32, 105, 102, 32, 120, 32, 61, 61, 32, 107, 32, 116, 104, 101, 110, 32, 83, 111, 109, 101, 32, 120, 32, 101, 108, 115, 101, 32, 102, 105, 110, 100, 32, 107, 32, 116, 59, 32, 67, 111, 110, 115, 32, 78, 111, 110, 101, 32, 116, 32, 45, 62, 32, 102, 105, 110, 100, 32, 107, 32, 116, 32, 125, 32, 105, 110, 10, 99, 97, 115, 101, 32, 102, 105, 110, 100, 32, 50, 32, 40, 67, 111, 110, 115, 32, 78, 111, 110, 101, 32, 40, 67, 111, 110, 115, 32, 40, 83, 111, 109, 101, 32, 50, 41, 32, 78, 105, 108, 41, 41, 32, 111, 102, 32, 123, 32, 78, 111, 110, 101, 32, 45, 62, 32, 48, 59, 32, 83, 111, 109, 101, 32, 50, 32, 45, 62, 32, 50, 50, 59, 32, 83, 111, 109, 101, 32, 110, 32, 45, 62, 32, 110, 32, 125, 10]⟩
def evp5 : ByteArray := ⟨#[114, 101, 99, 32, 108, 111, 111, 112, 32, 110, 32, 61, 32, 105, 102, 32, 110, 32, 116, 104, 101, 110, 32, 108, 111, 111, 112, 32, 40, 110, 32, 45, 32, 49, 41, 32, 101, 108, 115, 101, 32, 55, 32, 105, 110, 32, 108, 111, 111, 112, 32, 54, 48, 10]⟩
def evp6 : ByteArray := ⟨#[100, 97, 116, 97, 32, 78, 97, 116, 32, 61, 32, 90, 32, 124, 32, 83, 32, 78, 97, 116, 59, 10, 114, 101, 99, 32, 97, 100, 100, 32, 97, 32, 61, 32, 102, 117, 110, 32, 98, 32, 45, 62, 32, 99, 97, 115, 101, 32, 97, 32, 111, 102, 32, 123, 32, 90, 32, 45, 62, 32, 98, 59, 32, 83, 32, 110, 32, 45, 62, 32, 83, 32, 40, 97, 100, 100, 32, 110, 32, 98, 41, 32, 125, 32, 105, 110, 10, 108, 101, 116, 32, 116, 119, 111, 32, 61, 32, 83, 32, 40, 83, 32, 90, 41, 32, 105, 110, 10, 108, 101, 116, 32, 99, 111, 109, 112, 32, 61, 32, 102, 117, 110, 32, 102, 32, 45, 62, 32, 102, 117, 110, 32, 103, 32, 45, 62, 32, 102, 117, 110, 32, 120, 32, 45, 62, 32, 102, 32, 40, 103, 32, 120, 41, 32, 105, 110, 10, 99, 111, 109, 112, 32, 40, 97, 100, 100, 32, 116, 119, 111, 41, 32, 40, 97, 100, 100, 32, 116, 119, 111, 41, 32, 40, 83, 32, 90, 41, 10]⟩
theorem evq0 : evp0 = ⟨⟨Ev.txL Ev.txt0 0 (Ev.Tx.n Ev.txt0)⟩⟩ := by decide +kernel
theorem evq1 : evp1 = ⟨⟨Ev.txL Ev.txt1 0 (Ev.Tx.n Ev.txt1)⟩⟩ := by decide +kernel
theorem evq2 : evp2 = ⟨⟨Ev.txL Ev.txt2 0 (Ev.Tx.n Ev.txt2)⟩⟩ := by decide +kernel
theorem evq3 : evp3 = ⟨⟨Ev.txL Ev.txt3 0 (Ev.Tx.n Ev.txt3)⟩⟩ := by decide +kernel
theorem evq4 : evp4 = ⟨⟨Ev.txL Ev.txt4 0 (Ev.Tx.n Ev.txt4)⟩⟩ := by decide +kernel
theorem evq5 : evp5 = ⟨⟨Ev.txL Ev.txt5 0 (Ev.Tx.n Ev.txt5)⟩⟩ := by decide +kernel
theorem evq6 : evp6 = ⟨⟨Ev.txL Ev.txt6 0 (Ev.Tx.n Ev.txt6)⟩⟩ := by decide +kernel
theorem evps_ok : ∀ s ∈ [evp0, evp1, evp2, evp3, evp4, evp5, evp6], PrgE s := by
 intro s hs
 simp only [List.mem_cons, List.not_mem_nil, or_false] at hs
 rcases hs with rfl | rfl | rfl | rfl | rfl | rfl | rfl
 · exact ⟨_, evq0, evt0⟩
 · exact ⟨_, evq1, evt1⟩
 · exact ⟨_, evq2, evt2⟩
 · exact ⟨_, evq3, evt3⟩
 · exact ⟨_, evq4, evt4⟩
 · exact ⟨_, evq5, evt5⟩
 · exact ⟨_, evq6, evt6⟩
end Go.Proofs.YtehpobojopmilaaGreat
namespace Go.Proofs.YtehpobojopmilaaGreat
set_option maxRecDepth 20000
set_option linter.unusedVariables false
set_option linter.unusedSimpArgs false
open Go.RowKit
theorem tmod31 (n : Int) : (0 ≤ n → n.tmod 2147483648 = n % 2147483648) ∧ (n < 0 → n.tmod 2147483648 = - ((-n) % 2147483648)) := by
 constructor
 · intro h; exact Int.tmod_eq_emod_of_nonneg h
 · intro h
   have e : n.tmod 2147483648 = -((-n).tmod 2147483648) := by rw [Int.neg_tmod]; omega
   rw [e, Int.tmod_eq_emod_of_nonneg (by omega)]
theorem tmod10 (n : Int) : (0 ≤ n → n.tmod 10 = n % 10) ∧ (n < 0 → n.tmod 10 = - ((-n) % 10)) := by
 constructor
 · intro h; exact Int.tmod_eq_emod_of_nonneg h
 · intro h
   have e : n.tmod 10 = -((-n).tmod 10) := by rw [Int.neg_tmod]; omega
   rw [e, Int.tmod_eq_emod_of_nonneg (by omega)]
theorem tdiv10 (n : Int) : (0 ≤ n → n.tdiv 10 = n / 10) ∧ (n < 0 → n.tdiv 10 = - ((-n) / 10)) := by
 constructor
 · intro h; exact Int.tdiv_eq_ediv_of_nonneg h
 · intro h
   have e : n.tdiv 10 = -((-n).tdiv 10) := by rw [Int.neg_tdiv]; omega
   rw [e, Int.tdiv_eq_ediv_of_nonneg (by omega)]
def one (x : Int) : ByteArray := ⟨#[UInt8.ofNat x.toNat]⟩
def digU (n : Nat) : ByteArray := if h : n < 10 then one (48 + n) else digU (n / 10) ++ one (48 + (n % 10 : Nat))
termination_by n
decreasing_by omega
theorem digU_lt {n : Nat} (h : n < 10) : digU n = one (48 + n) := by rw [digU, dif_pos h]
theorem digU_ge {n : Nat} (h : 10 ≤ n) : digU n = digU (n / 10) ++ one (48 + (n % 10 : Nat)) := by rw [digU, dif_neg (by omega)]
def digI (n : Int) : ByteArray := if n < 0 then ⟨#[45]⟩ ++ digU (-n).toNat else digU n.toNat
@[go_sem] theorem one_size (x : Int) : (one x).size = 1 := rfl
theorem digU_size (k : Nat) : ∀ n : Nat, n < 10 ^ (k + 1) → (digU n).size ≤ k + 1 := by
 induction k with
 | zero => intro n h; rw [digU_lt (by omega)]; simp [one_size]
 | succ k ih =>
  intro n h
  by_cases h10 : n < 10
  · rw [digU_lt h10]; simp [one_size]
  · rw [digU_ge (by omega), ByteArray.size_append', one_size]
    have := ih (n / 10) (by rw [Nat.pow_succ] at h; omega)
    omega
theorem digU_size19 (n : Nat) (h : n ≤ 9223372036854775808) : (digU n).size ≤ 19 := digU_size 18 n (by omega)
def digR (a : Nat) (s : ByteArray) : ByteArray := if a = 0 then s else digU a ++ s
theorem digR_zero (s : ByteArray) : digR 0 s = s := rfl
theorem digR_start {a : Nat} (h : a ≠ 0) : digR a ⟨#[]⟩ = digU a := by
 unfold digR; rw [if_neg h]; apply ByteArray.ext; simp [ByteArray.data_append]
theorem ba_assoc (a b c : ByteArray) : a ++ b ++ c = a ++ (b ++ c) := by
 apply ByteArray.ext; simp [ByteArray.data_append]
theorem digR_step {a : Nat} (h : a ≠ 0) (s : ByteArray) : digR (a / 10) (one (48 + (a % 10 : Nat)) ++ s) = digR a s := by
 unfold digR
 rw [if_neg h]
 by_cases h10 : a < 10
 · rw [if_pos (by omega), digU_lt h10, Nat.mod_eq_of_lt h10]
 · rw [if_neg (by omega), digU_ge (n := a) (by omega), ba_assoc]
theorem digR_size (a : Nat) (s : ByteArray) : s.size ≤ (digR a s).size := by
 unfold digR
 split
 · exact Nat.le_refl _
 · rw [ByteArray.size_append']; omega
theorem encode_one {r : Int} (h0 : 0 ≤ r) (h1 : r < 128) : Utf8.encode r = one r := by
 have hv : Utf8.valid r = true := by simp [Utf8.valid]; omega
 unfold Utf8.encode one
 simp only [hv, if_true]
 rw [if_pos (by omega)]
theorem run_string_one {P : Program} (w : World) (src dst e : TypeId) (x : Int) (hs : P.underlying src = some (.slice e)) (he : P.underlying e = some (.int .u8)) (hd : P.underlying dst = some .string) :
 (convert src dst (.slice (some ⟨w.heap.size, 0, none⟩) 1 1)).run P (w.alloc (.cells #[.int .u8 x] e)) = .ok (.string (one x)) (w.alloc (.cells #[.int .u8 x] e)) := by
 rw [run_convert_bytes_string _ src dst e (some ⟨w.heap.size, 0, none⟩) 1 1 hs he hd]
 have hl := run_loadCells_list (P := P) (w.alloc (.cells #[.int .u8 x] e)) ⟨w.heap.size, 0, none⟩ [.int .u8 x] (fun j v hj => by
   match j with
   | 0 =>
     have hv : Value.int .u8 x = v := by simpa using hj
     rw [← hv]
     show (w.alloc _).cell? ⟨w.heap.size, 0 + 0, none⟩ = _
     rw [World.cell?_alloc_at _ _ _ _ rfl]; rfl
   | j + 1 => simp at hj)
 rw [run_bytesToString _ _ 1 1 [x] (by simpa using hl)]
 rfl
theorem ret_str {a b : ByteArray} (h : a = b) : Ending.returned (.string a) = .returned (.string b) := by rw [h]
theorem ret_bool {a b : Bool} (h : a = b) : Ending.returned (.bool a) = .returned (.bool b) := by rw [h]
theorem wf64 {a : Int} (h : (Lit.int .i64 a).wf = true) : -9223372036854775808 ≤ a ∧ a ≤ 9223372036854775807 := by
 simpa [Lit.wf, IntKind.min, IntKind.max, IntKind.signed, IntKind.bits] using h
end Go.Proofs.YtehpobojopmilaaGreat
