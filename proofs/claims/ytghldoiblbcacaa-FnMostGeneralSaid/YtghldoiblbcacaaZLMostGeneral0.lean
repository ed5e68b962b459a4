/- Texts of the claim LMostGeneral in one: Pw Mem GTy GBind ATy ABind FuncP FBind BindAt App AppS Grow. Conditions: none but bounds on sizes. -/
import Derived.WalkKit
import Derived.Test.YtghldoiblbcacaaRows
import Derived.Lib.Hide
import Derived.StillTailTactics
import Derived.Deep.AppendLies
import Derived.Maps.Range
/- Plain facts on numbers and their decimal digits (no program in sight). Conditions: none. -/
namespace Go.Proofs.Ytghldoiblbcacaa
open Go.RowKit

/-- what Round gives -/
def roundI (n : Int) : Int := if 1073741823 < n % 2147483648 then n % 2147483648 - 2147483648 else n % 2147483648

theorem i64_and31 (n : Int) : bits .and .i64 n 2147483647 = n % 2147483648 := by
  have h127 : (BitVec.ofInt 64 2147483647).toNat = 2 ^ 31 - 1 := by decide
  have key : (BitVec.ofInt 64 n &&& BitVec.ofInt 64 2147483647).toNat = (n % ((2 ^ 64 : Nat) : Int)).toNat % 2 ^ 31 := by
    rw [BitVec.toNat_and, BitVec.toNat_ofInt, h127, Nat.and_two_pow_sub_one_eq_mod]
  show IntKind.i64.wrap ((BitVec.ofInt 64 n &&& BitVec.ofInt 64 2147483647).toNat : Nat) = n % 2147483648
  rw [key, IntKind.wrap_i64]
  omega

theorem tmod31 (n : Int) : (0 ≤ n → n.tmod 2147483648 = n % 2147483648) ∧ (n < 0 → n.tmod 2147483648 = - ((-n) % 2147483648)) := by
  constructor
  · intro h; exact Int.tmod_eq_emod_of_nonneg h
  · intro h
    have e : n.tmod 2147483648 = -((-n).tmod 2147483648) := by rw [Int.neg_tmod]; omega
    rw [e, Int.tmod_eq_emod_of_nonneg (by omega)]

theorem tmod10 (n : Int) : (0 ≤ n → n.tmod 10 = n % 10) ∧ (n < 0 → n.tmod 10 = - ((-n) % 10)) := by
  constructor
  · intro h; exact Int.tmod_eq_emod_of_nonneg h
  · intro h
    have e : n.tmod 10 = -((-n).tmod 10) := by rw [Int.neg_tmod]; omega
    rw [e, Int.tmod_eq_emod_of_nonneg (by omega)]

theorem tdiv10 (n : Int) : (0 ≤ n → n.tdiv 10 = n / 10) ∧ (n < 0 → n.tdiv 10 = - ((-n) / 10)) := by
  constructor
  · intro h; exact Int.tdiv_eq_ediv_of_nonneg h
  · intro h
    have e : n.tdiv 10 = -((-n).tdiv 10) := by rw [Int.neg_tdiv]; omega
    rw [e, Int.tdiv_eq_ediv_of_nonneg (by omega)]

/-- one byte as a string -/
def one (x : Int) : ByteArray := ⟨#[UInt8.ofNat x.toNat]⟩

/-- the decimal digits of a number that is not below 0 -/
def digU (n : Nat) : ByteArray := if h : n < 10 then one (48 + n) else digU (n / 10) ++ one (48 + (n % 10 : Nat))
termination_by n
decreasing_by omega

theorem digU_lt {n : Nat} (h : n < 10) : digU n = one (48 + n) := by rw [digU, dif_pos h]
theorem digU_ge {n : Nat} (h : 10 ≤ n) : digU n = digU (n / 10) ++ one (48 + (n % 10 : Nat)) := by rw [digU, dif_neg (by omega)]

/-- what Digits gives -/
def digI (n : Int) : ByteArray := if n < 0 then ⟨#[45]⟩ ++ digU (-n).toNat else digU n.toNat

@[go_sem] theorem one_size (x : Int) : (one x).size = 1 := rfl

theorem digU_size (k : Nat) : ∀ n : Nat, n < 10 ^ (k + 1) → (digU n).size ≤ k + 1 := by
  induction k with
  | zero => intro n h; rw [digU_lt (by omega)]; simp [one_size]
  | succ k ih =>
    intro n h
    by_cases h10 : n < 10
    · rw [digU_lt h10]; simp [one_size]
    · rw [digU_ge (by omega), ByteArray.size_append', one_size]
      have := ih (n / 10) (by rw [Nat.pow_succ] at h; omega)
      omega

theorem digU_size19 (n : Nat) (h : n ≤ 9223372036854775808) : (digU n).size ≤ 19 := digU_size 18 n (by omega)

/-- the digits met from the right: those of a, then s -/
def digR (a : Nat) (s : ByteArray) : ByteArray := if a = 0 then s else digU a ++ s

theorem digR_zero (s : ByteArray) : digR 0 s = s := rfl
theorem digR_start {a : Nat} (h : a ≠ 0) : digR a ⟨#[]⟩ = digU a := by
  unfold digR; rw [if_neg h]; apply ByteArray.ext; simp [ByteArray.data_append]

theorem ba_assoc (a b c : ByteArray) : a ++ b ++ c = a ++ (b ++ c) := by
  apply ByteArray.ext; simp [ByteArray.data_append]

theorem digR_step {a : Nat} (h : a ≠ 0) (s : ByteArray) : digR (a / 10) (one (48 + (a % 10 : Nat)) ++ s) = digR a s := by
  unfold digR
  rw [if_neg h]
  by_cases h10 : a < 10
  · rw [if_pos (by omega), digU_lt h10, Nat.mod_eq_of_lt h10]
  · rw [if_neg (by omega), digU_ge (n := a) (by omega), ba_assoc]

theorem digR_size (a : Nat) (s : ByteArray) : s.size ≤ (digR a s).size := by
  unfold digR
  split
  · exact Nat.le_refl _
  · rw [ByteArray.size_append']; omega

theorem encode_one {r : Int} (h0 : 0 ≤ r) (h1 : r < 128) : Utf8.encode r = one r := by
  have hv : Utf8.valid r = true := by simp [Utf8.valid]; omega
  unfold Utf8.encode one
  simp only [hv, if_true]
  rw [if_pos (by omega)]

/-- a slice of one byte that was just made, as a string -/
theorem run_string_one {P : Program} (w : World) (src dst e : TypeId) (x : Int) (hs : P.underlying src = some (.slice e)) (he : P.underlying e = some (.int .u8)) (hd : P.underlying dst = some .string) :
    (convert src dst (.slice (some ⟨w.heap.size, 0, none⟩) 1 1)).run P (w.alloc (.cells #[.int .u8 x] e)) = .ok (.string (one x)) (w.alloc (.cells #[.int .u8 x] e)) := by
  rw [run_convert_bytes_string _ src dst e (some ⟨w.heap.size, 0, none⟩) 1 1 hs he hd]
  have hl := run_loadCells_list (P := P) (w.alloc (.cells #[.int .u8 x] e)) ⟨w.heap.size, 0, none⟩ [.int .u8 x] (fun j v hj => by
    match j with
    | 0 =>
      have hv : Value.int .u8 x = v := by simpa using hj
      rw [← hv]
      show (w.alloc _).cell? ⟨w.heap.size, 0 + 0, none⟩ = _
      rw [World.cell?_alloc_at _ _ _ _ rfl]; rfl
    | j + 1 => simp at hj)
  rw [run_bytesToString _ _ 1 1 [x] (by simpa using hl)]
  rfl

theorem run_string_one_at {P : Program} (w : World) (src dst e : TypeId) (x : Int) (hs : P.underlying src = some (.slice e)) (he : P.underlying e = some (.int .u8)) (hd : P.underlying dst = some .string) (g : Nat) (hg : g = w.heap.size) :
    (convert src dst (.slice (some ⟨g, 0, none⟩) 1 1)).run P (w.alloc (.cells #[.int .u8 x] e)) = .ok (.string (one x)) (w.alloc (.cells #[.int .u8 x] e)) := by
  subst hg; exact run_string_one w src dst e x hs he hd

theorem ret_int {k : IntKind} {a b : Int} (h : a = b) : Ending.returned (.int k a) = .returned (.int k b) := by rw [h]
theorem ret_str {a b : ByteArray} (h : a = b) : Ending.returned (.string a) = .returned (.string b) := by rw [h]
theorem ret_bool {a b : Bool} (h : a = b) : Ending.returned (.bool a) = .returned (.bool b) := by rw [h]
theorem wf64 {a : Int} (h : (Lit.int .i64 a).wf = true) : -9223372036854775808 ≤ a ∧ a ≤ 9223372036854775807 := by
  simpa [Lit.wf, IntKind.min, IntKind.max, IntKind.signed, IntKind.bits] using h

end Go.Proofs.Ytghldoiblbcacaa

/- How trees lie in memory: a reading of cells as data, and that it is kept where its blocks are kept (no program in sight). Conditions: none. -/
namespace Go.Proofs.Ytghldoiblbcacaa
open Go.RowKit
set_option linter.unusedVariables false

/-- data: numbers, strings, bools, structs (their fields' cells one behind the other), slices (with the number of cells of an element) -/
inductive D where
  | num (k : IntKind) (n : Int)
  | str (s : ByteArray)
  | bool (b : Bool)
  | agg (fs : List D)
  | sl (size : Nat) (xs : List D)

mutual
/-- the cells cs read as the data; each block that is gone to is one of S -/
def D.rd (w : World) (S : Nat → Prop) : D → List Value → Prop
  | .num k n, cs => cs = [.int k n] ∧ (Lit.int k n).wf = true
  | .str s, cs => cs = [.string s] ∧ s.size ≤ maxLen
  | .bool b, cs => cs = [.bool b]
  | .agg fs, cs => D.rdF w S fs cs
  | .sl size xs, cs => ∃ A c, cs = [.slice A xs.length c] ∧ xs.length ≤ c ∧ c ≤ maxLen ∧ (xs = [] ∨ ∃ b off, A = some ⟨b, off, none⟩ ∧ S b ∧ D.rdR w S size b xs off)
def D.rdF (w : World) (S : Nat → Prop) : List D → List Value → Prop
  | [], cs => cs = []
  | d :: r, cs => ∃ c1 c2, cs = c1 ++ c2 ∧ D.rd w S d c1 ∧ D.rdF w S r c2
def D.rdR (w : World) (S : Nat → Prop) (size b : Nat) : List D → Nat → Prop
  | [], _ => True
  | d :: r, off => (∃ cs, cs.length = size ∧ (∀ j v, cs[j]? = some v → w.cell? ⟨b, off + j, none⟩ = some v) ∧ D.rd w S d cs) ∧ D.rdR w S size b r (off + size)
end

mutual
/-- the same, where each slice lies in a block of its own that may be written; all of them are of S -/
def D.own (w : World) : D → (Nat → Prop) → List Value → Prop
  | .num k n, _, cs => cs = [.int k n] ∧ (Lit.int k n).wf = true
  | .str s, _, cs => cs = [.string s] ∧ s.size ≤ maxLen
  | .bool b, _, cs => cs = [.bool b]
  | .agg fs, S, cs => D.ownF w fs S cs
  | .sl size xs, S, cs => ∃ A c, cs = [.slice A xs.length c] ∧ xs.length ≤ c ∧ c ≤ maxLen ∧ (xs = [] ∨ ∃ b, A = some ⟨b, 0, none⟩ ∧ S b ∧ (∀ o, w.frozen? ⟨b, o, none⟩ = false) ∧ D.ownR w size b xs (fun x => S x ∧ x ≠ b) 0)
def D.ownF (w : World) : List D → (Nat → Prop) → List Value → Prop
  | [], _, cs => cs = []
  | d :: r, S, cs => ∃ (S1 S2 : Nat → Prop) (c1 c2 : List Value), (∀ x, S1 x → S x ∧ ¬ S2 x) ∧ (∀ x, S2 x → S x) ∧ cs = c1 ++ c2 ∧ D.own w d S1 c1 ∧ D.ownF w r S2 c2
def D.ownR (w : World) (size b : Nat) : List D → (Nat → Prop) → Nat → Prop
  | [], _, _ => True
  | d :: r, S, off => ∃ (S1 S2 : Nat → Prop) (cs : List Value), (∀ x, S1 x → S x ∧ ¬ S2 x) ∧ (∀ x, S2 x → S x) ∧ cs.length = size ∧ (∀ j v, cs[j]? = some v → w.cell? ⟨b, off + j, none⟩ = some v) ∧ D.own w d S1 cs ∧ D.ownR w size b r S2 (off + size)
end

/-! ### the reading, kept -/
mutual
theorem D.rd_keep {w w' : World} {S S' : Nat → Prop} (h : ∀ b, S b → S' b ∧ w'.heap[b]? = w.heap[b]?) : ∀ (d : D) (cs : List Value), d.rd w S cs → d.rd w' S' cs
  | .num _ _, _, hd => by simpa only [D.rd] using hd
  | .str _, _, hd => by simpa only [D.rd] using hd
  | .bool _, _, hd => by simpa only [D.rd] using hd
  | .agg fs, cs, hd => by
    simp only [D.rd] at hd ⊢
    exact D.rdF_keep h fs cs hd
  | .sl size xs, cs, hd => by
    simp only [D.rd] at hd ⊢
    obtain ⟨A, c, h1, h2, h3, h4⟩ := hd
    refine ⟨A, c, h1, h2, h3, ?_⟩
    rcases h4 with h4 | ⟨b, off, e, hS, hr⟩
    · exact .inl h4
    · exact .inr ⟨b, off, e, (h b hS).1, D.rdR_keep h size b hS xs off hr⟩
theorem D.rdF_keep {w w' : World} {S S' : Nat → Prop} (h : ∀ b, S b → S' b ∧ w'.heap[b]? = w.heap[b]?) : ∀ (fs : List D) (cs : List Value), D.rdF w S fs cs → D.rdF w' S' fs cs
  | [], _, hd => by simpa only [D.rdF] using hd
  | d :: r, cs, hd => by
    simp only [D.rdF] at hd ⊢
    obtain ⟨c1, c2, e, h1, h2⟩ := hd
    exact ⟨c1, c2, e, D.rd_keep h d c1 h1, D.rdF_keep h r c2 h2⟩
theorem D.rdR_keep {w w' : World} {S S' : Nat → Prop} (h : ∀ b, S b → S' b ∧ w'.heap[b]? = w.heap[b]?) (size b : Nat) (hb : S b) : ∀ (xs : List D) (off : Nat), D.rdR w S size b xs off → D.rdR w' S' size b xs off
  | [], _, _ => by simp only [D.rdR]
  | d :: r, off, hd => by
    simp only [D.rdR] at hd ⊢
    obtain ⟨⟨cs, h1, h2, h3⟩, h4⟩ := hd
    exact ⟨⟨cs, h1, fun j v hj => (World.cell?_of_block (h b hb).2).trans (h2 j v hj), D.rd_keep h d cs h3⟩, D.rdR_keep h size b hb r (off + size) h4⟩
end

theorem D.rdR_get {w : World} {S : Nat → Prop} {size b : Nat} : ∀ {xs : List D} {off : Nat}, D.rdR w S size b xs off → ∀ (i : Nat) (h : i < xs.length),
    ∃ cs, cs.length = size ∧ (∀ j v, cs[j]? = some v → w.cell? ⟨b, off + i * size + j, none⟩ = some v) ∧ (xs[i]).rd w S cs
  | [], _, _, i, h => by simp at h
  | d :: r, off, hr, i, h => by
    simp only [D.rdR] at hr
    match i with
    | 0 => obtain ⟨⟨cs, h1, h2, h3⟩, _⟩ := hr; exact ⟨cs, h1, by simpa using h2, h3⟩
    | i + 1 =>
      obtain ⟨cs, h1, h2, h3⟩ := D.rdR_get hr.2 i (by simpa using h)
      refine ⟨cs, h1, fun j v hj => ?_, by simpa using h3⟩
      rw [← h2 j v hj]
      congr 2
      rw [Nat.add_mul]; omega

theorem D.rdR_mk {w : World} {S : Nat → Prop} {size b : Nat} : ∀ {xs : List D} {off : Nat}, (∀ (i : Nat) (h : i < xs.length),
    ∃ cs, cs.length = size ∧ (∀ j v, cs[j]? = some v → w.cell? ⟨b, off + i * size + j, none⟩ = some v) ∧ (xs[i]).rd w S cs) → D.rdR w S size b xs off
  | [], _, _ => by simp only [D.rdR]
  | d :: r, off, hr => by
    simp only [D.rdR]
    refine ⟨?_, D.rdR_mk fun i h => ?_⟩
    · obtain ⟨cs, h1, h2, h3⟩ := hr 0 (by simp)
      exact ⟨cs, h1, by simpa using h2, h3⟩
    · obtain ⟨cs, h1, h2, h3⟩ := hr (i + 1) (by simpa using h)
      refine ⟨cs, h1, fun j v hj => ?_, by simpa using h3⟩
      rw [← h2 j v hj]
      congr 2
      rw [Nat.add_mul]; omega

/-- the slice value '.slice A n c' reads as the list xs of data, size cells each -/
def Sl (w : World) (S : Nat → Prop) (size : Nat) (A : Option Addr) (c : Nat) (xs : List D) : Prop :=
  xs.length ≤ c ∧ c ≤ maxLen ∧ (xs = [] ∨ ∃ b off, A = some ⟨b, off, none⟩ ∧ S b ∧ D.rdR w S size b xs off)

theorem Sl.keep {w w' : World} {S S' : Nat → Prop} {size : Nat} {A : Option Addr} {c : Nat} {xs : List D} (hs : Sl w S size A c xs) (h : ∀ b, S b → S' b ∧ w'.heap[b]? = w.heap[b]?) : Sl w' S' size A c xs := by
  obtain ⟨h1, h2, h3⟩ := hs
  refine ⟨h1, h2, ?_⟩
  rcases h3 with h3 | ⟨b, off, e, hS, hr⟩
  · exact .inl h3
  · exact .inr ⟨b, off, e, (h b hS).1, D.rdR_keep h size b hS xs off hr⟩

theorem D.rd_num {w : World} {S : Nat → Prop} {k : IntKind} {n : Int} {cs : List Value} : (D.num k n).rd w S cs ↔ cs = [.int k n] ∧ (Lit.int k n).wf = true := by simp only [D.rd]
theorem D.rd_str {w : World} {S : Nat → Prop} {s : ByteArray} {cs : List Value} : (D.str s).rd w S cs ↔ cs = [.string s] ∧ s.size ≤ maxLen := by simp only [D.rd]
theorem D.rd_bool {w : World} {S : Nat → Prop} {b : Bool} {cs : List Value} : (D.bool b).rd w S cs ↔ cs = [.bool b] := by simp only [D.rd]
theorem D.rd_sl {w : World} {S : Nat → Prop} {size : Nat} {xs : List D} {cs : List Value} : (D.sl size xs).rd w S cs ↔ ∃ A c, cs = [.slice A xs.length c] ∧ Sl w S size A c xs := by
  simp only [D.rd, Sl]
theorem D.rd_agg {w : World} {S : Nat → Prop} {fs : List D} {cs : List Value} : (D.agg fs).rd w S cs ↔ D.rdF w S fs cs := by simp only [D.rd]
theorem D.rdF_nil {w : World} {S : Nat → Prop} {cs : List Value} : D.rdF w S [] cs ↔ cs = [] := by simp only [D.rdF]
theorem D.rdF_cons {w : World} {S : Nat → Prop} {d : D} {r : List D} {cs : List Value} : D.rdF w S (d :: r) cs ↔ ∃ c1 c2, cs = c1 ++ c2 ∧ D.rd w S d c1 ∧ D.rdF w S r c2 := by simp only [D.rdF]

theorem Sl.get {w : World} {S : Nat → Prop} {size : Nat} {A : Option Addr} {c : Nat} {xs : List D} (hs : Sl w S size A c xs) (i : Nat) (h : i < xs.length) :
    ∃ b off cs, A = some ⟨b, off, none⟩ ∧ S b ∧ cs.length = size ∧ (∀ j v, cs[j]? = some v → w.cell? ⟨b, off + i * size + j, none⟩ = some v) ∧ (xs[i]).rd w S cs := by
  obtain ⟨_, _, h3 | ⟨b, off, e, hS, hr⟩⟩ := hs
  · rw [h3] at h; simp at h
  · obtain ⟨cs, g1, g2, g3⟩ := D.rdR_get hr i h
    exact ⟨b, off, cs, e, hS, g1, g2, g3⟩

theorem Sl.nil {w : World} {S : Nat → Prop} {size : Nat} {A : Option Addr} {c : Nat} (hc : c ≤ maxLen) : Sl w S size A c [] := ⟨by simp, hc, .inl rfl⟩

theorem Sl.len {w : World} {S : Nat → Prop} {size : Nat} {A : Option Addr} {c : Nat} {xs : List D} (hs : Sl w S size A c xs) : xs.length ≤ 9223372036854775807 := by
  have := hs.1; have := hs.2.1; unfold maxLen at *; omega

/-! ### what is owned, kept -/
mutual
theorem D.own_keep {w w' : World} : ∀ (d : D) (S S' : Nat → Prop) (cs : List Value), (∀ b, S b → S' b ∧ w'.heap[b]? = w.heap[b]?) → d.own w S cs → d.own w' S' cs
  | .num _ _, _, _, _, _, hd => by simpa only [D.own] using hd
  | .str _, _, _, _, _, hd => by simpa only [D.own] using hd
  | .bool _, _, _, _, _, hd => by simpa only [D.own] using hd
  | .agg fs, S, S', cs, h, hd => by
    simp only [D.own] at hd ⊢
    exact D.ownF_keep fs S S' cs h hd
  | .sl size xs, S, S', cs, h, hd => by
    simp only [D.own] at hd ⊢
    obtain ⟨A, c, h1, h2, h3, h4⟩ := hd
    refine ⟨A, c, h1, h2, h3, ?_⟩
    rcases h4 with h4 | ⟨b, e, hS, hf, hr⟩
    · exact .inl h4
    · exact .inr ⟨b, e, (h b hS).1, fun o => (World.frozen?_of_block (h b hS).2).trans (hf o), D.ownR_keep size b xs _ _ 0 (fun x hx => ⟨⟨(h x hx.1).1, hx.2⟩, (h x hx.1).2⟩) (fun j _ => World.cell?_of_block (h b hS).2) hr⟩
theorem D.ownF_keep {w w' : World} : ∀ (fs : List D) (S S' : Nat → Prop) (cs : List Value), (∀ b, S b → S' b ∧ w'.heap[b]? = w.heap[b]?) → D.ownF w fs S cs → D.ownF w' fs S' cs
  | [], _, _, _, _, hd => by simpa only [D.ownF] using hd
  | d :: r, S, S', cs, h, hd => by
    simp only [D.ownF] at hd ⊢
    obtain ⟨S1, S2, c1, c2, g1, g2, e, h1, h2⟩ := hd
    exact ⟨S1, S2, c1, c2, fun x hx => ⟨(h x (g1 x hx).1).1, (g1 x hx).2⟩, fun x hx => (h x (g2 x hx)).1, e, D.own_keep d S1 S1 c1 (fun b hb => ⟨hb, (h b (g1 b hb).1).2⟩) h1, D.ownF_keep r S2 S2 c2 (fun b hb => ⟨hb, (h b (g2 b hb)).2⟩) h2⟩
theorem D.ownR_keep {w w' : World} (size b : Nat) : ∀ (xs : List D) (S S' : Nat → Prop) (off : Nat), (∀ b, S b → S' b ∧ w'.heap[b]? = w.heap[b]?) → (∀ j, j < off + xs.length * size → w'.cell? ⟨b, j, none⟩ = w.cell? ⟨b, j, none⟩) →
    D.ownR w size b xs S off → D.ownR w' size b xs S' off
  | [], _, _, _, _, _, _ => by simp only [D.ownR]
  | d :: r, S, S', off, h, hc, hd => by
    simp only [D.ownR] at hd ⊢
    obtain ⟨S1, S2, cs, g1, g2, h1, h2, h3, h4⟩ := hd
    have hlen : (d :: r).length * size = r.length * size + size := by rw [List.length_cons, Nat.add_mul, Nat.one_mul]
    refine ⟨S1, S2, cs, fun x hx => ⟨(h x (g1 x hx).1).1, (g1 x hx).2⟩, fun x hx => (h x (g2 x hx)).1, h1, fun j v hj => ?_, D.own_keep d S1 S1 cs (fun b hb => ⟨hb, (h b (g1 b hb).1).2⟩) h3,
      D.ownR_keep size b r S2 S2 (off + size) (fun b hb => ⟨hb, (h b (g2 b hb)).2⟩) (fun j hj => hc j (by rw [hlen]; omega)) h4⟩
    have hjl : j < cs.length := (List.getElem?_eq_some_iff.1 hj).1
    rw [hc (off + j) (by rw [hlen]; omega)]
    exact h2 j v hj
end

mutual
theorem D.own_rd {w : World} : ∀ (d : D) (S : Nat → Prop) (cs : List Value), d.own w S cs → d.rd w S cs
  | .num _ _, _, _, hd => by simpa only [D.own, D.rd] using hd
  | .str _, _, _, hd => by simpa only [D.own, D.rd] using hd
  | .bool _, _, _, hd => by simpa only [D.own, D.rd] using hd
  | .agg fs, S, cs, hd => by
    simp only [D.own, D.rd] at hd ⊢
    exact D.ownF_rd fs S cs hd
  | .sl size xs, S, cs, hd => by
    simp only [D.own, D.rd] at hd ⊢
    obtain ⟨A, c, h1, h2, h3, h4⟩ := hd
    refine ⟨A, c, h1, h2, h3, ?_⟩
    rcases h4 with h4 | ⟨b, e, hS, hf, hr⟩
    · exact .inl h4
    · exact .inr ⟨b, 0, e, hS, D.rdR_keep (S := fun x => S x) (fun x hx => ⟨hx, rfl⟩) size b hS xs 0 (D.ownR_rd size b xs _ S 0 (fun x hx => hx.1) hr)⟩
theorem D.ownF_rd {w : World} : ∀ (fs : List D) (S : Nat → Prop) (cs : List Value), D.ownF w fs S cs → D.rdF w S fs cs
  | [], _, _, hd => by simpa only [D.ownF, D.rdF] using hd
  | d :: r, S, cs, hd => by
    simp only [D.ownF, D.rdF] at hd ⊢
    obtain ⟨S1, S2, c1, c2, g1, g2, e, h1, h2⟩ := hd
    exact ⟨c1, c2, e, D.rd_keep (fun b hb => ⟨(g1 b hb).1, rfl⟩) d c1 (D.own_rd d S1 c1 h1), D.rdF_keep (fun b hb => ⟨g2 b hb, rfl⟩) r c2 (D.ownF_rd r S2 c2 h2)⟩
theorem D.ownR_rd {w : World} (size b : Nat) : ∀ (xs : List D) (S T : Nat → Prop) (off : Nat), (∀ x, S x → T x) → D.ownR w size b xs S off → D.rdR w T size b xs off
  | [], _, _, _, _, _ => by simp only [D.rdR]
  | d :: r, S, T, off, hT, hd => by
    simp only [D.ownR, D.rdR] at hd ⊢
    obtain ⟨S1, S2, cs, g1, g2, h1, h2, h3, h4⟩ := hd
    exact ⟨⟨cs, h1, h2, D.rd_keep (fun b hb => ⟨hT b (g1 b hb).1, rfl⟩) d cs (D.own_rd d S1 cs h3)⟩, D.ownR_rd size b r S2 T (off + size) (fun x hx => hT x (g2 x hx)) h4⟩
end

/-- an owned row, one element longer -/
theorem D.ownR_snoc {w : World} {size b : Nat} {d : D} {S1 S2 S : Nat → Prop} (h2 : ∀ x, S2 x → S x ∧ ¬ S1 x) (cs : List Value) (hl : cs.length = size) (hd : d.own w S2 cs) :
    ∀ (xs : List D) (T : Nat → Prop) (off : Nat), (∀ x, T x → S1 x) → (∀ x, S1 x → S x) → (∀ j v, cs[j]? = some v → w.cell? ⟨b, off + xs.length * size + j, none⟩ = some v) →
    D.ownR w size b xs T off → D.ownR w size b (xs ++ [d]) (fun x => T x ∨ S2 x) off
  | [], T, off, hT, h1, hc, _ => by
    simp only [List.nil_append, D.ownR]
    exact ⟨S2, fun _ => False, cs, fun x hx => ⟨.inr hx, fun h => h⟩, fun x hx => hx.elim, hl, by simpa using hc, hd, trivial⟩
  | e :: r, T, off, hT, h1, hc, hr => by
    simp only [List.cons_append, D.ownR] at hr ⊢
    obtain ⟨T1, T2, c1, g1, g2, k1, k2, k3, k4⟩ := hr
    have ih := D.ownR_snoc h2 cs hl hd r T2 (off + size) (fun x hx => hT x (g2 x hx)) h1 (fun j v hj => by
      rw [← hc j v hj]
      congr 2
      rw [List.length_cons, Nat.add_mul]; omega) k4
    refine ⟨T1, fun x => T2 x ∨ S2 x, c1, fun x hx => ⟨.inl (g1 x hx).1, fun h => ?_⟩, fun x hx => hx.elim (fun h => .inl (g2 x h)) .inr, k1, k2, k3, ih⟩
    rcases h with h | h
    · exact (g1 x hx).2 h
    · exact (h2 x h).2 (hT x (g1 x hx).1)

/-- the owned slice value -/
def Osl (w : World) (S : Nat → Prop) (size : Nat) (A : Option Addr) (c : Nat) (xs : List D) : Prop :=
  xs.length ≤ c ∧ c ≤ maxLen ∧ (xs = [] ∨ ∃ b, A = some ⟨b, 0, none⟩ ∧ S b ∧ (∀ o, w.frozen? ⟨b, o, none⟩ = false) ∧ D.ownR w size b xs (fun x => S x ∧ x ≠ b) 0)

theorem D.own_num {w : World} {S : Nat → Prop} {k : IntKind} {n : Int} {cs : List Value} : (D.num k n).own w S cs ↔ cs = [.int k n] ∧ (Lit.int k n).wf = true := by simp only [D.own]
theorem D.own_str {w : World} {S : Nat → Prop} {s : ByteArray} {cs : List Value} : (D.str s).own w S cs ↔ cs = [.string s] ∧ s.size ≤ maxLen := by simp only [D.own]
theorem D.own_bool {w : World} {S : Nat → Prop} {b : Bool} {cs : List Value} : (D.bool b).own w S cs ↔ cs = [.bool b] := by simp only [D.own]
theorem D.own_sl {w : World} {S : Nat → Prop} {size : Nat} {xs : List D} {cs : List Value} : (D.sl size xs).own w S cs ↔ ∃ A c, cs = [.slice A xs.length c] ∧ Osl w S size A c xs := by
  simp only [D.own, Osl]
theorem D.own_agg {w : World} {S : Nat → Prop} {fs : List D} {cs : List Value} : (D.agg fs).own w S cs ↔ D.ownF w fs S cs := by simp only [D.own]
theorem D.ownF_nil {w : World} {S : Nat → Prop} {cs : List Value} : D.ownF w [] S cs ↔ cs = [] := by simp only [D.ownF]

/-- a field that goes to no block -/
theorem D.ownF_plain {w : World} {S : Nat → Prop} {d : D} {r : List D} {c1 c2 : List Value} (h : d.own w (fun _ => False) c1) (h2 : D.ownF w r S c2) : D.ownF w (d :: r) S (c1 ++ c2) := by
  simp only [D.ownF]
  exact ⟨fun _ => False, S, c1, c2, fun x hx => hx.elim, fun x hx => hx, rfl, h, h2⟩

theorem D.ownF_cons {w : World} {S S1 S2 : Nat → Prop} {d : D} {r : List D} {c1 c2 : List Value} (g1 : ∀ x, S1 x → S x ∧ ¬ S2 x) (g2 : ∀ x, S2 x → S x) (h : d.own w S1 c1) (h2 : D.ownF w r S2 c2) : D.ownF w (d :: r) S (c1 ++ c2) := by
  simp only [D.ownF]
  exact ⟨S1, S2, c1, c2, g1, g2, rfl, h, h2⟩

/-- the last field -/
theorem D.ownF_last {w : World} {S : Nat → Prop} {d : D} {c1 : List Value} (h : d.own w S c1) : D.ownF w [d] S c1 := by
  simp only [D.ownF]
  exact ⟨S, fun _ => False, c1, [], fun x hx => ⟨hx, fun h => h⟩, fun x hx => hx.elim, by simp, h, rfl⟩

theorem Osl.keep {w w' : World} {S S' : Nat → Prop} {size : Nat} {A : Option Addr} {c : Nat} {xs : List D} (hs : Osl w S size A c xs) (h : ∀ b, S b → S' b ∧ w'.heap[b]? = w.heap[b]?) : Osl w' S' size A c xs := by
  obtain ⟨h1, h2, h3⟩ := hs
  refine ⟨h1, h2, ?_⟩
  rcases h3 with h3 | ⟨b, e, hS, hf, hr⟩
  · exact .inl h3
  · exact .inr ⟨b, e, (h b hS).1, fun o => (World.frozen?_of_block (h b hS).2).trans (hf o), D.ownR_keep size b xs _ _ 0 (fun x hx => ⟨⟨(h x hx.1).1, hx.2⟩, (h x hx.1).2⟩) (fun j _ => World.cell?_of_block (h b hS).2) hr⟩

theorem Osl.sl {w : World} {S : Nat → Prop} {size : Nat} {A : Option Addr} {c : Nat} {xs : List D} (hs : Osl w S size A c xs) : Sl w S size A c xs := by
  obtain ⟨h1, h2, h3⟩ := hs
  refine ⟨h1, h2, ?_⟩
  rcases h3 with h3 | ⟨b, e, hS, hf, hr⟩
  · exact .inl h3
  · exact .inr ⟨b, 0, e, hS, D.ownR_rd size b xs _ S 0 (fun x hx => hx.1) hr⟩

theorem Osl.nil {w : World} {S : Nat → Prop} {size : Nat} {A : Option Addr} {c : Nat} (hc : c ≤ maxLen) : Osl w S size A c [] := ⟨by simp, hc, .inl rfl⟩

/-! ### sets of blocks -/
/-- blocks below a number -/
def Lt (B : Nat) : Nat → Prop := fun b => b < B
/-- blocks from a number on, below another -/
def Btw (B B' : Nat) : Nat → Prop := fun b => B ≤ b ∧ b < B'

theorem keep_below {w w' : World} {B B' : Nat} (h : Below B w w') (hB : B ≤ B') : ∀ b, Lt B b → Lt B' b ∧ w'.heap[b]? = w.heap[b]? :=
  fun b hb => ⟨Nat.lt_of_lt_of_le hb hB, h.block b hb⟩
theorem keep_btw {w w' : World} {B B' C C' : Nat} (h : Below B' w w') (hC : C ≤ B) (hC' : B' ≤ C') : ∀ b, Btw B B' b → Btw C C' b ∧ w'.heap[b]? = w.heap[b]? :=
  fun b hb => ⟨⟨Nat.le_trans hC hb.1, Nat.lt_of_lt_of_le hb.2 hC'⟩, h.block b hb.2⟩

/-- the same data in the world to come -/
theorem Sl.below {w w' : World} {B B' : Nat} {size : Nat} {A : Option Addr} {c : Nat} {xs : List D} (hs : Sl w (Lt B) size A c xs) (h : Below B w w') (hB : B ≤ B') : Sl w' (Lt B') size A c xs :=
  hs.keep (keep_below h hB)
theorem Osl.below {w w' : World} {B B' C C' : Nat} {size : Nat} {A : Option Addr} {c : Nat} {xs : List D} (hs : Osl w (Btw B B') size A c xs) (h : Below B' w w') (hC : C ≤ B) (hC' : B' ≤ C') : Osl w' (Btw C C') size A c xs :=
  hs.keep (keep_btw h hC hC')
theorem Osl.slLt {w : World} {B B' : Nat} {size : Nat} {A : Option Addr} {c : Nat} {xs : List D} (hs : Osl w (Btw B B') size A c xs) : Sl w (Lt B') size A c xs :=
  hs.sl.keep fun b hb => ⟨hb.2, rfl⟩

/-- a block of one's own, known whole -/
def Row (w : World) (g : Nat) (t : TypeId) (cs : Array Value) : Prop := w.heap[g]? = some (.cells cs t (0, 0))
theorem Row.cell {w : World} {g : Nat} {t : TypeId} {cs : Array Value} (h : Row w g t cs) (i : Nat) : w.cell? ⟨g, i, none⟩ = cs[i]? := cell_of_row w g i cs t (0, 0) h
theorem Row.frozen {w : World} {g : Nat} {t : TypeId} {cs : Array Value} (h : Row w g t cs) (i : Nat) : w.frozen? ⟨g, i, none⟩ = false := by
  unfold Row at h
  simp [World.frozen?, h]
theorem Row.new (w : World) (t : TypeId) (cs : Array Value) : Row (w.alloc (.cells cs t)) w.heap.size t cs := heap_alloc_new w _
theorem Row.new' (w : World) (t : TypeId) (cs : Array Value) {g : Nat} (hg : g = w.heap.size) : Row (w.alloc (.cells cs t)) g t cs := by subst hg; exact Row.new w t cs
theorem Row.lt {w : World} {g : Nat} {t : TypeId} {cs : Array Value} (h : Row w g t cs) : g < w.heap.size := by
  rcases Nat.lt_or_ge g w.heap.size with hlt | hge
  · exact hlt
  · unfold Row at h; rw [Array.getElem?_eq_none hge] at h; cases h
theorem Row.set {w : World} {g : Nat} {t : TypeId} {cs : Array Value} (h : Row w g t cs) (i : Nat) (u : Value) : Row (w.setCell ⟨g, i, none⟩ u) g t (cs.setIfInBounds i u) := by
  unfold Row at h ⊢
  simp [World.setCell, Array.getElem?_modify, h]
theorem Row.alloc {w : World} {g : Nat} {t : TypeId} {cs : Array Value} (h : Row w g t cs) (o : Obj) : Row (w.alloc o) g t cs := (Below.heap_alloc w o g h.lt).trans h
theorem Row.far {w : World} {g : Nat} {t : TypeId} {cs : Array Value} (h : Row w g t cs) {p : Addr} (hp : g ≠ p.block) (u : Value) : Row (w.setCell p u) g t cs := (Below.heap_setCell w p u g hp).trans h
theorem Row.below {B : Nat} {w w' : World} {g : Nat} {t : TypeId} {cs : Array Value} (h : Row w g t cs) (hb : Below B w w') (hg : g < B) : Row w' g t cs := (hb.block g hg).trans h

/-- some cells of block g written, one behind the other, from place k on -/
def setCells (w : World) (g k : Nat) : List Value → World
  | [] => w
  | v :: r => setCells (w.setCell ⟨g, k, none⟩ v) g (k + 1) r

theorem setCells_size (w : World) (g k : Nat) (vs : List Value) : (setCells w g k vs).heap.size = w.heap.size := by
  induction vs generalizing w k with
  | nil => rfl
  | cons v r ih => simp only [setCells]; rw [ih]; simp [World.setCell]

theorem setCells_block (w : World) (g k : Nat) (vs : List Value) (b : Nat) (hb : b ≠ g) : (setCells w g k vs).heap[b]? = w.heap[b]? := by
  induction vs generalizing w k with
  | nil => rfl
  | cons v r ih => simp only [setCells]; rw [ih]; exact Below.heap_setCell w ⟨g, k, none⟩ v b hb

theorem setCells_below {B : Nat} {a w : World} (h : Below B a w) (g k : Nat) (hg : B ≤ g) (vs : List Value) : Below B a (setCells w g k vs) := by
  induction vs generalizing w k with
  | nil => exact h
  | cons v r ih => simp only [setCells]; exact ih (h.setCell hg v) (k + 1)

theorem setCells_row {w : World} {g : Nat} {t : TypeId} {row : Array Value} (h : Row w g t row) (k : Nat) (vs : List Value) :
    ∃ row', Row (setCells w g k vs) g t row' ∧ row'.size = row.size ∧ (∀ i, i < k ∨ k + vs.length ≤ i → row'[i]? = row[i]?) ∧ (∀ i v, vs[i]? = some v → k + i < row.size → row'[k + i]? = some v) := by
  induction vs generalizing w k row with
  | nil => exact ⟨row, h, rfl, fun _ _ => rfl, fun i v hv => by simp at hv⟩
  | cons v r ih =>
    obtain ⟨row', h1, h2, h3, h4⟩ := ih (h.set k v) (k + 1)
    refine ⟨row', h1, by rw [h2]; simp, fun i hi => ?_, fun i u hu hl => ?_⟩
    · rw [h3 i (by simp only [List.length_cons] at hi; omega)]
      rw [Array.getElem?_setIfInBounds]
      simp only [List.length_cons] at hi
      rw [if_neg (by omega)]
    · match i with
      | 0 =>
        have hv : v = u := by simpa using hu
        subst hv
        rw [h3 (k + 0) (by omega)]
        rw [Array.getElem?_setIfInBounds]
        have hk : k < row.size := by omega
        simp [hk]
      | i + 1 =>
        have := h4 i u (by simpa using hu) (by simp; omega)
        rwa [show k + 1 + i = k + (i + 1) from by omega] at this

/-- an element behind the others of a row that is being filled -/
theorem fill_step {w : World} {g m size j : Nat} {t : TypeId} {row : Array Value} {xs : List D} {x : D} {cs : List Value} (hrow : Row w g t row) (hj : xs.length = j) (hrs : (j + 1) * size ≤ row.size) (hgm : g < m) (hm : m ≤ w.heap.size)
    (hown : D.ownR w size g xs (fun b => g < b ∧ b < m) 0) (hx : x.own w (Btw m w.heap.size) cs) (hcs : cs.length = size) :
    ∃ row', Row (setCells w g (j * size) cs) g t row' ∧ row'.size = row.size ∧ D.ownR (setCells w g (j * size) cs) size g (xs ++ [x]) (fun b => g < b ∧ b < (setCells w g (j * size) cs).heap.size) 0 := by
  obtain ⟨row', h1, h2, h3, h4⟩ := setCells_row hrow (j * size) cs
  refine ⟨row', h1, h2, ?_⟩
  have hsz := setCells_size w g (j * size) cs
  have e1 : (j + 1) * size = j * size + size := by rw [Nat.add_mul, Nat.one_mul]
  have k1 : D.ownR (setCells w g (j * size) cs) size g xs (fun b => g < b ∧ b < m) 0 := D.ownR_keep size g xs _ _ 0 (fun b hb => ⟨hb, setCells_block _ _ _ _ _ (by omega)⟩) (fun i hi => by
    rw [h1.cell, hrow.cell]; exact h3 i (.inl (by rw [hj] at hi; omega))) hown
  have k2 : x.own (setCells w g (j * size) cs) (Btw m w.heap.size) cs := D.own_keep x _ _ cs (fun b hb => ⟨hb, setCells_block _ _ _ _ _ (by have := hb.1; omega)⟩) hx
  have k3 := D.ownR_snoc (w := setCells w g (j * size) cs) (size := size) (b := g) (d := x) (S1 := fun b => g < b ∧ b < m) (S2 := Btw m w.heap.size) (S := fun b => g < b ∧ b < w.heap.size)
    (fun b hb => ⟨⟨by have := hb.1; omega, hb.2⟩, fun h => by have := hb.1; omega⟩) cs hcs k2 xs (fun b => g < b ∧ b < m) 0 (fun _ h => h) (fun b hb => ⟨hb.1, by omega⟩) (fun i v hv => by
      have hi : i < cs.length := (List.getElem?_eq_some_iff.1 hv).1
      rw [h1.cell, hj, Nat.zero_add]
      exact h4 i v hv (by omega)) k1
  exact D.ownR_keep size g (xs ++ [x]) _ _ 0 (fun b hb => ⟨by rw [hsz]; rcases hb with hb | hb; exact ⟨hb.1, by omega⟩; exact ⟨by have := hb.1; omega, hb.2⟩, rfl⟩) (fun _ _ => rfl) k3

/-- a row that has been filled -/
theorem fill_end {w : World} {B g size n : Nat} {t : TypeId} {row : Array Value} {xs : List D} (hrow : Row w g t row) (hB : B ≤ g) (hn : xs.length ≤ n) (hm : n ≤ maxLen)
    (hown : D.ownR w size g xs (fun b => g < b ∧ b < w.heap.size) 0) : Osl w (Btw B w.heap.size) size (some ⟨g, 0, none⟩) n xs :=
  ⟨hn, hm, .inr ⟨g, rfl, ⟨hB, hrow.lt⟩, fun o => hrow.frozen o, D.ownR_keep size g xs _ _ 0 (fun b hb => ⟨⟨⟨by omega, hb.2⟩, by omega⟩, rfl⟩) (fun _ _ => rfl) hown⟩⟩

theorem take_snoc' {α : Type} (l : List α) (j : Nat) (h : j < l.length) : l.take (j + 1) = l.take j ++ [l[j]] := by
  rw [List.take_succ_eq_append_getElem h]

theorem row_some {row : Array Value} (i : Nat) (h : i < row.size) : ∃ v, row[i]? = some v := ⟨_, Array.getElem?_eq_getElem h⟩

theorem bcell {W w1 : World} (hb : Below W.heap.size W w1) : (∀ b o, b < W.heap.size → w1.cell? ⟨b, o, none⟩ = W.cell? ⟨b, o, none⟩) ∧ (∀ b o, b < W.heap.size → w1.frozen? ⟨b, o, none⟩ = W.frozen? ⟨b, o, none⟩) :=
  ⟨fun b o h => hb.cell (p := ⟨b, o, none⟩) h, fun b o h => hb.frozen (p := ⟨b, o, none⟩) h⟩

/-- the row of a slice that was just made -/
def zr (z : Value) (size n : Nat) : Array Value := madeCells z.cells (n * size)
theorem zr_size (z : Value) (size n : Nat) : (zr z size n).size = n * size := size_madeCells _ _

theorem run_mk {P : Program} (t e : TypeId) (z : Value) (size bytes : Nat) (ht : P.underlying t = some (.slice e)) (hi : (P.info? e).map (fun i => (i.zero, i.size, i.bytes)) = some (some z, size, bytes))
    (n : Nat) (hn : n ≤ 1048576) (hb : bytes ≤ 1048576) (w : World) :
    (Instr.makeSlice t (.int .i64 (n : Int)) (.int .i64 (n : Int))).run P w = .ok (.slice (some ⟨w.heap.size, 0, none⟩) n n) (w.alloc (.cells (zr z size n) e)) := by
  obtain ⟨i, h1, h2, h3, h4⟩ := info_parts hi
  have hnat : i.bytes * n ≤ 1048576 * 1048576 := Nat.mul_le_mul (by omega) hn
  have hint : (i.bytes : Int) * (n : Int) ≤ 281474976710656 := by
    have h : ((i.bytes * n : Nat) : Int) ≤ 281474976710656 := by omega
    rwa [Int.natCast_mul] at h
  have hr := run_make (P := P) w t e i z ht h1 h2 .i64 .i64 n n (by omega) (by omega) hint (by omega)
  simp only [Int.toNat_natCast, h3] at hr
  exact hr

theorem quietB {P : Program} {f : FuncId} {args : Array Value} {w : World} {v : Ending} (h : Calls P f args w fun e w' => e = v ∧ w = w') : Calls P f args w fun e w' => e = v ∧ Below w.heap.size w w' :=
  h.mono fun _ _ ⟨a, b⟩ => ⟨a, b ▸ Below.refl _ _⟩

/-- a call of a function through its value enters it -/
theorem enters {P : Program} {K : FuncId} {fn : Func} (h : P.funcs[K]? = some fn) (h1 : (fn.name == "runtime.NumGoroutine") = false) (h2 : fn.body.isNone = false) (args : Array Value) (w : World) :
    (callFunc K args).run P w = .ok (.enter K args) w := by
  have e1 : ¬ fn.name = "runtime.NumGoroutine" := by simpa using h1
  have e2 : ¬ fn.body = none := by intro e; rw [e] at h2; cases h2
  simp [callFunc, h, e1, e2]

/-! ### how much a list holds -/
def bulkL {α : Type} (f : α → Nat) : List α → Nat
  | [] => 0
  | t :: r => 1 + f t + bulkL f r

theorem bulkL_take_succ {α : Type} (f : α → Nat) (l : List α) (i : Nat) (h : i < l.length) : bulkL f (l.take (i + 1)) = bulkL f (l.take i) + 1 + f l[i] := by
  induction l generalizing i with
  | nil => simp at h
  | cons t r ih =>
    match i with
    | 0 => simp [bulkL]
    | i + 1 => simp only [List.take_succ_cons, bulkL, List.getElem_cons_succ]; rw [ih i (by simpa using h)]; omega

theorem bulkL_take_le {α : Type} (f : α → Nat) (l : List α) (i : Nat) (h : i ≤ l.length) : bulkL f (l.take i) + (l.length - i) ≤ bulkL f l := by
  induction l generalizing i with
  | nil => simp [bulkL]
  | cons t r ih =>
    match i with
    | 0 => simp only [List.take_zero, bulkL, List.length_cons]; have := ih 0 (by omega); simp only [List.take_zero, bulkL] at this; omega
    | i + 1 => simp only [List.take_succ_cons, bulkL, List.length_cons]; have := ih i (by simpa using h); omega

theorem bulkL_take_ge {α : Type} (f : α → Nat) (l : List α) (i : Nat) (h : i ≤ l.length) : i ≤ bulkL f (l.take i) := by
  induction l generalizing i with
  | nil => simp at h; simp [h]
  | cons t r ih =>
    match i with
    | 0 => simp
    | i + 1 => simp only [List.take_succ_cons, bulkL]; have := ih i (by simpa using h); omega

theorem bulkL_mem {α : Type} (f : α → Nat) (l : List α) (t : α) (h : t ∈ l) : f t + 1 ≤ bulkL f l := by
  induction l with
  | nil => cases h
  | cons x r ih =>
    simp only [bulkL]
    cases h with
    | head => omega
    | tail _ h => have := ih h; omega

theorem bulkL_len {α : Type} (f : α → Nat) (l : List α) : l.length ≤ bulkL f l := by
  have := bulkL_take_ge f l l.length (Nat.le_refl _); rwa [List.take_length] at this

/-- what the laws' sz functions give back of what is left -/
def szv (b : Nat) (left : Int) : Int := if (b : Int) ≤ left then left - b else -1
theorem szv_le {b : Nat} {left : Int} (h : (b : Int) ≤ left) : szv b left = left - b := if_pos h
theorem szv_gt {b : Nat} {left : Int} (h : left < (b : Int)) : szv b left = -1 := if_neg (by omega)

end Go.Proofs.Ytghldoiblbcacaa

/- The data of the Go struct Ty: how it lies in memory (no program in sight). Conditions: none. -/
namespace Go.Proofs.Ytghldoiblbcacaa
open Go.RowKit
set_option linter.unusedVariables false
set_option linter.unusedSimpArgs false

inductive GTy where
  | mk (op : Int) (n : Int) (s : ByteArray) (kids : List GTy)
def GTy.op : GTy → Int | .mk x _ _ _ => x
def GTy.n : GTy → Int | .mk _ x _ _ => x
def GTy.s : GTy → ByteArray | .mk _ _ x _ => x
def GTy.kids : GTy → List GTy | .mk _ _ _ x => x

mutual
def GTy.toD : GTy → D | .mk op n s kids => .agg [.num .i64 op, .num .i64 n, .str s, .sl 4 (GTy.toDs kids)]
def GTy.toDs : List GTy → List D | [] => [] | t :: r => t.toD :: GTy.toDs r
end

theorem GTy.toDs_map : ∀ l : List GTy, GTy.toDs l = l.map GTy.toD
  | [] => rfl
  | t :: r => by simp only [GTy.toDs, List.map_cons, GTy.toDs_map r]

mutual
/-- how much it holds, as the laws count it -/
def GTy.bulk : GTy → Nat | .mk _ _ s kids => s.size + GTy.bulks kids
def GTy.bulks : List GTy → Nat | [] => 0 | t :: r => 1 + t.bulk + GTy.bulks r
end
theorem GTy.bulks_eq : ∀ l : List GTy, GTy.bulks l = bulkL GTy.bulk l
  | [] => rfl
  | t :: r => by simp only [GTy.bulks, bulkL, GTy.bulks_eq r]

theorem GTy.bulk_eq (t : GTy) : t.bulk = t.s.size + bulkL GTy.bulk t.kids := by
  cases t; simp only [GTy.bulk, GTy.bulks_eq, GTy.op, GTy.n, GTy.s, GTy.kids]

/-- the facts of a struct that lies in memory: its cells are .int .i64 t.op, .int .i64 t.n, .string t.s, .slice A1 t.kids.length c1 -/
def GTy.At (w : World) (S : Nat → Prop) (A1 : Option Addr) (c1 : Nat) (t : GTy) : Prop :=
  (Lit.int .i64 t.op).wf = true ∧ (Lit.int .i64 t.n).wf = true ∧ t.s.size ≤ maxLen ∧ Sl w S 4 A1 c1 (t.kids.map GTy.toD)

theorem GTy.rd {w : World} {S : Nat → Prop} {t : GTy} {cs : List Value} (h : t.toD.rd w S cs) : ∃ A1 c1, cs = [.int .i64 t.op, .int .i64 t.n, .string t.s, .slice A1 t.kids.length c1] ∧ GTy.At w S A1 c1 t := by
  cases t with
  | mk op n s kids =>
  simp only [GTy.toD, GTy.toDs_map] at h
  rw [D.rd_agg] at h
  rw [D.rdF_cons] at h
  obtain ⟨x0, r0, rfl, k0, h⟩ := h
  obtain ⟨rfl, h0⟩ := D.rd_num.1 k0
  rw [D.rdF_cons] at h
  obtain ⟨x1, r1, rfl, k1, h⟩ := h
  obtain ⟨rfl, h1⟩ := D.rd_num.1 k1
  rw [D.rdF_cons] at h
  obtain ⟨x2, r2, rfl, k2, h⟩ := h
  obtain ⟨rfl, h2⟩ := D.rd_str.1 k2
  rw [D.rdF_cons] at h
  obtain ⟨x3, r3, rfl, k3, h⟩ := h
  obtain ⟨A1, c1, rfl, h3⟩ := D.rd_sl.1 k3
  obtain rfl := D.rdF_nil.1 h
  exact ⟨A1, c1, by simp [GTy.op, GTy.n, GTy.s, GTy.kids], h0, h1, h2, h3⟩

theorem GTy.rd_mk {w : World} {S : Nat → Prop} {t : GTy} {A1 : Option Addr} {c1 : Nat} (h : GTy.At w S A1 c1 t) : t.toD.rd w S [.int .i64 t.op, .int .i64 t.n, .string t.s, .slice A1 t.kids.length c1] := by
  cases t with
  | mk op n s kids =>
  simp only [GTy.toD, GTy.toDs_map]
  unfold GTy.At at h
  obtain ⟨h0, h1, h2, h3⟩ := h
  rw [D.rd_agg]
  exact D.rdF_cons.2 ⟨[_], [_, _, _], rfl, D.rd_num.2 ⟨rfl, h0⟩, D.rdF_cons.2 ⟨[_], [_, _], rfl, D.rd_num.2 ⟨rfl, h1⟩, D.rdF_cons.2 ⟨[_], [_], rfl, D.rd_str.2 ⟨rfl, h2⟩, D.rdF_cons.2 ⟨[_], [], rfl, D.rd_sl.2 ⟨A1, c1, by simp [GTy.kids], h3⟩, D.rdF_nil.2 rfl⟩⟩⟩⟩

theorem GTy.elem {w : World} {S : Nat → Prop} {A : Option Addr} {c : Nat} {l : List GTy} (h : Sl w S 4 A c (l.map GTy.toD)) (i : Nat) (hi : i < l.length) :
    ∃ b off A1 c1, A = some ⟨b, off, none⟩ ∧ S b ∧ w.cell? ⟨b, off + i * 4, none⟩ = some (.int .i64 l[i].op) ∧ w.cell? ⟨b, off + i * 4 + 1, none⟩ = some (.int .i64 l[i].n) ∧ w.cell? ⟨b, off + i * 4 + 2, none⟩ = some (.string l[i].s) ∧ w.cell? ⟨b, off + i * 4 + 3, none⟩ = some (.slice A1 l[i].kids.length c1) ∧ GTy.At w S A1 c1 l[i] := by
  obtain ⟨b, off, cs, e, hb, hl, hc, hr⟩ := Sl.get h i (by simpa using hi)
  rw [List.getElem_map] at hr
  obtain ⟨A1, c1, rfl, h1⟩ := GTy.rd hr
  exact ⟨b, off, A1, c1, e, hb, hc 0 _ rfl, hc 1 _ rfl, hc 2 _ rfl, hc 3 _ rfl, h1⟩

theorem GTy.At.keep {w w' : World} {S S' : Nat → Prop} {t : GTy} {A1 : Option Addr} {c1 : Nat} (h : GTy.At w S A1 c1 t) (hk : ∀ b, S b → S' b ∧ w'.heap[b]? = w.heap[b]?) : GTy.At w' S' A1 c1 t := by
  unfold GTy.At at h ⊢
  obtain ⟨h0, h1, h2, h3⟩ := h
  exact ⟨h0, h1, h2, h3.keep hk⟩
theorem GTy.At.below {w w' : World} {B B' : Nat} {t : GTy} {A1 : Option Addr} {c1 : Nat} (h : GTy.At w (Lt B) A1 c1 t) (hb : Below B w w') (hB : B ≤ B') : GTy.At w' (Lt B') A1 c1 t :=
  h.keep (keep_below hb hB)

/-- the same, owned -/
def GTy.Ow (w : World) (S : Nat → Prop) (A1 : Option Addr) (c1 : Nat) (t : GTy) : Prop :=
  (Lit.int .i64 t.op).wf = true ∧ (Lit.int .i64 t.n).wf = true ∧ t.s.size ≤ maxLen ∧ Osl w S 4 A1 c1 (t.kids.map GTy.toD)

theorem GTy.own_mk {w : World} {S : Nat → Prop} {t : GTy} {A1 : Option Addr} {c1 : Nat} (h : GTy.Ow w S A1 c1 t) : t.toD.own w S [.int .i64 t.op, .int .i64 t.n, .string t.s, .slice A1 t.kids.length c1] := by
  cases t with
  | mk op n s kids =>
  simp only [GTy.toD, GTy.toDs_map]
  unfold GTy.Ow at h
  obtain ⟨h0, h1, h2, h3⟩ := h
  rw [D.own_agg]
  exact D.ownF_plain (c1 := [_]) (c2 := [_, _, _]) (D.own_num.2 ⟨rfl, h0⟩) (D.ownF_plain (c1 := [_]) (c2 := [_, _]) (D.own_num.2 ⟨rfl, h1⟩) (D.ownF_plain (c1 := [_]) (c2 := [_]) (D.own_str.2 ⟨rfl, h2⟩) (D.ownF_last (D.own_sl.2 ⟨A1, c1, by simp [GTy.kids], h3⟩))))

theorem GTy.Ow.keep {w w' : World} {S S' : Nat → Prop} {t : GTy} {A1 : Option Addr} {c1 : Nat} (h : GTy.Ow w S A1 c1 t) (hk : ∀ b, S b → S' b ∧ w'.heap[b]? = w.heap[b]?) : GTy.Ow w' S' A1 c1 t := by
  unfold GTy.Ow at h ⊢
  obtain ⟨h0, h1, h2, h3⟩ := h
  exact ⟨h0, h1, h2, h3.keep hk⟩
theorem GTy.Ow.at {w : World} {S : Nat → Prop} {t : GTy} {A1 : Option Addr} {c1 : Nat} (h : GTy.Ow w S A1 c1 t) : GTy.At w S A1 c1 t := by
  unfold GTy.Ow at h
  unfold GTy.At
  obtain ⟨h0, h1, h2, h3⟩ := h
  exact ⟨h0, h1, h2, h3.sl⟩

end Go.Proofs.Ytghldoiblbcacaa

/- The data of the Go struct Bind: how it lies in memory (no program in sight). Conditions: none. -/
namespace Go.Proofs.Ytghldoiblbcacaa
open Go.RowKit
set_option linter.unusedVariables false
set_option linter.unusedSimpArgs false

structure GBind where
  n : Int
  ty : GTy

def GBind.toD (x : GBind) : D := .agg [.num .i64 x.n, x.ty.toD]

/-- how much it holds, as the laws count it -/
def GBind.bulk (x : GBind) : Nat := x.ty.bulk

theorem GBind.bulk_eq (t : GBind) : t.bulk = t.ty.bulk := rfl

/-- the facts of a struct that lies in memory: its cells are .int .i64 t.n, .int .i64 t.ty.op, .int .i64 t.ty.n, .string t.ty.s, .slice A1 t.ty.kids.length c1 -/
def GBind.At (w : World) (S : Nat → Prop) (A1 : Option Addr) (c1 : Nat) (t : GBind) : Prop :=
  (Lit.int .i64 t.n).wf = true ∧ GTy.At w S A1 c1 t.ty

theorem GBind.rd {w : World} {S : Nat → Prop} {t : GBind} {cs : List Value} (h : t.toD.rd w S cs) : ∃ A1 c1, cs = [.int .i64 t.n, .int .i64 t.ty.op, .int .i64 t.ty.n, .string t.ty.s, .slice A1 t.ty.kids.length c1] ∧ GBind.At w S A1 c1 t := by
  unfold GBind.toD at h
  rw [D.rd_agg] at h
  rw [D.rdF_cons] at h
  obtain ⟨x0, r0, rfl, k0, h⟩ := h
  obtain ⟨rfl, h0⟩ := D.rd_num.1 k0
  rw [D.rdF_cons] at h
  obtain ⟨x1, r1, rfl, k1, h⟩ := h
  obtain ⟨A1, c1, rfl, h1⟩ := GTy.rd k1
  obtain rfl := D.rdF_nil.1 h
  exact ⟨A1, c1, by simp [List.length_map], h0, h1⟩

theorem GBind.rd_mk {w : World} {S : Nat → Prop} {t : GBind} {A1 : Option Addr} {c1 : Nat} (h : GBind.At w S A1 c1 t) : t.toD.rd w S [.int .i64 t.n, .int .i64 t.ty.op, .int .i64 t.ty.n, .string t.ty.s, .slice A1 t.ty.kids.length c1] := by
  unfold GBind.toD
  unfold GBind.At at h
  obtain ⟨h0, h1⟩ := h
  rw [D.rd_agg]
  exact D.rdF_cons.2 ⟨[_], [_, _, _, _], rfl, D.rd_num.2 ⟨rfl, h0⟩, D.rdF_cons.2 ⟨[_, _, _, _], [], rfl, GTy.rd_mk h1, D.rdF_nil.2 rfl⟩⟩

theorem GBind.elem {w : World} {S : Nat → Prop} {A : Option Addr} {c : Nat} {l : List GBind} (h : Sl w S 5 A c (l.map GBind.toD)) (i : Nat) (hi : i < l.length) :
    ∃ b off A1 c1, A = some ⟨b, off, none⟩ ∧ S b ∧ w.cell? ⟨b, off + i * 5, none⟩ = some (.int .i64 l[i].n) ∧ w.cell? ⟨b, off + i * 5 + 1, none⟩ = some (.int .i64 l[i].ty.op) ∧ w.cell? ⟨b, off + i * 5 + 2, none⟩ = some (.int .i64 l[i].ty.n) ∧ w.cell? ⟨b, off + i * 5 + 3, none⟩ = some (.string l[i].ty.s) ∧ w.cell? ⟨b, off + i * 5 + 4, none⟩ = some (.slice A1 l[i].ty.kids.length c1) ∧ GBind.At w S A1 c1 l[i] := by
  obtain ⟨b, off, cs, e, hb, hl, hc, hr⟩ := Sl.get h i (by simpa using hi)
  rw [List.getElem_map] at hr
  obtain ⟨A1, c1, rfl, h1⟩ := GBind.rd hr
  exact ⟨b, off, A1, c1, e, hb, hc 0 _ rfl, hc 1 _ rfl, hc 2 _ rfl, hc 3 _ rfl, hc 4 _ rfl, h1⟩

theorem GBind.At.keep {w w' : World} {S S' : Nat → Prop} {t : GBind} {A1 : Option Addr} {c1 : Nat} (h : GBind.At w S A1 c1 t) (hk : ∀ b, S b → S' b ∧ w'.heap[b]? = w.heap[b]?) : GBind.At w' S' A1 c1 t := by
  unfold GBind.At at h ⊢
  obtain ⟨h0, h1⟩ := h
  exact ⟨h0, h1.keep hk⟩
theorem GBind.At.below {w w' : World} {B B' : Nat} {t : GBind} {A1 : Option Addr} {c1 : Nat} (h : GBind.At w (Lt B) A1 c1 t) (hb : Below B w w') (hB : B ≤ B') : GBind.At w' (Lt B') A1 c1 t :=
  h.keep (keep_below hb hB)

/-- the same, owned -/
def GBind.Ow (w : World) (S : Nat → Prop) (A1 : Option Addr) (c1 : Nat) (t : GBind) : Prop :=
  (Lit.int .i64 t.n).wf = true ∧ GTy.Ow w S A1 c1 t.ty

theorem GBind.own_mk {w : World} {S : Nat → Prop} {t : GBind} {A1 : Option Addr} {c1 : Nat} (h : GBind.Ow w S A1 c1 t) : t.toD.own w S [.int .i64 t.n, .int .i64 t.ty.op, .int .i64 t.ty.n, .string t.ty.s, .slice A1 t.ty.kids.length c1] := by
  unfold GBind.toD
  unfold GBind.Ow at h
  obtain ⟨h0, h1⟩ := h
  rw [D.own_agg]
  exact D.ownF_plain (c1 := [_]) (c2 := [_, _, _, _]) (D.own_num.2 ⟨rfl, h0⟩) (D.ownF_last (GTy.own_mk h1))

theorem GBind.Ow.keep {w w' : World} {S S' : Nat → Prop} {t : GBind} {A1 : Option Addr} {c1 : Nat} (h : GBind.Ow w S A1 c1 t) (hk : ∀ b, S b → S' b ∧ w'.heap[b]? = w.heap[b]?) : GBind.Ow w' S' A1 c1 t := by
  unfold GBind.Ow at h ⊢
  obtain ⟨h0, h1⟩ := h
  exact ⟨h0, h1.keep hk⟩
theorem GBind.Ow.at {w : World} {S : Nat → Prop} {t : GBind} {A1 : Option Addr} {c1 : Nat} (h : GBind.Ow w S A1 c1 t) : GBind.At w S A1 c1 t := by
  unfold GBind.Ow at h
  unfold GBind.At
  obtain ⟨h0, h1⟩ := h
  exact ⟨h0, h1.at⟩

end Go.Proofs.Ytghldoiblbcacaa

/- The laws' sz, to and eq functions at Ty. Conditions: what is counted is at most 1048576. -/
namespace Go.Proofs.Ytghldoiblbcacaa
open Go.RowKit
set_option linter.unusedVariables false
set_option linter.unusedSimpArgs false
set_option maxHeartbeats 400000

theorem szTyS (l : List GTy) (A : Option Addr) (c : Nat) (left : Int) (w : World) (hs : Sl w (Lt w.heap.size) 4 A c (l.map GTy.toD)) (h0 : 0 ≤ left) (h1 : left ≤ 1048576)
    (H : ∀ t, t ∈ l → ∀ (A1 : Option Addr) (c1 : Nat) (left : Int) (w : World), 0 ≤ left → left ≤ 1048576 → GTy.At w (Lt w.heap.size) A1 c1 t →
      Calls Try.prog 159 #[.agg #[.int .i64 t.op, .int .i64 t.n, .string t.s, .slice A1 t.kids.length c1], .int .i64 left] w fun e w' => e = .returned (.int .i64 (szv t.bulk left)) ∧ Below w.heap.size w w') :
    Calls Try.prog 152 #[.slice A l.length c, .int .i64 left] w fun e w' => e = .returned (.int .i64 (szv (bulkL GTy.bulk l) left)) ∧ Below w.heap.size w w' := by
  have hlen : l.length ≤ 9223372036854775807 := by simpa using hs.len
  have HH := Lib.hid H
  clear H
  by_cases hll : left < (l.length : Int)
  · have hg : left - (l.length : Int) < 0 := by omega
    have hv := Lib.hid (szv_gt (b := bulkL GTy.bulk l) (left := left) (by have := bulkL_len GTy.bulk l; omega))
    go_enter Try.func152, Try.ntmps152
    go_wp2_with fail
    go_ret
    exact ⟨ret_int hv.out.symm, Below.refl _ _⟩
  · have hg : 0 ≤ left - (l.length : Int) := by omega
    go_enter Try.func152, Try.ntmps152
    go_wp2_with fail
    go_loopw [1, 5] (fun n i wr => ∃ (j : Nat) (L : Int), j ≤ l.length ∧ i = .int .i64 j ∧ n = .int .i64 L ∧ L = left - l.length - (bulkL GTy.bulk (l.take j) - j) ∧ 0 ≤ L ∧ L ≤ left ∧ Below w.heap.size w wr) (fun _ i _ => l.length - (intOf i).toNat)
    case atStart => exact ⟨0, _, by omega, by go_num, rfl, by simp [bulkL], by omega, by omega, Below.refl _ _⟩
    case round =>
      obtain ⟨j, L, hj, rfl, rfl, hL, hL0, hL1, hb⟩ := hrel
      have HL := Lib.hid hL
      clear hL
      have hsz := hb.size
      by_cases hlt : j < l.length
      · have hel := GTy.elem (hs.below hb (Nat.le_refl _)) j hlt
        obtain ⟨b, off, A1, c1, rfl, hSb, g0, g1, g2, g3, hat⟩ := hel
        have hmem : l[j] ∈ l := List.getElem_mem hlt
        have hts := Lib.hid (bulkL_take_succ GTy.bulk l j hlt)
        have htl := Lib.hid (bulkL_take_le GTy.bulk l (j + 1) (by omega))
        have htg := Lib.hid (bulkL_take_ge GTy.bulk l j (by omega))
        go_wp2_with fail
        refine (HH.out _ hmem _ _ L _ hL0 (by omega) (hat.below (Below.refl _ _) hsz)).mono ?_
        rintro e w1 ⟨rfl, hb1⟩
        by_cases hle : ((l[j]).bulk : Int) ≤ L
        · have hv := szv_le hle
          have hge : 0 ≤ L - ((l[j]).bulk : Int) := by omega
          go_wp2_with fail
          go_roundw
          case rel => exact ⟨j + 1, _, by omega, by go_num, rfl, by rw [hts.out, HL.out]; omega, by omega, by omega, hb.trans (hb1.mono hsz)⟩
          case measure => simp [intOf]; omega
        · have hv := szv_gt (b := (l[j]).bulk) (left := L) (by omega)
          go_wp2_with fail
          go_ret
          refine ⟨ret_int ?_, hb.trans (hb1.mono hsz)⟩
          have e1 := hts.out; have e2 := htl.out; have e3 := htg.out; have e4 := HL.out
          rw [szv_gt (by omega)]
      · have hjl : j = l.length := by omega
        have Hj := Lib.hid hjl
        clear hjl
        go_wp2_with fail
        go_ret
        refine ⟨ret_int ?_, hb⟩
        have e4 := HL.out
        rw [Hj.out, List.take_length] at e4
        have := bulkL_len GTy.bulk l
        rw [szv_le (by omega)]; omega

theorem szTy (k : Nat) : ∀ (t : GTy) (A1 : Option Addr) (c1 : Nat) (left : Int) (w : World), t.bulk < k → 0 ≤ left → left ≤ 1048576 → GTy.At w (Lt w.heap.size) A1 c1 t →
      Calls Try.prog 159 #[.agg #[.int .i64 t.op, .int .i64 t.n, .string t.s, .slice A1 t.kids.length c1], .int .i64 left] w fun e w' => e = .returned (.int .i64 (szv t.bulk left)) ∧ Below w.heap.size w w' := by
  induction k with
  | zero => intro t A1 c1 left w hk; omega
  | succ k ih =>
    intro t A1 c1 left w hk h0 h1 hat
    have hbe := t.bulk_eq
    obtain ⟨k0, k1, k2, k3⟩ := id hat
    have s2 : t.s.size ≤ 9223372036854775807 := by unfold maxLen at k2; omega
    have H3 := fun (left : Int) (w : World) hs h0 h1 => szTyS t.kids A1 c1 left w hs h0 h1 (fun u hu A1 c1 left w h0 h1 hat => ih u A1 c1 left w (by have := bulkL_mem GTy.bulk t.kids u hu; omega) h0 h1 hat)
    have HH := Lib.hid H3
    have HE := Lib.hid hbe
    have hat' := Lib.hid hat
    clear hbe hat k0 k1 k2 k3 H3 ih
    have B0 : Below w.heap.size w (w.alloc (.cells #[.int .i64 t.op, .int .i64 t.n, .string t.s, .slice A1 t.kids.length c1] 201)) := (Below.refl _ _).alloc (Nat.le_refl _) _
    have r0 := Lib.hid (Row.new w 201 #[.int .i64 t.op, .int .i64 t.n, .string t.s, .slice A1 t.kids.length c1])
    go_enter Try.func159, Try.ntmps159
    by_cases g2 : ((t.s.size : Nat) : Int) ≤ left
    rotate_left
    · have q2 : left - ((t.s.size : Nat) : Int) < 0 := by omega
      go_wp2_with fail
      go_ret
      refine ⟨ret_int ?_, B0⟩
      have := HE.out
      rw [szv_gt (by omega)]
    have q2 : 0 ≤ left - ((t.s.size : Nat) : Int) := by omega
    go_wp2_with fail
    obtain ⟨-, -, -, k3⟩ := hat'.out.below B0 B0.size
    refine (HH.out _ _ k3 (by omega) (by omega)).mono ?_
    rintro e w1 ⟨rfl, hb1⟩
    have B1 := B0.trans (hb1.mono B0.size)
    by_cases g3 : ((bulkL GTy.bulk t.kids : Nat) : Int) ≤ left - ((t.s.size : Nat) : Int)
    rotate_left
    · have hv := szv_gt (b := bulkL GTy.bulk t.kids) (left := left - ((t.s.size : Nat) : Int)) (by omega)
      go_wp2_with fail
      go_ret
      refine ⟨ret_int ?_, B1⟩
      have := HE.out
      rw [szv_gt (by omega)]
    have v3 := szv_le g3
    have q3 : 0 ≤ left - ((t.s.size : Nat) : Int) - ((bulkL GTy.bulk t.kids : Nat) : Int) := by omega
    go_wp2_with fail
    go_ret
    refine ⟨ret_int ?_, B1⟩
    have := HE.out
    rw [szv_le (by omega)]; omega

theorem szTy' (t : GTy) (A1 : Option Addr) (c1 : Nat) (left : Int) (w : World) (h0 : 0 ≤ left) (h1 : left ≤ 1048576) (hat : GTy.At w (Lt w.heap.size) A1 c1 t) :
      Calls Try.prog 159 #[.agg #[.int .i64 t.op, .int .i64 t.n, .string t.s, .slice A1 t.kids.length c1], .int .i64 left] w fun e w' => e = .returned (.int .i64 (szv t.bulk left)) ∧ Below w.heap.size w w' :=
  szTy (t.bulk + 1) t A1 c1 left w (by omega) h0 h1 hat

theorem szTyS' (l : List GTy) (A : Option Addr) (c : Nat) (left : Int) (w : World) (hs : Sl w (Lt w.heap.size) 4 A c (l.map GTy.toD)) (h0 : 0 ≤ left) (h1 : left ≤ 1048576) :
    Calls Try.prog 152 #[.slice A l.length c, .int .i64 left] w fun e w' => e = .returned (.int .i64 (szv (bulkL GTy.bulk l) left)) ∧ Below w.heap.size w w' :=
  szTyS l A c left w hs h0 h1 (fun u _ A1 c1 left w h0 h1 hat => szTy' u A1 c1 left w h0 h1 hat)

/-- what a to function gives back: a struct of the call's own -/
def ToTy (t : GTy) (w : World) (e : Ending) (w' : World) : Prop := ∃ A1 c1, e = .returned (.agg #[.int .i64 t.op, .int .i64 t.n, .string t.s, .slice A1 t.kids.length c1]) ∧ GTy.Ow w' (Btw w.heap.size w'.heap.size) A1 c1 t ∧ Below w.heap.size w w'
def ToTyS (l : List GTy) (w : World) (e : Ending) (w' : World) : Prop := ∃ A1 c1, e = .returned (.slice A1 l.length c1) ∧ Osl w' (Btw w.heap.size w'.heap.size) 4 A1 c1 (l.map GTy.toD) ∧ Below w.heap.size w w'

def zTy : Value := .agg #[.int .i64 0, .int .i64 0, .string ⟨#[]⟩, .slice none 0 0]
theorem mkTy (n : Nat) (hn : n ≤ 1048576) (w : World) : (Instr.makeSlice 25 (.int .i64 (n : Int)) (.int .i64 (n : Int))).run Try.prog w = .ok (.slice (some ⟨w.heap.size, 0, none⟩) n n) (w.alloc (.cells (zr zTy 4 n) 27)) :=
  run_mk 25 27 zTy 4 56 Try.underlying25 (by kernel_rfl) n hn (by omega) w

theorem toTyS (l : List GTy) (A : Option Addr) (c : Nat) (w : World) (hs : Sl w (Lt w.heap.size) 4 A c (l.map GTy.toD)) (hl : l.length ≤ 1048576)
    (H : ∀ t, t ∈ l → ∀ (A1 : Option Addr) (c1 : Nat) (w : World), GTy.At w (Lt w.heap.size) A1 c1 t →
      Calls Try.prog 160 #[.agg #[.int .i64 t.op, .int .i64 t.n, .string t.s, .slice A1 t.kids.length c1]] w (ToTy t w)) :
    Calls Try.prog 154 #[.slice A l.length c] w (ToTyS l w) := by
  have HH := Lib.hid H
  clear H
  have hmk := mkTy l.length hl
  go_enter Try.func154, Try.ntmps154
  go_wp2_with fail
  clear hmk
  go_loopw [4] (fun i wr => ∃ (j : Nat) (row : Array Value), j ≤ l.length ∧ i = .int .i64 j ∧ Row wr w.heap.size 27 row ∧ row.size = l.length * 4 ∧
      D.ownR wr 4 w.heap.size ((l.take j).map GTy.toD) (fun b => w.heap.size < b ∧ b < wr.heap.size) 0 ∧ Below w.heap.size w wr) (fun i _ => l.length - (intOf i).toNat)
  case atStart => exact ⟨0, _, by omega, by go_num, Row.new _ _ _, zr_size _ _ _, by simp [D.ownR], (Below.refl _ _).alloc (Nat.le_refl _) _⟩
  case round =>
    obtain ⟨j, row, hj, rfl, hrow, hrs, hown, hb⟩ := hrel
    have hsz := hb.size
    have hgl := hrow.lt
    by_cases hlt : j < l.length
    · have hel := GTy.elem (hs.below hb (Nat.le_refl _)) j hlt
      obtain ⟨b, off, A1, c1, rfl, hSb, g0, g1, g2, g3, hat⟩ := hel
      have hmem : l[j] ∈ l := List.getElem_mem hlt
      go_wp2_with fail
      refine (HH.out _ hmem _ _ _ (hat.below (Below.refl _ _) hsz)).mono ?_
      rintro e w1 ⟨B1, d1, rfl, how, hb1⟩
      have hrow1 := Lib.hid (hrow.below hb1 hgl)
      have hf := fun i => hrow1.out.frozen i
      obtain ⟨v0, y0⟩ := row_some (row := row) (j * 4) (by omega)
      obtain ⟨v1, y1⟩ := row_some (row := row) (j * 4 + 1) (by omega)
      obtain ⟨v2, y2⟩ := row_some (row := row) (j * 4 + 2) (by omega)
      obtain ⟨v3, y3⟩ := row_some (row := row) (j * 4 + 3) (by omega)
      have x0 := (hrow1.out.cell (j * 4)).trans y0
      have x1 := (hrow1.out.cell (j * 4 + 1)).trans y1
      have x2 := (hrow1.out.cell (j * 4 + 2)).trans y2
      have x3 := (hrow1.out.cell (j * 4 + 3)).trans y3
      clear y0 y1 y2 y3
      have hst := fill_step hrow1.out (j := j) (m := wr.heap.size) (xs := (l.take j).map GTy.toD) (size := 4) (by simp; omega) (by omega) hgl hb1.size
        (D.ownR_keep 4 _ _ _ _ 0 (fun b hb => ⟨hb, hb1.block b hb.2⟩) (fun i _ => hb1.cell (p := ⟨w.heap.size, i, none⟩) hgl) hown) (GTy.own_mk how) rfl
      have hB := setCells_below (hb.trans (hb1.mono hsz)) w.heap.size (j * 4) (Nat.le_refl _) [.int .i64 l[j].op, .int .i64 l[j].n, .string l[j].s, .slice B1 l[j].kids.length d1]
      go_wp2_with fail
      go_roundw
      case rel =>
        obtain ⟨row', p1, p2, p3⟩ := hst
        exact ⟨j + 1, row', by omega, by go_num, p1, by omega, by rw [take_snoc' l j hlt, List.map_append]; exact p3, hB⟩
      case measure => simp [intOf]; omega
    · have hjl : j = l.length := by omega
      have Hj := Lib.hid hjl
      clear hjl
      go_wp2_with fail
      go_ret
      rw [Hj.out, List.take_length] at hown
      exact ⟨_, _, rfl, fill_end hrow (Nat.le_refl _) (by simp) (by unfold maxLen; omega) hown, hb⟩

theorem toTy (k : Nat) : ∀ (t : GTy) (A1 : Option Addr) (c1 : Nat) (w : World), t.bulk < k → t.bulk ≤ 1048576 → GTy.At w (Lt w.heap.size) A1 c1 t →
      Calls Try.prog 160 #[.agg #[.int .i64 t.op, .int .i64 t.n, .string t.s, .slice A1 t.kids.length c1]] w (ToTy t w) := by
  induction k with
  | zero => intro t A1 c1 w hk; omega
  | succ k ih =>
    intro t A1 c1 w hk h1 hat
    have hbe := t.bulk_eq
    have H3 := fun (w : World) hs => toTyS t.kids A1 c1 w hs (by have := bulkL_len GTy.bulk t.kids; omega) (fun u hu A1 c1 w hat => ih u A1 c1 w (by have := bulkL_mem GTy.bulk t.kids u hu; omega) (by have := bulkL_mem GTy.bulk t.kids u hu; omega) hat)
    have HH := Lib.hid H3
    have hat' := Lib.hid hat
    clear hbe hat H3 ih
    go_enter Try.func160, Try.ntmps160
    go_wp2_with fail
    have W0 : ∃ w0, w0 = ((w.alloc (.cells #[.int .i64 t.op, .int .i64 t.n, .string t.s, .slice A1 t.kids.length c1] 201)).alloc (.cells #[.int .i64 0, .int .i64 0, .string ⟨#[]⟩, .slice none 0 0] 27)).alloc (.cells #[.int .i64 t.op, .int .i64 t.n, .string t.s, .slice none 0 0] 27) := ⟨_, rfl⟩
    obtain ⟨w0, e0⟩ := W0
    have B0 : Below w.heap.size w w0 := by rw [e0]; exact (((Below.refl _ _).alloc (Nat.le_refl _) _).alloc (by simp) _).alloc (by simp; omega) _
    have S0 : w0.heap.size = w.heap.size + 3 := by rw [e0]; simp
    have Ra0 : Row w0 w.heap.size 201 #[.int .i64 t.op, .int .i64 t.n, .string t.s, .slice A1 t.kids.length c1] := by rw [e0]; exact ((Row.new' _ _ _ rfl).alloc _).alloc _
    have Rz0 : Row w0 (w.heap.size + 1) 27 #[.int .i64 0, .int .i64 0, .string ⟨#[]⟩, .slice none 0 0] := by rw [e0]; exact (Row.new' _ _ _ (by simp)).alloc _
    have Ro0 : Row w0 (w.heap.size + 1 + 1) 27 #[.int .i64 t.op, .int .i64 t.n, .string t.s, .slice none 0 0] := by rw [e0]; exact Row.new' _ _ _ (by simp)
    rw [← e0]
    clear e0
    obtain ⟨-, -, -, q3⟩ := hat'.out.below B0 B0.size
    refine (HH.out (w0) q3).mono ?_
    rintro e w1 ⟨D1, d1, rfl, how3, hb1⟩
    have hs1 := hb1.size
    have X1 := B0.trans (hb1.mono B0.size)
    have Rax1 := Lib.hid (Ra0.below hb1 Ra0.lt)
    have Rzx1 := Lib.hid (Rz0.below hb1 Rz0.lt)
    have Rox1 := Lib.hid (Ro0.below hb1 Ro0.lt)
    have hca1 := fun i => Rax1.out.cell i
    have hcz1 := fun i => Rzx1.out.cell i
    have hco1 := fun i => Rox1.out.cell i
    have hfz1 := fun i => Rzx1.out.frozen i
    have hfo1 := fun i => Rox1.out.frozen i
    have B1 := setCells_below X1 (w.heap.size + 1 + 1) 3 (by omega) [.slice D1 t.kids.length d1]
    have Ra1 : Hid (Row (setCells w1 (w.heap.size + 1 + 1) 3 [.slice D1 t.kids.length d1]) w.heap.size 201 #[.int .i64 t.op, .int .i64 t.n, .string t.s, .slice A1 t.kids.length c1]) := (Rax1.out).far (p := ⟨w.heap.size + 1 + 1, 3, none⟩) (by simp <;> omega) (.slice D1 t.kids.length d1)
    have Rz1 : Hid (Row (setCells w1 (w.heap.size + 1 + 1) 3 [.slice D1 t.kids.length d1]) (w.heap.size + 1) 27 #[.int .i64 0, .int .i64 0, .string ⟨#[]⟩, .slice none 0 0]) := (Rzx1.out).far (p := ⟨w.heap.size + 1 + 1, 3, none⟩) (by simp <;> omega) (.slice D1 t.kids.length d1)
    have Ro1 : Hid (Row (setCells w1 (w.heap.size + 1 + 1) 3 [.slice D1 t.kids.length d1]) (w.heap.size + 1 + 1) 27 #[.int .i64 t.op, .int .i64 t.n, .string t.s, .slice D1 t.kids.length d1]) := (Rox1.out).set 3 (.slice D1 t.kids.length d1)
    replace how3 := how3.keep (S' := Btw (w0).heap.size (w1).heap.size) (w' := setCells w1 (w.heap.size + 1 + 1) 3 [.slice D1 t.kids.length d1]) fun b hb => ⟨hb, setCells_block _ _ _ _ _ (by have := hb.1; first | omega | (simp only [setCells_size] at *; omega) | (simp only [setCells_size] at *; done))⟩
    have BF := setCells_below B1 (w.heap.size + 1) 0 (by omega) [.int .i64 t.op, .int .i64 t.n, .string t.s, .slice D1 t.kids.length d1]
    have SF : (setCells (setCells w1 (w.heap.size + 1 + 1) 3 [.slice D1 t.kids.length d1]) (w.heap.size + 1) 0 [.int .i64 t.op, .int .i64 t.n, .string t.s, .slice D1 t.kids.length d1]).heap.size = w1.heap.size := by rw [setCells_size, setCells_size]
    replace how3 := how3.keep (S' := Btw w.heap.size (setCells (setCells w1 (w.heap.size + 1 + 1) 3 [.slice D1 t.kids.length d1]) (w.heap.size + 1) 0 [.int .i64 t.op, .int .i64 t.n, .string t.s, .slice D1 t.kids.length d1]).heap.size) (w' := setCells (setCells w1 (w.heap.size + 1 + 1) 3 [.slice D1 t.kids.length d1]) (w.heap.size + 1) 0 [.int .i64 t.op, .int .i64 t.n, .string t.s, .slice D1 t.kids.length d1]) fun b hb => ⟨⟨by have := hb.1; first | omega | (simp only [setCells_size] at *; omega) | (simp only [setCells_size] at *; done), by have := hb.2; have := SF; first | omega | (simp only [setCells_size] at *; omega) | (simp only [setCells_size] at *; done)⟩, setCells_block _ _ _ _ _ (by have := hb.1; first | omega | (simp only [setCells_size] at *; omega) | (simp only [setCells_size] at *; done))⟩
    have qs := hat'.out
    obtain ⟨p0, p1, p2, p3⟩ := qs
    go_wp2_with fail
    exact bodyPost_ret (v := .agg #[.int .i64 t.op, .int .i64 t.n, .string t.s, .slice D1 t.kids.length d1]) (by simp [results, Try.results160, go_sem, hca1, hcz1, hco1]) rfl ⟨D1, d1, rfl, ⟨p0, p1, p2, how3⟩, BF⟩

theorem toTy' (t : GTy) (A1 : Option Addr) (c1 : Nat) (w : World) (h1 : t.bulk ≤ 1048576) (hat : GTy.At w (Lt w.heap.size) A1 c1 t) :
      Calls Try.prog 160 #[.agg #[.int .i64 t.op, .int .i64 t.n, .string t.s, .slice A1 t.kids.length c1]] w (ToTy t w) :=
  toTy (t.bulk + 1) t A1 c1 w (by omega) h1 hat

theorem toTyS' (l : List GTy) (A : Option Addr) (c : Nat) (w : World) (hs : Sl w (Lt w.heap.size) 4 A c (l.map GTy.toD)) (hl : bulkL GTy.bulk l ≤ 1048576) :
    Calls Try.prog 154 #[.slice A l.length c] w (ToTyS l w) :=
  toTyS l A c w hs (by have := bulkL_len GTy.bulk l; omega) (fun u hu A1 c1 w hat => toTy' u A1 c1 w (by have := bulkL_mem GTy.bulk l u hu; omega) hat)

set_option maxRecDepth 20000 in
theorem eqTyS (l : List GTy) (A B : Option Addr) (c d : Nat) (w : World) (hs : Sl w (Lt w.heap.size) 4 A c (l.map GTy.toD)) (hs' : Sl w (Lt w.heap.size) 4 B d (l.map GTy.toD))
    (H : ∀ t, t ∈ l → ∀ (A1 : Option Addr) (c1 : Nat) (B1 : Option Addr) (d1 : Nat) (w : World), GTy.At w (Lt w.heap.size) A1 c1 t → GTy.At w (Lt w.heap.size) B1 d1 t →
      Calls Try.prog 161 #[.agg #[.int .i64 t.op, .int .i64 t.n, .string t.s, .slice A1 t.kids.length c1], .agg #[.int .i64 t.op, .int .i64 t.n, .string t.s, .slice B1 t.kids.length d1]] w fun e w' => e = .returned (.bool true) ∧ Below w.heap.size w w') :
    Calls Try.prog 157 #[.slice A l.length c, .slice B l.length d] w fun e w' => e = .returned (.bool true) ∧ Below w.heap.size w w' := by
  have hlen : l.length ≤ 9223372036854775807 := by simpa using hs.len
  have HH := Lib.hid H
  clear H
  go_enter Try.func157, Try.ntmps157
  go_wp2_with fail
  go_loopw [5] (fun i wr => ∃ (j : Nat), j ≤ l.length ∧ i = .int .i64 j ∧ Below w.heap.size w wr) (fun i _ => l.length - (intOf i).toNat)
  case atStart => exact ⟨0, by omega, by go_num, Below.refl _ _⟩
  case round =>
    obtain ⟨j, hj, rfl, hb⟩ := hrel
    have hsz := hb.size
    by_cases hlt : j < l.length
    · have hel := GTy.elem (hs.below hb (Nat.le_refl _)) j hlt
      obtain ⟨b, off, A1, c1, rfl, hSb, g0, g1, g2, g3, hat⟩ := hel
      have hel := GTy.elem (hs'.below hb (Nat.le_refl _)) j hlt
      obtain ⟨b', off', B1, d1, rfl, hSb', g0', g1', g2', g3', hat'⟩ := hel
      have hmem : l[j] ∈ l := List.getElem_mem hlt
      go_wp2_with fail
      refine wp_region_still_tail 8 (by kernel_rfl) (by kernel_rfl) ?_
      simp only [List.take_succ_cons, List.take_zero, List.drop_succ_cons, List.drop_zero]
      change wpStill _ _ wr.drew (fun a' => wpList _ _ _ _ a' wr.drew) _ _
      iterate 8 still_step
      refine wpStill_nil ?_
      go_wp2_with fail
      refine (HH.out _ hmem _ _ _ _ wr.drew (hat.keep fun b hb => ⟨Nat.lt_of_lt_of_le hb hsz, rfl⟩) (hat'.keep fun b hb => ⟨Nat.lt_of_lt_of_le hb hsz, rfl⟩)).mono ?_
      rintro e w1 ⟨rfl, hb1⟩
      go_wp2_with fail
      go_roundw
      case rel => exact ⟨j + 1, by omega, by go_num, hb.drew.trans (hb1.mono hsz)⟩
      case measure => simp [intOf]; omega
    · have hjl : j = l.length := by omega
      clear hjl
      go_wp2_with fail
      go_ret
      exact ⟨rfl, hb⟩

set_option maxRecDepth 20000 in
theorem eqTy (k : Nat) : ∀ (t : GTy) (A1 : Option Addr) (c1 : Nat) (B1 : Option Addr) (d1 : Nat) (w : World), t.bulk < k → GTy.At w (Lt w.heap.size) A1 c1 t → GTy.At w (Lt w.heap.size) B1 d1 t →
      Calls Try.prog 161 #[.agg #[.int .i64 t.op, .int .i64 t.n, .string t.s, .slice A1 t.kids.length c1], .agg #[.int .i64 t.op, .int .i64 t.n, .string t.s, .slice B1 t.kids.length d1]] w fun e w' => e = .returned (.bool true) ∧ Below w.heap.size w w' := by
  induction k with
  | zero => intro t A1 c1 B1 d1 w hk; omega
  | succ k ih =>
    intro t A1 c1 B1 d1 w hk hat hat2
    have hbe := t.bulk_eq
    have H3 := fun (w : World) hs hs' => eqTyS t.kids A1 B1 c1 d1 w hs hs' (fun u hu A1 c1 B1 d1 w hat hat2 => ih u A1 c1 B1 d1 w (by have := bulkL_mem GTy.bulk t.kids u hu; omega) hat hat2)
    have HH := Lib.hid H3
    clear hbe H3 ih
    have hat' := Lib.hid hat
    have hat2' := Lib.hid hat2
    clear hat hat2
    have B0 : Below w.heap.size w ((w.alloc (.cells #[.int .i64 t.op, .int .i64 t.n, .string t.s, .slice A1 t.kids.length c1] 27)).alloc (.cells #[.int .i64 t.op, .int .i64 t.n, .string t.s, .slice B1 t.kids.length d1] 27)) := ((Below.refl _ _).alloc (Nat.le_refl _) _).alloc (by simp) _
    have ra0 := Lib.hid ((Row.new w 27 #[.int .i64 t.op, .int .i64 t.n, .string t.s, .slice A1 t.kids.length c1]).alloc (.cells #[.int .i64 t.op, .int .i64 t.n, .string t.s, .slice B1 t.kids.length d1] 27))
    have rb0 := Lib.hid (Row.new' (w.alloc (.cells #[.int .i64 t.op, .int .i64 t.n, .string t.s, .slice A1 t.kids.length c1] 27)) 27 #[.int .i64 t.op, .int .i64 t.n, .string t.s, .slice B1 t.kids.length d1] (g := w.heap.size + 1) (by simp))
    go_enter Try.func161, Try.ntmps161
    go_wp2_with fail
    obtain ⟨-, -, -, q3⟩ := hat'.out.below B0 B0.size
    obtain ⟨-, -, -, p3⟩ := hat2'.out.below B0 B0.size
    refine (HH.out _ q3 p3).mono ?_
    rintro e w1 ⟨rfl, hb1⟩
    have B1 := B0.trans (hb1.mono B0.size)
    go_wp2_with fail
    go_ret
    exact ⟨rfl, B1⟩

theorem eqTy' (t : GTy) (A1 : Option Addr) (c1 : Nat) (B1 : Option Addr) (d1 : Nat) (w : World) (hat : GTy.At w (Lt w.heap.size) A1 c1 t) (hat2 : GTy.At w (Lt w.heap.size) B1 d1 t) :
      Calls Try.prog 161 #[.agg #[.int .i64 t.op, .int .i64 t.n, .string t.s, .slice A1 t.kids.length c1], .agg #[.int .i64 t.op, .int .i64 t.n, .string t.s, .slice B1 t.kids.length d1]] w fun e w' => e = .returned (.bool true) ∧ Below w.heap.size w w' :=
  eqTy (t.bulk + 1) t A1 c1 B1 d1 w (by omega) hat hat2

theorem eqTyS' (l : List GTy) (A B : Option Addr) (c d : Nat) (w : World) (hs : Sl w (Lt w.heap.size) 4 A c (l.map GTy.toD)) (hs' : Sl w (Lt w.heap.size) 4 B d (l.map GTy.toD)) :
    Calls Try.prog 157 #[.slice A l.length c, .slice B l.length d] w fun e w' => e = .returned (.bool true) ∧ Below w.heap.size w w' :=
  eqTyS l A B c d w hs hs' (fun u _ A1 c1 B1 d1 w hat hat2 => eqTy' u A1 c1 B1 d1 w hat hat2)

end Go.Proofs.Ytghldoiblbcacaa

/- The laws' sz, to and eq functions at Bind. Conditions: what is counted is at most 1048576. -/
namespace Go.Proofs.Ytghldoiblbcacaa
open Go.RowKit
set_option linter.unusedVariables false
set_option linter.unusedSimpArgs false
set_option maxHeartbeats 400000





/-- what a to function gives back: a struct of the call's own -/
def ToBind (t : GBind) (w : World) (e : Ending) (w' : World) : Prop := ∃ A1 c1, e = .returned (.agg #[.int .i64 t.n, .int .i64 t.ty.op, .int .i64 t.ty.n, .string t.ty.s, .slice A1 t.ty.kids.length c1]) ∧ GBind.Ow w' (Btw w.heap.size w'.heap.size) A1 c1 t ∧ Below w.heap.size w w'
def ToBindS (l : List GBind) (w : World) (e : Ending) (w' : World) : Prop := ∃ A1 c1, e = .returned (.slice A1 l.length c1) ∧ Osl w' (Btw w.heap.size w'.heap.size) 5 A1 c1 (l.map GBind.toD) ∧ Below w.heap.size w w'










end Go.Proofs.Ytghldoiblbcacaa

/- Plain facts on the first of a list that a predicate takes (no program in sight). Conditions: none. -/
namespace Go.Proofs.Ytghldoiblbcacaa

/-- the place of the first that p takes; -1: there is none -/
def idxI {α : Type} (p : α → Bool) : List α → Int
  | [] => -1
  | x :: r => if p x then 0 else if idxI p r < 0 then -1 else idxI p r + 1

/-- none of the first j is taken -/
def noneTo {α : Type} (p : α → Bool) (l : List α) (j : Nat) : Prop := ∀ i (h : i < l.length), i < j → p l[i] = false

theorem noneTo_zero {α : Type} (p : α → Bool) (l : List α) : noneTo p l 0 := fun i _ h => by omega

theorem noneTo_succ {α : Type} {p : α → Bool} {l : List α} {j : Nat} (h : noneTo p l j) (hj : j < l.length) (he : p l[j] = false) : noneTo p l (j + 1) := fun i hi hij => by
  rcases Nat.lt_or_ge i j with h1 | h1
  · exact h i hi h1
  · obtain rfl : i = j := by omega
    exact he

theorem noneTo_tail {α : Type} {p : α → Bool} {x : α} {r : List α} {j : Nat} (h : noneTo p (x :: r) (j + 1)) : noneTo p r j := fun i hi hij => by
  have := h (i + 1) (by simpa using hi) (by omega)
  simpa using this

theorem idxI_none {α : Type} {p : α → Bool} : ∀ {l : List α}, noneTo p l l.length → idxI p l = -1
  | [], _ => rfl
  | x :: r, h => by
    have h0 := h 0 (by simp) (by simp)
    simp only [List.getElem_cons_zero] at h0
    have h1 := idxI_none (p := p) (l := r) (noneTo_tail (j := r.length) (by simpa using h))
    simp [idxI, h0, h1]

theorem idxI_at {α : Type} {p : α → Bool} : ∀ {l : List α} {j : Nat}, noneTo p l j → (hj : j < l.length) → p l[j] = true → idxI p l = j
  | [], _, _, hj, _ => by simp at hj
  | x :: r, 0, _, _, he => by simp only [List.getElem_cons_zero] at he; simp [idxI, he]
  | x :: r, j + 1, h, hj, he => by
    have h0 := h 0 (by simp) (by omega)
    simp only [List.getElem_cons_zero] at h0
    have h1 := idxI_at (p := p) (l := r) (j := j) (noneTo_tail h) (by simpa using hj) (by simpa using he)
    simp only [idxI, h0, h1]
    have : ¬ ((j : Int) < 0) := by omega
    simp [this]

theorem idxI_any_false {α : Type} {p : α → Bool} : ∀ {l : List α}, l.any p = false → idxI p l = -1
  | [], _ => rfl
  | x :: r, h => by
    simp only [List.any_cons, Bool.or_eq_false_iff] at h
    simp [idxI, h.1, idxI_any_false h.2]

theorem idxI_any_true {α : Type} {p : α → Bool} : ∀ {l : List α}, l.any p = true → 0 ≤ idxI p l
  | [], h => by simp at h
  | x :: r, h => by
    simp only [List.any_cons, Bool.or_eq_true] at h
    unfold idxI
    split
    · omega
    · rename_i hx
      rcases h with h | h
      · exact absurd h hx
      · have := idxI_any_true h
        split <;> omega

/-- where there is one: its place, and it is taken -/
theorem idxI_spec {α : Type} {p : α → Bool} : ∀ {l : List α}, 0 ≤ idxI p l → ∃ j, ∃ h : j < l.length, idxI p l = j ∧ p l[j] = true ∧ noneTo p l j
  | [], h => by simp [idxI] at h
  | x :: r, h => by
    unfold idxI at h ⊢
    by_cases hx : p x = true
    · rw [if_pos hx] at h ⊢
      exact ⟨0, by simp, rfl, by simpa using hx, fun i _ h => by omega⟩
    · rw [if_neg hx] at h ⊢
      by_cases hr : idxI p r < 0
      · rw [if_pos hr] at h; omega
      · rw [if_neg hr] at h ⊢
        obtain ⟨j, hj, e, hp, hn⟩ := idxI_spec (p := p) (l := r) (by omega)
        refine ⟨j + 1, by simpa using hj, by rw [e]; simp, by simpa using hp, fun i hi hij => ?_⟩
        match i with
        | 0 => simpa using hx
        | i + 1 => have := hn i (by simpa using hi) (by omega); simpa using this

theorem idxI_lt {α : Type} {p : α → Bool} {l : List α} : idxI p l < l.length ∨ idxI p l = -1 := by
  by_cases h : 0 ≤ idxI p l
  · obtain ⟨j, hj, e, _⟩ := idxI_spec h; rw [e]; left; omega
  · right
    have : ∀ l : List α, -1 ≤ idxI p l := by
      intro l
      induction l with
      | nil => simp [idxI]
      | cons x r ih => unfold idxI; split; omega; split <;> omega
    have := this l; omega
end Go.Proofs.Ytghldoiblbcacaa

/- slices.IndexFunc and slices.ContainsFunc at Bind, with whatever predicate that only makes memory of its own. Conditions: none. -/
namespace Go.Proofs.Ytghldoiblbcacaa
open Go.RowKit
set_option linter.unusedVariables false
set_option linter.unusedSimpArgs false
set_option maxHeartbeats 400000

theorem indexFuncBind (K : Nat) (hK : ∀ (args : Array Value) (w : World), (callFunc K args).run Try.prog w = .ok (.enter K args) w) (caps : Array Value) (p : GBind → Bool) (l : List GBind) (A : Option Addr) (c : Nat) (w : World) (hs : Sl w (Lt w.heap.size) 5 A c (l.map GBind.toD))
    (H : ∀ x, x ∈ l → ∀ (A1 : Option Addr) (c1 : Nat) (w2 : World), Below w.heap.size w w2 → GBind.At w2 (Lt w2.heap.size) A1 c1 x →
      Calls Try.prog K (#[.agg #[.int .i64 x.n, .int .i64 x.ty.op, .int .i64 x.ty.n, .string x.ty.s, .slice A1 x.ty.kids.length c1]] ++ caps) w2 fun e w' => e = .returned (.bool (p x)) ∧ Below w2.heap.size w2 w') :
    Calls Try.prog 87 #[.slice A l.length c, .func (.func K) #[] caps] w fun e w' => e = .returned (.int .i64 (idxI p l)) ∧ Below w.heap.size w w' := by
  have hlen : l.length ≤ 9223372036854775807 := by simpa using hs.len
  have HH := Lib.hid H
  clear H
  go_enter Try.func87, Try.ntmps87
  go_wp2_with fail
  go_loopw [8] (fun i wr => ∃ j : Nat, j ≤ l.length ∧ i = .int .i64 j ∧ noneTo p l j ∧ Below w.heap.size w wr) (fun i _ => l.length - (intOf i).toNat)
  case atStart => exact ⟨0, by omega, by go_num, noneTo_zero p l, Below.refl _ _⟩
  case round =>
    obtain ⟨j, hj, rfl, hno, hbl⟩ := hrel
    have Hno := Lib.hid hno
    clear hno
    have hsz := hbl.size
    by_cases hlt : j < l.length
    · have htr := GBind.elem (hs.below hbl (Nat.le_refl _)) j hlt
      obtain ⟨b, off, A1, c1, rfl, hSb, g0, g1, g2, g3, g4, hat⟩ := htr
      have hmem : l[j] ∈ l := List.getElem_mem hlt
      go_wp2_with fail
      refine (HH.out _ hmem _ _ _ hbl (hat.below (Below.refl _ _) hsz)).mono ?_
      rintro e w1 ⟨rfl, hb1⟩
      cases he : p l[j]
      · have hn := Lib.hid (noneTo_succ Hno.out hlt he)
        go_wp2_with fail
        go_roundw
        case rel => exact ⟨j + 1, by omega, by go_num, hn.out, hbl.trans (hb1.mono hsz)⟩
        case measure => simp [intOf]; omega
      · have hn := Lib.hid (idxI_at Hno.out hlt he)
        go_wp2_with fail
        go_ret
        exact ⟨ret_int hn.out.symm, hbl.trans (hb1.mono hsz)⟩
    · have hjl : j = l.length := by omega
      have Hj := Lib.hid hjl
      clear hjl
      go_wp2_with fail
      go_ret
      exact ⟨ret_int (idxI_none (by have := Hno.out; rw [Hj.out] at this; exact this)).symm, hbl⟩

theorem containsFuncBind (K : Nat) (hK : ∀ (args : Array Value) (w : World), (callFunc K args).run Try.prog w = .ok (.enter K args) w) (caps : Array Value) (p : GBind → Bool) (l : List GBind) (A : Option Addr) (c : Nat) (w : World) (hs : Sl w (Lt w.heap.size) 5 A c (l.map GBind.toD))
    (H : ∀ x, x ∈ l → ∀ (A1 : Option Addr) (c1 : Nat) (w2 : World), Below w.heap.size w w2 → GBind.At w2 (Lt w2.heap.size) A1 c1 x →
      Calls Try.prog K (#[.agg #[.int .i64 x.n, .int .i64 x.ty.op, .int .i64 x.ty.n, .string x.ty.s, .slice A1 x.ty.kids.length c1]] ++ caps) w2 fun e w' => e = .returned (.bool (p x)) ∧ Below w2.heap.size w2 w') :
    Calls Try.prog 114 #[.slice A l.length c, .func (.func K) #[] caps] w fun e w' => e = .returned (.bool (l.any p)) ∧ Below w.heap.size w w' := by
  have HH := Lib.hid H
  clear H
  go_enter Try.func114, Try.ntmps114
  go_wp2_with fail
  refine (indexFuncBind K hK caps p l A c w hs HH.out).mono ?_
  rintro e w1 ⟨rfl, hb1⟩
  cases ha : l.any p
  · have hi := idxI_any_false ha
    rw [hi]
    have Ha := Lib.hid ha
    clear ha hi
    go_wp2_with fail
    go_ret
    exact ⟨ret_bool Ha.out.symm, hb1⟩
  · have hi := idxI_any_true ha
    have Ha := Lib.hid ha
    clear ha
    generalize idxI p l = x at *
    go_wp2_with fail
    go_ret
    exact ⟨ret_bool Ha.out.symm, hb1⟩

end Go.Proofs.Ytghldoiblbcacaa

/- The place of a var's bind, in both. Conditions: none. -/
namespace Go.Proofs.Ytghldoiblbcacaa
open Go.RowKit
set_option linter.unusedVariables false
set_option linter.unusedSimpArgs false
set_option maxHeartbeats 1000000

theorem specBindAt (l : List GBind) (A : Option Addr) (c : Nat) (n : Int) (w : World) (hs : Sl w (Lt w.heap.size) 5 A c (l.map GBind.toD)) :
    Calls Try.prog 53 #[.slice A l.length c, .int .i64 n] w fun e w' => e = .returned (.int .i64 (idxI (fun b : GBind => b.n == n) l)) ∧ Below w.heap.size w w' := by
  have hlen : l.length ≤ 9223372036854775807 := by simpa using hs.len
  have S0 := Lib.hid hs
  clear hs
  go_enter Try.func53, Try.ntmps53
  go_wp2_with fail
  go_loopw [5] (fun i wr => ∃ (j : Nat), j ≤ l.length ∧ i = .int .i64 j ∧ Hid (noneTo (fun b : GBind => b.n == n) l j) ∧ Below w.heap.size w wr) (fun i _ => l.length - (intOf i).toNat)
  case atStart => exact ⟨0, by omega, by go_num, Lib.hid (noneTo_zero _ _), Below.refl _ _⟩
  case round =>
    obtain ⟨j, hj, rfl, HN, hbl⟩ := hrel
    by_cases hlt : j < l.length
    · obtain ⟨b, off, A1, c1, rfl, hSb, g0, _, _, _, _, _⟩ := GBind.elem (S0.out.below hbl (Nat.le_refl _)) j hlt
      cases he : ((l[j]).n == n) with
      | true =>
        have HV := Lib.hid (idxI_at HN.out hlt he)
        go_wp2_with fail
        go_ret
        exact ⟨ret_int HV.out.symm, hbl⟩
      | false =>
        have HN2 := Lib.hid (noneTo_succ HN.out hlt he)
        go_wp2_with fail
        go_roundw
        case rel => exact ⟨j + 1, by omega, by go_num, HN2, hbl⟩
        case measure => simp [intOf]; omega
    · have hjl : j = l.length := by omega
      have HV := Lib.hid (idxI_none (hjl ▸ HN.out))
      clear hjl
      go_wp2_with fail
      go_ret
      exact ⟨ret_int HV.out.symm, hbl⟩

theorem implBindAt1 (n : Int) (b : Nat) (x : GBind) (A1 : Option Addr) (c1 : Nat) (w : World) (hc : w.cell? ⟨b, 0, none⟩ = some (.int .i64 n)) (hb : b < w.heap.size) :
    Calls Try.prog 88 #[.agg #[.int .i64 x.n, .int .i64 x.ty.op, .int .i64 x.ty.n, .string x.ty.s, .slice A1 x.ty.kids.length c1], .pointer (some ⟨b, 0, none⟩)] w fun e w' => e = .returned (.bool (x.n == n)) ∧ Below w.heap.size w w' := by
  have E : Below w.heap.size w (w.alloc (.cells #[.int .i64 x.n, .int .i64 x.ty.op, .int .i64 x.ty.n, .string x.ty.s, .slice A1 x.ty.kids.length c1] 46)) := (Below.refl _ _).alloc (Nat.le_refl _) _
  have hc2 := (E.cell (p := ⟨b, 0, none⟩) hb).trans hc
  go_enter Try.func88, Try.ntmps88
  go_wp2_with fail
  go_ret
  exact ⟨rfl, E⟩

theorem implBindAt (l : List GBind) (A : Option Addr) (c : Nat) (n : Int) (w : World) (hs : Sl w (Lt w.heap.size) 5 A c (l.map GBind.toD)) :
    Calls Try.prog 46 #[.slice A l.length c, .int .i64 n] w fun e w' => e = .returned (.int .i64 (idxI (fun b : GBind => b.n == n) l)) ∧ Below w.heap.size w w' := by
  have E0 := Lib.hid (show Below w.heap.size w (w.alloc (.cells #[.int .i64 n] 3)) from (Below.refl _ _).alloc (Nat.le_refl _) _)
  have R0 := Lib.hid (Row.new w 3 #[.int .i64 n])
  have S0 := Lib.hid hs
  clear hs
  go_enter Try.func46, Try.ntmps46
  go_wp2_with fail
  refine (indexFuncBind 88 (enters Try.func88 (by kernel_rfl) (by kernel_rfl)) #[.pointer (some ⟨w.heap.size, 0, none⟩)] (fun x => x.n == n) l A c _ (S0.out.below E0.out E0.out.size)
    (fun x hx A2 c2 w2 hb2 hat2 => by
      have R2 := R0.out.below hb2 R0.out.lt
      exact implBindAt1 n w.heap.size x A2 c2 w2 (R2.cell 0) R2.lt)).mono ?_
  rintro e w2 ⟨rfl, hb2⟩
  go_wp2_with fail
  go_ret
  exact ⟨rfl, E0.out.trans (hb2.mono E0.out.size)⟩

end Go.Proofs.Ytghldoiblbcacaa

/- append of data onto a slice of one's own: what it owns afterwards (no program in sight). Conditions: none. -/
namespace Go.Proofs.Ytghldoiblbcacaa
open Go.RowKit
set_option linter.unusedVariables false
set_option linter.unusedSimpArgs false

/-- cells that are data, size cells each, each with blocks of its own -/
def ownC (w : World) (size : Nat) : List D → (Nat → Prop) → List Value → Prop
  | [], _, cs => cs = []
  | d :: r, S, cs => ∃ (S1 S2 : Nat → Prop) (c1 c2 : List Value), (∀ x, S1 x → S x ∧ ¬ S2 x) ∧ (∀ x, S2 x → S x) ∧ cs = c1 ++ c2 ∧ c1.length = size ∧ d.own w S1 c1 ∧ ownC w size r S2 c2

theorem ownC_keep {w w' : World} {size : Nat} : ∀ (xs : List D) (S S' : Nat → Prop) (cs : List Value), (∀ b, S b → S' b ∧ w'.heap[b]? = w.heap[b]?) → ownC w size xs S cs → ownC w' size xs S' cs
  | [], _, _, _, _, h => h
  | d :: r, S, S', cs, hk, h => by
    simp only [ownC] at h ⊢
    obtain ⟨S1, S2, c1, c2, g1, g2, e, hl, h1, h2⟩ := h
    exact ⟨S1, S2, c1, c2, fun x hx => ⟨(hk x (g1 x hx).1).1, (g1 x hx).2⟩, fun x hx => (hk x (g2 x hx)).1, e, hl, D.own_keep d S1 S1 c1 (fun b hb => ⟨hb, (hk b (g1 b hb).1).2⟩) h1, ownC_keep r S2 S2 c2 (fun b hb => ⟨hb, (hk b (g2 b hb)).2⟩) h2⟩

theorem ownC_snoc {w : World} {size : Nat} {d : D} {c : List Value} {T S : Nat → Prop} (hd : d.own w T c) (hc : c.length = size) (hT : ∀ x, T x → S x) :
    ∀ (xs : List D) (U : Nat → Prop) (cs : List Value), (∀ x, U x → S x ∧ ¬ T x) → ownC w size xs U cs → ownC w size (xs ++ [d]) (fun x => U x ∨ T x) (cs ++ c)
  | [], U, cs, _, h => by
    simp only [ownC] at h
    subst h
    simp only [List.nil_append, ownC]
    exact ⟨T, fun _ => False, c, [], fun x hx => ⟨.inr hx, fun h => h⟩, fun x hx => hx.elim, by simp, hc, hd, rfl⟩
  | e :: r, U, cs, hU, h => by
    simp only [ownC, List.cons_append] at h ⊢
    obtain ⟨S1, S2, c1, c2, g1, g2, rfl, hl, h1, h2⟩ := h
    refine ⟨S1, fun x => S2 x ∨ T x, c1, c2 ++ c, fun x hx => ⟨.inl (g1 x hx).1, fun h => ?_⟩, fun x hx => hx.elim (fun h => .inl (g2 x h)) .inr, by simp, hl, h1, ownC_snoc hd hc hT r S2 c2 (fun x hx => hU x (g2 x hx)) h2⟩
    rcases h with h | h
    · exact (g1 x hx).2 h
    · exact (hU x (g1 x hx).1).2 h

theorem ownC_row {w : World} {size b : Nat} : ∀ (xs : List D) (S : Nat → Prop) (cs : List Value) (off : Nat), (∀ j v, cs[j]? = some v → w.cell? ⟨b, off + j, none⟩ = some v) → ownC w size xs S cs → D.ownR w size b xs S off
  | [], _, _, _, _, _ => by simp only [D.ownR]
  | d :: r, S, cs, off, hc, h => by
    simp only [ownC, D.ownR] at h ⊢
    obtain ⟨S1, S2, c1, c2, g1, g2, rfl, hl, h1, h2⟩ := h
    refine ⟨S1, S2, c1, g1, g2, hl, fun j v hj => hc j v ?_, h1, ownC_row r S2 c2 (off + size) (fun j v hj => ?_) h2⟩
    · have : j < c1.length := (List.getElem?_eq_some_iff.1 hj).1
      rw [List.getElem?_append_left this]; exact hj
    · have := hc (size + j) v (by rw [List.getElem?_append_right (by omega), hl]; simpa using hj)
      rwa [← Nat.add_assoc] at this

/-- a slice that grows: nil, or a row of one's own (from block B on, below m); its n data lie in blocks of their own -/
def Gow (w : World) (B m : Nat) (e : TypeId) (size : Nat) (v : Value) (n : Nat) (xs : List D) : Prop :=
  xs.length = n ∧ ∃ cs, w.ownsRow B e size v n cs ∧ (∀ g, v.ownBlock = some g → g < m) ∧ ownC w size xs (fun b => B ≤ b ∧ b < m ∧ v.ownBlock ≠ some b) cs

theorem Gow.nil (w : World) (B m : Nat) (e : TypeId) (size : Nat) : Gow w B m e size (.slice none 0 0) 0 [] :=
  ⟨rfl, [], World.ownsRow_nil w B e size, fun g h => by simp [Value.ownBlock] at h, rfl⟩

theorem Gow.keep {w w' : World} {B m m' : Nat} {e : TypeId} {size : Nat} {v : Value} {n : Nat} {xs : List D} (h : Gow w B m e size v n xs) (hm : m ≤ m') (hk : ∀ b, B ≤ b → b < m → w'.heap[b]? = w.heap[b]?) : Gow w' B m' e size v n xs := by
  obtain ⟨h1, cs, h2, h3, h4⟩ := h
  refine ⟨h1, cs, ?_, fun g hg => Nat.lt_of_lt_of_le (h3 g hg) hm, ownC_keep xs _ _ cs (fun b hb => ⟨⟨hb.1, Nat.lt_of_lt_of_le hb.2.1 hm, hb.2.2⟩, hk b hb.1 hb.2.1⟩) h4⟩
  refine ⟨h2.1, ?_⟩
  rcases h2.2 with h | ⟨g, cap, cur, rfl, a1, a2, a3⟩
  · exact .inl h
  · exact .inr ⟨g, cap, cur, rfl, a1, (hk g a1 (h3 g rfl)).trans a2, a3⟩

theorem Gow.below {w w' : World} {B m m' : Nat} {e : TypeId} {size : Nat} {v : Value} {n : Nat} {xs : List D} (h : Gow w B m e size v n xs) (hb : Below m w w') (hm : m ≤ m') : Gow w' B m' e size v n xs :=
  h.keep hm fun b _ hb' => hb.block b hb'

/-- an empty slice that was just made -/
theorem Gow.made {w : World} {B m g : Nat} {e : TypeId} {size : Nat} (hr : Row w g e #[]) (hB : B ≤ g) (hm : g < m) : Gow w B m e size (.slice (some ⟨g, 0, none⟩) 0 0) 0 [] :=
  ⟨rfl, [], ⟨by simp, .inr ⟨g, 0, #[], rfl, hB, hr, Nat.le_refl _, by unfold maxLen; omega, by simp, by simp⟩⟩, fun g' h => by simp [Value.ownBlock] at h; omega, rfl⟩

/-- what has grown is owned -/
theorem Gow.osl {w : World} {B m : Nat} {e : TypeId} {size : Nat} {v : Value} {n : Nat} {xs : List D} (h : Gow w B m e size v n xs) : ∃ A c, v = .slice A n c ∧ Osl w (Btw B m) size A c xs := by
  obtain ⟨h1, cs, h2, h3, h4⟩ := h
  rcases h2.2 with ⟨rfl, h⟩ | ⟨g, cap, cur, rfl, a1, a2, a3, a4, a5, a6⟩
  · have : xs = [] := List.eq_nil_of_length_eq_zero (by omega)
    subst this
    exact ⟨none, 0, by rw [h], Osl.nil (by unfold maxLen; omega)⟩
  · refine ⟨_, cap, rfl, by omega, a4, .inr ⟨g, rfl, ⟨a1, h3 g rfl⟩, fun o => Row.frozen (t := e) (cs := cur) a2 o, ?_⟩⟩
    refine ownC_row xs _ cs 0 (fun j v hj => ?_) (ownC_keep xs _ _ cs (fun b hb => ⟨⟨⟨hb.1, hb.2.1⟩, fun e => hb.2.2 (by rw [e]; rfl)⟩, rfl⟩) h4)
    rw [Nat.zero_add, Row.cell (t := e) (cs := cur) a2]
    rw [← a6, List.getElem?_take] at hj
    split at hj
    · simpa using hj
    · cases hj

/-- behind an append -/
theorem Gow.step {w w' : World} {B m g cap H : Nat} {e e' : TypeId} {size : Nat} {v : Value} {n : Nat} {xs : List D} {d : D} {cs : List Value} {cells : List Value} (hB : B ≤ m) (hm : m ≤ w.heap.size)
    (hxs : xs.length = n) (hlt0 : ∀ g, v.ownBlock = some g → g < m) (hoc : ownC w size xs (fun b => B ≤ b ∧ b < m ∧ v.ownBlock ≠ some b) cells) (hd : d.own w (Btw m w.heap.size) cs) (hcs : cs.length = size)
    (hH : H = w.heap.size + 1) (hown : w'.ownsRow B e size (.slice (some ⟨g, 0, none⟩) (n + 1) cap) (n + 1) (cells ++ cs)) (hgrow : (w.alloc (.cells cs.toArray e')).grownBy w' v.ownBlock) (hat : v.ownBlock = some g ∨ g = H) (hlt : g < w'.heap.size) :
    Gow w' B w'.heap.size e size (.slice (some ⟨g, 0, none⟩) (n + 1) cap) (n + 1) (xs ++ [d]) := by
  have hsz : (w.alloc (.cells cs.toArray e')).heap.size ≤ w'.heap.size := hgrow.size
  have hsz' : w.heap.size + 1 ≤ w'.heap.size := by simpa using hsz
  have hne : ∀ b, b < w.heap.size → v.ownBlock ≠ some b → w'.heap[b]? = w.heap[b]? := fun b hb hb2 =>
    (hgrow.block b (by simp; omega) (fun e => hb2 e.symm)).trans (Below.heap_alloc w _ b hb)
  refine ⟨by simp [hxs], cells ++ cs, hown, fun g' hg' => by simp [Value.ownBlock] at hg'; omega, ?_⟩
  have hgm : g < m ∨ g = H := by
    rcases hat with h | h
    · exact .inl (hlt0 g h)
    · exact .inr h
  have k1 := ownC_keep (w' := w') xs _ (fun b => B ≤ b ∧ b < m ∧ v.ownBlock ≠ some b) cells (fun b hb => ⟨hb, hne b (by omega) hb.2.2⟩) hoc
  have k2 := D.own_keep (w' := w') d _ (Btw m w.heap.size) cs (fun b hb => ⟨hb, hne b hb.2 (fun e => by have := hlt0 b e; have := hb.1; omega)⟩) hd
  have k3 := ownC_snoc (S := fun b => B ≤ b) k2 hcs (fun x hx => Nat.le_trans hB hx.1) xs _ cells (fun x hx => ⟨hx.1, fun h => by have := h.1; omega⟩) k1
  refine ownC_keep _ _ _ _ (fun b hb => ⟨?_, rfl⟩) k3
  rcases hb with ⟨b1, b2, b3⟩ | ⟨b1, b2⟩
  · refine ⟨b1, by omega, fun e => ?_⟩
    simp only [Value.ownBlock, Option.some.injEq] at e
    subst e
    rcases hat with h | h
    · exact b3 h
    · omega
  · refine ⟨by omega, by omega, fun e => ?_⟩
    simp only [Value.ownBlock, Option.some.injEq] at e
    omega

theorem Gow.grown {w w' : World} {B m : Nat} {e : TypeId} {size : Nat} {v : Value} {n : Nat} {xs : List D} (h : Gow w B m e size v n xs) (hg : w.grownBy w' v.ownBlock) (hm : B ≤ w.heap.size) : Below B w w' := by
  refine ⟨hg.os, hg.tape, hg.output, hg.size, fun b hb => hg.block b (by omega) (fun e => ?_)⟩
  obtain ⟨_, cs, h2, _, _⟩ := h
  have := h2.lt b e.symm
  omega

theorem wpList_append_D {P : Program} (w : World) {ops : Array Oper} {rest : List Oper} {o : Oper} {a : Act} {Q : Exit → Act → World → Prop} (hgd : o.guard = none) (s x : Operand) (t : TypeId) (ho : o.op = .call { callee := .builtin .append, args := #[s, x], argTypes := #[t, t] })
    (e : TypeId) (z : Value) (size bytes : Nat) (ht : P.underlying t = some (.slice e)) (hi : (P.info? e).map (fun i => (i.zero, i.size, i.bytes)) = some (some z, size, bytes)) (hzs : z.cells.size = size) (hsz : 0 < size)
    (B m : Nat) (v : Value) (n : Nat) (xs : List D) (hg : Gow w B m e size v n xs) (d : D) (cs : List Value) (hd : d.own w (Btw m w.heap.size) cs) (hB : B ≤ m) (hm : m ≤ w.heap.size) (hcs : cs.length = size) (h1 : ∀ u ∈ cs, u.oneCell' = true)
    (hn : n < 1048577) (hby : bytes ≤ 1048576) (e' : TypeId) (hs : a.eval s = v) (A : Nat) (hA : A = w.heap.size) (hx : a.eval x = .slice (some ⟨A, 0, none⟩) 1 1)
    (h : ∀ g cap w', Gow w' B w'.heap.size e size (.slice (some ⟨g, 0, none⟩) (n + 1) cap) (n + 1) (xs ++ [d]) → Below B w w' → w.heap.size ≤ w'.heap.size → B ≤ g → g < w'.heap.size → wpList P ops Q rest (a.put o.dst (.slice (some ⟨g, 0, none⟩) (n + 1) cap)) w') : wpList P ops Q (o :: rest) a (w.alloc (.cells cs.toArray e')) := by
  obtain ⟨i, i1, i2, i3, i4⟩ := info_parts hi
  obtain ⟨hxs, cells, g2, g3, g4⟩ := id hg
  have e1 : w.heap.size < (w.alloc (.cells cs.toArray e')).heap.size := by simp
  have hga := g2.alloc (.cells cs.toArray e')
  have hnews : ∀ j u, cs[j]? = some u → (w.alloc (.cells cs.toArray e')).cell? ((⟨A, 0, none⟩ : Addr).add j) = some u := fun j u hu => by
    subst hA
    exact World.news_of_block (cs := cs.toArray) (heap_alloc_new w _) j u (by simpa using hu)
  have hbt : (n + 1) * bytes ≤ 140737488355328 := Nat.le_trans (Nat.mul_le_mul (show n + 1 ≤ 1048577 by omega) hby) (by omega)
  exact wpList_append_lies (w.alloc (.cells cs.toArray e')) hgd s x t ho B e i z size bytes ht i1 i2 i3 i4 hzs hsz v n cells hs hga ⟨A, 0, none⟩ 1 1 cs hx (by omega) hnews h1 (by omega) (by unfold maxLen; omega) hbt (by simp; omega) _ rfl fun g cap w' h2 h3 h4 h5 => h g cap w' (Gow.step (e' := e') hB hm hxs g3 g4 hd hcs (by simp) h2 h3 h4 h5)
    (((Below.refl _ _).alloc (by omega) _).trans (Gow.grown (hg.below (m := m) (m' := m) ((Below.refl _ _).alloc hm _) (Nat.le_refl _)) h3 (by omega))) (Nat.le_trans (Nat.le_of_lt e1) h3.size) (h2.lt g rfl).1 h5

theorem step_append_D {P : Program} (w : World) {ops : Array Oper} {o : Oper} {a : Act} {K : Act → World → Prop} {Q : Exit → Act → World → Prop} {E : Prop} (hgd : o.guard = none) (s x : Operand) (t : TypeId) (ho : o.op = .call { callee := .builtin .append, args := #[s, x], argTypes := #[t, t] })
    (e : TypeId) (z : Value) (size bytes : Nat) (ht : P.underlying t = some (.slice e)) (hi : (P.info? e).map (fun i => (i.zero, i.size, i.bytes)) = some (some z, size, bytes)) (hzs : z.cells.size = size) (hsz : 0 < size)
    (B m : Nat) (v : Value) (n : Nat) (xs : List D) (hg : Gow w B m e size v n xs) (d : D) (cs : List Value) (hd : d.own w (Btw m w.heap.size) cs) (hB : B ≤ m) (hm : m ≤ w.heap.size) (hcs : cs.length = size) (h1 : ∀ u ∈ cs, u.oneCell' = true)
    (hn : n < 1048577) (hby : bytes ≤ 1048576) (e' : TypeId) (hs : a.eval s = v) (A : Nat) (hA : A = w.heap.size) (hx : a.eval x = .slice (some ⟨A, 0, none⟩) 1 1)
    (h : ∀ g cap w', Gow w' B w'.heap.size e size (.slice (some ⟨g, 0, none⟩) (n + 1) cap) (n + 1) (xs ++ [d]) → Below B w w' → w.heap.size ≤ w'.heap.size → B ≤ g → g < w'.heap.size → K (a.put o.dst (.slice (some ⟨g, 0, none⟩) (n + 1) cap)) w') : if Region.wanted o (yielded ops a.tmps) = true then Oper.wp P o a (w.alloc (.cells cs.toArray e')) K Q else E := by
  obtain ⟨i, i1, i2, i3, i4⟩ := info_parts hi
  obtain ⟨hxs, cells, g2, g3, g4⟩ := id hg
  have e1 : w.heap.size < (w.alloc (.cells cs.toArray e')).heap.size := by simp
  have hga := g2.alloc (.cells cs.toArray e')
  have hnews : ∀ j u, cs[j]? = some u → (w.alloc (.cells cs.toArray e')).cell? ((⟨A, 0, none⟩ : Addr).add j) = some u := fun j u hu => by
    subst hA
    exact World.news_of_block (cs := cs.toArray) (heap_alloc_new w _) j u (by simpa using hu)
  have hbt : (n + 1) * bytes ≤ 140737488355328 := Nat.le_trans (Nat.mul_le_mul (show n + 1 ≤ 1048577 by omega) hby) (by omega)
  exact step_append_lies (w.alloc (.cells cs.toArray e')) hgd s x t ho B e i z size bytes ht i1 i2 i3 i4 hzs hsz v n cells hs hga ⟨A, 0, none⟩ 1 1 cs hx (by omega) hnews h1 (by omega) (by unfold maxLen; omega) hbt (by simp; omega) _ rfl fun g cap w' h2 h3 h4 h5 => h g cap w' (Gow.step (e' := e') hB hm hxs g3 g4 hd hcs (by simp) h2 h3 h4 h5)
    (((Below.refl _ _).alloc (by omega) _).trans (Gow.grown (hg.below (m := m) (m' := m) ((Below.refl _ _).alloc hm _) (Nat.le_refl _)) h3 (by omega))) (Nat.le_trans (Nat.le_of_lt e1) h3.size) (h2.lt g rfl).1 h5

end Go.Proofs.Ytghldoiblbcacaa

/- append of data that lie elsewhere onto a slice of one's own (no program in sight). Conditions: the data lie below the slice. -/
namespace Go.Proofs.Ytghldoiblbcacaa
open Go.RowKit
set_option linter.unusedVariables false
set_option linter.unusedSimpArgs false

/-- cells that read as data, size cells each -/
def rdC (w : World) (size : Nat) (S : Nat → Prop) : List D → List Value → Prop
  | [], cs => cs = []
  | d :: r, cs => ∃ c1 c2, cs = c1 ++ c2 ∧ c1.length = size ∧ d.rd w S c1 ∧ rdC w size S r c2
theorem rdC_keep {w w' : World} {size : Nat} {S S' : Nat → Prop} (hk : ∀ b, S b → S' b ∧ w'.heap[b]? = w.heap[b]?) : ∀ (xs : List D) (cs : List Value), rdC w size S xs cs → rdC w' size S' xs cs
  | [], _, h => h
  | d :: r, cs, h => by
    simp only [rdC] at h ⊢
    obtain ⟨c1, c2, e, hl, h1, h2⟩ := h
    exact ⟨c1, c2, e, hl, D.rd_keep hk d c1 h1, rdC_keep hk r c2 h2⟩
theorem rdC_snoc {w : World} {size : Nat} {S : Nat → Prop} {d : D} {c : List Value} (hd : d.rd w S c) (hc : c.length = size) : ∀ (xs : List D) (cs : List Value), rdC w size S xs cs → rdC w size S (xs ++ [d]) (cs ++ c)
  | [], cs, h => by
    simp only [rdC] at h
    subst h
    simp only [List.nil_append, rdC]
    exact ⟨c, [], by simp, hc, hd, rfl⟩
  | e :: r, cs, h => by
    simp only [rdC, List.cons_append] at h ⊢
    obtain ⟨c1, c2, rfl, hl, h1, h2⟩ := h
    exact ⟨c1, c2 ++ c, by simp, hl, h1, rdC_snoc hd hc r c2 h2⟩
theorem rdC_row {w : World} {size b : Nat} {S : Nat → Prop} : ∀ (xs : List D) (cs : List Value) (off : Nat), (∀ j v, cs[j]? = some v → w.cell? ⟨b, off + j, none⟩ = some v) → rdC w size S xs cs → D.rdR w S size b xs off
  | [], _, _, _, _ => by simp only [D.rdR]
  | d :: r, cs, off, hc, h => by
    simp only [rdC, D.rdR] at h ⊢
    obtain ⟨c1, c2, rfl, hl, h1, h2⟩ := h
    refine ⟨⟨c1, hl, fun j v hj => hc j v ?_, h1⟩, rdC_row r c2 (off + size) (fun j v hj => ?_) h2⟩
    · have : j < c1.length := (List.getElem?_eq_some_iff.1 hj).1
      rw [List.getElem?_append_left this]; exact hj
    · have := hc (size + j) v (by rw [List.getElem?_append_right (by omega), hl]; simpa using hj)
      rwa [← Nat.add_assoc] at this

/-- a slice that grows: nil, or a row of one's own from block B on; its data lie below B -/
def Gsh (w : World) (B : Nat) (e : TypeId) (size : Nat) (v : Value) (n : Nat) (xs : List D) : Prop :=
  xs.length = n ∧ ∃ cs, w.ownsRow B e size v n cs ∧ rdC w size (Lt B) xs cs
theorem Gsh.nil (w : World) (B : Nat) (e : TypeId) (size : Nat) : Gsh w B e size (.slice none 0 0) 0 [] :=
  ⟨rfl, [], World.ownsRow_nil w B e size, rfl⟩
theorem Gsh.made {w : World} {B g : Nat} {e : TypeId} {size : Nat} (hr : Row w g e #[]) (hB : B ≤ g) : Gsh w B e size (.slice (some ⟨g, 0, none⟩) 0 0) 0 [] :=
  ⟨rfl, [], ⟨by simp, .inr ⟨g, 0, #[], rfl, hB, hr, Nat.le_refl _, by unfold maxLen; omega, by simp, by simp⟩⟩, rfl⟩
theorem Gsh.below {w w' : World} {B : Nat} {e : TypeId} {size : Nat} {v : Value} {n : Nat} {xs : List D} (h : Gsh w B e size v n xs) (hb : Below w.heap.size w w') (hB : B ≤ w.heap.size) : Gsh w' B e size v n xs := by
  obtain ⟨h1, cs, h2, h4⟩ := h
  refine ⟨h1, cs, ?_, rdC_keep (fun b hb' => ⟨hb', hb.block b (Nat.lt_of_lt_of_le hb' hB)⟩) xs cs h4⟩
  refine ⟨h2.1, ?_⟩
  rcases h2.2 with h | ⟨g, cap, cur, rfl, a1, a2, a3⟩
  · exact .inl h
  · exact .inr ⟨g, cap, cur, rfl, a1, (hb.block g (h2.lt g rfl).2).trans a2, a3⟩
theorem Gsh.sl {w : World} {B : Nat} {e : TypeId} {size : Nat} {v : Value} {n : Nat} {xs : List D} (h : Gsh w B e size v n xs) (hB : B ≤ w.heap.size) : ∃ A c, v = .slice A n c ∧ Sl w (Lt w.heap.size) size A c xs := by
  obtain ⟨h1, cs, h2, h4⟩ := h
  have hlt := h2.lt
  rcases h2.2 with ⟨rfl, h⟩ | ⟨g, cap, cur, rfl, a1, a2, a3, a4, a5, a6⟩
  · have : xs = [] := List.eq_nil_of_length_eq_zero (by omega)
    subst this
    exact ⟨none, 0, by rw [h], Sl.nil (by unfold maxLen; omega)⟩
  · refine ⟨_, cap, rfl, by omega, a4, .inr ⟨g, 0, rfl, (hlt g rfl).2, ?_⟩⟩
    refine rdC_row xs cs 0 (fun j v hj => ?_) (rdC_keep (fun b hb => ⟨Nat.lt_of_lt_of_le hb hB, rfl⟩) xs cs h4)
    rw [Nat.zero_add, Row.cell (t := e) (cs := cur) a2]
    rw [← a6, List.getElem?_take] at hj
    split at hj
    · simpa using hj
    · cases hj
theorem Gsh.step {w w' : World} {B g cap : Nat} {e e' : TypeId} {size : Nat} {v : Value} {n : Nat} {xs : List D} {d : D} {cs cells : List Value} (hB : B ≤ w.heap.size)
    (hxs : xs.length = n) (hbase : ∀ g, v.ownBlock = some g → B ≤ g) (hoc : rdC w size (Lt B) xs cells) (hd : d.rd w (Lt B) cs) (hcs : cs.length = size)
    (hown : w'.ownsRow B e size (.slice (some ⟨g, 0, none⟩) (n + 1) cap) (n + 1) (cells ++ cs)) (hgrow : (w.alloc (.cells cs.toArray e')).grownBy w' v.ownBlock) :
    Gsh w' B e size (.slice (some ⟨g, 0, none⟩) (n + 1) cap) (n + 1) (xs ++ [d]) := by
  have hne : ∀ b, b < B → w'.heap[b]? = w.heap[b]? := fun b hb =>
    (hgrow.block b (by simp; omega) (fun e => by have := hbase b e.symm; omega)).trans (Below.heap_alloc w _ b (by omega))
  exact ⟨by simp [hxs], cells ++ cs, hown, rdC_snoc (D.rd_keep (fun b hb => ⟨hb, hne b hb⟩) d cs hd) hcs xs cells (rdC_keep (fun b hb => ⟨hb, hne b hb⟩) xs cells hoc)⟩

theorem wpList_append_S {P : Program} (w : World) {ops : Array Oper} {rest : List Oper} {o : Oper} {a : Act} {Q : Exit → Act → World → Prop} (hgd : o.guard = none) (s x : Operand) (t : TypeId) (ho : o.op = .call { callee := .builtin .append, args := #[s, x], argTypes := #[t, t] })
    (e : TypeId) (z : Value) (size bytes : Nat) (ht : P.underlying t = some (.slice e)) (hi : (P.info? e).map (fun i => (i.zero, i.size, i.bytes)) = some (some z, size, bytes)) (hzs : z.cells.size = size) (hsz : 0 < size)
    (B : Nat) (v : Value) (n : Nat) (xs : List D) (hg : Gsh w B e size v n xs) (d : D) (cs : List Value) (hd : d.rd w (Lt B) cs) (hB : B ≤ w.heap.size) (hcs : cs.length = size) (h1 : ∀ u ∈ cs, u.oneCell' = true)
    (hn : n < 1048577) (hby : bytes ≤ 1048576) (e' : TypeId) (hs : a.eval s = v) (A : Nat) (hA : A = w.heap.size) (hx : a.eval x = .slice (some ⟨A, 0, none⟩) 1 1)
    (h : ∀ g cap w', Gsh w' B e size (.slice (some ⟨g, 0, none⟩) (n + 1) cap) (n + 1) (xs ++ [d]) → Below B w w' → w.heap.size ≤ w'.heap.size → B ≤ g → g < w'.heap.size → wpList P ops Q rest (a.put o.dst (.slice (some ⟨g, 0, none⟩) (n + 1) cap)) w') : wpList P ops Q (o :: rest) a (w.alloc (.cells cs.toArray e')) := by
  obtain ⟨i, i1, i2, i3, i4⟩ := info_parts hi
  obtain ⟨hxs, cells, g2, g4⟩ := id hg
  have e1 : w.heap.size < (w.alloc (.cells cs.toArray e')).heap.size := by simp
  have hga := g2.alloc (.cells cs.toArray e')
  have hnews : ∀ j u, cs[j]? = some u → (w.alloc (.cells cs.toArray e')).cell? ((⟨A, 0, none⟩ : Addr).add j) = some u := fun j u hu => by
    subst hA
    exact World.news_of_block (cs := cs.toArray) (heap_alloc_new w _) j u (by simpa using hu)
  have hbt : (n + 1) * bytes ≤ 140737488355328 := Nat.le_trans (Nat.mul_le_mul (show n + 1 ≤ 1048577 by omega) hby) (by omega)
  exact wpList_append_lies (w.alloc (.cells cs.toArray e')) hgd s x t ho B e i z size bytes ht i1 i2 i3 i4 hzs hsz v n cells hs hga ⟨A, 0, none⟩ 1 1 cs hx (by omega) hnews h1 (by omega) (by unfold maxLen; omega) hbt (by simp; omega) _ rfl fun g cap w' h2 h3 h4 h5 => h g cap w' (Gsh.step (e' := e') hB hxs (fun g hg => (g2.lt g hg).1) g4 hd hcs h2 h3)
    (((Below.refl _ _).alloc (by omega) _).trans (⟨h3.os, h3.tape, h3.output, h3.size, fun b hb => h3.block b (by omega) (fun e => by have := (g2.lt b e.symm).1; omega)⟩)) (Nat.le_trans (Nat.le_of_lt e1) h3.size) (h2.lt g rfl).1 h5

theorem step_append_S {P : Program} (w : World) {ops : Array Oper} {o : Oper} {a : Act} {K : Act → World → Prop} {Q : Exit → Act → World → Prop} {E : Prop} (hgd : o.guard = none) (s x : Operand) (t : TypeId) (ho : o.op = .call { callee := .builtin .append, args := #[s, x], argTypes := #[t, t] })
    (e : TypeId) (z : Value) (size bytes : Nat) (ht : P.underlying t = some (.slice e)) (hi : (P.info? e).map (fun i => (i.zero, i.size, i.bytes)) = some (some z, size, bytes)) (hzs : z.cells.size = size) (hsz : 0 < size)
    (B : Nat) (v : Value) (n : Nat) (xs : List D) (hg : Gsh w B e size v n xs) (d : D) (cs : List Value) (hd : d.rd w (Lt B) cs) (hB : B ≤ w.heap.size) (hcs : cs.length = size) (h1 : ∀ u ∈ cs, u.oneCell' = true)
    (hn : n < 1048577) (hby : bytes ≤ 1048576) (e' : TypeId) (hs : a.eval s = v) (A : Nat) (hA : A = w.heap.size) (hx : a.eval x = .slice (some ⟨A, 0, none⟩) 1 1)
    (h : ∀ g cap w', Gsh w' B e size (.slice (some ⟨g, 0, none⟩) (n + 1) cap) (n + 1) (xs ++ [d]) → Below B w w' → w.heap.size ≤ w'.heap.size → B ≤ g → g < w'.heap.size → K (a.put o.dst (.slice (some ⟨g, 0, none⟩) (n + 1) cap)) w') : if Region.wanted o (yielded ops a.tmps) = true then Oper.wp P o a (w.alloc (.cells cs.toArray e')) K Q else E := by
  obtain ⟨i, i1, i2, i3, i4⟩ := info_parts hi
  obtain ⟨hxs, cells, g2, g4⟩ := id hg
  have e1 : w.heap.size < (w.alloc (.cells cs.toArray e')).heap.size := by simp
  have hga := g2.alloc (.cells cs.toArray e')
  have hnews : ∀ j u, cs[j]? = some u → (w.alloc (.cells cs.toArray e')).cell? ((⟨A, 0, none⟩ : Addr).add j) = some u := fun j u hu => by
    subst hA
    exact World.news_of_block (cs := cs.toArray) (heap_alloc_new w _) j u (by simpa using hu)
  have hbt : (n + 1) * bytes ≤ 140737488355328 := Nat.le_trans (Nat.mul_le_mul (show n + 1 ≤ 1048577 by omega) hby) (by omega)
  exact step_append_lies (w.alloc (.cells cs.toArray e')) hgd s x t ho B e i z size bytes ht i1 i2 i3 i4 hzs hsz v n cells hs hga ⟨A, 0, none⟩ 1 1 cs hx (by omega) hnews h1 (by omega) (by unfold maxLen; omega) hbt (by simp; omega) _ rfl fun g cap w' h2 h3 h4 h5 => h g cap w' (Gsh.step (e' := e') hB hxs (fun g hg => (g2.lt g hg).1) g4 hd hcs h2 h3)
    (((Below.refl _ _).alloc (by omega) _).trans (⟨h3.os, h3.tape, h3.output, h3.size, fun b hb => h3.block b (by omega) (fun e => by have := (g2.lt b e.symm).1; omega)⟩)) (Nat.le_trans (Nat.le_of_lt e1) h3.size) (h2.lt g rfl).1 h5

end Go.Proofs.Ytghldoiblbcacaa

/- A slice that a call lets grow and hands back (no program in sight): Gr says what has turned: the slice's own row and new blocks. Conditions: none. -/
namespace Go.Proofs.Ytghldoiblbcacaa
open Go.RowKit
set_option linter.unusedVariables false
set_option linter.unusedSimpArgs false

structure Gr (w w' : World) (v v' : Value) : Prop where
  grow : w.grownBy w' v.ownBlock
  own : v'.ownBlock = v.ownBlock ∨ ∃ g, v'.ownBlock = some g ∧ w.heap.size ≤ g
theorem Gr.refl (w : World) (v : Value) : Gr w w v v := ⟨⟨rfl, rfl, rfl, Nat.le_refl _, fun _ _ _ => rfl⟩, .inl rfl⟩
theorem Gr.size {w w' : World} {v v' : Value} (h : Gr w w' v v') : w.heap.size ≤ w'.heap.size := h.grow.size
theorem Gr.trans {a b c : World} {v v1 v2 : Value} (h : Gr a b v v1) (k : Gr b c v1 v2) : Gr a c v v2 := by
  refine ⟨h.grow.andThen k.grow fun j e => ?_, ?_⟩
  · rcases h.own with h1 | ⟨g, h1, h2⟩
    · exact .inr (h1.symm.trans e)
    · rw [h1] at e; cases e; exact .inl h2
  · rcases k.own with h1 | ⟨g, h1, h2⟩
    · rw [h1]; exact h.own
    · exact .inr ⟨g, h1, Nat.le_trans h.size h2⟩
theorem Gr.of_below {w w' : World} {v : Value} (h : Below w.heap.size w w') : Gr w w' v v := ⟨⟨h.os, h.tape, h.output, h.size, fun b hb _ => h.block b hb⟩, .inl rfl⟩
theorem Gr.alloc {w w' : World} {v v' : Value} (h : Gr w w' v v') (o : Obj) : Gr w (w'.alloc o) v v' := h.trans (Gr.of_below ((Below.refl _ _).alloc (Nat.le_refl _) _))
theorem Gr.below {B : Nat} {w w' : World} {v v' : Value} (h : Gr w w' v v') (hB : B ≤ w.heap.size) (hv : ∀ g, v.ownBlock = some g → B ≤ g) : Below B w w' :=
  ⟨h.grow.os, h.grow.tape, h.grow.output, h.size, fun b hb => h.grow.block b (by omega) fun e => by have := hv b e.symm; omega⟩
theorem Gr.row {w w' : World} {v v' : Value} {b : Nat} {T : TypeId} {cs : Array Value} (h : Gr w w' v v') (hr : Row w b T cs) (hne : v.ownBlock ≠ some b) : Row w' b T cs :=
  (h.grow.block b hr.lt fun e => hne e.symm).trans hr
theorem Gr.ne {w w' : World} {v v' : Value} {b : Nat} (h : Gr w w' v v') (hv : v.ownBlock ≠ some b) (hb : b < w.heap.size) : v'.ownBlock ≠ some b := by
  rcases h.own with h1 | ⟨g, h1, h2⟩
  · rw [h1]; exact hv
  · rw [h1]; intro e; cases e; omega
theorem Gsh.own {w : World} {B : Nat} {e : TypeId} {size : Nat} {v : Value} {n : Nat} {xs : List D} (h : Gsh w B e size v n xs) : ∀ g, v.ownBlock = some g → B ≤ g ∧ g < w.heap.size := by
  obtain ⟨h1, cs, h2, h4⟩ := h
  exact fun g hg => h2.lt g hg
theorem Gsh.form {w : World} {B : Nat} {e : TypeId} {size : Nat} {v : Value} {n : Nat} {xs : List D} (h : Gsh w B e size v n xs) : ∃ A c, v = .slice A n c := by
  obtain ⟨h1, cs, h2, h4⟩ := h
  rcases h2.2 with ⟨rfl, h0⟩ | ⟨g, cap, cur, rfl, _⟩
  · exact ⟨none, 0, by rw [h0]⟩
  · exact ⟨_, cap, rfl⟩

theorem wpList_append_G {P : Program} (w : World) {ops : Array Oper} {rest : List Oper} {o : Oper} {a : Act} {Q : Exit → Act → World → Prop} (hgd : o.guard = none) (s x : Operand) (t : TypeId) (ho : o.op = .call { callee := .builtin .append, args := #[s, x], argTypes := #[t, t] })
    (e : TypeId) (z : Value) (size bytes : Nat) (ht : P.underlying t = some (.slice e)) (hi : (P.info? e).map (fun i => (i.zero, i.size, i.bytes)) = some (some z, size, bytes)) (hzs : z.cells.size = size) (hsz : 0 < size)
    (B : Nat) (v : Value) (n : Nat) (xs : List D) (hg : Gsh w B e size v n xs) (d : D) (cs : List Value) (hd : d.rd w (Lt B) cs) (hB : B ≤ w.heap.size) (hcs : cs.length = size) (h1 : ∀ u ∈ cs, u.oneCell' = true)
    (hn : n < 1048577) (hby : bytes ≤ 1048576) (e' : TypeId) (hs : a.eval s = v) (A : Nat) (hA : A = w.heap.size) (hx : a.eval x = .slice (some ⟨A, 0, none⟩) 1 1)
    (h : ∀ g cap w', Gsh w' B e size (.slice (some ⟨g, 0, none⟩) (n + 1) cap) (n + 1) (xs ++ [d]) → Gr w w' v (.slice (some ⟨g, 0, none⟩) (n + 1) cap) → wpList P ops Q rest (a.put o.dst (.slice (some ⟨g, 0, none⟩) (n + 1) cap)) w') : wpList P ops Q (o :: rest) a (w.alloc (.cells cs.toArray e')) := by
  obtain ⟨i, i1, i2, i3, i4⟩ := info_parts hi
  obtain ⟨hxs, cells, g2, g4⟩ := id hg
  have e1 : w.heap.size < (w.alloc (.cells cs.toArray e')).heap.size := by simp
  have hga := g2.alloc (.cells cs.toArray e')
  have hnews : ∀ j u, cs[j]? = some u → (w.alloc (.cells cs.toArray e')).cell? ((⟨A, 0, none⟩ : Addr).add j) = some u := fun j u hu => by
    subst hA
    exact World.news_of_block (cs := cs.toArray) (heap_alloc_new w _) j u (by simpa using hu)
  have hbt : (n + 1) * bytes ≤ 140737488355328 := Nat.le_trans (Nat.mul_le_mul (show n + 1 ≤ 1048577 by omega) hby) (by omega)
  refine wpList_append_lies (w.alloc (.cells cs.toArray e')) hgd s x t ho B e i z size bytes ht i1 i2 i3 i4 hzs hsz v n cells hs hga ⟨A, 0, none⟩ 1 1 cs hx (by omega) hnews h1 (by omega) (by unfold maxLen; omega) hbt (by simp; omega) _ rfl fun g cap w' h2 h3 h4 h5 => h g cap w' (Gsh.step (e' := e') hB hxs (fun g hg => (g2.lt g hg).1) g4 hd hcs h2 h3) ?_
  refine (Gr.of_below ((Below.refl _ _).alloc (Nat.le_refl _) _)).trans ⟨h3, ?_⟩
  rcases h4 with h4 | h4
  · exact .inl h4.symm
  · exact .inr ⟨g, rfl, by omega⟩

theorem step_append_G {P : Program} (w : World) {ops : Array Oper} {o : Oper} {a : Act} {K : Act → World → Prop} {Q : Exit → Act → World → Prop} {E : Prop} (hgd : o.guard = none) (s x : Operand) (t : TypeId) (ho : o.op = .call { callee := .builtin .append, args := #[s, x], argTypes := #[t, t] })
    (e : TypeId) (z : Value) (size bytes : Nat) (ht : P.underlying t = some (.slice e)) (hi : (P.info? e).map (fun i => (i.zero, i.size, i.bytes)) = some (some z, size, bytes)) (hzs : z.cells.size = size) (hsz : 0 < size)
    (B : Nat) (v : Value) (n : Nat) (xs : List D) (hg : Gsh w B e size v n xs) (d : D) (cs : List Value) (hd : d.rd w (Lt B) cs) (hB : B ≤ w.heap.size) (hcs : cs.length = size) (h1 : ∀ u ∈ cs, u.oneCell' = true)
    (hn : n < 1048577) (hby : bytes ≤ 1048576) (e' : TypeId) (hs : a.eval s = v) (A : Nat) (hA : A = w.heap.size) (hx : a.eval x = .slice (some ⟨A, 0, none⟩) 1 1)
    (h : ∀ g cap w', Gsh w' B e size (.slice (some ⟨g, 0, none⟩) (n + 1) cap) (n + 1) (xs ++ [d]) → Gr w w' v (.slice (some ⟨g, 0, none⟩) (n + 1) cap) → K (a.put o.dst (.slice (some ⟨g, 0, none⟩) (n + 1) cap)) w') : if Region.wanted o (yielded ops a.tmps) = true then Oper.wp P o a (w.alloc (.cells cs.toArray e')) K Q else E := by
  obtain ⟨i, i1, i2, i3, i4⟩ := info_parts hi
  obtain ⟨hxs, cells, g2, g4⟩ := id hg
  have e1 : w.heap.size < (w.alloc (.cells cs.toArray e')).heap.size := by simp
  have hga := g2.alloc (.cells cs.toArray e')
  have hnews : ∀ j u, cs[j]? = some u → (w.alloc (.cells cs.toArray e')).cell? ((⟨A, 0, none⟩ : Addr).add j) = some u := fun j u hu => by
    subst hA
    exact World.news_of_block (cs := cs.toArray) (heap_alloc_new w _) j u (by simpa using hu)
  have hbt : (n + 1) * bytes ≤ 140737488355328 := Nat.le_trans (Nat.mul_le_mul (show n + 1 ≤ 1048577 by omega) hby) (by omega)
  refine step_append_lies (w.alloc (.cells cs.toArray e')) hgd s x t ho B e i z size bytes ht i1 i2 i3 i4 hzs hsz v n cells hs hga ⟨A, 0, none⟩ 1 1 cs hx (by omega) hnews h1 (by omega) (by unfold maxLen; omega) hbt (by simp; omega) _ rfl fun g cap w' h2 h3 h4 h5 => h g cap w' (Gsh.step (e' := e') hB hxs (fun g hg => (g2.lt g hg).1) g4 hd hcs h2 h3) ?_
  refine (Gr.of_below ((Below.refl _ _).alloc (Nat.le_refl _) _)).trans ⟨h3, ?_⟩
  rcases h4 with h4 | h4
  · exact .inl h4.symm
  · exact .inr ⟨g, rfl, by omega⟩

/-- a call that lets a slice grow: what it hands back -/
def Grows {α : Type} (f : α → D) (e : TypeId) (size : Nat) (B : Nat) (ys : List α) (v : Value) (w : World) (en : Ending) (w' : World) : Prop :=
  ∃ A c, en = .returned (.slice A ys.length c) ∧ Gsh w' B e size (.slice A ys.length c) ys.length (ys.map f) ∧ Gr w w' v (.slice A ys.length c)
end Go.Proofs.Ytghldoiblbcacaa
