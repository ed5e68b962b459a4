/- Texts of the claim LValues in one: Mem Pw. Conditions: none but bounds on sizes. -/
import Derived.WalkKit
namespace Go.Proofs.Ytamfolaicncblaa
set_option maxRecDepth 20000
set_option linter.unusedVariables false
set_option linter.unusedSimpArgs false
open Go.RowKit
inductive D where
 | num (k : IntKind) (n : Int)
 | str (s : ByteArray)
 | bool (b : Bool)
 | agg (fs : List D)
 | sl (size : Nat) (xs : List D)
mutual
def D.rd (w : World) (S : Nat → Prop) : D → List Value → Prop
 | .num k n, cs => cs = [.int k n] ∧ (Lit.int k n).wf = true
 | .str s, cs => cs = [.string s] ∧ s.size ≤ maxLen
 | .bool b, cs => cs = [.bool b]
 | .agg fs, cs => D.rdF w S fs cs
 | .sl size xs, cs => ∃ A c, cs = [.slice A xs.length c] ∧ xs.length ≤ c ∧ c ≤ maxLen ∧ (xs = [] ∨ ∃ b off, A = some ⟨b, off, none⟩ ∧ S b ∧ D.rdR w S size b xs off)
def D.rdF (w : World) (S : Nat → Prop) : List D → List Value → Prop
 | [], cs => cs = []
 | d :: r, cs => ∃ c1 c2, cs = c1 ++ c2 ∧ D.rd w S d c1 ∧ D.rdF w S r c2
def D.rdR (w : World) (S : Nat → Prop) (size b : Nat) : List D → Nat → Prop
 | [], _ => True
 | d :: r, off => (∃ cs, cs.length = size ∧ (∀ j v, cs[j]? = some v → w.cell? ⟨b, off + j, none⟩ = some v) ∧ D.rd w S d cs) ∧ D.rdR w S size b r (off + size)
end
mutual
theorem D.rd_keep {w w' : World} {S S' : Nat → Prop} (h : ∀ b, S b → S' b ∧ w'.heap[b]? = w.heap[b]?) : ∀ (d : D) (cs : List Value), d.rd w S cs → d.rd w' S' cs
 | .num _ _, _, hd => by simpa only [D.rd] using hd
 | .str _, _, hd => by simpa only [D.rd] using hd
 | .bool _, _, hd => by simpa only [D.rd] using hd
 | .agg fs, cs, hd => by
  simp only [D.rd] at hd ⊢
  exact D.rdF_keep h fs cs hd
 | .sl size xs, cs, hd => by
  simp only [D.rd] at hd ⊢
  obtain ⟨A, c, h1, h2, h3, h4⟩ := hd
  refine ⟨A, c, h1, h2, h3, ?_⟩
  rcases h4 with h4 | ⟨b, off, e, hS, hr⟩
  · exact .inl h4
  · exact .inr ⟨b, off, e, (h b hS).1, D.rdR_keep h size b hS xs off hr⟩
theorem D.rdF_keep {w w' : World} {S S' : Nat → Prop} (h : ∀ b, S b → S' b ∧ w'.heap[b]? = w.heap[b]?) : ∀ (fs : List D) (cs : List Value), D.rdF w S fs cs → D.rdF w' S' fs cs
 | [], _, hd => by simpa only [D.rdF] using hd
 | d :: r, cs, hd => by
  simp only [D.rdF] at hd ⊢
  obtain ⟨c1, c2, e, h1, h2⟩ := hd
  exact ⟨c1, c2, e, D.rd_keep h d c1 h1, D.rdF_keep h r c2 h2⟩
theorem D.rdR_keep {w w' : World} {S S' : Nat → Prop} (h : ∀ b, S b → S' b ∧ w'.heap[b]? = w.heap[b]?) (size b : Nat) (hb : S b) : ∀ (xs : List D) (off : Nat), D.rdR w S size b xs off → D.rdR w' S' size b xs off
 | [], _, _ => by simp only [D.rdR]
 | d :: r, off, hd => by
  simp only [D.rdR] at hd ⊢
  obtain ⟨⟨cs, h1, h2, h3⟩, h4⟩ := hd
  exact ⟨⟨cs, h1, fun j v hj => (World.cell?_of_block (h b hb).2).trans (h2 j v hj), D.rd_keep h d cs h3⟩, D.rdR_keep h size b hb r (off + size) h4⟩
end
theorem D.rdR_get {w : World} {S : Nat → Prop} {size b : Nat} : ∀ {xs : List D} {off : Nat}, D.rdR w S size b xs off → ∀ (i : Nat) (h : i < xs.length),
 ∃ cs, cs.length = size ∧ (∀ j v, cs[j]? = some v → w.cell? ⟨b, off + i * size + j, none⟩ = some v) ∧ (xs[i]).rd w S cs
 | [], _, _, i, h => by simp at h
 | d :: r, off, hr, i, h => by
  simp only [D.rdR] at hr
  match i with
  | 0 => obtain ⟨⟨cs, h1, h2, h3⟩, _⟩ := hr; exact ⟨cs, h1, by simpa using h2, h3⟩
  | i + 1 =>
   obtain ⟨cs, h1, h2, h3⟩ := D.rdR_get hr.2 i (by simpa using h)
   refine ⟨cs, h1, fun j v hj => ?_, by simpa using h3⟩
   rw [← h2 j v hj]
   congr 2
   rw [Nat.add_mul]; omega
theorem D.rdR_mk {w : World} {S : Nat → Prop} {size b : Nat} : ∀ {xs : List D} {off : Nat}, (∀ (i : Nat) (h : i < xs.length),
    ∃ cs, cs.length = size ∧ (∀ j v, cs[j]? = some v → w.cell? ⟨b, off + i * size + j, none⟩ = some v) ∧ (xs[i]).rd w S cs) → D.rdR w S size b xs off
 | [], _, _ => by simp only [D.rdR]
 | d :: r, off, hr => by
  simp only [D.rdR]
  refine ⟨?_, D.rdR_mk fun i h => ?_⟩
  · obtain ⟨cs, h1, h2, h3⟩ := hr 0 (by simp)
    exact ⟨cs, h1, by simpa using h2, h3⟩
  · obtain ⟨cs, h1, h2, h3⟩ := hr (i + 1) (by simpa using h)
    refine ⟨cs, h1, fun j v hj => ?_, by simpa using h3⟩
    rw [← h2 j v hj]
    congr 2
    rw [Nat.add_mul]; omega
def Sl (w : World) (S : Nat → Prop) (size : Nat) (A : Option Addr) (c : Nat) (xs : List D) : Prop :=
 xs.length ≤ c ∧ c ≤ maxLen ∧ (xs = [] ∨ ∃ b off, A = some ⟨b, off, none⟩ ∧ S b ∧ D.rdR w S size b xs off)
theorem Sl.keep {w w' : World} {S S' : Nat → Prop} {size : Nat} {A : Option Addr} {c : Nat} {xs : List D} (hs : Sl w S size A c xs) (h : ∀ b, S b → S' b ∧ w'.heap[b]? = w.heap[b]?) : Sl w' S' size A c xs := by
 obtain ⟨h1, h2, h3⟩ := hs
 refine ⟨h1, h2, ?_⟩
 rcases h3 with h3 | ⟨b, off, e, hS, hr⟩
 · exact .inl h3
 · exact .inr ⟨b, off, e, (h b hS).1, D.rdR_keep h size b hS xs off hr⟩
theorem D.rd_num {w : World} {S : Nat → Prop} {k : IntKind} {n : Int} {cs : List Value} : (D.num k n).rd w S cs ↔ cs = [.int k n] ∧ (Lit.int k n).wf = true := by simp only [D.rd]
theorem D.rd_str {w : World} {S : Nat → Prop} {s : ByteArray} {cs : List Value} : (D.str s).rd w S cs ↔ cs = [.string s] ∧ s.size ≤ maxLen := by simp only [D.rd]
theorem D.rd_bool {w : World} {S : Nat → Prop} {b : Bool} {cs : List Value} : (D.bool b).rd w S cs ↔ cs = [.bool b] := by simp only [D.rd]
theorem D.rd_sl {w : World} {S : Nat → Prop} {size : Nat} {xs : List D} {cs : List Value} : (D.sl size xs).rd w S cs ↔ ∃ A c, cs = [.slice A xs.length c] ∧ Sl w S size A c xs := by
 simp only [D.rd, Sl]
theorem D.rd_agg {w : World} {S : Nat → Prop} {fs : List D} {cs : List Value} : (D.agg fs).rd w S cs ↔ D.rdF w S fs cs := by simp only [D.rd]
theorem D.rdF_nil {w : World} {S : Nat → Prop} {cs : List Value} : D.rdF w S [] cs ↔ cs = [] := by simp only [D.rdF]
theorem D.rdF_cons {w : World} {S : Nat → Prop} {d : D} {r : List D} {cs : List Value} : D.rdF w S (d :: r) cs ↔ ∃ c1 c2, cs = c1 ++ c2 ∧ D.rd w S d c1 ∧ D.rdF w S r c2 := by simp only [D.rdF]
theorem Sl.get {w : World} {S : Nat → Prop} {size : Nat} {A : Option Addr} {c : Nat} {xs : List D} (hs : Sl w S size A c xs) (i : Nat) (h : i < xs.length) :
 ∃ b off cs, A = some ⟨b, off, none⟩ ∧ S b ∧ cs.length = size ∧ (∀ j v, cs[j]? = some v → w.cell? ⟨b, off + i * size + j, none⟩ = some v) ∧ (xs[i]).rd w S cs := by
 obtain ⟨_, _, h3 | ⟨b, off, e, hS, hr⟩⟩ := hs
 · rw [h3] at h; simp at h
 · obtain ⟨cs, g1, g2, g3⟩ := D.rdR_get hr i h
   exact ⟨b, off, cs, e, hS, g1, g2, g3⟩
theorem Sl.nil {w : World} {S : Nat → Prop} {size : Nat} {A : Option Addr} {c : Nat} (hc : c ≤ maxLen) : Sl w S size A c [] := ⟨by simp, hc, .inl rfl⟩
theorem Sl.len {w : World} {S : Nat → Prop} {size : Nat} {A : Option Addr} {c : Nat} {xs : List D} (hs : Sl w S size A c xs) : xs.length ≤ 9223372036854775807 := by
 have := hs.1; have := hs.2.1; unfold maxLen at *; omega
def Lt (B : Nat) : Nat → Prop := fun b => b < B
theorem keep_below {w w' : World} {B B' : Nat} (h : Below B w w') (hB : B ≤ B') : ∀ b, Lt B b → Lt B' b ∧ w'.heap[b]? = w.heap[b]? :=
 fun b hb => ⟨Nat.lt_of_lt_of_le hb hB, h.block b hb⟩
theorem Sl.below {w w' : World} {B B' : Nat} {size : Nat} {A : Option Addr} {c : Nat} {xs : List D} (hs : Sl w (Lt B) size A c xs) (h : Below B w w') (hB : B ≤ B') : Sl w' (Lt B') size A c xs :=
 hs.keep (keep_below h hB)
def Row (w : World) (g : Nat) (t : TypeId) (cs : Array Value) : Prop := w.heap[g]? = some (.cells cs t (0, 0))
theorem Row.cell {w : World} {g : Nat} {t : TypeId} {cs : Array Value} (h : Row w g t cs) (i : Nat) : w.cell? ⟨g, i, none⟩ = cs[i]? := cell_of_row w g i cs t (0, 0) h
theorem Row.frozen {w : World} {g : Nat} {t : TypeId} {cs : Array Value} (h : Row w g t cs) (i : Nat) : w.frozen? ⟨g, i, none⟩ = false := by
 unfold Row at h
 simp [World.frozen?, h]
theorem Row.new (w : World) (t : TypeId) (cs : Array Value) : Row (w.alloc (.cells cs t)) w.heap.size t cs := heap_alloc_new w _
theorem Row.new' (w : World) (t : TypeId) (cs : Array Value) {g : Nat} (hg : g = w.heap.size) : Row (w.alloc (.cells cs t)) g t cs := by subst hg; exact Row.new w t cs
theorem Row.lt {w : World} {g : Nat} {t : TypeId} {cs : Array Value} (h : Row w g t cs) : g < w.heap.size := by
 rcases Nat.lt_or_ge g w.heap.size with hlt | hge
 · exact hlt
 · unfold Row at h; rw [Array.getElem?_eq_none hge] at h; cases h
theorem Row.set {w : World} {g : Nat} {t : TypeId} {cs : Array Value} (h : Row w g t cs) (i : Nat) (u : Value) : Row (w.setCell ⟨g, i, none⟩ u) g t (cs.setIfInBounds i u) := by
 unfold Row at h ⊢
 simp [World.setCell, Array.getElem?_modify, h]
theorem Row.alloc {w : World} {g : Nat} {t : TypeId} {cs : Array Value} (h : Row w g t cs) (o : Obj) : Row (w.alloc o) g t cs := (Below.heap_alloc w o g h.lt).trans h
theorem Row.below {B : Nat} {w w' : World} {g : Nat} {t : TypeId} {cs : Array Value} (h : Row w g t cs) (hb : Below B w w') (hg : g < B) : Row w' g t cs := (hb.block g hg).trans h
theorem take_snoc' {α : Type} (l : List α) (j : Nat) (h : j < l.length) : l.take (j + 1) = l.take j ++ [l[j]] := by
 rw [List.take_succ_eq_append_getElem h]
theorem enters {P : Program} {K : FuncId} {fn : Func} (h : P.funcs[K]? = some fn) (h1 : (fn.name == "runtime.NumGoroutine") = false) (h2 : fn.body.isNone = false) (args : Array Value) (w : World) :
 (callFunc K args).run P w = .ok (.enter K args) w := by
 have e1 : ¬ fn.name = "runtime.NumGoroutine" := by simpa using h1
 have e2 : ¬ fn.body = none := by intro e; rw [e] at h2; cases h2
 simp [callFunc, h, e1, e2]
def bulkL {α : Type} (f : α → Nat) : List α → Nat
 | [] => 0
 | t :: r => 1 + f t + bulkL f r
theorem bulkL_mem {α : Type} (f : α → Nat) (l : List α) (t : α) (h : t ∈ l) : f t + 1 ≤ bulkL f l := by
 induction l with
 | nil => cases h
 | cons x r ih =>
  simp only [bulkL]
  cases h with
  | head => omega
  | tail _ h => have := ih h; omega
theorem tmod31 (n : Int) : (0 ≤ n → n.tmod 2147483648 = n % 2147483648) ∧ (n < 0 → n.tmod 2147483648 = - ((-n) % 2147483648)) := by
 constructor
 · intro h; exact Int.tmod_eq_emod_of_nonneg h
 · intro h
   have e : n.tmod 2147483648 = -((-n).tmod 2147483648) := by rw [Int.neg_tmod]; omega
   rw [e, Int.tmod_eq_emod_of_nonneg (by omega)]
theorem tmod10 (n : Int) : (0 ≤ n → n.tmod 10 = n % 10) ∧ (n < 0 → n.tmod 10 = - ((-n) % 10)) := by
 constructor
 · intro h; exact Int.tmod_eq_emod_of_nonneg h
 · intro h
   have e : n.tmod 10 = -((-n).tmod 10) := by rw [Int.neg_tmod]; omega
   rw [e, Int.tmod_eq_emod_of_nonneg (by omega)]
theorem tdiv10 (n : Int) : (0 ≤ n → n.tdiv 10 = n / 10) ∧ (n < 0 → n.tdiv 10 = - ((-n) / 10)) := by
 constructor
 · intro h; exact Int.tdiv_eq_ediv_of_nonneg h
 · intro h
   have e : n.tdiv 10 = -((-n).tdiv 10) := by rw [Int.neg_tdiv]; omega
   rw [e, Int.tdiv_eq_ediv_of_nonneg (by omega)]
def one (x : Int) : ByteArray := ⟨#[UInt8.ofNat x.toNat]⟩
def digU (n : Nat) : ByteArray := if h : n < 10 then one (48 + n) else digU (n / 10) ++ one (48 + (n % 10 : Nat))
termination_by n
decreasing_by omega
theorem digU_lt {n : Nat} (h : n < 10) : digU n = one (48 + n) := by rw [digU, dif_pos h]
theorem digU_ge {n : Nat} (h : 10 ≤ n) : digU n = digU (n / 10) ++ one (48 + (n % 10 : Nat)) := by rw [digU, dif_neg (by omega)]
def digI (n : Int) : ByteArray := if n < 0 then ⟨#[45]⟩ ++ digU (-n).toNat else digU n.toNat
@[go_sem] theorem one_size (x : Int) : (one x).size = 1 := rfl
theorem digU_size (k : Nat) : ∀ n : Nat, n < 10 ^ (k + 1) → (digU n).size ≤ k + 1 := by
 induction k with
 | zero => intro n h; rw [digU_lt (by omega)]; simp [one_size]
 | succ k ih =>
  intro n h
  by_cases h10 : n < 10
  · rw [digU_lt h10]; simp [one_size]
  · rw [digU_ge (by omega), ByteArray.size_append', one_size]
    have := ih (n / 10) (by rw [Nat.pow_succ] at h; omega)
    omega
theorem digU_size19 (n : Nat) (h : n ≤ 9223372036854775808) : (digU n).size ≤ 19 := digU_size 18 n (by omega)
def digR (a : Nat) (s : ByteArray) : ByteArray := if a = 0 then s else digU a ++ s
theorem digR_zero (s : ByteArray) : digR 0 s = s := rfl
theorem digR_start {a : Nat} (h : a ≠ 0) : digR a ⟨#[]⟩ = digU a := by
 unfold digR; rw [if_neg h]; apply ByteArray.ext; simp [ByteArray.data_append]
theorem ba_assoc (a b c : ByteArray) : a ++ b ++ c = a ++ (b ++ c) := by
 apply ByteArray.ext; simp [ByteArray.data_append]
theorem digR_step {a : Nat} (h : a ≠ 0) (s : ByteArray) : digR (a / 10) (one (48 + (a % 10 : Nat)) ++ s) = digR a s := by
 unfold digR
 rw [if_neg h]
 by_cases h10 : a < 10
 · rw [if_pos (by omega), digU_lt h10, Nat.mod_eq_of_lt h10]
 · rw [if_neg (by omega), digU_ge (n := a) (by omega), ba_assoc]
theorem digR_size (a : Nat) (s : ByteArray) : s.size ≤ (digR a s).size := by
 unfold digR
 split
 · exact Nat.le_refl _
 · rw [ByteArray.size_append']; omega
theorem encode_one {r : Int} (h0 : 0 ≤ r) (h1 : r < 128) : Utf8.encode r = one r := by
 have hv : Utf8.valid r = true := by simp [Utf8.valid]; omega
 unfold Utf8.encode one
 simp only [hv, if_true]
 rw [if_pos (by omega)]
theorem run_string_one {P : Program} (w : World) (src dst e : TypeId) (x : Int) (hs : P.underlying src = some (.slice e)) (he : P.underlying e = some (.int .u8)) (hd : P.underlying dst = some .string) :
 (convert src dst (.slice (some ⟨w.heap.size, 0, none⟩) 1 1)).run P (w.alloc (.cells #[.int .u8 x] e)) = .ok (.string (one x)) (w.alloc (.cells #[.int .u8 x] e)) := by
 rw [run_convert_bytes_string _ src dst e (some ⟨w.heap.size, 0, none⟩) 1 1 hs he hd]
 have hl := run_loadCells_list (P := P) (w.alloc (.cells #[.int .u8 x] e)) ⟨w.heap.size, 0, none⟩ [.int .u8 x] (fun j v hj => by
   match j with
   | 0 =>
     have hv : Value.int .u8 x = v := by simpa using hj
     rw [← hv]
     show (w.alloc _).cell? ⟨w.heap.size, 0 + 0, none⟩ = _
     rw [World.cell?_alloc_at _ _ _ _ rfl]; rfl
   | j + 1 => simp at hj)
 rw [run_bytesToString _ _ 1 1 [x] (by simpa using hl)]
 rfl
theorem ret_int {k : IntKind} {a b : Int} (h : a = b) : Ending.returned (.int k a) = .returned (.int k b) := by rw [h]
theorem ret_str {a b : ByteArray} (h : a = b) : Ending.returned (.string a) = .returned (.string b) := by rw [h]
theorem ret_bool {a b : Bool} (h : a = b) : Ending.returned (.bool a) = .returned (.bool b) := by rw [h]
theorem wf64 {a : Int} (h : (Lit.int .i64 a).wf = true) : -9223372036854775808 ≤ a ∧ a ≤ 9223372036854775807 := by
 simpa [Lit.wf, IntKind.min, IntKind.max, IntKind.signed, IntKind.bits] using h
end Go.Proofs.Ytamfolaicncblaa
