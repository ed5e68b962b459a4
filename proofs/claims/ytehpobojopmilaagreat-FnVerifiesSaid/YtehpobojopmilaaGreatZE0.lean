/- The evaluator, texts in one: EvB EvProto EvR EvS EvO. Conditions: none. -/
import Derived.WalkKit
import Derived.Orders
namespace Go.Proofs.YtehpobojopmilaaGreat.Ev
set_option linter.unusedVariables false
set_option linter.unusedSimpArgs false
def cel (c i : Nat) : Nat := (c >>> (72 * i)) % 2 ^ 72
theorem cel_bit (c i b : Nat) : (cel c i).testBit b = (decide (b < 72) && c.testBit (72 * i + b)) := by
 unfold cel; rw [Nat.testBit_mod_two_pow, Nat.testBit_shiftRight]
theorem cel_lt (c i : Nat) : cel c i < 2 ^ 72 := Nat.mod_lt _ (Nat.two_pow_pos _)
theorem cel_ext {a b : Nat} (h : ∀ i, i < 72 → a.testBit i = b.testBit i) (ha : a < 2 ^ 72) (hb : b < 2 ^ 72) : a = b := by
 apply Nat.eq_of_testBit_eq
 intro i
 by_cases hi : i < 72
 · exact h i hi
 · rw [Nat.testBit_lt_two_pow (Nat.lt_of_lt_of_le ha (Nat.pow_le_pow_right (by omega) (by omega))), Nat.testBit_lt_two_pow (Nat.lt_of_lt_of_le hb (Nat.pow_le_pow_right (by omega) (by omega)))]
theorem cel_eq {a b i j : Nat} (h : ∀ q, q < 72 → a.testBit (72 * i + q) = b.testBit (72 * j + q)) : cel a i = cel b j :=
 cel_ext (fun q hq => by rw [cel_bit, cel_bit, h q hq]) (cel_lt _ _) (cel_lt _ _)
theorem cel_zero_of {a i : Nat} (h : ∀ q, q < 72 → a.testBit (72 * i + q) = false) : cel a i = 0 :=
 cel_ext (fun q hq => by rw [cel_bit, h q hq]; simp) (cel_lt _ _) (Nat.two_pow_pos _)
theorem cel_high {c k i : Nat} (h : c < 2 ^ (72 * k)) (hi : k ≤ i) : cel c i = 0 :=
 cel_zero_of fun q _ => Nat.testBit_lt_two_pow (Nat.lt_of_lt_of_le h (Nat.pow_le_pow_right (by omega) (by omega)))
theorem cel_one {c : Nat} (h : c < 2 ^ 72) : cel c 0 = c := by unfold cel; simp [Nat.mod_eq_of_lt h]
theorem cel0_mod (c : Nat) : cel c 0 = c % 2 ^ 72 := by unfold cel; simp
theorem eq_of_cel {a b k : Nat} (ha : a < 2 ^ (72 * k)) (hb : b < 2 ^ (72 * k)) (h : ∀ i, i < k → cel a i = cel b i) : a = b := by
 apply Nat.eq_of_testBit_eq
 intro q
 by_cases hq : q < 72 * k
 ·
  have e : q = 72 * (q / 72) + q % 72 := by omega
  have h1 := h (q / 72) (by omega)
  have h2 := congrArg (fun x => x.testBit (q % 72)) h1
  simp only [cel_bit] at h2
  have h3 : q % 72 < 72 := Nat.mod_lt _ (by omega)
  rw [← e] at h2
  simpa [h3] using h2
 · rw [Nat.testBit_lt_two_pow (Nat.lt_of_lt_of_le ha (Nat.pow_le_pow_right (by omega) (by omega))), Nat.testBit_lt_two_pow (Nat.lt_of_lt_of_le hb (Nat.pow_le_pow_right (by omega) (by omega)))]
def mk (k : Nat) : Nat := Nat.sub (Nat.pow 2 (Nat.mul 72 k)) 1
theorem mk_eq (k : Nat) : mk k = 2 ^ (72 * k) - 1 := rfl
def spn (c s m : Nat) : Nat := Nat.land (Nat.shiftRight c s) m
theorem spn_eq (c s k : Nat) : spn c s (mk k) = (c >>> s) % 2 ^ (72 * k) := by
 show (c >>> s) &&& (2 ^ (72 * k) - 1) = _
 rw [Nat.and_two_pow_sub_one_eq_mod]
theorem spn_lt (c s k : Nat) : spn c s (mk k) < 2 ^ (72 * k) := by rw [spn_eq]; exact Nat.mod_lt _ (Nat.two_pow_pos _)
theorem cel_spn (c p k i : Nat) : cel (spn c (72 * p) (mk k)) i = if i < k then cel c (p + i) else 0 := by
 split
 ·
  rename_i h
  refine cel_eq fun q hq => ?_
  rw [spn_eq, Nat.testBit_mod_two_pow, Nat.testBit_shiftRight]
  have : 72 * i + q < 72 * k := by omega
  rw [decide_eq_true this, Bool.true_and]
  congr 1; omega
 · rename_i h
   exact cel_high (spn_lt _ _ _) (by omega)
theorem cel_spn' {c p k i : Nat} (h : i < k) : cel (spn c (72 * p) (mk k)) i = cel c (p + i) := by rw [cel_spn, if_pos h]
def put (c s m v : Nat) : Nat := Nat.xor c (Nat.shiftLeft (Nat.xor (spn c s m) v) s)
theorem put_bit {c s k v : Nat} (hv : v < 2 ^ (72 * k)) (q : Nat) : (put c s (mk k) v).testBit q = if s ≤ q ∧ q < s + 72 * k then v.testBit (q - s) else c.testBit q := by
 show (c ^^^ ((spn c s (mk k) ^^^ v) <<< s)).testBit q = _
 rw [Nat.testBit_xor, Nat.testBit_shiftLeft, Nat.testBit_xor, spn_eq, Nat.testBit_mod_two_pow, Nat.testBit_shiftRight]
 by_cases h1 : s ≤ q
 ·
  have e : s + (q - s) = q := by omega
  rw [e]
  by_cases h2 : q < s + 72 * k
  · have h3 : q - s < 72 * k := by omega
    rw [if_pos ⟨h1, h2⟩]
    simp [h1, h3]
  · have h3 : ¬ q - s < 72 * k := by omega
    rw [if_neg (by omega), Nat.testBit_lt_two_pow (x := v) (i := q - s) (Nat.lt_of_lt_of_le hv (Nat.pow_le_pow_right (by omega) (by omega)))]
    simp [h3]
 · rw [if_neg (by omega)]
   have : ¬ q ≥ s := by omega
   simp [this]
theorem cel_put {c p k v : Nat} (hv : v < 2 ^ (72 * k)) (i : Nat) : cel (put c (72 * p) (mk k) v) i = if p ≤ i ∧ i < p + k then cel v (i - p) else cel c i := by
 split
 · rename_i h
   refine cel_eq fun q hq => ?_
   rw [put_bit hv, if_pos (by omega)]
   congr 1; omega
 · rename_i h
   refine cel_eq fun q hq => ?_
   rw [put_bit hv, if_neg (by omega)]
theorem put_lt {c p k v n : Nat} (hc : c < 2 ^ (72 * n)) (hv : v < 2 ^ (72 * k)) (h : p + k ≤ n) : put c (72 * p) (mk k) v < 2 ^ (72 * n) := by
 apply Nat.lt_pow_two_of_testBit
 intro q hq
 rw [put_bit hv]
 split
 · omega
 · exact Nat.testBit_lt_two_pow (Nat.lt_of_lt_of_le hc (Nat.pow_le_pow_right (by omega) hq))
theorem cel_app {a b n : Nat} (ha : a < 2 ^ (72 * n)) (i : Nat) : cel (Nat.lor a (Nat.shiftLeft b (72 * n))) i = if i < n then cel a i else cel b (i - n) := by
 have hb : ∀ q, (Nat.lor a (Nat.shiftLeft b (72 * n))).testBit q = (a.testBit q || (decide (q ≥ 72 * n) && b.testBit (q - 72 * n))) := fun q => by
  show (a ||| (b <<< (72 * n))).testBit q = _
  rw [Nat.testBit_or, Nat.testBit_shiftLeft]
 split
 · refine cel_eq fun q hq => ?_
   rw [hb]
   have : ¬ 72 * i + q ≥ 72 * n := by omega
   simp [this]
 · refine cel_eq fun q hq => ?_
   rw [hb, Nat.testBit_lt_two_pow (x := a) (Nat.lt_of_lt_of_le ha (Nat.pow_le_pow_right (by omega) (by omega)))]
   have : 72 * i + q ≥ 72 * n := by omega
   simp only [this, decide_true, Bool.true_and, Bool.false_or]
   congr 1; omega
theorem app_lt {a b n m : Nat} (ha : a < 2 ^ (72 * n)) (hb : b < 2 ^ (72 * m)) : Nat.lor a (Nat.shiftLeft b (72 * n)) < 2 ^ (72 * (n + m)) := by
 apply Nat.lt_pow_two_of_testBit
 intro q hq
 show (a ||| (b <<< (72 * n))).testBit q = _
 rw [Nat.testBit_or, Nat.testBit_shiftLeft, Nat.testBit_lt_two_pow (x := a) (Nat.lt_of_lt_of_le ha (Nat.pow_le_pow_right (by omega) (by omega))), Nat.testBit_lt_two_pow (x := b) (Nat.lt_of_lt_of_le hb (Nat.pow_le_pow_right (by omega) (by omega)))]
 simp
theorem add_app {a b n : Nat} (ha : a < 2 ^ (72 * n)) : Nat.add a (Nat.shiftLeft b (72 * n)) = Nat.lor a (Nat.shiftLeft b (72 * n)) := by
 show a + b <<< (72 * n) = a ||| b <<< (72 * n)
 rw [Nat.add_comm, Nat.shiftLeft_add_eq_or_of_lt ha, Nat.or_comm]
def kp (N p k : Nat) : Nat := Nat.xor (Nat.xor (Nat.sub (Nat.shiftLeft 1 (72 * N)) 1) (Nat.shiftLeft 255 64)) (Nat.shiftLeft (mk k) (72 * p))
def putF (c s nm k v : Nat) : Nat := Nat.lor (Nat.add (Nat.land c nm) k) (Nat.shiftLeft v s)
theorem bit255 (q : Nat) : (255 : Nat).testBit q = decide (q < 8) := by
 have : (255 : Nat) = 2 ^ 8 - 1 := by decide
 rw [this, Nat.testBit_two_pow_sub_one]
theorem kp_bit {N p k : Nat} (q : Nat) : (kp N p k).testBit q = ((decide (q < 72 * N) ^^ (decide (q ≥ 64) && decide (q < 72))) ^^ (decide (q ≥ 72 * p) && decide (q < 72 * (p + k)))) := by
 show (((1 <<< (72 * N) - 1) ^^^ (255 <<< 64)) ^^^ ((mk k) <<< (72 * p))).testBit q = _
 rw [Nat.testBit_xor, Nat.testBit_xor, Nat.testBit_shiftLeft, Nat.testBit_shiftLeft, Nat.one_shiftLeft, Nat.testBit_two_pow_sub_one, mk_eq, Nat.testBit_two_pow_sub_one, bit255]
 congr 1
 · congr 2
   rw [decide_eq_decide]; omega
 · by_cases h : q ≥ 72 * p
   · simp only [h, decide_true, Bool.true_and, decide_eq_decide]; omega
   · simp [h]
theorem cel_putF {c N p n k v : Nat} (hp : 1 ≤ p) (hpn : p + n ≤ N) (hk : k < 2 ^ 40) (hv : v < 2 ^ (72 * n)) (i : Nat) (hi : 1 ≤ i) (hiN : i < N) : cel (putF c (72 * p) (kp N p n) k v) i = if p ≤ i ∧ i < p + n then cel v (i - p) else cel c i := by
 have hX : ∀ q, (c &&& kp N p n).testBit q = (c.testBit q && (kp N p n).testBit q) := fun q => Nat.testBit_and _ _ _
 have hlow : (c &&& kp N p n) % 2 ^ 72 < 2 ^ 64 := by
  apply Nat.lt_pow_two_of_testBit
  intro q hq
  rw [Nat.testBit_mod_two_pow, hX, kp_bit]
  by_cases h72 : q < 72
  · have h1 : q < 72 * N := by omega
    have h2 : ¬ q ≥ 72 * p := by omega
    simp [h72, h1, h2, hq]
  · simp [h72]
 have hhi : ∀ q, 72 ≤ q → ((c &&& kp N p n) + k).testBit q = (c &&& kp N p n).testBit q := fun q hq => by
  have hd : ((c &&& kp N p n) + k) / 2 ^ 72 = (c &&& kp N p n) / 2 ^ 72 := by
   have h0 := Nat.div_add_mod (c &&& kp N p n) (2 ^ 72)
   have h1 : (c &&& kp N p n) % 2 ^ 72 + k < 2 ^ 72 := by omega
   omega
  have hs : ∀ x : Nat, x.testBit q = (x / 2 ^ 72).testBit (q - 72) := fun x => by
   rw [← Nat.shiftRight_eq_div_pow, Nat.testBit_shiftRight]
   congr 1; omega
  rw [hs, hs (c &&& kp N p n), hd]
 have hb : ∀ q, 72 ≤ q → q < 72 * N → (putF c (72 * p) (kp N p n) k v).testBit q = if 72 * p ≤ q ∧ q < 72 * (p + n) then v.testBit (q - 72 * p) else c.testBit q := fun q hq hqN => by
  show (((c &&& kp N p n) + k) ||| (v <<< (72 * p))).testBit q = _
  rw [Nat.testBit_or, Nat.testBit_shiftLeft, hhi q hq, hX, kp_bit]
  have h1 : ¬ q < 72 := by omega
  by_cases h2 : 72 * p ≤ q ∧ q < 72 * (p + n)
  · rw [if_pos h2]
    have h3 : q ≥ 72 * p := h2.1
    simp [hqN, h1, h2.2, h3]
  · rw [if_neg h2]
    by_cases h3 : q ≥ 72 * p
    · have h4 : ¬ q < 72 * (p + n) := by omega
      rw [Nat.testBit_lt_two_pow (x := v) (Nat.lt_of_lt_of_le hv (Nat.pow_le_pow_right (by omega) (by omega)))]
      simp [hqN, h1, h3, h4]
    · simp [hqN, h1, h3]
 split
 · rename_i h
   refine cel_eq fun q hq => ?_
   rw [hb _ (by omega) (by omega), if_pos (by omega)]
   congr 1; omega
 · rename_i h
   refine cel_eq fun q hq => ?_
   rw [hb _ (by omega) (by omega), if_neg (by omega)]
end Go.Proofs.YtehpobojopmilaaGreat.Ev
namespace Go.Proofs.YtehpobojopmilaaGreat.Ev
set_option linter.unusedVariables false
set_option linter.unusedSimpArgs false
open Go
noncomputable section
def iff' {α : Type} (c : Bool) (t e : α) : α := Bool.rec e t c
def bnd {α β : Type} (x : Option α) (f : α → Option β) : Option β := Option.rec none f x
def str {α : Type} (n : Nat) (f : Nat → α) : α := Nat.rec (motive := fun _ => α) (f 0) (fun k _ => f k) (Nat.succ n)
inductive T (α : Type) where
 | e
 | n (x : Option α) (l r : T α)
def T.get {α : Type} (t : T α) : Nat → Option α := T.rec (motive := fun _ => Nat → Option α) (fun _ => none)
 (fun x _ _ gl gr k => Nat.rec (motive := fun _ => Option α) x (fun k _ => Nat.rec (motive := fun _ => Option α) (gl (Nat.div k 2)) (fun _ _ => gr (Nat.div k 2)) (Nat.mod k 2)) k) t
def T.getK {α : Type} (t : T α) : Nat → (α → Bool) → Bool := T.rec (motive := fun _ => Nat → (α → Bool) → Bool) (fun _ _ => false)
 (fun x _ _ gl gr k κ => Nat.rec (motive := fun _ => Bool) (Option.rec false κ x) (fun k _ => Nat.rec (motive := fun _ => Bool) (gl (Nat.div k 2) κ) (fun _ _ => gr (Nat.div k 2) κ) (Nat.mod k 2)) k) t
def T.stN {α : Type} (ih : T α → Nat → (T α → Bool) → Bool) (v : Option α) (x : Option α) (l r : T α) (k : Nat) (κ : T α → Bool) : Bool :=
 Nat.rec (motive := fun _ => Bool) (κ (.n v l r)) (fun k _ => Nat.rec (motive := fun _ => Bool) (ih l (Nat.div k 2) fun l => κ (.n x l r)) (fun _ _ => ih r (Nat.div k 2) fun r => κ (.n x l r)) (Nat.mod k 2)) k
def T.setK {α : Type} (v : Option α) (f : Nat) : T α → Nat → (T α → Bool) → Bool := Nat.rec (motive := fun _ => T α → Nat → (T α → Bool) → Bool) (fun _ _ _ => false)
 (fun _ ih t => T.rec (motive := fun _ => Nat → (T α → Bool) → Bool) (T.stN ih v none .e .e) (fun x l r _ _ => T.stN ih v x l r) t) f
structure Blk where
 c : Nat
 n : Nat
 ty : Nat
 es : Nat
 ex : Bool
abbrev HT := T Blk
inductive TK where
 | st (fs : List (Nat × Nat × Bool))
 | sl (elem : Nat)
 | it (k : IntKind)
 | str
 | tu (l : List (Nat × Bool))
 | other
structure TI where
 sz : Nat
 zero : Nat
 k : TK
inductive Sh where
 | c
 | g (k : Nat)
 | t (l : List (Nat × Bool))
 | b (k : Nat)
 | a (p : Nat)
def sumK (l : List (Nat × Bool)) : Nat := List.rec (motive := fun _ => Nat) 0 (fun x _ n => Nat.add x.1 n) l
def Sh.sz (s : Sh) : Nat := Sh.rec (motive := fun _ => Nat) 1 (fun k => k) sumK (fun k => k) (fun _ => 0) s
def shOf (t : TI) : Sh := match t.k with | .st _ => .g t.sz | .tu l => .t l | _ => .c
structure Pl where
 s : Nat
 nm : Nat
 k : Nat
def B : Nat := 1152921504606846976
def B8 : Nat := 9223372036854775809
def B16 : Nat := 18446744073709551616
def tag (c t : Nat) (k : Bool) : Bool := iff' (Nat.beq (Nat.land c 7) t) k false
def encN (n : Nat) : Nat := Nat.add (Nat.mul 8 n) B8
def bytesN (s : ByteArray) : List Nat := s.data.toList.map (fun b => b.toNat)
def numL (l : List Nat) : Nat := List.rec (motive := fun _ => Nat) 0 (fun x _ n => Nat.add x (Nat.mul 256 n)) l
def lenL {α : Type} (l : List α) : Nat := List.rec (motive := fun _ => Nat) 0 (fun _ _ n => Nat.succ n) l
def encS (len num : Nat) : Nat := Nat.add (Nat.mul 8 (Nat.add len (Nat.mul 16 num))) 4
structure Tx where
 c : Nat
 n : Nat
 k : List (Nat × Nat × Nat)
def mk8 (k : Nat) : Nat := Nat.sub (Nat.shiftLeft 1 (Nat.mul 8 k)) 1
def encZ (off len : Nat) : Nat := Nat.add (Nat.mul 8 (Nat.add off (Nat.shiftLeft len 12))) 5
def longS (tx : Tx) (n c : Nat) (l : List (Nat × Nat × Nat)) : Option Nat := List.rec (motive := fun _ => Option Nat) none (fun x _ ih => iff' (Nat.beq x.1 n) (iff' (Nat.beq x.2.1 c) (iff' (Nat.beq (Nat.land (Nat.shiftRight tx.c (Nat.mul 8 x.2.2)) (mk8 n)) c) (iff' (Nat.ble (Nat.add x.2.2 n) 4095) (some (encZ x.2.2 n)) none) none) ih) ih) l
def cval1 (tx : Tx) (v : Value) : Option Nat := match v with
 | .int .i64 (.ofNat n) => iff' (Nat.ble n 1152921504606846975) (some (encN n)) none
 | .int .i64 (.negSucc n) => iff' (Nat.ble n 1152921504606846975) (some (Nat.sub (Nat.sub B8 8) (Nat.mul 8 n))) none
 | .int .u8 (.ofNat n) => iff' (Nat.ble n 255) (some (Nat.add (Nat.mul 8 n) 3)) none
 | .bool b => some (iff' b 10 2)
 | .string s => iff' (Nat.ble (lenL (bytesN s)) 8) (some (encS (lenL (bytesN s)) (numL (bytesN s)))) (longS tx (lenL (bytesN s)) (numL (bytesN s)) tx.k)
 | .pointer none => some 6
 | .slice none 0 0 => some 7
 | _ => none
def cvals (tx : Tx) : List Value → Option Nat
 | [] => some 0
 | x :: r => bnd (cval1 tx x) fun y => bnd (cvals tx r) fun l => some (Nat.add y (Nat.shiftLeft l 72))
abbrev Od := Nat → Nat
def oT (s m fr : Nat) : Nat := Nat.land (Nat.shiftRight fr s) m
def oK (c _ : Nat) : Nat := c
structure OdS where
 o : Od
 h : Sh
def cval (tx : Tx) (v : Value) : Option OdS := match v with
 | .agg cs => bnd (cvals tx cs.toList) fun l => some ⟨oK l, .g (lenL cs.toList)⟩
 | v => bnd (cval1 tx v) fun x => str x fun x => some ⟨oK x, .c⟩
def acc (id co sz : Nat) : Nat := Nat.add (Nat.shiftLeft (Nat.add (Nat.shiftLeft id 24) co) 12) sz
def accI (a : Nat) : Nat := Nat.shiftRight a 36
def accC (a : Nat) : Nat := Nat.land (Nat.shiftRight a 12) 16777215
def accN (a : Nat) : Nat := Nat.land a 4095
abbrev KN := Nat → Bool
def isI (a : Nat) (k : Bool) : Bool := tag a 1 k
def rng (κ : KN) (r : Nat) : Bool := iff' (Nat.ble r 18446744073709551615) (κ r) false
def addK (κ : KN) (a b : Nat) : Bool := isI a (isI b (iff' (Nat.ble B8 (Nat.add a b)) (rng κ (Nat.sub (Nat.add a b) B8)) false))
def subK (κ : KN) (a b : Nat) : Bool := isI a (isI b (iff' (Nat.ble b (Nat.add a B8)) (rng κ (Nat.sub (Nat.add a B8) b)) false))
def nn (a b : Nat) (f : Nat → Nat → Bool) : Bool := isI a (isI b (iff' (Nat.ble B8 a) (iff' (Nat.ble B8 b) (f (Nat.div (Nat.sub a B8) 8) (Nat.div (Nat.sub b B8) 8)) false) false))
def mulK (κ : KN) (a b : Nat) : Bool := nn a b fun a b => rng κ (encN (Nat.mul a b))
def quoK (κ : KN) (a b : Nat) : Bool := nn a b fun a b => iff' (Nat.beq b 0) false (rng κ (encN (Nat.div a b)))
def remK (κ : KN) (a b : Nat) : Bool := nn a b fun a b => iff' (Nat.beq b 0) false (rng κ (encN (Nat.mod a b)))
def bo (b : Bool) : Nat := Bool.rec 2 10 b
def neg (b : Bool) : Bool := Bool.rec true false b
def or' (a b : Bool) : Bool := Bool.rec b true a
def ii (a b : Nat) (k : Bool) : Bool := iff' (or' (Nat.beq (Nat.land a 7) 1) (Nat.beq (Nat.land a 7) 3)) (iff' (Nat.beq (Nat.land a 7) (Nat.land b 7)) k false) false
def ee (a b : Nat) (k : Bool) : Bool := iff' (Nat.beq (Nat.land a 7) (Nat.land b 7)) (iff' (or' (Nat.beq (Nat.land a 7) 1) (or' (Nat.beq (Nat.land a 7) 3) (Nat.beq (Nat.land a 7) 4))) k false) false
def lenS (c : Nat) : Nat := Nat.land (Nat.shiftRight c 3) 15
def numS (c : Nat) : Nat := Nat.shiftRight c 7
def catK (κ : KN) (a b : Nat) : Bool := tag a 4 (tag b 4 (iff' (Nat.ble (Nat.add (lenS a) (lenS b)) 8) (κ (encS (Nat.add (lenS a) (lenS b)) (Nat.add (numS a) (Nat.shiftLeft (numS b) (Nat.mul 8 (lenS a)))))) false))
def selBin (op : BinOp) : Option (KN → Nat → Nat → Bool) := match op with
 | .add => some fun κ a b => iff' (Nat.beq (Nat.land a 7) 4) (catK κ a b) (addK κ a b)
 | .sub => some subK
 | .mul => some mulK
 | .quo => some quoK
 | .rem => some remK
 | .eql => some fun κ a b => ee a b (κ (bo (Nat.beq a b)))
 | .neq => some fun κ a b => ee a b (κ (bo (neg (Nat.beq a b))))
 | .leq => some fun κ a b => ii a b (κ (bo (Nat.ble a b)))
 | .geq => some fun κ a b => ii a b (κ (bo (Nat.ble b a)))
 | .lss => some fun κ a b => ii a b (κ (bo (neg (Nat.ble b a))))
 | .gtr => some fun κ a b => ii a b (κ (bo (neg (Nat.ble a b))))
 | _ => none
def df (c : Nat) (k : Bool) : Bool := iff' (Nat.beq (Nat.land c 7) 0) false k
def pt (c : Nat) (f : Nat → Nat → Bool) : Bool := tag c 6 (iff' (Nat.beq c 6) false (str (Nat.pred (Nat.land (Nat.shiftRight c 3) 1048575)) fun id => str (Nat.shiftRight c 23) (f id)))
def encP (id co : Nat) : Nat := Nat.add (Nat.mul 8 (Nat.add (Nat.succ id) (Nat.shiftLeft co 20))) 6
def sl (c : Nat) (f : Nat → Nat → Nat → Nat → Bool) : Bool := tag c 7 (iff' (Nat.beq c 7) false (iff' (Nat.beq c 15) false (str (Nat.pred (Nat.land (Nat.shiftRight c 3) 1048575)) fun id => str (Nat.land (Nat.shiftRight c 23) 4095) fun eo => str (Nat.land (Nat.shiftRight c 35) 4095) fun n => str (Nat.shiftRight c 47) (f id eo n))))
def encL (id eo n es : Nat) : Nat := Nat.add (Nat.mul 8 (Nat.add (Nat.succ id) (Nat.shiftLeft (Nat.add eo (Nat.shiftLeft (Nat.add n (Nat.shiftLeft es 12)) 12)) 20))) 7
inductive PO where
 | mv (x : Od)
 | pu (g : Nat → KN → Bool)
 | rd (g : Nat → HT → (Nat → Nat → Bool) → Bool)
 | al (g : Nat → Nat → (Nat → Blk → Bool) → Bool)
 | st (g : Nat → HT → (Nat → Nat → Blk → Bool) → Bool)
 | ap (g : Nat → HT → Nat → (Nat → List Nat → Option Blk → Option Nat → Bool) → Bool)
 | call (g : Nat) (args : List (Od × Nat))
def ePick (c a b : Od) (fr : Nat) (κ : KN) : Bool := tag (c fr) 2 (iff' (Nat.beq (c fr) 10) (κ (a fr)) (κ (b fr)))
def eBox (b : Nat → Blk) (x : Od) (fr nx : Nat) (κ : Nat → Blk → Bool) : Bool := str (x fr) fun x => df x (κ (encP nx 0) (b x))
structure Pa where
 s : Nat
 m : Nat
 o : Od
def parts (fr : Nat) (κ : KN) (l : List Pa) : Nat → Bool := List.rec (motive := fun _ => Nat → Bool) κ (fun p _ ih c => df (p.o fr) (str (put c p.s p.m (p.o fr)) ih)) l
def eBuild (z : Nat) (l : List Pa) (fr : Nat) (κ : KN) : Bool := parts fr κ l z
def eBuildS (z : Nat) (b : Nat → Blk) (len es : Nat) (l : List Pa) (fr nx : Nat) (κ : Nat → Blk → Bool) : Bool := parts fr (fun c => κ (encL nx 0 len es) (b c)) l z
def eLoad (sz m : Nat) (a : Od) (fr : Nat) (h : HT) (κ : Nat → Nat → Bool) : Bool := pt (a fr) fun id co => T.getK h id fun bk => iff' (Nat.ble (Nat.add co sz) bk.n) (κ (spn bk.c (Nat.mul 72 co) m) (acc id co sz)) false
def eStore (sz m : Nat) (a x : Od) (fr : Nat) (h : HT) (κ : Nat → Nat → Blk → Bool) : Bool := df (x fr) (pt (a fr) fun id co => T.getK h id fun bk => iff' (Nat.ble (Nat.add co sz) bk.n) (str (put bk.c (Nat.mul 72 co) m (x fr)) fun c => str (acc id co sz) fun q => κ id q ⟨c, bk.n, bk.ty, bk.es, bk.ex⟩) false)
def eNil (x : Od) (fr : Nat) (κ : KN) : Bool := pt (x fr) fun _ _ => κ (x fr)
def eDf (x : Od) (fr : Nat) (κ : KN) : Bool := df (x fr) (κ (x fr))
def eSpn (x : Od) (s m fr : Nat) (κ : KN) : Bool := df (x fr) (κ (spn (x fr) s m))
def eNot (x : Od) (fr : Nat) (κ : KN) : Bool := tag (x fr) 2 (κ (Nat.sub 12 (x fr)))
def eFA (d : Nat) (x : Od) (fr : Nat) (κ : KN) : Bool := pt (x fr) fun _ _ => iff' (Nat.ble (Nat.add (x fr) d) 2361183241434822606847) (κ (Nat.add (x fr) d)) false
def eIA (es : Nat) (x ix : Od) (fr : Nat) (κ : KN) : Bool := sl (x fr) fun id eo n e => iff' (Nat.beq e es) (isI (ix fr) (iff' (Nat.ble B8 (ix fr)) (iff' (Nat.ble (Nat.succ (Nat.div (Nat.sub (ix fr) B8) 8)) n) (κ (encP id (Nat.mul (Nat.add eo (Nat.div (Nat.sub (ix fr) B8) 8)) es))) false) false)) false
def u8 (κ : KN) (b : Nat) : Bool := κ (Nat.add (Nat.mul 8 b) 3)
def offZ (c : Nat) : Nat := Nat.land (Nat.shiftRight c 3) 4095
def lenZ (c : Nat) : Nat := Nat.shiftRight c 15
def idx (ix : Nat) (f : Nat → Bool) : Bool := isI ix (iff' (Nat.ble B8 ix) (f (Nat.div (Nat.sub ix B8) 8)) false)
def eIx (tx : Tx) (x ix : Od) (fr : Nat) (κ : KN) : Bool := idx (ix fr) fun i => iff' (Nat.beq (Nat.land (x fr) 7) 5)
 (iff' (Nat.ble (Nat.succ i) (lenZ (x fr))) (u8 κ (Nat.land (Nat.shiftRight tx.c (Nat.mul 8 (Nat.add (offZ (x fr)) i))) 255)) false)
 (tag (x fr) 4 (iff' (Nat.ble (Nat.succ i) (lenS (x fr))) (u8 κ (Nat.land (Nat.shiftRight (numS (x fr)) (Nat.mul 8 i)) 255)) false))
def subS (κ : KN) (c a b : Nat) : Bool := iff' (Nat.ble a b) (iff' (Nat.ble b (lenS c)) (κ (encS (Nat.sub b a) (Nat.land (Nat.shiftRight (numS c) (Nat.mul 8 a)) (mk8 (Nat.sub b a))))) false) false
def subZ (tx : Tx) (κ : KN) (c a b : Nat) : Bool := iff' (Nat.ble a b) (iff' (Nat.ble b (lenZ c)) (iff' (Nat.ble (Nat.sub b a) 8) (κ (encS (Nat.sub b a) (Nat.land (Nat.shiftRight tx.c (Nat.mul 8 (Nat.add (offZ c) a))) (mk8 (Nat.sub b a))))) (κ (encZ (Nat.add (offZ c) a) (Nat.sub b a)))) false) false
def subL (κ : KN) (id eo n es a b : Nat) : Bool := iff' (Nat.ble a b) (iff' (Nat.ble b n) (iff' (Nat.beq a 0) (κ (encL id eo b es)) (iff' (Nat.ble (Nat.succ a) b) (κ (encL id (Nat.add eo a) (Nat.sub b a) es)) (κ 15))) false) false
def bound (fr : Nat) (o : Option Od) (d : Nat) (f : Nat → Bool) : Bool := Option.rec (f d) (fun o => idx (o fr) f) o
def eSlS (tx : Tx) (x : Od) (lo hi : Option Od) (fr : Nat) (κ : KN) : Bool := bound fr lo 0 fun a => iff' (Nat.beq (Nat.land (x fr) 7) 5) (bound fr hi (lenZ (x fr)) fun b => subZ tx κ (x fr) a b) (tag (x fr) 4 (bound fr hi (lenS (x fr)) fun b => subS κ (x fr) a b))
def eSlL (e : Nat) (x : Od) (lo hi : Option Od) (fr : Nat) (κ : KN) : Bool := sl (x fr) fun id eo n es => iff' (Nat.beq es e) (bound fr lo 0 fun a => bound fr hi n fun b => subL κ id eo n es a b) false
def eLenS (x : Od) (fr : Nat) (κ : KN) : Bool := iff' (Nat.beq (Nat.land (x fr) 7) 5) (κ (encN (lenZ (x fr)))) (tag (x fr) 4 (κ (encN (lenS (x fr)))))
def eLenL (x : Od) (fr : Nat) (κ : KN) : Bool := tag (x fr) 7 (κ (encN (Nat.land (Nat.shiftRight (x fr) 35) 4095)))
def eConvI (x : Od) (fr : Nat) (κ : KN) : Bool := tag (x fr) 3 (κ (encN (Nat.shiftRight (x fr) 3)))
def eConvU (x : Od) (fr : Nat) (κ : KN) : Bool := idx (x fr) fun n => κ (Nat.add (Nat.mul 8 (Nat.mod n 256)) 3)
def byts (c : Nat) (κ : KN) (n : Nat) : Nat → Nat → Bool := Nat.rec (motive := fun _ => Nat → Nat → Bool) (fun _ a => κ a) (fun i ih _ a => tag (spn c (Nat.mul 72 i) 4722366482869645213695) 3 (ih i (Nat.add (Nat.mul 256 a) (Nat.shiftRight (spn c (Nat.mul 72 i) 4722366482869645213695) 3)))) n
def eConvB (x : Od) (fr : Nat) (h : HT) (κ : Nat → Nat → Bool) : Bool := sl (x fr) fun id eo n es => iff' (Nat.beq es 1) (iff' (Nat.ble n 8) (T.getK h id fun bk => iff' (Nat.ble (Nat.add eo n) bk.n) (byts (Nat.shiftRight bk.c (Nat.mul 72 eo)) (fun a => κ (encS n a) (acc id 0 4095)) n n 0) false) false) false
abbrev KP := Nat → List Nat → Option Blk → Option Nat → Bool
def app1 (es e nx : Nat) (κ : KP) (src m : Nat) (rd : List Nat) : Bool := str (Nat.mul m es) fun k => κ (encL nx 0 m es) rd (some ⟨src, k, e, es, false⟩) none
def app2 (es : Nat) (h : HT) (e nx id n : Nat) (κ : KP) (src m : Nat) (rd : List Nat) : Bool := T.getK h id fun bk => iff' (Nat.beq (Nat.mul n es) bk.n) (iff' (Nat.beq bk.ty e) (iff' (Nat.beq bk.es es)
  (str (Nat.lor bk.c (Nat.shiftLeft src (Nat.mul 72 bk.n))) fun c => str (Nat.mul (Nat.add n m) es) fun k => κ (encL nx 0 (Nat.add n m) es) (acc id 0 4095 :: rd) (some ⟨c, k, e, es, false⟩) (iff' bk.ex none (some id))) false) false) false
def app0 (es : Nat) (h : HT) (e nx : Nat) (κ : KP) (x src m : Nat) (rd : List Nat) : Bool := iff' (Nat.beq x 7) (app1 es e nx κ src m rd) (sl x fun id eo n es' => iff' (Nat.beq es' es) (iff' (Nat.beq eo 0) (iff' (Nat.ble (Nat.add n m) 4095) (app2 es h e nx id n κ src m rd) false) false) false)
def srcK (es : Nat) (h : HT) (κ : Nat → Nat → List Nat → Bool) (y : Nat) : Bool := sl y fun id eo n es' => iff' (Nat.beq es' es) (T.getK h id fun bk => iff' (Nat.ble (Nat.mul (Nat.add eo n) es) bk.n) (str (spn bk.c (Nat.mul 72 (Nat.mul eo es)) (mk (Nat.mul n es))) fun c => κ c n [acc id 0 4095]) false) false
def isSl (x : Nat) (k : Bool) : Bool := tag x 7 k
def eApp (es e : Nat) (x y : Od) (fr : Nat) (h : HT) (nx : Nat) (κ : KP) : Bool := isSl (x fr) (iff' (Nat.beq (y fr) 7) (κ (x fr) [] none none) (iff' (Nat.beq (y fr) 15) (κ (x fr) [] none none) (srcK es h (fun src m rd => iff' (Nat.beq m 0) (κ (x fr) rd none none) (app0 es h e nx κ (x fr) src m rd)) (y fr))))
def isAgg' (P : Program) (t : TypeId) : Bool := match P.underlying t with | some (.struct _) => true | some (.array _ _) => true | _ => false
def hasU (P : Program) (t : TypeId) : Bool := match P.underlying t with | some _ => true | none => false
def fldOf (P : Program) : List Field → Option (List (Nat × Nat × Bool))
 | [] => some []
 | f :: r => bnd (P.info? f.type) fun i => bnd (fldOf P r) fun l => iff' (hasU P f.type) (some ((f.offset, i.size, isAgg' P f.type) :: l)) none
def tupOf (P : Program) : List TypeId → Option (List (Nat × Bool))
 | [] => some []
 | t :: r => bnd (P.info? t) fun i => bnd (tupOf P r) fun l => some ((i.size, isAgg' P t) :: l)
def noTx : Tx := ⟨0, 0, []⟩
def kndOf (P : Program) (d : TypeDesc) : Option TK := match d with
 | .struct fs => bnd (fldOf P fs.toList) fun l => some (.st l)
 | .slice e => some (.sl e)
 | .int k => some (.it k)
 | .string => some .str
 | .tuple ts => bnd (tupOf P ts.toList) fun l => some (.tu l)
 | .array _ _ => none
 | _ => some .other
def fsOk (n : Nat) (l : List (Nat × Nat × Bool)) : Bool := List.rec (motive := fun _ => Bool) true (fun x _ ih => iff' (Nat.ble (Nat.add x.1 x.2.1) n) (iff' (iff' x.2.2 true (Nat.beq x.2.1 1)) ih false) false) l
def tuOk (l : List (Nat × Bool)) : Bool := List.rec (motive := fun _ => Bool) true (fun x _ ih => iff' (iff' x.2 true (Nat.beq x.1 1)) ih false) l
def tiOf (P : Program) (t : TypeId) : Option TI := bnd (P.info? t) fun i => bnd (P.underlying t) fun d => bnd (kndOf P d) fun k => match k with
 | .tu l => iff' (tuOk l) (some ⟨sumK l, 0, .tu l⟩) none
 | .st fs => bnd i.zero fun z => iff' (Nat.beq (lenL z.cells.toList) i.size) (iff' (Nat.ble i.bytes 1048576) (bnd (cvals noTx z.cells.toList) fun c => str i.size fun n => str c fun c => iff' (fsOk i.size fs) (some ⟨n, c, .st fs⟩) none) none) none
 | k => bnd i.zero fun z => iff' (Nat.beq (lenL z.cells.toList) 1) (iff' (Nat.beq i.size 1) (iff' (Nat.ble i.bytes 1048576) (bnd (cvals noTx z.cells.toList) fun c => str c fun c => some ⟨1, c, k⟩) none) none) none
def nth {α : Type} (l : List α) : Nat → Option α := List.rec (motive := fun _ => Nat → Option α) (fun _ => none) (fun x _ ih k => Nat.rec (motive := fun _ => Option α) (some x) (fun k _ => ih k) k) l
def appL {α : Type} (l r : List α) : List α := List.rec (motive := fun _ => List α) r (fun x _ ih => x :: ih) l
structure Ly where
 p : Nat
 h : Sh
def stOf (t : TI) : Option (List (Nat × Nat × Bool)) := match t.k with | .st fs => some fs | _ => none
def slOf (t : TI) : Option Nat := match t.k with | .sl e => some e | _ => none
def leqK (a b : List (Nat × Bool)) : Bool := match a, b with
 | [], [] => true
 | x :: a, y :: b => iff' (Nat.beq x.1 y.1) (iff' (iff' x.2 y.2 (neg y.2)) (leqK a b) false) false
 | _, _ => false
def shEq (a b : Sh) : Bool := match a, b with
 | .c, .c => true
 | .g k, .g l => Nat.beq k l
 | .t k, .t l => leqK k l
 | .b k, .b l => Nat.beq k l
 | _, _ => false
def shF (x : Nat × Nat × Bool) : Sh := iff' x.2.2 (.g x.2.1) .c
def offT (l : List (Nat × Bool)) : Nat → Nat → Option (Nat × Nat × Bool) := List.rec (motive := fun _ => Nat → Nat → Option (Nat × Nat × Bool)) (fun _ _ => none) (fun x _ ih i o => Nat.rec (motive := fun _ => Option (Nat × Nat × Bool)) (some (o, x.1, x.2)) (fun i _ => ih i (Nat.add o x.1)) i) l
def isVar (t : TI) : Bool := match t.k with | .tu _ => false | _ => true
def varOf (TY : T TI) (t : Nat) : Option TI := bnd (TY.get t) fun ti => iff' (isVar ti) (iff' (Nat.ble 1 ti.sz) (some ti) none) none
def elOf (TY : T TI) (e : Nat) : Option TI := bnd (varOf TY e) fun te => iff' (Nat.ble 1 te.sz) (iff' (Nat.ble te.sz 4095) (some te) none) none
structure POS where
 o : PO
 h : Sh
def pu (h : Sh) (g : Nat → KN → Bool) : Option POS := some ⟨.pu g, h⟩
structure Al where
 t : Nat
 b : Option Nat
 o : OdS
 g : Option (Nat × Bool)
def gOk (a g : Option (Nat × Bool)) : Bool := match a, g with
 | none, _ => true
 | some (i, v), some (j, w) => iff' (Nat.beq i j) (iff' v w (neg w)) false
 | _, _ => false
def alGet (t : Nat) (g : Option (Nat × Bool)) (l : List Al) : Option Al := List.rec (motive := fun _ => Option Al) none (fun x _ ih => iff' (Nat.beq x.t t) (iff' (gOk x.g g) (some x) none) ih) l
section
variable (P : Program) (TY : T TI) (tx : Tx) (L : T Ly) (A : List Al) (G : Option (Nat × Bool))
def cOd (o : Operand) : Option OdS := match o with
 | .tmp t => Option.rec (bnd (L.get t) fun y => str (Nat.mul 72 y.p) fun s => str (mk y.h.sz) fun m => (match y.h with | .b _ => none | h => some ⟨oT s m, h⟩)) (fun a => some a.o) (alGet t G A)
 | .const v => cval tx v
 | _ => none
def bod {α : Type} (x : Option OdS) (f : Od → Sh → Option α) : Option α := Option.rec none (fun x => OdS.rec (motive := fun _ => Option α) f x) x
structure Oc where
 o : Od
def isC (o : Od) (h : Sh) : Option Oc := match h with | .c => some ⟨o⟩ | _ => none
def cOc' (o : Operand) : Option Oc := bod (cOd tx L A G o) isC
def boc {α : Type} (x : Option Oc) (f : Od → Option α) : Option α := Option.rec none (fun x => Oc.rec (motive := fun _ => Option α) f x) x
def cOpt (o : Option Operand) : Option (Option Od) := match o with | none => some none | some o => boc (cOc' tx L A G o) fun o => some (some o)
def cFields (fs : List (Nat × Nat × Bool)) : List (Nat × Operand) → Option (List Pa)
 | [] => some []
 | (i, o) :: r => bnd (nth fs i) fun f => bod (cOd tx L A G o) fun x h => iff' (shEq h (shF f)) (bnd (cFields fs r) fun l => str (Nat.mul 72 f.1) fun s => str (mk f.2.1) fun m => some (⟨s, m, x⟩ :: l)) none
def cEls (te : TI) (len : Nat) : List (Nat × Operand) → Option (List Pa)
 | [] => some []
 | (i, o) :: r => iff' (Nat.ble (Nat.succ i) len) (bod (cOd tx L A G o) fun x h => iff' (shEq h (shOf te)) (bnd (cEls te len r) fun l => str (Nat.mul 72 (Nat.mul i te.sz)) fun s => str (mk te.sz) fun m => some (⟨s, m, x⟩ :: l)) none) none
def repz (z sz : Nat) (n : Nat) : Nat := Nat.rec (motive := fun _ => Nat) 0 (fun _ ih => Nat.add z (Nat.shiftLeft ih (Nat.mul 72 sz))) n
def cArgs : List Operand → List TI → Nat → Option (List (Od × Nat))
 | [], [], _ => some []
 | o :: r, t :: ts, p => bod (cOd tx L A G o) fun x h => iff' (shEq h (shOf t)) (bnd (cArgs r ts (Nat.add p t.sz)) fun l => str (Nat.mul 72 p) fun p => some ((x, p) :: l)) none
 | _, _, _ => none
def cTys : List TypeId → Option (List TI)
 | [] => some []
 | t :: r => bnd (TY.get t) fun i => bnd (cTys r) fun l => some (i :: l)
def isStr (t : TI) : Bool := match t.k with | .str => true | _ => false
def cLen (x : Od) (t : TI) : Option POS := match t.k with
 | .str => pu .c (eLenS x)
 | .sl _ => pu .c (eLenL x)
 | _ => none
def cCallB (b : Builtin) (args : List Operand) (at_ : Array TypeId) : Option POS := match b, args with
 | .len, [x] => boc (cOc' tx L A G x) fun x => bnd (nth at_.toList 0) fun t => bnd (TY.get t) fun ti => cLen x ti
 | .append, [x, y] => boc (cOc' tx L A G x) fun x => boc (cOc' tx L A G y) fun y => bnd (nth at_.toList 0) fun t => bnd (nth at_.toList 1) fun t' => iff' (Nat.beq t t') (bnd (TY.get t) fun ti => bnd (slOf ti) fun e => bnd (elOf TY e) fun te => some ⟨.ap (eApp te.sz e x y), .c⟩) none
 | _, _ => none
def retSh (l : List TI) : Sh := match l with | [t] => shOf t | l => .t (l.map fun t => (t.sz, match t.k with | .st _ => true | _ => false))
def cCall (c : Call) : Option POS := match c.callee with
 | .builtin b => cCallB TY tx L A G b c.args.toList c.argTypes
 | .value (.func g) => bnd (P.funcs[g]?) fun fn => bnd (cTys TY fn.params.toList) fun ts => bnd (cTys TY fn.resultTypes.toList) fun rs => bnd (cArgs tx L A G c.args.toList ts 1) fun l => some ⟨.call g l, retSh rs⟩
 | _ => none
def isU8 (t : TI) : Bool := match t.k with | .it .u8 => true | _ => false
def cConv (TY : T TI) (sk dk : TK) (x : Od) : Option POS := match sk, dk with
 | .it .u8, .it .i64 => pu .c (eConvI x)
 | .it .i64, .it .u8 => pu .c (eConvU x)
 | .sl e, .str => bnd (TY.get e) fun te => iff' (isU8 te) (some ⟨.rd (eConvB x), .c⟩) none
 | _, _ => none
def isSm' {α : Type} (l : Option α) : Bool := Option.rec false (fun _ => true) l
def blk1 (n ty es : Nat) (c : Nat) : Blk := ⟨c, n, ty, es, true⟩
def baseOf (A : List Al) (G : Option (Nat × Bool)) (x : Operand) : Option Nat := match x with | .tmp y => Option.rec (some y) (fun a => a.b) (alGet y G A) | _ => none
def inR (L : T Ly) (A : List Al) (G : Option (Nat × Bool)) (x : Operand) (p sz : Nat) : Bool := Option.rec false (fun b => Option.rec false (fun y => Nat.ble (Nat.add p sz) (Nat.add y.p y.h.sz)) (L.get b)) (baseOf A G x)
def adr (x : Operand) : Option Nat := match x with | .tmp _ => bnd (cOd tx L A G x) fun o => (match o.h with | .a p => some p | _ => none) | _ => none
def cOp (ld : Bool) (op : Op) : Option POS :=
 match op with
 | .move x => bod (cOd tx L A G x) fun o h => some ⟨.mv o, h⟩
 | .assign x => bod (cOd tx L A G x) fun o h => some ⟨.mv o, h⟩
 | .pick c a b => boc (cOc' tx L A G c) fun c => bod (cOd tx L A G a) fun a ha => bod (cOd tx L A G b) fun b hb => iff' (shEq ha hb) (pu ha (ePick c a b)) none
 | .alloc t => bnd (varOf TY t) fun ti => iff' ld (iff' (isSm' G) none (some ⟨.mv (oK ti.zero), .b ti.sz⟩)) (some ⟨.al fun _ nx κ => κ (encP nx 0) ⟨ti.zero, ti.sz, t, 0, true⟩, .c⟩)
 | .box t x => bnd (varOf TY t) fun ti => bnd (cOd tx L A G x) fun x => iff' (shEq x.h (shOf ti)) (iff' ld (iff' (isSm' G) none (pu (.b ti.sz) (eDf x.o))) (some ⟨.al (eBox (blk1 ti.sz t 0) x.o), .c⟩)) none
 | .build t ps => bnd (TY.get t) fun ti => bnd (stOf ti) fun fs => bnd (cFields tx L A G fs ps.toList) fun l => pu (.g ti.sz) (eBuild ti.zero l)
 | .buildSlice t len ps => iff' (Nat.ble len 4094) (bnd (TY.get t) fun ti => bnd (slOf ti) fun e => bnd (elOf TY e) fun te => bnd (cEls tx L A G te len ps.toList) fun l => str (repz te.zero te.sz len) fun z => str (Nat.mul len te.sz) fun n => str te.sz fun es => some ⟨.al (eBuildS z (blk1 n e es) len es l), .c⟩) none
 | .load t a => bnd (varOf TY t) fun ti => Option.rec (boc (cOc' tx L A G a) fun a => str (mk ti.sz) fun m => some ⟨.rd (eLoad ti.sz m a), shOf ti⟩) (fun p => iff' (inR L A G a p ti.sz) (str (Nat.mul 72 p) fun s => str (mk ti.sz) fun m => some ⟨.mv (oT s m), shOf ti⟩) none) (adr tx L A G a)
 | .store t a x => bnd (varOf TY t) fun ti => boc (cOc' tx L A G a) fun a => bnd (cOd tx L A G x) fun x => iff' (shEq x.h (shOf ti)) (str (mk ti.sz) fun m => some ⟨.st (eStore ti.sz m a x.o), .t []⟩) none
 | .nilCheck x => boc (cOc' tx L A G x) fun x => pu .c (eNil x)
 | .binOp op _ x y _ => boc (cOc' tx L A G x) fun x => boc (cOc' tx L A G y) fun y => bnd (selBin op) fun f => pu .c fun fr κ => f κ (x fr) (y fr)
 | .unOp .not _ x => boc (cOc' tx L A G x) fun x => pu .c (eNot x)
 | .convert s d x => bnd (TY.get s) fun t1 => bnd (TY.get d) fun t2 => boc (cOc' tx L A G x) fun x => cConv TY t1.k t2.k x
 | .slice t x lo hi none => boc (cOc' tx L A G x) fun x => bnd (cOpt tx L A G lo) fun lo => bnd (cOpt tx L A G hi) fun hi => bnd (TY.get t) fun ti => iff' (isStr ti) (pu .c (eSlS tx x lo hi)) (bnd (slOf ti) fun e => bnd (elOf TY e) fun te => pu .c (eSlL te.sz x lo hi))
 | .fieldAddr s x f => bnd (TY.get s) fun ti => bnd (stOf ti) fun fs => bnd (nth fs f) fun oz => iff' (Nat.ble 1 oz.2.1) (boc (cOc' tx L A G x) fun x => str (Nat.shiftLeft oz.1 23) fun d => pu .c (eFA d x)) none
 | .field s x f => bnd (TY.get s) fun ti => bnd (stOf ti) fun fs => bnd (nth fs f) fun oz => bnd (cOd tx L A G x) fun x => iff' (shEq x.h (shOf ti)) (str (Nat.mul 72 oz.1) fun s => str (mk oz.2.1) fun m => pu (shF oz) (eSpn x.o s m)) none
 | .indexAddr t x ix => bnd (TY.get t) fun ti => bnd (slOf ti) fun e => bnd (elOf TY e) fun te => boc (cOc' tx L A G x) fun x => boc (cOc' tx L A G ix) fun ix => pu .c (eIA te.sz x ix)
 | .index t x ix => bnd (TY.get t) fun ti => iff' (isStr ti) (boc (cOc' tx L A G x) fun x => boc (cOc' tx L A G ix) fun ix => pu .c (eIx tx x ix)) none
 | .extract x i => bnd (cOd tx L A G x) fun x => match x.h with | .t l => bnd (offT l i 0) fun oz => str (Nat.mul 72 oz.1) fun s => str (mk oz.2.1) fun m => pu (shF oz) (eSpn x.o s m) | _ => none
 | .call c => cCall P TY tx L A G c
 | _ => none
end
structure Me where
 h : HT
 nx : Nat
 lg : List Nat
abbrev KM := Nat → Me → Bool
structure Rec where
 i : Nat
 an : Nat
 rd : List Nat
 wr : List Nat
 a0 : Nat
 a1 : Nat
 cl : Bool
structure Ct where
 call : Nat → Nat → Me → KM → Bool
 bs : Nat
 n : Nat
abbrev Tr := List Rec
abbrev KG := Ct → KM → Nat → Me → Tr → Bool
def memN (x : Nat) (l : List Nat) : Bool := List.rec (motive := fun _ => Bool) false (fun y _ ih => iff' (Nat.beq x y) true ih) l
def logOne (bs : Nat) (a : Nat) (log : List Nat) : List Nat := iff' (Nat.ble bs (accI a)) log (iff' (memN a log) log (a :: log))
def logAll (bs : Nat) (a : List Nat) (l : List Nat) : List Nat := List.rec (motive := fun _ => List Nat → List Nat) (fun l => l) (fun x _ ih l => ih (logOne bs x l)) a l
def args (fr : Nat) (l : List (Od × Nat)) : Nat := List.rec (motive := fun _ => Nat) 0 (fun x _ ih => Nat.lor (Nat.shiftLeft (x.1 fr) x.2) ih) l
def al1 (m : Me) (b : Blk) (κ : Me → Bool) : Bool := iff' (Nat.ble m.nx 1000000) (iff' (Nat.ble b.n 4094) (T.setK (some b) 40 m.h m.nx fun h => str (Nat.succ m.nx) fun nx => κ ⟨h, nx, m.lg⟩) false) false
def ap1 (bs : Nat) (m : Me) (b : Option Blk) (k : Option Nat) (κ : Me → Bool) : Bool :=
 Option.rec (κ m) (fun b => Option.rec (al1 m b κ) (fun id => T.setK none 40 m.h id fun h => al1 ⟨h, m.nx, logOne bs (acc id 0 4095) m.lg⟩ b κ) k) b
def arg1 (fr : Nat) (l : List (Od × Nat)) : Nat := Nat.lor (args fr l) (Nat.land (Nat.mul (Nat.land fr 18446744073709551615) 1442695040888963407) 18446744073709551615)
def optL (k : Option Nat) : List Nat := Option.rec [] (fun x => [acc x 0 4095]) k
def isNil {α : Type} (l : List α) : Bool := List.rec (motive := fun _ => Bool) true (fun _ _ _ => false) l
def isSm {α : Type} (l : Option α) : Bool := Option.rec false (fun _ => true) l
def apart (a b : Nat) : Bool := iff' (Nat.beq (accI a) (accI b)) (iff' (Nat.ble (Nat.add (accC a) (accN a)) (accC b)) true (Nat.ble (Nat.add (accC b) (accN b)) (accC a))) true
def disj1 (x : Nat) (b : List Nat) : Bool := List.rec (motive := fun _ => Bool) true (fun y _ ih => iff' (apart x y) ih false) b
def disj (a b : List Nat) : Bool := List.rec (motive := fun _ => Bool) true (fun x _ ih => iff' (disj1 x b) ih false) a
def tb (m i : Nat) : Bool := Nat.beq (Nat.land (Nat.shiftRight m i) 1) 1
def noAl (a0 a1 : Nat) (rd : List Nat) : Bool := List.rec (motive := fun _ => Bool) true (fun x _ ih => iff' (Nat.ble a0 (accI x)) (iff' (Nat.ble a1 (accI x)) ih false) ih) rd
def free (a b : Rec) : Bool := iff' b.cl (iff' (isNil a.wr) (iff' (Nat.ble a.i b.i) (Nat.beq a.a0 a.a1) true) false) (iff' (disj a.wr b.rd) (noAl a.a0 a.a1 b.rd) false)
def pairOk (a b : Rec) : Bool := iff' (Nat.beq a.i b.i) true (iff' (tb b.an a.i) true (iff' (tb a.an b.i) true (free a b)))
def allB {α : Type} (p : α → Bool) (l : List α) : Bool := List.rec (motive := fun _ => Bool) true (fun x _ ih => iff' (p x) ih false) l
def inert (a : Rec) : Bool := iff' (isNil a.wr) (Nat.beq a.a0 a.a1) false
def pairs (l : List Rec) : Bool := allB (fun a => iff' (inert a) true (allB (pairOk a) l)) l
def sdEnd (dr : Bool) : KG := fun c κ fr m t => iff' dr (iff' (pairs t) (κ fr m) false) (κ fr m)
def sdMv (s nm k : Nat) (x : Od) (r : KG) : KG := fun c κ fr m t => str (putF fr s nm k (x fr)) fun fr => r c κ fr m t
def sdPu (_ _ : Nat) (s nm k : Nat) (r : KG) (g : Nat → KN → Bool) : KG := fun c κ fr m t => g fr fun v => str (putF fr s nm k v) fun fr => r c κ fr m t
def sdRd (i an : Nat) (s nm k : Nat) (r : KG) (g : Nat → HT → (Nat → Nat → Bool) → Bool) : KG := fun c κ fr m t => g fr m.h fun v q => str (putF fr s nm k v) fun fr => r c κ fr m (⟨i, an, [q], [], 0, 0, false⟩ :: t)
def sdAl (i an : Nat) (s nm k : Nat) (r : KG) (g : Nat → Nat → (Nat → Blk → Bool) → Bool) : KG := fun c κ fr m t => g fr m.nx fun v b => al1 m b fun m' => str (putF fr s nm k v) fun fr => r c κ fr m' (⟨i, an, [], [], m.nx, m'.nx, false⟩ :: t)
def sdSt (i an : Nat) (_ _ _ : Nat) (r : KG) (g : Nat → HT → (Nat → Nat → Blk → Bool) → Bool) : KG := fun c κ fr m t => g fr m.h fun id q b => T.setK (some b) 40 m.h id fun h => r c κ fr ⟨h, m.nx, logOne c.bs q m.lg⟩ (⟨i, an, [q], [q], 0, 0, false⟩ :: t)
def sdAp (i an : Nat) (s nm k : Nat) (r : KG) (g : Nat → HT → Nat → KP → Bool) : KG := fun c κ fr m t => g fr m.h m.nx fun v rd b e => ap1 c.bs m b e fun m' => str (putF fr s nm k v) fun fr => r c κ fr m' (⟨i, an, rd, optL e, m.nx, m'.nx, false⟩ :: t)
def sdCl (i an : Nat) (s nm k : Nat) (r : KG) (g : Nat) (l : List (Od × Nat)) : KG := fun c κ fr m t => str (arg1 fr l) fun a => c.call g a ⟨m.h, m.nx, []⟩ fun v m' => str (putF fr s nm k v) fun fr => r c κ fr ⟨m'.h, m'.nx, logAll c.bs m'.lg m.lg⟩ (⟨i, an, [], m'.lg, m.nx, m'.nx, true⟩ :: t)
structure BG where
 f : KG
def sdOp (i an : Nat) (s nm k : Nat) (r : KG) (o : PO) : BG := PO.rec (motive := fun _ => BG) (fun x => ⟨sdMv s nm k x r⟩) (fun g => ⟨sdPu i an s nm k r g⟩) (fun g => ⟨sdRd i an s nm k r g⟩) (fun g => ⟨sdAl i an s nm k r g⟩) (fun g => ⟨sdSt i an s nm k r g⟩) (fun g => ⟨sdAp i an s nm k r g⟩) (fun g l => ⟨sdCl i an s nm k r g l⟩) o
def sdGd (s nm k : Nat) (g : Od) (w : Nat) (r q : KG) : KG := fun c κ fr m t => iff' (Nat.beq (g fr) w) (q c κ fr m t) (str (putF fr s nm k 0) fun fr => r c κ fr m t)
def sdG (s nm k : Nat) (g : Option (Od × Nat)) (r : KG) (q : BG) : Option BG := BG.rec (motive := fun _ => Option BG) (fun q => Option.rec (some ⟨q⟩) (fun x => Prod.rec (fun o w => some ⟨sdGd s nm k o w r q⟩) x) g) q
def cGd (tx : Tx) (L : T Ly) (A : List Al) (G : Option (Nat × Bool)) (all : List Oper) (g : Option (Nat × Bool)) : Option (Option (Od × Nat)) := match g with
 | none => some none
 | some (j, w) => bnd (nth all j) fun oj => bnd oj.dst fun d => boc (cOc' tx L A none (.tmp d)) fun o => str (bo w) fun b => some (some (o, b))
structure Tm where
 i : Nat
 an : Nat
 r : List Nat
 w : List Nat
def opTm (l : List Operand) : List Nat := match l with | [] => [] | .tmp t :: r => Nat.mul 2 t :: opTm r | _ :: r => opTm r
def gdTm (all : List Oper) (g : Option (Nat × Bool)) : List Nat := match g with | none => [] | some (j, _) => Option.rec [] (fun oj => Option.rec [] (fun d => [Nat.mul 2 d]) oj.dst) (nth all j)
def rngL (p n : Nat) : List Nat := Nat.rec (motive := fun _ => List Nat) [] (fun k ih => Nat.succ (Nat.mul 2 (Nat.add p k)) :: ih) n
def inL (x : Nat) (l : List Nat) : Bool := List.rec (motive := fun _ => Bool) false (fun y _ ih => iff' (Nat.beq x y) true ih) l
def meet (a b : List Nat) : Bool := List.rec (motive := fun _ => Bool) false (fun x _ ih => iff' (inL x b) true ih) a
def tmPair (a b : Tm) : Bool := iff' (tb b.an a.i) true (iff' (meet a.w b.r) false (iff' (meet a.w b.w) false (neg (meet b.w a.r))))
def tmAll (l : List Tm) (b : Tm) : Bool := allB (fun a => tmPair a b) l
def ancOf (done : List Nat) (o : Oper) : Nat := o.after.toList.foldl (fun s e => iff' (Region.binds .any e) (Nat.lor (Nat.lor s (Nat.shiftLeft 1 e.on)) (Option.rec 0 (fun x => x) (nth done e.on))) s) 0
def slt (i s : Nat) : Nat := Nat.land (Nat.mul (Nat.add s (Nat.mul 131 (Nat.succ i))) 11400714819323198485) 1099511627775
def pl (N p sz i : Nat) : Option Pl := str (Nat.mul 72 p) fun s => str (kp N p sz) fun nm => str (slt i s) fun k => some ⟨s, nm, k⟩
def cDst (nt N : Nat) (L : T Ly) (d : Option Nat) (h : Sh) (i : Nat) : Option Pl := match d with
 | none => pl N N 0 i
 | some t => bnd (L.get t) fun y => iff' (Nat.ble (Nat.succ t) nt) (iff' (shEq y.h h) (pl N y.p h.sz i) none) none
def gdIs (all : List Oper) (g : Option (Nat × Bool)) (d : Nat) : Bool := Option.rec false (fun g => Option.rec false (fun o => Option.rec false (fun t => Nat.beq t d) o.dst) (nth all g.1)) g
def alOff (all : List Oper) (d : Option Nat) (l : List Al) : List Al := Option.rec l (fun d => List.rec (motive := fun _ => List Al) [] (fun x _ ih => iff' (gdIs all x.g d) ih (Option.rec (x :: ih) (fun b => iff' (Nat.beq b d) ih (x :: ih)) x.b)) l) d
def alOffV (d : Option Nat) (l : List Al) : List Al := Option.rec l (fun d => List.rec (motive := fun _ => List Al) [] (fun x _ ih => Option.rec (x :: ih) (fun b => iff' (Nat.beq b d) (match x.o.h with | .a _ => x :: ih | _ => ih) (x :: ih)) x.b) l) d
def alNew (L : T Ly) (d : Option Nat) (l : List Al) : List Al := Option.rec l (fun d => Option.rec l (fun y => match y.h with | .b _ => ⟨d, some d, ⟨oK 0, .a y.p⟩, none⟩ :: l | _ => l) (L.get d)) d
def isLd (L : T Ly) (d : Option Nat) : Bool := Option.rec false (fun d => Option.rec false (fun y => match y.h with | .b _ => true | _ => false) (L.get d)) d
def isAl (t : Nat) (l : List Al) : Bool := List.rec (motive := fun _ => Bool) false (fun x _ ih => iff' (Nat.beq x.t t) true ih) l
def alOp1 (TY : T TI) (tx : Tx) (L : T Ly) (A : List Al) (o : Oper) (r : List Oper) (d : Nat) : Option Al := match o.op with
 | .move x => (match r, o.guard with | [], _ => none | _, some _ => none | _ :: _, none => bnd (cOd tx L A o.guard x) fun v => some (⟨d, baseOf A o.guard x, v, o.guard⟩))
 | .nilCheck x => bnd (adr tx L A o.guard x) fun p => some (⟨d, baseOf A o.guard x, ⟨oK 0, .a p⟩, o.guard⟩)
 | .fieldAddr s x f => bnd (adr tx L A o.guard x) fun p => bnd (TY.get s) fun ti => bnd (stOf ti) fun fs => bnd (nth fs f) fun oz => iff' (Nat.ble 1 oz.2.1) (str (Nat.add p oz.1) fun p => some (⟨d, baseOf A o.guard x, ⟨oK 0, .a p⟩, o.guard⟩)) none
 | .load t x => (match r, o.guard with | [], _ => none | _, some _ => none | _ :: _, none => bnd (adr tx L A o.guard x) fun p => bnd (varOf TY t) fun ti => iff' (inR L A o.guard x p ti.sz) (str (Nat.mul 72 p) fun s => str (mk ti.sz) fun m => some (⟨d, baseOf A o.guard x, ⟨oT s m, shOf ti⟩, o.guard⟩)) none)
 | _ => none
def alOp (nt : Nat) (TY : T TI) (tx : Tx) (L : T Ly) (all : List Oper) (A : List Al) (o : Oper) (r : List Oper) : Option (List Al) := match o.dst with
 | none => none
 | some d => iff' (isSm (L.get d)) none (iff' (Nat.ble (Nat.succ d) nt) (iff' (isAl d A) none (bnd (cGd tx L A o.guard all o.guard) fun _ => bnd (alOp1 TY tx L A o r d) fun a => some (a :: alOff all (some d) A))) none)
structure LSt where
 d : Pl
 o : Od
 b : Option Nat
def loSt (TY : T TI) (tx : Tx) (N : Nat) (L : T Ly) (A : List Al) (o : Oper) (i : Nat) : Option LSt := match o.op with
 | .store t a x => bnd (adr tx L A o.guard a) fun p => bnd (varOf TY t) fun ti => bnd (cOd tx L A o.guard x) fun v => iff' (isSm o.dst) none (iff' (inR L A o.guard a p ti.sz) (iff' (shEq v.h (shOf ti)) (bnd (pl N p ti.sz i) fun d => some ⟨d, v.o, baseOf A o.guard a⟩) none) none)
 | _ => none
def sdLs (s nm k : Nat) (x : Od) (r : KG) : KG := fun c κ fr m t => df (x fr) (str (putF fr s nm k (x fr)) fun fr => r c κ fr m t)
def tmOf (all : List Oper) (o : Oper) (i an : Nat) (rd wr : List Nat) : Tm := ⟨i, an, appL rd (appL (opTm o.op.operands.toList) (gdTm all o.guard)), appL wr (Option.rec [] (fun d => [Nat.mul 2 d]) o.dst)⟩
def ownRW (TY : T TI) (tx : Tx) (L : T Ly) (A : List Al) (o : Oper) : List Nat × List Nat := match o.op, o.dst with
 | .load t x, _ => Option.rec ([], []) (fun p => Option.rec ([], []) (fun ti => (rngL p ti.sz, [])) (TY.get t)) (adr tx L A o.guard x)
 | .store t x _, _ => Option.rec ([], []) (fun p => Option.rec ([], []) (fun ti => ([], rngL p ti.sz)) (TY.get t)) (adr tx L A o.guard x)
 | .alloc _, some d => Option.rec ([], []) (fun y => match y.h with | .b k => ([], rngL y.p k) | _ => ([], [])) (L.get d)
 | .box _ _, some d => Option.rec ([], []) (fun y => match y.h with | .b k => ([], rngL y.p k) | _ => ([], [])) (L.get d)
 | _, _ => ([], [])
def edgesOk (o : Oper) (i : Nat) : Bool := allB (fun e => iff' (Region.binds .any e) (Nat.ble (Nat.succ e.on) i) true) o.after.toList
def isNewV (op : Op) : Bool := match op with | .alloc _ => true | .box _ _ => true | _ => false
def cOpD (P : Program) (TY : T TI) (tx : Tx) (L : T Ly) (A : List Al) (o : Oper) : Option POS := iff' (isLd L o.dst) (iff' (isNewV o.op) (cOp P TY tx L A o.guard true o.op) none) (cOp P TY tx L A o.guard false o.op)
def cOps (P : Program) (TY : T TI) (tx : Tx) (nt N : Nat) (L : T Ly) (dr : Bool) (all : List Oper) : List Oper → List Al → Nat → List Nat → List Tm → Option BG
 | [], _, _, _, _ => some ⟨sdEnd dr⟩
 | o :: r, A, i, done, ts => str (iff' dr (ancOf done o) 0) fun an => (fun tm => iff' (iff' dr (iff' (edgesOk o i) (tmAll ts tm) false) true) (Option.rec (Option.rec
     (bnd (cOpD P TY tx L A o) fun p => bnd (cGd tx L A o.guard all o.guard) fun g => bnd (cDst nt N L o.dst p.h i) fun d => bnd (cOps P TY tx nt N L dr all r (alNew L o.dst (alOff all o.dst A)) (Nat.succ i) (appL done [an]) (tm :: ts)) fun l => str i fun i => BG.rec (motive := fun _ => Option BG) (fun f => Pl.rec (motive := fun _ => Option BG) (fun s nm k => sdG s nm k g f (sdOp i an s nm k f p.o)) d) l)
     (fun q => bnd (cGd tx L A o.guard all o.guard) fun g => bnd (cOps P TY tx nt N L dr all r (alOffV q.b A) (Nat.succ i) (appL done [an]) (tm :: ts)) fun l => BG.rec (motive := fun _ => Option BG) (fun f => LSt.rec (motive := fun _ => Option BG) (fun d o _ => Pl.rec (motive := fun _ => Option BG) (fun s nm k => Option.rec (some ⟨sdLs s nm k o f⟩) (fun _ => none) g) d) q) l) (loSt TY tx N L A o i))
   (fun A => cOps P TY tx nt N L dr all r A (Nat.succ i) (appL done [an]) (tm :: ts)) (alOp nt TY tx L all A o r)) none)
  (tmOf all o i an (ownRW TY tx L A o).1 (ownRW TY tx L A o).2)
def dOps (L : T Ly) (l : List Oper) (D : List Nat) : List Nat := match l with
 | [] => D
 | o :: r => dOps L r (iff' (isLd L o.dst) (Option.rec D (fun d => d :: D) o.dst) D)
def dC (L : T Ly) (c : Code) (D : List Nat) : List Nat := match c with
 | .seq a b => dC L b (dC L a D)
 | .region _ ops _ => dOps L ops.toList D
 | _ => D
def alD (L : T Ly) (D : List Nat) : List Al := List.rec (motive := fun _ => List Al) [] (fun d _ ih => alNew L (some d) ih) D
structure Kt where
 n : KM
 r : KM
 x : Nat → KM
abbrev KC := Ct → Kt → Nat → Me → Bool
def pcSkip : KC := fun _ k fr m => k.n fr m
def pcRet : KC := fun _ k fr m => k.r fr m
def pcExit (i : Nat) : KC := fun _ k fr m => k.x i fr m
def pcSeq (a b : KC) : KC := fun c k fr m => a c ⟨b c k, k.r, k.x⟩ fr m
def pcCond (o : Od) (a b : KC) : KC := fun c k fr m => iff' (Nat.beq (o fr) 10) (a c k fr m) (iff' (Nat.beq (o fr) 2) (b c k fr m) false)
def pcBlk (i : Nat) (a : KC) : KC := fun c k fr m => a c ⟨k.n, k.r, fun j fr m => iff' (Nat.beq j i) (k.n fr m) (k.x j fr m)⟩ fr m
def pcLoop (a : KC) : KC := fun c k fr m => Nat.rec (motive := fun _ => KM) (fun _ _ => false) (fun _ ih fr m => a c ⟨ih, k.r, k.x⟩ fr m) c.n fr m
def pcReg (f : KG) : KC := fun c k fr m => f c k.n fr m []
structure BC where
 f : KC
def bbc {α : Type} (x : Option BC) (f : KC → Option α) : Option α := Option.rec none (fun x => BC.rec (motive := fun _ => Option α) f x) x
def regC (q : Option BG) : Option BC := Option.rec none (fun l => BG.rec (motive := fun _ => Option BC) (fun f => some ⟨pcReg f⟩) l) q
def cC (P : Program) (TY : T TI) (tx : Tx) (nt N : Nat) (L : T Ly) (D : List Nat) (c : Code) : Option BC := match c with
 | .skip => some ⟨pcSkip⟩
 | .ret => some ⟨pcRet⟩
 | .exit i => some ⟨pcExit i⟩
 | .seq a b => bbc (cC P TY tx nt N L D a) fun x => bbc (cC P TY tx nt N L (dC L a D) b) fun y => some ⟨pcSeq x y⟩
 | .cond c a b => boc (cOc' tx L [] none c) fun o => bbc (cC P TY tx nt N L D a) fun a => bbc (cC P TY tx nt N L D b) fun b => some ⟨pcCond o a b⟩
 | .block i c => bbc (cC P TY tx nt N L D c) fun c => some ⟨pcBlk i c⟩
 | .loop c => bbc (cC P TY tx nt N L D c) fun c => some ⟨pcLoop c⟩
 | .region _ ops dr => regC (cOps P TY tx nt N L dr ops.toList ops.toList (alD L D) 0 [] [])
 | _ => none
inductive PV where
 | t (s m sz : Nat)
 | c (s sz : Nat)
structure PF where
 c : KC
 rs : List PV
 fl : Nat
def T.put {α : Type} (t : T α) (k : Nat) (v : α) (f : Nat) : T α := Nat.rec (motive := fun _ => T α → Nat → T α) (fun t _ => t)
 (fun _ ih t k => T.rec (motive := fun _ => T α) (Nat.rec (motive := fun _ => T α) (.n (some v) .e .e) (fun k _ => Nat.rec (motive := fun _ => T α) (.n none (ih .e (Nat.div k 2)) .e) (fun _ _ => .n none .e (ih .e (Nat.div k 2))) (Nat.mod k 2)) k)
   (fun x l r _ _ => Nat.rec (motive := fun _ => T α) (.n (some v) l r) (fun k _ => Nat.rec (motive := fun _ => T α) (.n x (ih l (Nat.div k 2)) r) (fun _ _ => .n x l (ih r (Nat.div k 2))) (Nat.mod k 2)) k) t) f t k
def flatN (z : Nat) (n : Nat) : Bool := Nat.rec (motive := fun _ => Bool) true (fun i ih => iff' (Nat.ble 6 (Nat.land (Nat.shiftRight z (Nat.mul 72 i)) 7)) false ih) n
def flatT (TY : T TI) (l : List TypeId) : Bool := List.rec (motive := fun _ => Bool) true (fun t _ ih => Option.rec false (fun ti => iff' (flatN ti.zero ti.sz) ih false) (TY.get t)) l
def flatC (TY : T TI) (l : List TypeId) : Nat := iff' (flatT TY l) (Nat.succ (List.rec (motive := fun _ => Nat) 0 (fun t _ ih => Option.rec 0 (fun ti => Nat.add ti.sz ih) (TY.get t)) l)) 0
structure LS where
 l : T Ly
 p : Nat
 a : List Nat
 o : List Nat
def memN' (x : Nat) (l : List Nat) : Bool := List.rec (motive := fun _ => Bool) false (fun y _ ih => iff' (Nat.beq x y) true ih) l
def lySh (t : Nat) (s : LS) (h : Sh) : LS := Option.rec ⟨T.put s.l t ⟨s.p, h⟩ 12, Nat.add s.p h.sz, s.a, s.o⟩ (fun _ => s) (s.l.get t)
def lyAdd (TY : T TI) (t ty : Nat) (s : LS) : LS := Option.rec s (fun ti => lySh t s (shOf ti)) (TY.get ty)
def lyBox (TY : T TI) (d ty : Nat) (s : LS) : LS := iff' (memN' d s.o) (Option.rec s (fun ti => LS.rec (fun l p a o => ⟨l, p, d :: a, o⟩) (lySh d s (.b ti.sz))) (TY.get ty)) (lySh d s .c)
def inA (x : Operand) (s : LS) : Bool := match x with | .tmp y => memN' y s.a | _ => false
def lyOp (TY : T TI) (o : Oper) (r : List Oper) (d : Nat) (s : LS) : LS := match o.op with
 | .alloc t => lyBox TY d t s
 | .box t _ => lyBox TY d t s
 | .nilCheck x => iff' (inA x s) ⟨s.l, s.p, d :: s.a, s.o⟩ (lySh d s .c)
 | .fieldAddr _ x _ => iff' (inA x s) ⟨s.l, s.p, d :: s.a, s.o⟩ (lySh d s .c)
 | .indexAddr .. => lySh d s .c
 | .load _ x => iff' (inA x s) (match r, o.guard with | [], _ => lyAdd TY d o.type s | _, some _ => lyAdd TY d o.type s | _ :: _, none => s) (lyAdd TY d o.type s)
 | .move _ => (match r, o.guard with | [], _ => lyAdd TY d o.type s | _, some _ => lyAdd TY d o.type s | _ :: _, none => s)
 | _ => lyAdd TY d o.type s
def lyOps (TY : T TI) (l : List Oper) (s : LS) : LS := match l with
 | [] => s
 | o :: r => lyOps TY r (match o.dst with | some d => lyOp TY o r d s | none => s)
def lyC (TY : T TI) (c : Code) (s : LS) : LS := match c with
 | .seq a b => lyC TY b (lyC TY a s)
 | .cond _ a b => lyC TY b (lyC TY a s)
 | .block _ c => lyC TY c s
 | .loop c => lyC TY c s
 | .region _ ops _ => lyOps TY ops.toList s
 | _ => s
def lyP (TY : T TI) : List TypeId → Nat → LS → LS
 | [], _, s => s
 | t :: r, k, s => lyP TY r (Nat.succ k) (lyAdd TY k t s)
def cRes (TY : T TI) (L : T Ly) : List ResultVar → List TypeId → Option (List PV)
 | [], [] => some []
 | .tmp t :: r, ty :: q => bnd (L.get t) fun y => bnd (varOf TY ty) fun ti => iff' (shEq y.h (shOf ti)) (bnd (cRes TY L r q) fun l => str (Nat.mul 72 y.p) fun s => str (mk ti.sz) fun m => some (.t s m ti.sz :: l)) none
 | .cell a t :: r, ty :: q => bnd (L.get a) fun y => bnd (varOf TY t) fun ti => iff' (Nat.beq t ty) (bnd (cRes TY L r q) fun l => str (Nat.mul 72 y.p) fun s => (match y.h with | .b k => iff' (Nat.beq k ti.sz) (str (mk k) fun m => some (.t s m k :: l)) none | .c => some (.c s ti.sz :: l) | _ => none)) none
 | _, _ => none
def parOk (TY : T TI) (L : T Ly) : List TypeId → Nat → Nat → Bool
 | [], _, _ => true
 | t :: r, k, p => Option.rec false (fun ti => Option.rec false (fun y => iff' (Nat.beq y.p p) (iff' (shEq y.h (shOf ti)) (parOk TY L r (Nat.succ k) (Nat.add p ti.sz)) false) false) (L.get k)) (TY.get t)
def cF1 (P : Program) (TY : T TI) (tx : Tx) (L : LS) (c : Code) (ps : List TypeId) (rs : List ResultVar) (rt : List TypeId) (fl : Nat) (nt : Nat) : Option PF := iff' (Nat.ble (lenL ps) nt) (iff' (parOk TY L.l ps 0 1) (bnd (cRes TY L.l rs rt) fun l => str L.p fun N => bbc (cC P TY tx nt N L.l [] c) fun c => some ⟨c, l, fl⟩) none) none
def cF (P : Program) (TY : T TI) (O : T (List Nat)) (tx : Tx) (f : Nat) : Option PF := bnd (P.funcs[f]?) fun fn => bnd fn.body fun c => cF1 P TY tx (lyC TY c (lyP TY fn.params.toList 0 ⟨.e, 1, [], Option.rec [] (fun l => l) (O.get f)⟩)) c fn.params.toList fn.results.toList fn.resultTypes.toList (flatC TY fn.resultTypes.toList) fn.ntmps
structure En where
 P : Program
 TY : T TI
 O : T (List Nat)
 tx : Tx
def resT (s m sz fr : Nat) (_ : HT) (κ : Nat → Nat → Bool) : Bool := df (spn fr s m) (κ sz (spn fr s m))
def resC (s sz fr : Nat) (h : HT) (κ : Nat → Nat → Bool) : Bool := pt (Nat.land (Nat.shiftRight fr s) 4722366482869645213695) fun id co => T.getK h id fun bk => iff' (Nat.ble (Nat.add co sz) bk.n) (κ sz (spn bk.c (Nat.mul 72 co) (mk sz))) false
def resK (fr : Nat) (h : HT) (κ : Nat → Nat → Bool) (r : PV) : Bool := PV.rec (motive := fun _ => Nat → HT → (Nat → Nat → Bool) → Bool) resT resC r fr h κ
def resAllK (fr : Nat) (h : HT) (l : List PV) : (Nat → Bool) → Bool := List.rec (motive := fun _ => (Nat → Bool) → Bool) (fun κ => κ 0) (fun r _ ih κ => resK fr h (fun sz c => ih fun l => κ (Nat.add c (Nat.shiftLeft l (Nat.mul 72 sz)))) r) l
def backF (m0 : Me) (κ : KM) (m : Me) (v : Nat) (fl : Nat) : Bool := Nat.rec (motive := fun _ => Bool) (κ v m) (fun n _ => iff' (flatN v n) (List.rec (motive := fun _ => Bool) (κ v m0) (fun _ _ _ => κ v m) m.lg) (κ v m)) fl
def backK (rs : List PV) (fl : Nat) (m0 : Me) (κ : KM) (fr : Nat) (m : Me) : Bool := resAllK fr m.h rs fun v => str v fun v => backF m0 κ m v fl
def noX (_ : Nat) (_ : Nat) (_ : Me) : Bool := false
def evF (n : Nat) (call : Nat → Nat → Me → KM → Bool) (a : Nat) (m : Me) (κ : KM) (c : KC) (rs : List PV) (fl : Nat) : Bool := c ⟨call, m.nx, n⟩ ⟨backK rs fl m κ, backK rs fl m κ, noX⟩ a m
def evCall (E : En) (n : Nat) : Nat → Nat → Me → KM → Bool := Nat.rec (motive := fun _ => Nat → Nat → Me → KM → Bool) (fun _ _ _ _ => false)
 (fun n ih f a m κ => Option.rec false (fun fn => PF.rec (motive := fun _ => Bool) (evF n ih a m κ) fn) (cF E.P E.TY E.O E.tx f)) n
end
end Go.Proofs.YtehpobojopmilaaGreat.Ev
namespace Go.Proofs.YtehpobojopmilaaGreat.Ev
set_option linter.unusedVariables false
set_option linter.unusedSimpArgs false
open Go
abbrev Sg := Nat → Option (Nat × Nat)
def Sg.le (s s' : Sg) : Prop := ∀ i x, s i = some x → s' i = some x
theorem Sg.le_refl (s : Sg) : s.le s := fun _ _ h => h
theorem Sg.le_trans {a b c : Sg} (h : a.le b) (k : b.le c) : a.le c := fun i x hx => k i x (h i x hx)
structure Trs (L N : Nat → Prop) (s : Sg) (w : World) (s' : Sg) (w' : World) : Prop where
 le : s.le s'
 dom : ∀ i x, s' i = some x → s i = some x ∨ (s i = none ∧ N i)
 new : ∀ i b c, s' i = some (b, c) → s i = none → w.heap.size ≤ b ∨ ∃ j c', L j ∧ s j = some (b, c')
 os : w'.os = w.os
 tape : w'.tape = w.tape
 output : w'.output = w.output
 size : w.heap.size ≤ w'.heap.size
 keep : ∀ b, b < w.heap.size → (∀ i c, L i → s i ≠ some (b, c)) → w'.heap[b]? = w.heap[b]?
theorem Trs.refl (L N : Nat → Prop) (s : Sg) (w : World) : Trs L N s w s w :=
 ⟨s.le_refl, fun _ _ h => .inl h, fun i b c h h0 => (by rw [h0] at h; cases h), rfl, rfl, rfl, Nat.le_refl _, fun _ _ _ => rfl⟩
theorem Trs.trans {L N L' N' L2 N2 : Nat → Prop} {s s1 s2 : Sg} {w w1 w2 : World} (h : Trs L N s w s1 w1) (k : Trs L' N' s1 w1 s2 w2) (hL : ∀ i, L i ∨ L' i → L2 i) (hN : ∀ i, N i ∨ N' i → N2 i) : Trs L2 N2 s w s2 w2 := by
 refine ⟨Sg.le_trans h.le k.le, fun i x hx => ?_, fun i b c hb h0 => ?_, k.os.trans h.os, k.tape.trans h.tape, k.output.trans h.output, Nat.le_trans h.size k.size, fun b hb hl => ?_⟩
 ·
  rcases k.dom i x hx with h1 | ⟨h1, h2⟩
  · rcases h.dom i x h1 with h3 | ⟨h3, h4⟩
    · exact .inl h3
    · exact .inr ⟨h3, hN i (.inl h4)⟩
  · refine .inr ⟨?_, hN i (.inr h2)⟩
    cases hs : s i with
    | none => rfl
    | some x => rw [h.le i x hs] at h1; cases h1
 ·
  cases h1 : s1 i with
  | some y =>
   have := k.le i y h1
   rw [hb] at this
   cases this
   rcases h.new i b c h1 h0 with h2 | ⟨j, c', h2, h3⟩
   · exact .inl h2
   · exact .inr ⟨j, c', hL j (.inl h2), h3⟩
  | none =>
   rcases k.new i b c hb h1 with h2 | ⟨j, c', h2, h3⟩
   · exact .inl (Nat.le_trans h.size h2)
   ·
    cases hj : s j with
    | some y =>
     have := h.le j y hj
     rw [h3] at this
     cases this
     exact .inr ⟨j, c', hL j (.inr h2), hj⟩
    | none =>
     rcases h.new j b c' h3 hj with h4 | ⟨q, c2, h4, h5⟩
     · exact .inl h4
     · exact .inr ⟨q, c2, hL q (.inl h4), h5⟩
 ·
  rw [k.keep b (Nat.lt_of_lt_of_le hb h.size) ?_, h.keep b hb fun i c hi => hl i c (hL i (.inl hi))]
  intro i c hi hs
  cases h0 : s i with
  | some y =>
   have := h.le i y h0
   rw [hs] at this
   cases this
   exact hl i c (hL i (.inr hi)) h0
  | none =>
   rcases h.new i b c hs h0 with h2 | ⟨j, c', h2, h3⟩
   · omega
   · exact hl j c' (hL j (.inl h2)) h3
theorem Trs.some {L N L' : Nat → Prop} {s s' : Sg} {w w' : World} (h : Trs L N s w s' w') (hL : ∀ i x, L i → s i = some x → L' i) : Trs L' N s w s' w' :=
 ⟨h.le, h.dom, fun i b c hb h0 => (h.new i b c hb h0).imp id fun ⟨j, c', h2, h3⟩ => ⟨j, c', hL j _ h2 h3, h3⟩, h.os, h.tape, h.output, h.size, fun b hb hl => h.keep b hb fun i c hi hs => hl i c (hL i _ hi hs) hs⟩
section
variable {Loc Vl : Type} (Rel : Sg → (Loc → Vl) → Act → World → Prop) {P : Program} {ops : Array Oper}
open Classical in
noncomputable def over (X X' : Loc → Vl) (W : Loc → Prop) : Loc → Vl := fun l => if W l then X' l else X l
theorem over_in {X X' : Loc → Vl} {W : Loc → Prop} {l : Loc} (h : W l) : over X X' W l = X' l := if_pos h
theorem over_out {X X' : Loc → Vl} {W : Loc → Prop} {l : Loc} (h : ¬ W l) : over X X' W l = X l := if_neg h
structure Stp (Loc : Type) where
 R : Loc → Prop
 W : Loc → Prop
 L : Nat → Prop
 N : Nat → Prop
def StpOk (P : Program) (ops : Array Oper) (Q : Exit → Act → World → Prop) (i : Nat) (X X' : Loc → Vl) (p : Stp Loc) : Prop :=
 ∀ (s : Sg) (Y : Loc → Vl) (a : Act) (w : World), (∀ l, p.R l ∨ p.W l → Y l = X l) → Rel s Y a w → (∀ j, p.N j → s j = none) →
  ∀ K : Act → World → Prop, (∀ s' a' w', Trs p.L p.N s w s' w' → Rel s' (over Y X' p.W) a' w' → K a' w') → wpOp P ops Q i K a w
inductive Anc (ops : Array Oper) : Nat → Nat → Prop
 | one {i : Nat} {o : Oper} {e : Edge} (h : ops[i]? = some o) (he : e ∈ o.after) (hb : Region.binds .any e = true) : Anc ops i e.on
 | tr {i j : Nat} {o : Oper} {e : Edge} (h : ops[i]? = some o) (he : e ∈ o.after) (hb : Region.binds .any e = true) (k : Anc ops e.on j) : Anc ops i j
noncomputable def behind (Xs : Nat → Loc → Vl) (p : Nat → Stp Loc) (S : Nat → Bool) : Nat → Loc → Vl
 | 0 => Xs 0
 | k + 1 => if S k then over (behind Xs p S k) (Xs (k + 1)) (p k).W else behind Xs p S k
structure Trace (P : Program) (ops : Array Oper) (Q : Exit → Act → World → Prop) (Xs : Nat → Loc → Vl) (p : Nat → Stp Loc) : Prop where
 ok : ∀ i, i < ops.size → StpOk Rel P ops Q i (Xs i) (Xs (i + 1)) (p i)
 out : ∀ i, i < ops.size → ∀ l, ¬ (p i).W l → Xs (i + 1) l = Xs i l
 apart : ∀ i j, i < ops.size → j < ops.size → i ≠ j → ∀ q, (p i).N q → ¬ (p j).N q
def Ordered (ops : Array Oper) (p : Nat → Stp Loc) : Prop := ∀ i j, i < ops.size → j < ops.size → i < j → ∀ l, (((p i).W l ∧ ((p j).R l ∨ (p j).W l)) ∨ ((p j).W l ∧ ((p i).R l ∨ (p i).W l))) → Anc ops j i
def Earlier (ops : Array Oper) : Prop := ∀ i o e, ops[i]? = some o → e ∈ o.after → Region.binds .any e = true → e.on < i
theorem Anc.lt (h : Earlier ops) {i j : Nat} (k : Anc ops i j) : j < i := by
 induction k with
 | one h1 he hb => exact h _ _ _ h1 he hb
 | tr h1 he hb k ih => exact Nat.lt_trans ih (h _ _ _ h1 he hb)
variable {Xs : Nat → Loc → Vl} {p : Nat → Stp Loc} {Q : Exit → Act → World → Prop}
theorem behind_at {S : Nat → Bool} (hT : Trace Rel P ops Q Xs p) (hO : Ordered ops p) {i : Nat} (hi : i < ops.size) (hn : S i = false) (hc : ∀ j, Anc ops i j → S j = true) (hcl : ∀ k, S k = true → ∀ j, Anc ops k j → S j = true) (l : Loc) (hl : (p i).R l ∨ (p i).W l) :
 ∀ k, k ≤ ops.size → (k ≤ i → behind Xs p S k l = Xs k l) ∧ (i ≤ k → behind Xs p S k l = Xs i l)
 | 0, _ => ⟨fun _ => rfl, fun h => by
     obtain rfl : i = 0 := by omega
     rfl⟩
 | k + 1, hk => by
  obtain ⟨h1, h2⟩ := behind_at hT hO hi hn hc hcl l hl k (by omega)
  refine ⟨fun h => ?_, fun h => ?_⟩
  ·
   have hki : k < i := h
   have h3 := h1 (by omega)
   by_cases hW : (p k).W l
   · have : S k = true := hc k (hO k i (by omega) hi hki l (.inl ⟨hW, hl⟩))
     simp only [behind, this, if_true]
     exact over_in hW
   · rw [hT.out k (by omega) l hW]
     simp only [behind]
     split
     · rw [over_out hW]; exact h3
     · exact h3
  ·
   rcases Nat.lt_or_ge i (k + 1) with hlt | hge
   ·
    rcases Nat.lt_or_ge i k with hik | hik
    ·
     have h3 := h2 (by omega)
     simp only [behind]
     split
     · rename_i hS
       by_cases hW : (p k).W l
       · have := hcl k hS i (hO i k hi (by omega) hik l (.inr ⟨hW, hl⟩))
         rw [hn] at this; cases this
       · rw [over_out hW]; exact h3
     · exact h3
    · obtain rfl : i = k := by omega
      simp only [behind, hn, Bool.false_eq_true, if_false]
      exact h2 (Nat.le_refl _)
   ·
    obtain rfl : i = k + 1 := by omega
    have hki : k < k + 1 := by omega
    have h3 := h1 (by omega)
    by_cases hW : (p k).W l
    · have : S k = true := hc k (hO k (k + 1) (by omega) hi hki l (.inl ⟨hW, hl⟩))
      simp only [behind, this, if_true]
      exact over_in hW
    · rw [hT.out k (by omega) l hW]
      simp only [behind]
      split
      · rw [over_out hW]; exact h3
      · exact h3
theorem behind_add {S S' : Nat → Bool} (hO : Ordered ops p) {i : Nat} (hi : i < ops.size) (hn : S i = false) (hcl : ∀ k, S k = true → ∀ j, Anc ops k j → S j = true) (hS : ∀ k, S' k = (S k || decide (k = i))) (l : Loc) :
 ∀ k, k ≤ ops.size → (k ≤ i → behind Xs p S' k l = behind Xs p S k l) ∧ (i < k → behind Xs p S' k l = over (behind Xs p S k) (Xs (i + 1)) (p i).W l)
 | 0, _ => ⟨fun _ => rfl, fun h => by omega⟩
 | k + 1, hk => by
  obtain ⟨h1, h2⟩ := behind_add hO hi hn hcl hS l k (by omega)
  refine ⟨fun h => ?_, fun h => ?_⟩
  ·
   have e : S' k = S k := by
    rw [hS]
    have : ¬ k = i := by omega
    simp [this]
   have h3 := h1 (by omega)
   simp only [behind, e]
   split
   · unfold over; split
     · rfl
     · exact h3
   · exact h3
  ·
   rcases Nat.lt_or_ge i k with hik | hik
   ·
    have e : S' k = S k := by
     rw [hS]
     have : ¬ k = i := by omega
     simp [this]
    have h3 := h2 hik
    simp only [behind, e]
    split
    ·
     rename_i hSk
     by_cases hW : (p k).W l
     · rw [over_in hW]
       by_cases hWi : (p i).W l
       · have := hcl k hSk i (hO i k hi (by omega) hik l (.inl ⟨hWi, .inr hW⟩))
         rw [hn] at this; cases this
       · rw [over_out hWi, over_in hW]
     · rw [over_out hW, h3]
       by_cases hWi : (p i).W l
       · rw [over_in hWi, over_in hWi]
       · rw [over_out hWi, over_out hWi, over_out hW]
    · exact h3
   · obtain rfl : i = k := by omega
     have e : S' i = true := by rw [hS]; simp
     have h3 := h1 (Nat.le_refl _)
     simp only [behind, e, hn, if_true, Bool.false_eq_true, if_false]
     by_cases hWi : (p i).W l
     · rw [over_in hWi, over_in hWi]
     · rw [over_out hWi, over_out hWi]; exact h3
theorem behind_all {S : Nat → Bool} (hT : Trace Rel P ops Q Xs p) (hS : ∀ k, k < ops.size → S k = true) : ∀ k, k ≤ ops.size → behind Xs p S k = Xs k
 | 0, _ => rfl
 | k + 1, hk => by
  have ih := behind_all hT hS k (by omega)
  funext l
  simp only [behind, hS k (by omega), if_true, ih]
  by_cases hW : (p k).W l
  · exact over_in hW
  · rw [over_out hW]; exact (hT.out k (by omega) l hW).symm
theorem wpAny_trace (hT : Trace Rel P ops Q Xs p) (hO : Ordered ops p) (hE : Earlier ops) {s0 : Sg} {w0 : World} (hfin : ∀ s a w, Trs (fun q => ∃ i, i < ops.size ∧ (p i).L q) (fun q => ∃ i, i < ops.size ∧ (p i).N q) s0 w0 s w → Rel s (Xs ops.size) a w → Q .normal a w)
 (hfr : ∀ i, i < ops.size → ∀ q, (p i).N q → s0 q = none) :
 ∀ (fuel : Nat) (listed : Array Bool), listed.size = ops.size → (((List.range ops.size).filter fun i => !listed.getD i true).length = fuel) → (∀ k, listed.getD k true = true → k < ops.size → ∀ j, Anc ops k j → listed.getD j true = true) →
  ∀ s a w, Trs (fun q => ∃ i, i < ops.size ∧ (p i).L q) (fun q => ∃ i, i < ops.size ∧ listed.getD i true = true ∧ (p i).N q) s0 w0 s w → Rel s (behind Xs p (fun k => listed.getD k true) ops.size) a w → wpAny P .any ops Q fuel listed a w := by
 have hall : ∀ listed : Array Bool, listed.size = ops.size → Region.ready .any ops listed = [] → ∀ k, k < ops.size → listed.getD k true = true := by
  intro listed hsz hr k
  induction k using Nat.strongRecOn with
  | _ k ih =>
   intro hk
   cases hl : listed.getD k true with
   | true => rfl
   | false =>
    have : k ∈ Region.ready .any ops listed := by
     refine mem_ready.2 ⟨hl, ops[k], Array.getElem?_eq_getElem hk, fun e he hb => ?_⟩
     have hlt := hE k _ e (Array.getElem?_eq_getElem hk) he hb
     have := ih e.on hlt (by omega)
     rw [Array.getD_eq_getD_getElem?] at this ⊢
     rw [Array.getElem?_eq_getElem (by omega)] at this ⊢
     simpa using this
    rw [hr] at this; cases this
 intro fuel
 induction fuel with
 | zero =>
  intro listed hsz hcnt hcl s a w hTr hR
  have hl : ∀ k, k < ops.size → listed.getD k true = true := fun k hk => by
   have h0 := List.eq_nil_of_length_eq_zero hcnt
   cases hk2 : listed.getD k true with
   | true => rfl
   | false =>
    have : k ∈ (List.range ops.size).filter fun i => !listed.getD i true := by rw [List.mem_filter]; exact ⟨List.mem_range.2 hk, by rw [hk2]; rfl⟩
    rw [h0] at this; cases this
  refine ⟨?_, ?_⟩
  ·
   cases hr : Region.ready .any ops listed with
   | nil => rfl
   | cons k r =>
    have hk : k ∈ Region.ready .any ops listed := by rw [hr]; exact List.mem_cons_self
    obtain ⟨h1, o, ho, _⟩ := mem_ready.1 hk
    rw [hl k (Array.getElem?_eq_some_iff.1 ho).1] at h1
    cases h1
  · rw [behind_all Rel hT hl _ (Nat.le_refl _)] at hR
    exact hfin s a w (hTr.trans (Trs.refl (fun _ => False) (fun _ => False) s w) (fun i h => h.resolve_right id) fun i h => by
      obtain ⟨j, h1, h2, h3⟩ := h.resolve_right id
      exact ⟨j, h1, h3⟩) hR
 | succ fuel ih =>
  intro listed hsz hcnt hcl s a w hTr hR
  refine ⟨fun hr => ?_, fun i hi => ?_⟩
  · have hl := hall listed hsz hr
    rw [behind_all Rel hT hl _ (Nat.le_refl _)] at hR
    exact hfin s a w (hTr.trans (Trs.refl (fun _ => False) (fun _ => False) s w) (fun i h => h.resolve_right id) fun i h => by
      obtain ⟨j, h1, h2, h3⟩ := h.resolve_right id
      exact ⟨j, h1, h3⟩) hR
  ·
   obtain ⟨hl, o, ho, haf⟩ := mem_ready.1 hi
   have hin : i < ops.size := (Array.getElem?_eq_some_iff.1 ho).1
   have hcl' : ∀ k, (fun k => listed.getD k true) k = true → ∀ j, Anc ops k j → (fun k => listed.getD k true) j = true := fun k hk j hj => by
    rcases Nat.lt_or_ge k ops.size with h1 | h1
    · exact hcl k hk h1 j hj
    · exfalso
      cases hj with
      | one h2 _ _ => have := (Array.getElem?_eq_some_iff.1 h2).1; omega
      | tr h2 _ _ _ => have := (Array.getElem?_eq_some_iff.1 h2).1; omega
   have hanc : ∀ j, Anc ops i j → listed.getD j true = true := fun j hj => by
    have hd : ∀ e, e ∈ o.after → Region.binds .any e = true → listed.getD e.on true = true := fun e he hb => by
     have := haf e he hb
     rw [Array.getD_eq_getD_getElem?] at this ⊢
     cases h3 : listed[e.on]? with
     | none => rw [h3] at this; simp at this
     | some x => rw [h3] at this; simpa using this
    cases hj with
    | one h2 he hb => rw [ho] at h2; cases h2; exact hd _ he hb
    | tr h2 he hb k => rw [ho] at h2; cases h2; exact hcl' _ (hd _ he hb) _ k
   have hag : ∀ l, (p i).R l ∨ (p i).W l → behind Xs p (fun k => listed.getD k true) ops.size l = Xs i l := fun l hl2 =>
    (behind_at Rel hT hO hin hl hanc hcl' l hl2 ops.size (Nat.le_refl _)).2 (by omega)
   refine hT.ok i hin s _ a w hag hR (fun q hq => ?_) _ fun s' a' w' h1 h2 => ?_
   · cases hs : s q with
     | none => rfl
     | some x =>
      rcases hTr.dom q x hs with h3 | ⟨h3, j, h4, h5, h6⟩
      · rw [hfr i hin q hq] at h3; cases h3
      · have hij : i ≠ j := fun e => by rw [← e, hl] at h5; cases h5
        exact (hT.apart i j hin h4 hij q hq h6).elim
   ·
    have hg : ∀ k, (listed.setIfInBounds i true).getD k true = (listed.getD k true || decide (k = i)) := fun k => by
     rw [Array.getD_eq_getD_getElem?, Array.getD_eq_getD_getElem?, Array.getElem?_setIfInBounds]
     by_cases hk : i = k
     · subst hk; simp [hsz, hin]
     · have : ¬ k = i := fun e => hk e.symm
       simp [hk, this]
    have hcnt' : ((List.range ops.size).filter fun k => !(listed.setIfInBounds i true).getD k true).length = fuel := by
     have e1 : ((List.range ops.size).filter fun k => !(listed.setIfInBounds i true).getD k true) = ((List.range ops.size).filter fun k => !listed.getD k true).erase i := by
      have hnd : ((List.range ops.size).filter fun k => !listed.getD k true).Nodup := List.nodup_range.filter _
      rw [hnd.erase_eq_filter, List.filter_filter]
      congr 1
      funext k
      rw [hg k]
      by_cases hk : k = i
      · subst hk; simp
      · simp [hk]
     rw [e1, List.length_erase_of_mem, hcnt]
     · rfl
     · rw [List.mem_filter]; exact ⟨List.mem_range.2 hin, by rw [hl]; rfl⟩
    refine ih (listed.setIfInBounds i true) (by simp [hsz]) hcnt' (fun k hk hks j hj => ?_) s' a' w' (hTr.trans h1 (fun q h => ?_) fun q h => ?_) ?_
    · rw [hg] at hk ⊢
      rw [Bool.or_eq_true] at hk ⊢
      rcases hk with hk | hk
      · exact .inl (hcl k hk hks j hj)
      · have : k = i := by simpa using hk
        subst this
        exact .inl (hanc j hj)
    · rcases h with h | h
      · exact h
      · exact ⟨i, hin, h⟩
    · rcases h with ⟨j, h1, h2, h3⟩ | h
      · exact ⟨j, h1, by rw [hg, h2]; rfl, h3⟩
      · exact ⟨i, hin, by rw [hg]; simp, h⟩
    · have e : behind Xs p (fun k => (listed.setIfInBounds i true).getD k true) ops.size = over (behind Xs p (fun k => listed.getD k true) ops.size) (Xs (i + 1)) (p i).W := by
       funext l
       exact (behind_add (S := fun k => listed.getD k true) hO hin hl hcl' hg l ops.size (Nat.le_refl _)).2 hin
      rw [e]; exact h2
theorem wp_region_trace (hm : P.follows .mixedOrders = true) (hT : Trace Rel P ops Q Xs p) (hO : Ordered ops p) (hE : Earlier ops) {id : Nat} {s : Sg} {a : Act} {w : World} (hR : Rel s (Xs 0) a { w with drawn := w.drawn + 1 })
 (hfr : ∀ i, i < ops.size → ∀ q, (p i).N q → s q = none)
 (hfin : ∀ s' a' w', Trs (fun q => ∃ i, i < ops.size ∧ (p i).L q) (fun q => ∃ i, i < ops.size ∧ (p i).N q) s { w with drawn := w.drawn + 1 } s' w' → Rel s' (Xs ops.size) a' w' → Q .normal a' w') : (Code.region id ops true).wp P Q a w := by
 refine wp_region_any hm ?_
 have hg : ∀ k, k < ops.size → (Array.replicate ops.size false).getD k true = false := fun k hk => by
  rw [Array.getD_eq_getD_getElem?, Array.getElem?_eq_getElem (by simpa using hk)]; simp
 have hb : ∀ k, k ≤ ops.size → behind Xs p (fun k => (Array.replicate ops.size false).getD k true) k = Xs 0 := fun k => by
  induction k with
  | zero => intro _; rfl
  | succ k ih => intro hk; simp only [behind, hg k (by omega), Bool.false_eq_true, if_false]; exact ih (by omega)
 refine wpAny_trace Rel hT hO hE hfin hfr ops.size _ (by simp) ?_ (fun k hk hks => by rw [hg k hks] at hk; cases hk) s a _ (Trs.refl _ _ _ _) ?_
 · rw [List.filter_eq_self.2 fun k hk => by rw [hg k (List.mem_range.1 hk)]; rfl]; simp
 · rw [hb _ (Nat.le_refl _)]; exact hR
theorem wpOps_trace (hT : Trace Rel P ops Q Xs p) : ∀ (n i : Nat), i + n = ops.size → ∀ (s : Sg) (a : Act) (w : World), Rel s (Xs i) a w → (∀ j, i ≤ j → j < ops.size → ∀ q, (p j).N q → s q = none) →
 (∀ s' a' w', Trs (fun q => ∃ j, j < ops.size ∧ (p j).L q) (fun q => ∃ j, i ≤ j ∧ j < ops.size ∧ (p j).N q) s w s' w' → Rel s' (Xs ops.size) a' w' → Q .normal a' w') → wpOps P ops Q (List.range' i n) a w
 | 0, i, hi, s, a, w, hR, _, hfin => by
  obtain rfl : i = ops.size := by omega
  simp only [List.range'_zero, wpOps]
  exact hfin s a w (Trs.refl _ _ _ _) hR
 | n + 1, i, hi, s, a, w, hR, hfr, hfin => by
  rw [List.range'_succ, wpOps_cons]
  refine hT.ok i (by omega) s _ a w (fun _ _ => rfl) hR (fun q hq => hfr i (Nat.le_refl _) (by omega) q hq) _ fun s' a' w' h1 h2 => ?_
  have e : over (Xs i) (Xs (i + 1)) (p i).W = Xs (i + 1) := by
   funext l
   by_cases hW : (p i).W l
   · exact over_in hW
   · rw [over_out hW]; exact (hT.out i (by omega) l hW).symm
  rw [e] at h2
  refine wpOps_trace hT n (i + 1) (by omega) s' a' w' h2 (fun j h3 h4 q hq => ?_) fun s2 a2 w2 h3 h4 => hfin s2 a2 w2 (h1.trans h3 (fun q h => ?_) fun q h => ?_) h4
  · cases hs : s' q with
    | none => rfl
    | some x =>
     rcases h1.dom q x hs with h5 | ⟨_, h5⟩
     · rw [hfr j (by omega) h4 q hq] at h5; cases h5
     · exact (hT.apart i j (by omega) h4 (by omega) q h5 hq).elim
  · rcases h with h | h
    · exact ⟨i, by omega, h⟩
    · exact h
  · rcases h with h | ⟨j, h5, h6, h7⟩
    · exact ⟨i, Nat.le_refl _, by omega, h⟩
    · exact ⟨j, by omega, h6, h7⟩
theorem wp_region_trace_text (hT : Trace Rel P ops Q Xs p) {id : Nat} {s : Sg} {a : Act} {w : World} (hR : Rel s (Xs 0) a w)
 (hfr : ∀ i, i < ops.size → ∀ q, (p i).N q → s q = none)
 (hfin : ∀ s' a' w', Trs (fun q => ∃ i, i < ops.size ∧ (p i).L q) (fun q => ∃ i, i < ops.size ∧ (p i).N q) s w s' w' → Rel s' (Xs ops.size) a' w' → Q .normal a' w') : (Code.region id ops false).wp P Q a w := by
 refine wp_region ?_
 rw [List.range_eq_range']
 exact wpOps_trace Rel hT ops.size 0 (by omega) s a w hR (fun j _ h q hq => hfr j h q hq) fun s' a' w' h1 h2 => hfin s' a' w' (h1.trans (Trs.refl (fun _ => False) (fun _ => False) s' w') (fun q h => h.resolve_right fun h => h) fun q h => by
   obtain ⟨j, _, h4, h5⟩ := h.resolve_right (fun h : False => h)
   exact ⟨j, h4, h5⟩) h2
end
end Go.Proofs.YtehpobojopmilaaGreat.Ev
namespace Go.Proofs.YtehpobojopmilaaGreat.Ev
set_option linter.unusedVariables false
set_option linter.unusedSimpArgs false
open Go
theorem iff_true {α : Type} {c : Bool} {t e : α} (h : c = true) : iff' c t e = t := by subst h; rfl
theorem iff_false {α : Type} {c : Bool} {t e : α} (h : c = false) : iff' c t e = e := by subst h; rfl
theorem iff_tt {c k : Bool} (h : iff' c k false = true) : c = true ∧ k = true := by cases c <;> simp_all [iff']
theorem iff_ft {c k : Bool} (h : iff' c false k = true) : c = false ∧ k = true := by cases c <;> simp_all [iff']
theorem str_eq {α : Type} (n : Nat) (f : Nat → α) : str n f = f n := rfl
theorem bnd_some {α β : Type} {x : Option α} {f : α → Option β} {y : β} (h : bnd x f = some y) : ∃ a, x = some a ∧ f a = some y := by
 cases x with
 | none => cases h
 | some a => exact ⟨a, rfl, h⟩
theorem beq_t {a b : Nat} (h : Nat.beq a b = true) : a = b := Nat.eq_of_beq_eq_true h
theorem ble_t {a b : Nat} (h : Nat.ble a b = true) : a ≤ b := Nat.le_of_ble_eq_true h
theorem land7 (c : Nat) : Nat.land c 7 = c % 8 := by
 show c &&& (2 ^ 3 - 1) = c % 2 ^ 3
 exact Nat.and_two_pow_sub_one_eq_mod _ _
theorem shr (c k : Nat) : Nat.shiftRight c k = c / 2 ^ k := Nat.shiftRight_eq_div_pow _ _
theorem shl (c k : Nat) : Nat.shiftLeft c k = c * 2 ^ k := Nat.shiftLeft_eq _ _
theorem land_mod (c k : Nat) : Nat.land c (2 ^ k - 1) = c % 2 ^ k := Nat.and_two_pow_sub_one_eq_mod _ _
theorem tag_t {c t : Nat} {k : Bool} (h : tag c t k = true) : c % 8 = t ∧ k = true := by
 unfold tag at h
 obtain ⟨h1, h2⟩ := iff_tt h
 exact ⟨by rw [← land7]; exact beq_t h1, h2⟩
def numU : List UInt8 → Nat
 | [] => 0
 | b :: r => b.toNat + 256 * numU r
def txL (tx : Tx) (off len : Nat) : List UInt8 := (List.range len).map fun i => UInt8.ofNat ((tx.c >>> (8 * (off + i))) % 256)
inductive RC (tx : Tx) (s : Sg) : Nat → Value → Prop
 | i (n : Int) (m : Nat) (h : n = (m : Int) - 1152921504606846976) (h2 : m < 2305843009213693952) : RC tx s (8 * m + 1) (.int .i64 n)
 | b (x : Bool) : RC tx s (bo x) (.bool x)
 | u (n : Nat) (h : n < 256) : RC tx s (8 * n + 3) (.int .u8 n)
 | s (l : List UInt8) (h : l.length ≤ 8) : RC tx s (8 * (l.length + 16 * numU l) + 4) (.string ⟨⟨l⟩⟩)
 | z (off len : Nat) (h : 8 < len) (h1 : off < 4096) (h2 : off + len < 4096) : RC tx s (8 * (off + len * 4096) + 5) (.string ⟨⟨txL tx off len⟩⟩)
 | p0 : RC tx s 6 (.pointer none)
 | p (id co b c : Nat) (h : s id = some (b, c)) (h1 : id < 1048575) (h2 : co < 281474976710656) : RC tx s (8 * (id + 1 + co * 1048576) + 6) (.pointer (some ⟨b, co, none⟩))
 | l0 : RC tx s 7 (.slice none 0 0)
 | l (id eo n es b c : Nat) (h : s id = some (b, c)) (h1 : id < 1048575) (h2 : eo < 4096) (h3 : eo + n < 4096) (h4 : es < 4096) (h5 : eo + n ≤ c) (h6 : c ≤ maxLen) : RC tx s (8 * (id + 1 + (eo + (n + es * 4096) * 4096) * 1048576) + 7) (.slice (some ⟨b, eo * es, none⟩) n (c - eo))
 | e (a : Addr) (c : Nat) (h : c ≤ maxLen) : RC tx s 15 (.slice (some a) 0 c)
theorem RC.mono {tx : Tx} {s s' : Sg} {c : Nat} {v : Value} (h : RC tx s c v) (hs : s.le s') : RC tx s' c v := by
 cases h with
 | i n m h h2 => exact .i n m h h2
 | b x => exact .b x
 | u n h => exact .u n h
 | s l h => exact .s l h
 | z off len h h1 h2 => exact .z off len h h1 h2
 | p0 => exact .p0
 | p id co b c h h1 h2 => exact .p id co b c (hs _ _ h) h1 h2
 | l0 => exact .l0
 | l id eo n es b c h h1 h2 h3 h4 h5 h6 => exact .l id eo n es b c (hs _ _ h) h1 h2 h3 h4 h5 h6
 | e a c h => exact .e a c h
theorem numU_lt (l : List UInt8) : numU l < 256 ^ l.length := by
 induction l with
 | nil => simp [numU]
 | cons b r ih =>
  have := b.toNat_lt
  simp only [numU, List.length_cons, Nat.pow_succ]
  omega
theorem numU_inj : ∀ {a b : List UInt8}, a.length = b.length → numU a = numU b → a = b
 | [], [], _, _ => rfl
 | [], _ :: _, h, _ => by simp at h
 | _ :: _, [], h, _ => by simp at h
 | x :: a, y :: b, hl, h => by
  have h1 := x.toNat_lt
  have h2 := y.toNat_lt
  simp only [numU] at h
  have e : x.toNat = y.toNat := by omega
  have e2 : numU a = numU b := by omega
  rw [UInt8.toNat_inj.1 e, numU_inj (by simpa using hl) e2]
theorem RC.lt {tx : Tx} {s : Sg} {c : Nat} {v : Value} (h : RC tx s c v) : c < 2 ^ 72 := by
 cases h with
 | i n m h h2 => omega
 | b x => cases x <;> simp [bo]
 | u n h => omega
 | s l h =>
  have h1 := numU_lt l
  have h2 : 256 ^ l.length ≤ 256 ^ 8 := Nat.pow_le_pow_right (by omega) h
  omega
 | z off len h h1 h2 => omega
 | p0 => omega
 | p id co b c h h1 h2 => omega
 | l0 => omega
 | l id eo n es b c h h1 h2 h3 h4 h5 h6 => omega
 | e a c h => omega
theorem RC.ne {tx : Tx} {s : Sg} {c : Nat} {v : Value} (h : RC tx s c v) : c % 8 ≠ 0 := by
 cases h with
 | i n m h h2 => omega
 | b x => cases x <;> simp [bo]
 | u n h => omega
 | s l h => omega
 | z off len h h1 h2 => omega
 | p0 => omega
 | p id co b c h h1 h2 => omega
 | l0 => omega
 | l id eo n es b c h h1 h2 h3 h4 h5 h6 => omega
 | e a c h => omega
theorem RC.one {tx : Tx} {s : Sg} {c : Nat} {v : Value} (h : RC tx s c v) : v.cells = #[v] ∧ v.oneCell' = true := by
 cases h <;> exact ⟨rfl, rfl⟩
section
variable {tx : Tx} {s : Sg} {c : Nat} {v : Value}
theorem RC.t1 (h : RC tx s c v) (ht : c % 8 = 1) : ∃ (n : Int) (m : Nat), v = .int .i64 n ∧ c = 8 * m + 1 ∧ n = (m : Int) - 1152921504606846976 ∧ m < 2305843009213693952 := by
 cases h with
 | i n m h h2 => exact ⟨n, m, rfl, rfl, h, h2⟩
 | b x => cases x <;> simp [bo] at ht
 | _ => omega
theorem RC.t2 (h : RC tx s c v) (ht : c % 8 = 2) : ∃ x, v = .bool x ∧ c = bo x := by
 cases h with
 | b x => exact ⟨x, rfl, rfl⟩
 | _ => omega
theorem RC.t3 (h : RC tx s c v) (ht : c % 8 = 3) : ∃ n : Nat, v = .int .u8 n ∧ c = 8 * n + 3 ∧ n < 256 := by
 cases h with
 | u n h => exact ⟨n, rfl, rfl, h⟩
 | b x => cases x <;> simp [bo] at ht
 | _ => omega
theorem RC.t4 (h : RC tx s c v) (ht : c % 8 = 4) : ∃ l : List UInt8, v = .string ⟨⟨l⟩⟩ ∧ c = 8 * (l.length + 16 * numU l) + 4 ∧ l.length ≤ 8 := by
 cases h with
 | s l h => exact ⟨l, rfl, rfl, h⟩
 | b x => cases x <;> simp [bo] at ht
 | _ => omega
theorem RC.t5 (h : RC tx s c v) (ht : c % 8 = 5) : ∃ off len : Nat, v = .string ⟨⟨txL tx off len⟩⟩ ∧ c = 8 * (off + len * 4096) + 5 ∧ 8 < len ∧ off < 4096 ∧ off + len < 4096 := by
 cases h with
 | z off len h h1 h2 => exact ⟨off, len, rfl, rfl, h, h1, h2⟩
 | b x => cases x <;> simp [bo] at ht
 | _ => omega
theorem RC.t6 (h : RC tx s c v) (ht : c % 8 = 6) : (v = .pointer none ∧ c = 6) ∨ ∃ id co b k : Nat, v = .pointer (some ⟨b, co, none⟩) ∧ c = 8 * (id + 1 + co * 1048576) + 6 ∧ s id = some (b, k) ∧ id < 1048575 ∧ co < 281474976710656 := by
 cases h with
 | p0 => exact .inl ⟨rfl, rfl⟩
 | p id co b k h h1 h2 => exact .inr ⟨id, co, b, k, rfl, rfl, h, h1, h2⟩
 | b x => cases x <;> simp [bo] at ht
 | _ => omega
theorem RC.t7 (h : RC tx s c v) (ht : c % 8 = 7) : (v = .slice none 0 0 ∧ c = 7) ∨ (∃ id eo n es b k : Nat, v = .slice (some ⟨b, eo * es, none⟩) n (k - eo) ∧ c = 8 * (id + 1 + (eo + (n + es * 4096) * 4096) * 1048576) + 7 ∧ s id = some (b, k) ∧ id < 1048575 ∧ eo < 4096 ∧ eo + n < 4096 ∧ es < 4096 ∧ eo + n ≤ k ∧ k ≤ maxLen) ∨ ∃ a q, v = .slice (some a) 0 q ∧ c = 15 ∧ q ≤ maxLen := by
 cases h with
 | l0 => exact .inl ⟨rfl, rfl⟩
 | l id eo n es b k h h1 h2 h3 h4 h5 h6 => exact .inr (.inl ⟨id, eo, n, es, b, k, rfl, rfl, h, h1, h2, h3, h4, h5, h6⟩)
 | e a q h => exact .inr (.inr ⟨a, q, rfl, rfl, h⟩)
 | b x => cases x <;> simp [bo] at ht
 | _ => omega
end
def RL (tx : Tx) (s : Sg) (c k : Nat) (cs : List Value) : Prop := cs.length = k ∧ c < 2 ^ (72 * k) ∧ ∀ i (h : i < cs.length), RC tx s (cel c i) cs[i]
def PRl (tx : Tx) (s : Sg) (k : Nat) (ag : Bool) (c : Nat) (v : Value) : Prop := match ag with
 | false => k = 1 ∧ RC tx s c v
 | true => ∃ cs : List Value, v = .agg cs.toArray ∧ RL tx s c k cs
def TRl (tx : Tx) (s : Sg) : List (Nat × Bool) → Nat → List Value → Prop
 | [], c, vs => vs = [] ∧ c = 0
 | (k, ag) :: r, c, vs => ∃ v vs', vs = v :: vs' ∧ PRl tx s k ag (c % 2 ^ (72 * k)) v ∧ TRl tx s r (c >>> (72 * k)) vs'
def VR (tx : Tx) (s : Sg) (h : Sh) (c : Nat) (v : Value) : Prop := match h with
 | .c => RC tx s c v
 | .g k => ∃ cs : List Value, v = .agg cs.toArray ∧ RL tx s c k cs
 | .t l => ∃ vs : List Value, v = .tuple vs.toArray ∧ TRl tx s l c vs
 | _ => False
end Go.Proofs.YtehpobojopmilaaGreat.Ev
namespace Go.Proofs.YtehpobojopmilaaGreat.Ev
set_option linter.unusedVariables false
set_option linter.unusedSimpArgs false
open Go
set_option maxRecDepth 4000
theorem TRl.lt {tx : Tx} {s : Sg} : ∀ (l : List (Nat × Bool)) (c : Nat) (vs : List Value), TRl tx s l c vs → c < 2 ^ (72 * sumK l)
 | [], c, vs, h => by rw [h.2]; exact Nat.two_pow_pos _
 | (k, ag) :: r, c, vs, h => by
  obtain ⟨v, vs', e, h1, h2⟩ := h
  have ih := TRl.lt r _ _ h2
  have e1 : sumK ((k, ag) :: r) = k + sumK r := rfl
  rw [e1, Nat.mul_add, Nat.pow_add]
  rw [Nat.shiftRight_eq_div_pow] at ih
  rw [Nat.mul_comm]
  exact Nat.lt_mul_of_div_lt ih (Nat.two_pow_pos _)
theorem VR.lt {tx : Tx} {s : Sg} {h : Sh} {c : Nat} {v : Value} (k : VR tx s h c v) : c < 2 ^ (72 * h.sz) := by
 cases h with
 | c => exact RC.lt k
 | g n => obtain ⟨cs, e, h3⟩ := k; exact h3.2.1
 | t l => obtain ⟨vs, e, h3⟩ := k; exact TRl.lt l _ _ h3
 | b _ => exact k.elim
 | a _ => exact k.elim
def Cl (tx : Tx) (s : Sg) (h : Sh) (c : Nat) (v : Value) : Prop := (c % 8 ≠ 0 → VR tx s h c v) ∧ (h = .c → c % 8 = 0 → v = undef) ∧ c < 2 ^ (72 * h.sz)
theorem Cl.of' {tx : Tx} {s : Sg} {h : Sh} {c : Nat} {v : Value} (hc : c % 8 ≠ 0) (k : VR tx s h c v) : Cl tx s h c v := ⟨fun _ => k, fun _ e => absurd e hc, k.lt⟩
theorem Cl.of {tx : Tx} {s : Sg} {c : Nat} {v : Value} (h : RC tx s c v) : Cl tx s .c c v := Cl.of' h.ne h
theorem Cl.rc {tx : Tx} {s : Sg} {c : Nat} {v : Value} (h : Cl tx s .c c v) (t : c % 8 ≠ 0) : RC tx s c v := h.1 t
theorem wrap_small (n : Int) (h1 : -4611686018427387904 ≤ n) (h2 : n ≤ 4611686018427387904) : IntKind.i64.wrap n = n := by rw [IntKind.wrap_i64]; omega
theorem B8_eq : B8 = 9223372036854775809 := rfl
theorem ndiv (a b : Nat) : Nat.div a b = a / b := rfl
theorem nmod (a b : Nat) : Nat.mod a b = a % b := rfl
theorem npred (a : Nat) : Nat.pred a = a - 1 := rfl
def BinOk (op : BinOp) (a b c : Nat) : Prop := ∀ (tx : Tx) (s : Sg) (va vb : Value), Cl tx s .c a va → Cl tx s .c b vb → ∃ r, RC tx s c r ∧ ∀ (P : Program) (t : TypeId) (x y : Operand) (w : World), (do eqGuard op t x y va vb; binOp op t va vb : Sem Value).run P w = .ok r w
theorem isI_t {a : Nat} {k : Bool} (h : isI a k = true) : a % 8 = 1 ∧ k = true := tag_t h
theorem rng_t {κ : KN} {r : Nat} (h : rng κ r = true) : κ r = true ∧ r < 18446744073709551616 := by
 unfold rng at h
 obtain ⟨h1, h2⟩ := iff_tt h
 exact ⟨h2, by have := ble_t h1; omega⟩
theorem rc_int {tx : Tx} {s : Sg} {c m : Nat} {n : Int} (hc : c = 8 * m + 1) (h : n = (m : Int) - 1152921504606846976) (h2 : m < 2305843009213693952) : RC tx s c (.int .i64 n) := hc ▸ .i n m h h2
theorem addK_ok {κ : KN} {a b : Nat} (h : addK κ a b = true) : ∃ c, κ c = true ∧ BinOk .add a b c := by
 unfold addK at h
 obtain ⟨ha, h⟩ := isI_t h
 obtain ⟨hb, h⟩ := isI_t h
 obtain ⟨h1, h⟩ := iff_tt h
 obtain ⟨h, h2⟩ := rng_t h
 have h1 := ble_t h1
 refine ⟨_, h, fun tx s va vb ca cb => ?_⟩
 obtain ⟨n, m, rfl, e1, e2, e3⟩ := (ca.rc (by omega)).t1 ha
 obtain ⟨n', m', rfl, f1, f2, f3⟩ := (cb.rc (by omega)).t1 hb
 simp only [B8_eq, Nat.add_eq, Nat.sub_eq] at h1 h2 ⊢
 refine ⟨.int .i64 (n + n'), rc_int (m := m + m' - 1152921504606846976) (by omega) (by omega) (Nat.lt_of_not_le fun hh => by omega), fun P t x y w => ?_⟩
 have hw : IntKind.i64.wrap (n + n') = n + n' := wrap_small _ (by omega) (by omega)
 simp [eqGuard, binOp, Op.intArith, hw, go_sem]
theorem subK_ok {κ : KN} {a b : Nat} (h : subK κ a b = true) : ∃ c, κ c = true ∧ BinOk .sub a b c := by
 unfold subK at h
 obtain ⟨ha, h⟩ := isI_t h
 obtain ⟨hb, h⟩ := isI_t h
 obtain ⟨h1, h⟩ := iff_tt h
 obtain ⟨h, h2⟩ := rng_t h
 have h1 := ble_t h1
 refine ⟨_, h, fun tx s va vb ca cb => ?_⟩
 obtain ⟨n, m, rfl, e1, e2, e3⟩ := (ca.rc (by omega)).t1 ha
 obtain ⟨n', m', rfl, f1, f2, f3⟩ := (cb.rc (by omega)).t1 hb
 simp only [B8_eq, Nat.add_eq, Nat.sub_eq] at h1 h2 ⊢
 refine ⟨.int .i64 (n - n'), rc_int (m := m + 1152921504606846976 - m') (by omega) (by omega) (Nat.lt_of_not_le fun hh => by omega), fun P t x y w => ?_⟩
 have hw : IntKind.i64.wrap (n - n') = n - n' := wrap_small _ (by omega) (by omega)
 simp [eqGuard, binOp, Op.intArith, hw, go_sem]
theorem nn_t {a b : Nat} {f : Nat → Nat → Bool} (h : nn a b f = true) : ∃ x y : Nat, a = 8 * (x + 1152921504606846976) + 1 ∧ b = 8 * (y + 1152921504606846976) + 1 ∧ f x y = true := by
 unfold nn at h
 obtain ⟨ha, h⟩ := isI_t h
 obtain ⟨hb, h⟩ := isI_t h
 obtain ⟨h1, h⟩ := iff_tt h
 obtain ⟨h2, h⟩ := iff_tt h
 have h1 := ble_t h1
 have h2 := ble_t h2
 simp only [B8_eq] at h1 h2
 refine ⟨Nat.div (Nat.sub a B8) 8, Nat.div (Nat.sub b B8) 8, ?_, ?_, h⟩
 · simp only [B8_eq, Nat.sub_eq, ndiv]; omega
 · simp only [B8_eq, Nat.sub_eq, ndiv]; omega
theorem encN_eq (n : Nat) : encN n = 8 * (n + 1152921504606846976) + 1 := by simp only [encN, B8_eq, Nat.add_eq, Nat.mul_eq]; omega
theorem rc_nat {tx : Tx} {s : Sg} {n : Nat} (h : encN n < 18446744073709551616) : RC tx s (encN n) (.int .i64 n) := by
 rw [encN_eq] at h ⊢
 exact .i _ _ (by omega) (Nat.lt_of_not_le fun hh => by omega)
theorem rc_nat_inv {tx : Tx} {s : Sg} {c x : Nat} {v : Value} (h : Cl tx s .c c v) (e : c = 8 * (x + 1152921504606846976) + 1) : v = .int .i64 x ∧ x < 1152921504606846976 := by
 obtain ⟨n, m, rfl, e1, e2, e3⟩ := (h.rc (by omega)).t1 (by omega)
 have : n = (x : Int) := by omega
 exact ⟨by rw [this], (Nat.lt_of_not_le fun hh => by omega)⟩
theorem mulK_ok {κ : KN} {a b : Nat} (h : mulK κ a b = true) : ∃ c, κ c = true ∧ BinOk .mul a b c := by
 obtain ⟨x, y, e1, e2, h⟩ := nn_t h
 obtain ⟨h, h2⟩ := rng_t h
 refine ⟨_, h, fun tx s va vb ca cb => ?_⟩
 obtain ⟨rfl, hx⟩ := rc_nat_inv ca e1
 obtain ⟨rfl, hy⟩ := rc_nat_inv cb e2
 refine ⟨_, rc_nat h2, fun P t x' y' w => ?_⟩
 rw [encN_eq] at h2
 have h3 : x * y < 1152921504606846976 := by simp only [Nat.mul_eq] at h2; omega
 have hw : IntKind.i64.wrap ((x : Int) * (y : Int)) = ((x * y : Nat) : Int) := by rw [← Int.natCast_mul]; exact wrap_small _ (by omega) (by omega)
 simp [eqGuard, binOp, Op.intArith, hw, go_sem]
theorem quoK_ok {κ : KN} {a b : Nat} (h : quoK κ a b = true) : ∃ c, κ c = true ∧ BinOk .quo a b c := by
 obtain ⟨x, y, e1, e2, h⟩ := nn_t h
 obtain ⟨h0, h⟩ := iff_ft h
 obtain ⟨h, h2⟩ := rng_t h
 have hy0 : y ≠ 0 := fun e => by subst e; cases h0
 refine ⟨_, h, fun tx s va vb ca cb => ?_⟩
 obtain ⟨rfl, hx⟩ := rc_nat_inv ca e1
 obtain ⟨rfl, hy⟩ := rc_nat_inv cb e2
 refine ⟨_, rc_nat h2, fun P t x' y' w => ?_⟩
 have h3 : x / y ≤ x := Nat.div_le_self _ _
 have hw0 : (x : Int).tdiv (y : Int) = ((x / y : Nat) : Int) := rfl
 have hw1 : IntKind.i64.wrap (x / y : Int) = ((x / y : Nat) : Int) := by
  have : (x : Int) / (y : Int) = ((x / y : Nat) : Int) := rfl
  rw [this]; exact wrap_small _ (by generalize x / y = q at h3 ⊢; omega) (by generalize x / y = q at h3 ⊢; omega)
 have hy1 : ¬ (y : Int) = 0 := by omega
 simp [eqGuard, binOp, Op.intDiv, hw0, hy0, ndiv, hw1, go_sem]
theorem remK_ok {κ : KN} {a b : Nat} (h : remK κ a b = true) : ∃ c, κ c = true ∧ BinOk .rem a b c := by
 obtain ⟨x, y, e1, e2, h⟩ := nn_t h
 obtain ⟨h0, h⟩ := iff_ft h
 obtain ⟨h, h2⟩ := rng_t h
 have hy0 : y ≠ 0 := fun e => by subst e; cases h0
 refine ⟨_, h, fun tx s va vb ca cb => ?_⟩
 obtain ⟨rfl, hx⟩ := rc_nat_inv ca e1
 obtain ⟨rfl, hy⟩ := rc_nat_inv cb e2
 refine ⟨_, rc_nat h2, fun P t x' y' w => ?_⟩
 have hw : (x : Int).tmod (y : Int) = ((x % y : Nat) : Int) := rfl
 have hy1 : ¬ (y : Int) = 0 := by omega
 simp [eqGuard, binOp, Op.intDiv, hw, hy0, nmod, go_sem]
theorem or_t {a b : Bool} (h : or' a b = true) : a = true ∨ b = true := by cases a <;> cases b <;> simp_all [or']
theorem neg_eq (b : Bool) : neg b = !b := by cases b <;> rfl
theorem ee_t {a b : Nat} {k : Bool} (h : ee a b k = true) : k = true ∧ a % 8 = b % 8 ∧ (a % 8 = 1 ∨ a % 8 = 3 ∨ a % 8 = 4) := by
 unfold ee at h
 obtain ⟨h1, h⟩ := iff_tt h
 obtain ⟨h2, h⟩ := iff_tt h
 have h1 := beq_t h1
 simp only [land7] at h1 h2
 refine ⟨h, h1, ?_⟩
 rcases or_t h2 with h3 | h3
 · exact .inl (beq_t h3)
 rcases or_t h3 with h3 | h3
 · exact .inr (.inl (beq_t h3))
 · exact .inr (.inr (beq_t h3))
theorem ii_t {a b : Nat} {k : Bool} (h : ii a b k = true) : k = true ∧ a % 8 = b % 8 ∧ (a % 8 = 1 ∨ a % 8 = 3) := by
 unfold ii at h
 obtain ⟨h2, h⟩ := iff_tt h
 obtain ⟨h1, h⟩ := iff_tt h
 have h1 := beq_t h1
 simp only [land7] at h1 h2
 refine ⟨h, h1, ?_⟩
 rcases or_t h2 with h3 | h3
 · exact .inl (beq_t h3)
 · exact .inr (beq_t h3)
theorem sbeq_of {a b : Nat} {p : Bool} (h : p = true ↔ a = b) : p = Nat.beq a b := by
 cases e : Nat.beq a b with
 | true => exact h.2 (beq_t e)
 | false => cases p with
  | false => rfl
  | true => rw [show Nat.beq a b = true from Nat.beq_eq.symm ▸ (h.1 rfl)] at e; cases e
theorem eq_ok {tx : Tx} {s : Sg} {a b : Nat} {va vb : Value} (ca : Cl tx s .c a va) (cb : Cl tx s .c b vb) (e : a % 8 = b % 8) (t : a % 8 = 1 ∨ a % 8 = 3 ∨ a % 8 = 4) (P : Program) (ty : TypeId) (x y : Operand) (w : World) :
 (do eqGuard .eql ty x y va vb; binOp .eql ty va vb : Sem Value).run P w = .ok (.bool (Nat.beq a b)) w ∧ (do eqGuard .neq ty x y va vb; binOp .neq ty va vb : Sem Value).run P w = .ok (.bool (neg (Nat.beq a b))) w := by
 rw [neg_eq]
 rcases t with t | t | t
 · obtain ⟨n, m, rfl, e1, e2, e3⟩ := (ca.rc (by omega)).t1 t
   obtain ⟨n', m', rfl, f1, f2, f3⟩ := (cb.rc (by omega)).t1 (by omega)
   have h : (n == n') = Nat.beq a b := sbeq_of (by rw [beq_iff_eq]; omega)
   rw [← h]
   exact ⟨by simp [eqGuard, binOp, Op.intCmp, go_sem], by simp [eqGuard, binOp, Op.intCmp, go_sem, bne]⟩
 · obtain ⟨n, rfl, e1, e3⟩ := (ca.rc (by omega)).t3 t
   obtain ⟨n', rfl, f1, f3⟩ := (cb.rc (by omega)).t3 (by omega)
   have h : ((n : Int) == (n' : Int)) = Nat.beq a b := sbeq_of (by rw [beq_iff_eq]; omega)
   rw [← h]
   exact ⟨by simp [eqGuard, binOp, Op.intCmp, go_sem], by simp [eqGuard, binOp, Op.intCmp, go_sem, bne]⟩
 ·
  obtain ⟨l, rfl, e1, e3⟩ := (ca.rc (by omega)).t4 t
  obtain ⟨l', rfl, f1, f3⟩ := (cb.rc (by omega)).t4 (by omega)
  have h : (l == l') = Nat.beq a b := sbeq_of (by
    rw [beq_iff_eq]
    refine ⟨fun h => by rw [e1, f1, h], fun h => numU_inj (by omega) (by omega)⟩)
  rw [← h]
  exact ⟨by simp [eqGuard, binOp, Op.stringOp, ByteArray.toList_eq, go_sem], by simp [eqGuard, binOp, Op.stringOp, ByteArray.toList_eq, go_sem]⟩
theorem ble_of {a b : Nat} {p : Bool} (h : p = true ↔ a ≤ b) : p = Nat.ble a b := by
 cases e : Nat.ble a b with
 | true => exact h.2 (ble_t e)
 | false => cases p with
  | false => rfl
  | true => rw [Nat.ble_eq_true_of_le (h.1 rfl)] at e; cases e
theorem le_ok {tx : Tx} {s : Sg} {a b : Nat} {va vb : Value} (ca : Cl tx s .c a va) (cb : Cl tx s .c b vb) (e : a % 8 = b % 8) (t : a % 8 = 1 ∨ a % 8 = 3) (P : Program) (ty : TypeId) (x y : Operand) (w : World) :
 (do eqGuard .leq ty x y va vb; binOp .leq ty va vb : Sem Value).run P w = .ok (.bool (Nat.ble a b)) w ∧ (do eqGuard .geq ty x y va vb; binOp .geq ty va vb : Sem Value).run P w = .ok (.bool (Nat.ble b a)) w ∧
 (do eqGuard .lss ty x y va vb; binOp .lss ty va vb : Sem Value).run P w = .ok (.bool (neg (Nat.ble b a))) w ∧ (do eqGuard .gtr ty x y va vb; binOp .gtr ty va vb : Sem Value).run P w = .ok (.bool (neg (Nat.ble a b))) w := by
 rw [neg_eq, neg_eq]
 have key : ∀ (k : IntKind) (n n' : Int), va = .int k n → vb = .int k n' → (n ≤ n' ↔ a ≤ b) → (n' ≤ n ↔ b ≤ a) →
  (do eqGuard .leq ty x y va vb; binOp .leq ty va vb : Sem Value).run P w = .ok (.bool (Nat.ble a b)) w ∧ (do eqGuard .geq ty x y va vb; binOp .geq ty va vb : Sem Value).run P w = .ok (.bool (Nat.ble b a)) w ∧
  (do eqGuard .lss ty x y va vb; binOp .lss ty va vb : Sem Value).run P w = .ok (.bool (!(Nat.ble b a))) w ∧ (do eqGuard .gtr ty x y va vb; binOp .gtr ty va vb : Sem Value).run P w = .ok (.bool (!(Nat.ble a b))) w := by
  intro k n n' e1 e2 h1 h2
  subst e1 e2
  have g1 : decide (n ≤ n') = Nat.ble a b := ble_of (by rw [decide_eq_true_iff]; exact h1)
  have g2 : decide (n' ≤ n) = Nat.ble b a := ble_of (by rw [decide_eq_true_iff]; exact h2)
  rw [← g1, ← g2]
  refine ⟨by simp [eqGuard, binOp, Op.intCmp, go_sem], by simp [eqGuard, binOp, Op.intCmp, go_sem], ?_, ?_⟩
  · have : decide (n < n') = !decide (n' ≤ n) := by rw [← decide_not]; exact decide_eq_decide.2 (by omega)
    rw [← this]; simp [eqGuard, binOp, Op.intCmp, go_sem]
  · have : decide (n' < n) = !decide (n ≤ n') := by rw [← decide_not]; exact decide_eq_decide.2 (by omega)
    rw [← this]; simp [eqGuard, binOp, Op.intCmp, go_sem]
 rcases t with t | t
 · obtain ⟨n, m, rfl, e1, e2, e3⟩ := (ca.rc (by omega)).t1 t
   obtain ⟨n', m', rfl, f1, f2, f3⟩ := (cb.rc (by omega)).t1 (by omega)
   exact key _ n n' rfl rfl (by omega) (by omega)
 · obtain ⟨n, rfl, e1, e3⟩ := (ca.rc (by omega)).t3 t
   obtain ⟨n', rfl, f1, f3⟩ := (cb.rc (by omega)).t3 (by omega)
   exact key _ n n' rfl rfl (by omega) (by omega)
theorem lenS_eq (l : List UInt8) (h : l.length ≤ 8) : lenS (8 * (l.length + 16 * numU l) + 4) = l.length := by
 show Nat.land (Nat.shiftRight _ 3) (2 ^ 4 - 1) = _
 rw [land_mod, shr]; omega
theorem numS_eq (l : List UInt8) (h : l.length ≤ 8) : numS (8 * (l.length + 16 * numU l) + 4) = numU l := by
 unfold numS
 rw [shr]; omega
theorem numU_app (a b : List UInt8) : numU (a ++ b) = numU a + numU b * 2 ^ (8 * a.length) := by
 induction a with
 | nil => simp [numU]
 | cons x r ih =>
  simp only [numU, List.cons_append, ih, List.length_cons]
  have : 2 ^ (8 * (r.length + 1)) = 256 * 2 ^ (8 * r.length) := by rw [Nat.mul_add, Nat.pow_add]; omega
  rw [this, Nat.mul_add, ← Nat.add_assoc]
  congr 1
  rw [Nat.mul_left_comm]
theorem encS_eq (n k : Nat) : encS n k = 8 * (n + 16 * k) + 4 := rfl
theorem rc_str {tx : Tx} {s : Sg} {n k : Nat} {l : List UInt8} (hn : n = l.length) (hk : k = numU l) (h : l.length ≤ 8) : RC tx s (encS n k) (.string ⟨⟨l⟩⟩) := by
 subst hn hk
 exact .s l h
theorem str_append (a b : List UInt8) : (⟨⟨a⟩⟩ : ByteArray) ++ ⟨⟨b⟩⟩ = ⟨⟨a ++ b⟩⟩ := by
 have h : ((⟨⟨a⟩⟩ : ByteArray) ++ ⟨⟨b⟩⟩).data = (⟨⟨a ++ b⟩⟩ : ByteArray).data := by rw [ByteArray.data_append]; simp
 cases hx : (⟨⟨a⟩⟩ : ByteArray) ++ ⟨⟨b⟩⟩ with
 | mk d => rw [hx] at h; exact congrArg ByteArray.mk h
theorem catK_ok {κ : KN} {a b : Nat} (h : catK κ a b = true) : ∃ c, κ c = true ∧ BinOk .add a b c := by
 unfold catK at h
 obtain ⟨ha, h⟩ := tag_t h
 obtain ⟨hb, h⟩ := tag_t h
 obtain ⟨h1, h⟩ := iff_tt h
 have h1 := ble_t h1
 refine ⟨_, h, fun tx s va vb ca cb => ?_⟩
 obtain ⟨l, rfl, e1, e3⟩ := (ca.rc (by omega)).t4 ha
 obtain ⟨l', rfl, f1, f3⟩ := (cb.rc (by omega)).t4 hb
 subst e1 f1
 rw [lenS_eq _ e3, lenS_eq _ f3] at h1 ⊢
 rw [numS_eq _ e3, numS_eq _ f3, shl]
 have hl : (l ++ l').length ≤ 8 := by rw [List.length_append]; exact h1
 refine ⟨.string ⟨⟨l ++ l'⟩⟩, rc_str (by rw [List.length_append]; rfl) (by rw [numU_app]; rfl) hl, fun P t x y w => ?_⟩
 have hs : ¬ ((((⟨⟨l⟩⟩ : ByteArray).size + (⟨⟨l'⟩⟩ : ByteArray).size : Nat) : Int) > IntKind.i64.max) := by
  have : IntKind.i64.max = 9223372036854775807 := by decide
  have e1 : (⟨⟨l⟩⟩ : ByteArray).size = l.length := rfl
  have e2 : (⟨⟨l'⟩⟩ : ByteArray).size = l'.length := rfl
  rw [this, e1, e2]
  rw [List.length_append] at hl
  omega
 have hb : binOp .add t (.string ⟨⟨l⟩⟩) (.string ⟨⟨l'⟩⟩) = pure (.string ⟨⟨l ++ l'⟩⟩) := by
  show (if _ then _ else _) = _
  rw [if_neg hs, str_append]
 rw [hb]
 simp [eqGuard, go_sem]
theorem selBin_ok {op : BinOp} {f : KN → Nat → Nat → Bool} (hf : selBin op = some f) {κ : KN} {a b : Nat} (h : f κ a b = true) : ∃ c, κ c = true ∧ BinOk op a b c := by
 cases op <;> simp only [selBin, Option.some.injEq, reduceCtorEq] at hf <;> subst hf
 ·
  cases e : Nat.beq (Nat.land a 7) 4 with
  | true =>
   have h : iff' (Nat.beq (Nat.land a 7) 4) (catK κ a b) (addK κ a b) = true := h
   rw [iff_true e] at h
   exact catK_ok h
  | false =>
   have h : iff' (Nat.beq (Nat.land a 7) 4) (catK κ a b) (addK κ a b) = true := h
   rw [iff_false e] at h
   exact addK_ok h
 · exact subK_ok h
 · exact mulK_ok h
 · exact quoK_ok h
 · exact remK_ok h
 · obtain ⟨h, e, t⟩ := ee_t h
   exact ⟨_, h, fun tx s va vb ca cb => ⟨_, .b _, fun P t' x y w => (eq_ok ca cb e t P t' x y w).1⟩⟩
 · obtain ⟨h, e, t⟩ := ee_t h
   exact ⟨_, h, fun tx s va vb ca cb => ⟨_, .b _, fun P t' x y w => (eq_ok ca cb e t P t' x y w).2⟩⟩
 · obtain ⟨h, e, t⟩ := ii_t h
   exact ⟨_, h, fun tx s va vb ca cb => ⟨_, .b _, fun P t' x y w => (le_ok ca cb e t P t' x y w).2.2.1⟩⟩
 · obtain ⟨h, e, t⟩ := ii_t h
   exact ⟨_, h, fun tx s va vb ca cb => ⟨_, .b _, fun P t' x y w => (le_ok ca cb e t P t' x y w).1⟩⟩
 · obtain ⟨h, e, t⟩ := ii_t h
   exact ⟨_, h, fun tx s va vb ca cb => ⟨_, .b _, fun P t' x y w => (le_ok ca cb e t P t' x y w).2.2.2⟩⟩
 · obtain ⟨h, e, t⟩ := ii_t h
   exact ⟨_, h, fun tx s va vb ca cb => ⟨_, .b _, fun P t' x y w => (le_ok ca cb e t P t' x y w).2.1⟩⟩
end Go.Proofs.YtehpobojopmilaaGreat.Ev
