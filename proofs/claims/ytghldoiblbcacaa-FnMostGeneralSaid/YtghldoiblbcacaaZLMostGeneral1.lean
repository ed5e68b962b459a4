/- Texts of the claim LMostGeneral in one: Focus MarkText Int RowI AppM Vars Has. Conditions: none but bounds on sizes. -/
import Derived.Test.YtghldoiblbcacaaZLMostGeneral0
import Derived.Test.YtghldoiblbcacaaRows
import Derived.BigQuiet
import Derived.Lib.Hide
import Derived.Maps.AppendAt
import Derived.Deep.AppendSrc
/- One element of what is owned, written anew: the rest stays (no program in sight). Conditions: none. -/
namespace Go.Proofs.Ytghldoiblbcacaa
open Go.RowKit
set_option linter.unusedVariables false
set_option linter.unusedSimpArgs false

/-- a world behind writes to the blocks of S, and new blocks -/
structure Touch (S : Nat → Prop) (w w' : World) : Prop where
  os : w'.os = w.os
  tape : w'.tape = w.tape
  output : w'.output = w.output
  size : w.heap.size ≤ w'.heap.size
  block : ∀ b, b < w.heap.size → ¬ S b → w'.heap[b]? = w.heap[b]?
  frozen : ∀ b, S b → ∀ o, w.frozen? ⟨b, o, none⟩ = false → w'.frozen? ⟨b, o, none⟩ = false

theorem Touch.refl (S : Nat → Prop) (w : World) : Touch S w w := ⟨rfl, rfl, rfl, Nat.le_refl _, fun _ _ _ => rfl, fun _ _ _ h => h⟩
theorem Touch.trans {S : Nat → Prop} {a b c : World} (h : Touch S a b) (h' : Touch S b c) : Touch S a c :=
  ⟨h'.os.trans h.os, h'.tape.trans h.tape, h'.output.trans h.output, Nat.le_trans h.size h'.size, fun x hx hS => (h'.block x (Nat.lt_of_lt_of_le hx h.size) hS).trans (h.block x hx hS), fun x hS o e => h'.frozen x hS o (h.frozen x hS o e)⟩
theorem Touch.mono {S T : Nat → Prop} {w w' : World} (h : Touch S w w') (hST : ∀ b, S b → T b) (hT : ∀ b, T b → b < w.heap.size) : Touch T w w' :=
  ⟨h.os, h.tape, h.output, h.size, fun x hx hS => h.block x hx (fun e => hS (hST x e)), fun x hx o e => by
    by_cases hS : S x
    · exact h.frozen x hS o e
    · rw [World.frozen?_of_block (h.block x (hT x hx) hS)]; exact e⟩
theorem Touch.below {S : Nat → Prop} {B : Nat} {w w' : World} (h : Touch S w w') (hS : ∀ b, S b → B ≤ b) (hB : B ≤ w.heap.size) : Below B w w' :=
  ⟨h.os, h.tape, h.output, h.size, fun b hb => h.block b (by omega) (fun e => by have := hS b e; omega)⟩
theorem Below.touch {S : Nat → Prop} {w w' : World} (h : Below w.heap.size w w') (hS : ∀ b, S b → b < w.heap.size) : Touch S w w' :=
  ⟨h.os, h.tape, h.output, h.size, fun b hb _ => h.block b hb, fun b hb o e => (World.frozen?_of_block (h.block b (hS b hb))).trans e⟩
theorem Touch.setCell {S : Nat → Prop} {w : World} {b o : Nat} (hb : S b) (v : Value) : Touch S w (w.setCell ⟨b, o, none⟩ v) :=
  ⟨rfl, rfl, rfl, by simp [World.setCell], fun x _ hS => Below.heap_setCell w ⟨b, o, none⟩ v x (fun e => hS (by subst e; exact hb)), fun x hx o' e => by
    rw [World.frozen?_setCell]; exact e⟩

theorem setCells_size' {w w' : World} {g k : Nat} {vs : List Value} (e : w' = setCells w g k vs) : w'.heap.size = w.heap.size := by rw [e, setCells_size]
theorem setCells_block' {w w' : World} {g k : Nat} {vs : List Value} (e : w' = setCells w g k vs) (b : Nat) (hb : b ≠ g) : w'.heap[b]? = w.heap[b]? := by rw [e]; exact setCells_block _ _ _ _ _ hb
/-- an element of an owned row, and what may be put in its place -/
theorem D.ownR_focus {w : World} {size b : Nat} : ∀ (xs : List D) (S : Nat → Prop) (off i : Nat) (h : i < xs.length), D.ownR w size b xs S off →
    ∃ (T : Nat → Prop) (cs : List Value), (∀ x, T x → S x) ∧ cs.length = size ∧ (∀ j v, cs[j]? = some v → w.cell? ⟨b, off + i * size + j, none⟩ = some v) ∧ (xs[i]).own w T cs ∧
      ∀ (w' : World) (d' : D) (cs' : List Value), (∀ x, S x → ¬ T x → w'.heap[x]? = w.heap[x]?) → (∀ j, (j < off + i * size ∨ off + i * size + size ≤ j) → w'.cell? ⟨b, j, none⟩ = w.cell? ⟨b, j, none⟩) →
        cs'.length = size → (∀ j v, cs'[j]? = some v → w'.cell? ⟨b, off + i * size + j, none⟩ = some v) → d'.own w' T cs' → D.ownR w' size b (xs.set i d') S off
  | [], _, _, i, h, _ => by simp at h
  | d :: r, S, off, 0, h, hr => by
    simp only [D.ownR] at hr
    obtain ⟨S1, S2, cs, g1, g2, hl, hc, hd, hrest⟩ := hr
    refine ⟨S1, cs, fun x hx => (g1 x hx).1, hl, by simpa using hc, by simpa using hd, fun w' d' cs' k1 k2 k3 k4 k5 => ?_⟩
    simp only [List.set_cons_zero, D.ownR]
    refine ⟨S1, S2, cs', g1, g2, k3, by simpa using k4, k5, ?_⟩
    refine ownR_keep' size b r S2 (off + size) (fun x hx => k1 x (g2 x hx) (fun e => (g1 x e).2 hx)) (fun j hj => k2 j (.inr (by simpa using hj))) hrest
  | d :: r, S, off, i + 1, h, hr => by
    simp only [D.ownR] at hr
    obtain ⟨S1, S2, cs, g1, g2, hl, hc, hd, hrest⟩ := hr
    obtain ⟨T, cs1, a1, a2, a3, a4, a5⟩ := D.ownR_focus r S2 (off + size) i (by simpa using h) hrest
    have e : off + size + i * size = off + (i + 1) * size := by rw [Nat.add_mul, Nat.one_mul]; omega
    refine ⟨T, cs1, fun x hx => g2 x (a1 x hx), a2, fun j v hj => by rw [← e]; exact a3 j v hj, by simpa using a4, fun w' d' cs' k1 k2 k3 k4 k5 => ?_⟩
    simp only [List.set_cons_succ, D.ownR]
    have hsz : ∀ j, j < size → w'.cell? ⟨b, off + j, none⟩ = w.cell? ⟨b, off + j, none⟩ := fun j hj => k2 (off + j) (.inl (by rw [← e]; omega))
    refine ⟨S1, S2, cs, g1, g2, hl, fun j v hj => ?_, D.own_keep d S1 S1 cs (fun x hx => ⟨hx, k1 x (g1 x hx).1 (fun e => (g1 x hx).2 (a1 x e))⟩) hd, a5 w' d' cs' (fun x hx hT => k1 x (g2 x hx) hT) (fun j hj => k2 j (by rw [← e]; exact hj)) k3 (fun j v hj => by rw [e]; exact k4 j v hj) k5⟩
    have hjl : j < cs.length := (List.getElem?_eq_some_iff.1 hj).1
    rw [hsz j (by omega)]
    exact hc j v hj
where
  ownR_keep' {w w' : World} (size b : Nat) : ∀ (xs : List D) (S : Nat → Prop) (off : Nat), (∀ x, S x → w'.heap[x]? = w.heap[x]?) → (∀ j, off ≤ j → w'.cell? ⟨b, j, none⟩ = w.cell? ⟨b, j, none⟩) → D.ownR w size b xs S off → D.ownR w' size b xs S off
  | [], _, _, _, _, _ => by simp only [D.ownR]
  | d :: r, S, off, h1, h2, hr => by
    simp only [D.ownR] at hr ⊢
    obtain ⟨S1, S2, cs, g1, g2, hl, hc, hd, hrest⟩ := hr
    exact ⟨S1, S2, cs, g1, g2, hl, fun j v hj => (h2 (off + j) (by omega)).trans (hc j v hj), D.own_keep d S1 S1 cs (fun x hx => ⟨hx, h1 x (g1 x hx).1⟩) hd, ownR_keep' size b r S2 (off + size) (fun x hx => h1 x (g2 x hx)) (fun j hj => h2 j (by omega)) hrest⟩

/-- an element of an owned slice, and what may be put in its place -/
theorem Osl.focus {w : World} {S : Nat → Prop} {size : Nat} {A : Option Addr} {c : Nat} {xs : List D} (h : Osl w S size A c xs) (i : Nat) (hi : i < xs.length) :
    ∃ (b : Nat) (T : Nat → Prop) (cs : List Value), A = some ⟨b, 0, none⟩ ∧ S b ∧ ¬ T b ∧ (∀ o, w.frozen? ⟨b, o, none⟩ = false) ∧ (∀ x, T x → S x) ∧ cs.length = size ∧ (∀ j v, cs[j]? = some v → w.cell? ⟨b, i * size + j, none⟩ = some v) ∧ (xs[i]).own w T cs ∧
      ∀ (w' : World) (d' : D) (cs' : List Value), (∀ x, S x → x ≠ b → ¬ T x → w'.heap[x]? = w.heap[x]?) → (∀ j, (j < i * size ∨ i * size + size ≤ j) → w'.cell? ⟨b, j, none⟩ = w.cell? ⟨b, j, none⟩) → (∀ o, w'.frozen? ⟨b, o, none⟩ = false) →
        cs'.length = size → (∀ j v, cs'[j]? = some v → w'.cell? ⟨b, i * size + j, none⟩ = some v) → d'.own w' T cs' → Osl w' S size A c (xs.set i d') := by
  obtain ⟨h1, h2, h3 | ⟨b, rfl, hS, hf, hr⟩⟩ := h
  · subst h3; simp at hi
  · obtain ⟨T, cs, a1, a2, a3, a4, a5⟩ := D.ownR_focus xs _ 0 i hi hr
    refine ⟨b, T, cs, rfl, hS, fun e => (a1 b e).2 rfl, hf, fun x hx => (a1 x hx).1, a2, by simpa using a3, a4, fun w' d' cs' k1 k2 kf k3 k4 k5 => ⟨by simpa using h1, h2, .inr ⟨b, rfl, hS, kf, ?_⟩⟩⟩
    exact a5 w' d' cs' (fun x hx hT => k1 x hx.1 hx.2 hT) (by simpa using k2) k3 (by simpa using k4) k5

end Go.Proofs.Ytghldoiblbcacaa

/- The text of a mark, and the numbers of slices of ints. Conditions: the mark is from 1 on. -/
namespace Go.Proofs.Ytghldoiblbcacaa
open Go.RowKit
set_option linter.unusedVariables false
set_option linter.unusedSimpArgs false
set_option maxHeartbeats 1000000

/-! ### one element's marking, stage by stage -/
/-- the world u: on the way from wr, where the cells from lo to hi of block b, and blocks of T, are written; w: the world at the beginning -/
structure MSt (w wr : World) (S T : Nat → Prop) (b lo hi : Nat) (u : World) : Prop where
  blk : ∀ x, x < wr.heap.size → x ≠ b → ¬ T x → u.heap[x]? = wr.heap[x]?
  out : ∀ o, (o < lo ∨ hi ≤ o) → u.cell? ⟨b, o, none⟩ = wr.cell? ⟨b, o, none⟩
  fr : ∀ o, u.frozen? ⟨b, o, none⟩ = false
  touch : Touch S w u
  size : wr.heap.size ≤ u.heap.size
theorem cell_ne {w : World} {b i k : Nat} {v : Value} (h : i ≠ k) : (w.setCell ⟨b, i, none⟩ v).cell? ⟨b, k, none⟩ = w.cell? ⟨b, k, none⟩ :=
  World.cell?_setCell_other _ _ _ _ (fun e => h (congrArg Addr.off e))
theorem MSt.start {w wr : World} {S T : Nat → Prop} {b lo hi : Nat} (hf : ∀ o, wr.frozen? ⟨b, o, none⟩ = false) (ht : Touch S w wr) : MSt w wr S T b lo hi wr :=
  ⟨fun _ _ _ _ => rfl, fun _ _ => rfl, hf, ht, Nat.le_refl _⟩
theorem MSt.set {w wr u : World} {S T : Nat → Prop} {b lo hi : Nat} (h : MSt w wr S T b lo hi u) (hS : S b) (o : Nat) (h1 : lo ≤ o) (h2 : o < hi) (v : Value) : MSt w wr S T b lo hi (u.setCell ⟨b, o, none⟩ v) :=
  ⟨fun x a1 a2 a3 => (Below.heap_setCell u ⟨b, o, none⟩ v x a2).trans (h.blk x a1 a2 a3), fun q hq => (cell_ne (by omega)).trans (h.out q hq), fun q => (World.frozen?_setCell _ _ _ _).trans (h.fr q), h.touch.trans (Touch.setCell hS v), by have := h.size; simpa [World.setCell] using this⟩
theorem MSt.below {w wr u u' : World} {S T : Nat → Prop} {b lo hi : Nat} (h : MSt w wr S T b lo hi u) (hb : Below u.heap.size u u') (hbl : b < wr.heap.size) (hS : ∀ x, S x → x < w.heap.size) : MSt w wr S T b lo hi u' :=
  ⟨fun x a1 a2 a3 => (hb.block x (Nat.lt_of_lt_of_le a1 h.size)).trans (h.blk x a1 a2 a3), fun q hq => (hb.cell (p := ⟨b, q, none⟩) (Nat.lt_of_lt_of_le hbl h.size)).trans (h.out q hq), fun q => (hb.frozen (p := ⟨b, q, none⟩) (Nat.lt_of_lt_of_le hbl h.size)).trans (h.fr q),
    h.touch.trans (Below.touch hb (fun x hx => Nat.lt_of_lt_of_le (hS x hx) h.touch.size)), Nat.le_trans h.size hb.size⟩
theorem MSt.mark {w wr u u' : World} {S T T' : Nat → Prop} {b lo hi : Nat} (h : MSt w wr S T b lo hi u) (ht : Touch T' u u') (hT : ∀ x, T' x → T x) (hTS : ∀ x, T x → S x) (hTb : ¬ T b) (hbl : b < wr.heap.size) (hS : ∀ x, S x → x < w.heap.size) : MSt w wr S T b lo hi u' :=
  have hu : b < u.heap.size := Nat.lt_of_lt_of_le hbl h.size
  have hbb := ht.block b hu (fun e => hTb (hT b e))
  ⟨fun x a1 a2 a3 => (ht.block x (Nat.lt_of_lt_of_le a1 h.size) (fun e => a3 (hT x e))).trans (h.blk x a1 a2 a3), fun q hq => (World.cell?_of_block hbb).trans (h.out q hq), fun q => (World.frozen?_of_block hbb).trans (h.fr q),
    h.touch.trans (ht.mono (fun x hx => hTS x (hT x hx)) (fun x hx => Nat.lt_of_lt_of_le (hS x hx) h.touch.size)), Nat.le_trans h.size ht.size⟩
theorem MSt.blk2 {w wr u : World} {S T : Nat → Prop} {b lo hi : Nat} (h : MSt w wr S T b lo hi u) (hS : ∀ x, S x → x < w.heap.size) (hl : w.heap.size ≤ wr.heap.size) : ∀ x, S x → x ≠ b → ¬ T x → u.heap[x]? = wr.heap[x]? :=
  fun x a1 a2 a3 => h.blk x (Nat.lt_of_lt_of_le (hS x a1) hl) a2 a3
theorem Osl.set {u : World} {T : Nat → Prop} {size b o c : Nat} {A : Option Addr} {xs : List D} (h : Osl u T size A c xs) (hb : ¬ T b) (v : Value) : Osl (u.setCell ⟨b, o, none⟩ v) T size A c xs :=
  h.keep fun x hx => ⟨hx, Below.heap_setCell u ⟨b, o, none⟩ v x (fun e => hb (by subst e; exact hx))⟩
theorem Osl.belowS {u u' : World} {T : Nat → Prop} {size c : Nat} {A : Option Addr} {xs : List D} (h : Osl u T size A c xs) (hb : Below u.heap.size u u') (hT : ∀ x, T x → x < u.heap.size) : Osl u' T size A c xs :=
  h.keep fun x hx => ⟨hx, hb.block x (hT x hx)⟩
theorem Osl.touched {u u' : World} {T T' : Nat → Prop} {size c : Nat} {A : Option Addr} {xs : List D} (h : Osl u T size A c xs) (ht : Touch T' u u') (hd : ∀ x, T x → ¬ T' x) (hT : ∀ x, T x → x < u.heap.size) : Osl u' T size A c xs :=
  h.keep fun x hx => ⟨hx, ht.block x (hT x hx) (hd x hx)⟩

/-- a list that is marked, from number k on: each element by mk, cn numbers an element -/
def markL {α : Type} (mk : α → Nat → α) (cn : α → Nat) : List α → Nat → List α
  | [], _ => []
  | t :: r, k => mk t k :: markL mk cn r (k + cn t)
def cntL {α : Type} (cn : α → Nat) : List α → Nat
  | [] => 0
  | t :: r => cn t + cntL cn r
theorem markL_length {α : Type} (mk : α → Nat → α) (cn : α → Nat) : ∀ (l : List α) (k : Nat), (markL mk cn l k).length = l.length
  | [], _ => rfl
  | t :: r, k => by simp only [markL, List.length_cons, markL_length mk cn r]
theorem cntL_take_succ {α : Type} (cn : α → Nat) (l : List α) (j : Nat) (h : j < l.length) : cntL cn (l.take (j + 1)) = cntL cn (l.take j) + cn l[j] := by
  induction l generalizing j with
  | nil => simp at h
  | cons t r ih =>
    match j with
    | 0 => simp [cntL]
    | j + 1 => simp only [List.take_succ_cons, cntL, List.getElem_cons_succ]; rw [ih j (by simpa using h)]; omega
theorem markL_take_succ {α : Type} (mk : α → Nat → α) (cn : α → Nat) (l : List α) (j k : Nat) (h : j < l.length) : markL mk cn (l.take (j + 1)) k = markL mk cn (l.take j) k ++ [mk l[j] (k + cntL cn (l.take j))] := by
  induction l generalizing j k with
  | nil => simp at h
  | cons t r ih =>
    match j with
    | 0 => simp [markL, cntL]
    | j + 1 =>
      simp only [List.take_succ_cons, markL, List.getElem_cons_succ, List.cons_append, cntL]
      rw [ih j (k + cn t) (by simpa using h), Nat.add_assoc]
theorem cntL_take_le {α : Type} (cn : α → Nat) (l : List α) (j : Nat) (h : j < l.length) : cntL cn (l.take j) + cn l[j] ≤ cntL cn l := by
  induction l generalizing j with
  | nil => simp at h
  | cons t r ih =>
    match j with
    | 0 => simp [cntL]
    | j + 1 => simp only [List.take_succ_cons, cntL, List.getElem_cons_succ]; have := ih j (by simpa using h); omega
theorem markL_get {α : Type} (mk : α → Nat → α) (cn : α → Nat) (l : List α) (k j : Nat) (h : j < l.length) : (markL mk cn l k)[j]'(by rw [markL_length]; exact h) = mk l[j] (k + cntL cn (l.take j)) := by
  induction l generalizing k j with
  | nil => simp at h
  | cons t r ih =>
    match j with
    | 0 => simp [markL, cntL]
    | j + 1 =>
      simp only [markL, List.getElem_cons_succ, List.take_succ_cons, cntL]
      rw [ih (k + cn t) j (by simpa using h), Nat.add_assoc]
theorem cntL_le {α : Type} (cn f : α → Nat) (l : List α) (H : ∀ t, t ∈ l → cn t ≤ 16 * (1 + f t)) : cntL cn l ≤ 16 * bulkL f l := by
  induction l with
  | nil => simp [cntL]
  | cons t r ih =>
    simp only [cntL, bulkL]
    have := H t (by simp)
    have := ih (fun x hx => H x (by simp [hx]))
    omega
/-- the first j elements are marked -/
def markTo {α : Type} (mk : α → Nat → α) (cn : α → Nat) (l : List α) (k j : Nat) : List α := markL mk cn (l.take j) k ++ l.drop j
theorem markTo_zero {α : Type} (mk : α → Nat → α) (cn : α → Nat) (l : List α) (k : Nat) : markTo mk cn l k 0 = l := by simp [markTo, markL]
theorem markTo_all {α : Type} (mk : α → Nat → α) (cn : α → Nat) (l : List α) (k : Nat) : markTo mk cn l k l.length = markL mk cn l k := by simp [markTo]
theorem markTo_length {α : Type} (mk : α → Nat → α) (cn : α → Nat) (l : List α) (k j : Nat) (h : j ≤ l.length) : (markTo mk cn l k j).length = l.length := by
  simp only [markTo, List.length_append, markL_length, List.length_take, List.length_drop]; omega
theorem markTo_get {α : Type} (mk : α → Nat → α) (cn : α → Nat) (l : List α) (k j : Nat) (h : j < l.length) : (markTo mk cn l k j)[j]'(by rw [markTo_length mk cn l k j (by omega)]; exact h) = l[j] := by
  have e : (markL mk cn (l.take j) k).length = j := by rw [markL_length]; simp; omega
  simp only [markTo]
  rw [List.getElem_append_right (by omega)]
  simp [e]
theorem markTo_set {α : Type} (mk : α → Nat → α) (cn : α → Nat) (l : List α) (k j : Nat) (h : j < l.length) : (markTo mk cn l k j).set j (mk l[j] (k + cntL cn (l.take j))) = markTo mk cn l k (j + 1) := by
  have e : (markL mk cn (l.take j) k).length = j := by rw [markL_length]; simp; omega
  simp only [markTo]
  rw [markL_take_succ mk cn l j k h, List.set_append_right _ _ (by omega), e, Nat.sub_self, List.drop_eq_getElem_cons h, List.set_cons_zero, List.append_assoc]
  rfl

theorem wfNat (n : Nat) (h : n ≤ 9223372036854775807) : (Lit.int .i64 (n : Int)).wf = true := by
  simp [Lit.wf, IntKind.min, IntKind.max, IntKind.signed, IntKind.bits]; omega
/-- the text of a mark -/
def markT (k : Nat) : ByteArray := ⟨#[109]⟩ ++ digU k
theorem markT_size (k : Nat) (h : k ≤ 9223372036854775807) : (markT k).size ≤ 20 := by
  unfold markT
  have := digU_size19 k (by omega)
  rw [ByteArray.size_append]
  have : (⟨#[109]⟩ : ByteArray).size = 1 := rfl
  omega

theorem markText (n : Nat) (w : World) (h1 : 0 < n) (h2 : n ≤ 9223372036854775807) :
    Calls Try.prog 74 #[.int .i64 n] w fun e w' => e = .returned (.string (markT n)) ∧ Below w.heap.size w w' := by
  have hcv := fun (w : World) (x : Int) => run_string_one (P := Try.prog) w 22 9 5 x Try.underlying22 Try.underlying5 Try.underlying9
  have hz : decide ((n : Int) ≤ 0) = false := decide_eq_false (by omega)
  go_enter Try.func74, Try.ntmps74
  go_wp2
  go_loopw [0, 3] (fun t i wr => ∃ (a : Nat) (s : ByteArray), a ≤ 9223372036854775807 ∧ t = .int .i64 a ∧ i = .string s ∧ digR a s = digR n ⟨#[]⟩ ∧ Below w.heap.size w wr) (fun t _ _ => (intOf t).toNat)
  case atStart => exact ⟨n, ⟨#[]⟩, by omega, by go_num, rfl, rfl, Below.refl _ _⟩
  case round =>
    obtain ⟨a, s, ha, rfl, rfl, hd, hb⟩ := hrel
    have hs : s.size ≤ 19 := by
      have g1 := digR_size a s
      rw [hd, digR_start (by omega)] at g1
      have := digU_size19 n (by omega)
      omega
    have Hd := Lib.hid hd
    clear hd
    have hbs := hb.size
    rcases Nat.eq_zero_or_pos a with hz0 | hp
    · subst hz0
      go_wp2
      go_ret
      refine ⟨ret_str ?_, hb⟩
      have e := Hd.out
      rw [digR_zero, digR_start (by omega)] at e
      rw [e]; rfl
    · have hk1 : 0 < (a : Int) := by omega
      have hm : 0 ≤ (a : Int) % 10 ∧ (a : Int) % 10 ≤ 9 := by omega
      have Hst := Lib.hid (digR_step (a := a) (by omega) s)
      go_wp2
      go_roundw
      case rel => exact ⟨a / 10, one (48 + (a : Int) % 10) ++ s, by omega, by go_num, rfl, by rw [← Hd.out, ← Hst.out]; simp, hb.alloc hbs _⟩
      case measure => simp [intOf]; omega
theorem markTextI (x : Int) (n : Nat) (e : x = n) (w : World) (h1 : 0 < n) (h2 : n ≤ 9223372036854775807) :
    Calls Try.prog 74 #[.int .i64 x] w fun e w' => e = .returned (.string (markT n)) ∧ Below w.heap.size w w' := by
  subst e; exact markText n w h1 h2
end Go.Proofs.Ytghldoiblbcacaa

/- Slices of ints: copies, equality, marks. Conditions: none but a bound on the length. -/
namespace Go.Proofs.Ytghldoiblbcacaa
open Go.RowKit
set_option linter.unusedVariables false
set_option linter.unusedSimpArgs false
set_option maxHeartbeats 1000000

theorem int_wf {n : Int} (h : (Lit.int .i64 n).wf = true) : -9223372036854775808 ≤ n ∧ n ≤ 9223372036854775807 := by
  simpa [Lit.wf, IntKind.min, IntKind.max, IntKind.signed, IntKind.bits] using h
theorem int_elem {w : World} {S : Nat → Prop} {A : Option Addr} {c : Nat} {l : List Int} (h : Sl w S 1 A c (l.map (D.num .i64))) (i : Nat) (hi : i < l.length) :
    ∃ b off, A = some ⟨b, off, none⟩ ∧ S b ∧ w.cell? ⟨b, off + i, none⟩ = some (.int .i64 l[i]) ∧ (Lit.int .i64 l[i]).wf = true := by
  obtain ⟨b, off, cs, e, hb, hl, hc, hr⟩ := Sl.get h i (by simpa using hi)
  rw [List.getElem_map, D.rd_num] at hr
  obtain ⟨rfl, hw⟩ := hr
  exact ⟨b, off, e, hb, by simpa using hc 0 _ rfl, hw⟩

def ToIntS (l : List Int) (w : World) (e : Ending) (w' : World) : Prop := ∃ A1 c1, e = .returned (.slice A1 l.length c1) ∧ Osl w' (Btw w.heap.size w'.heap.size) 1 A1 c1 (l.map (D.num .i64)) ∧ Below w.heap.size w w'


theorem eqIntS' (l : List Int) (A B : Option Addr) (c d : Nat) (w : World) (hs : Sl w (Lt w.heap.size) 1 A c (l.map (D.num .i64))) (hs' : Sl w (Lt w.heap.size) 1 B d (l.map (D.num .i64))) :
    Calls Try.prog 70 #[.slice A l.length c, .slice B l.length d] w fun e w' => e = .returned (.bool true) ∧ Below w.heap.size w w' := by
  have hlen : l.length ≤ 9223372036854775807 := by simpa using hs.len
  have S0 := Lib.hid hs
  have S1 := Lib.hid hs'
  clear hs hs'
  go_enter Try.func70, Try.ntmps70
  go_wp2_with fail
  go_loopw [5] (fun i wr => ∃ (j : Nat), j ≤ l.length ∧ i = .int .i64 j ∧ Below w.heap.size w wr) (fun i _ => l.length - (intOf i).toNat)
  case atStart => exact ⟨0, by omega, by go_num, Below.refl _ _⟩
  case round =>
    obtain ⟨j, hj, rfl, hb⟩ := hrel
    by_cases hlt : j < l.length
    · obtain ⟨b, off, rfl, hSb, g0, _⟩ := int_elem (S0.out.below hb (Nat.le_refl _)) j hlt
      obtain ⟨b', off', rfl, hSb', g0', _⟩ := int_elem (S1.out.below hb (Nat.le_refl _)) j hlt
      go_wp2_with fail
      go_quiet (fail)
      go_wp2_with fail
      go_roundw
      case rel => exact ⟨j + 1, by omega, by go_num, ⟨hb.os, hb.tape, hb.output, hb.size, hb.block⟩⟩
      case measure => simp [intOf]; omega
    · go_wp2_with fail
      go_ret
      exact ⟨rfl, hb⟩

def mkI (_ : Int) (k : Nat) : Int := k
def cnI (_ : Int) : Nat := 1
theorem cntL_int (l : List Int) : cntL cnI l = l.length := by
  induction l with
  | nil => rfl
  | cons t r ih => simp only [cntL, cnI, ih, List.length_cons]; omega

theorem markIntS (l : List Int) (A : Option Addr) (c k : Nat) (S : Nat → Prop) (w : World) (hk : k + cntL cnI l ≤ 4611686018427387904) (hs : Osl w S 1 A c (l.map (D.num .i64))) :
    Calls Try.prog 76 #[.slice A l.length c, .int .i64 k] w fun e w' => e = .returned (.int .i64 ((k + cntL cnI l : Nat) : Int)) ∧ Osl w' S 1 A c ((markL mkI cnI l k).map (D.num .i64)) ∧ Touch S w w' := by
  have hlen : l.length ≤ 9223372036854775807 := by simpa using hs.sl.len
  rw [cntL_int] at hk ⊢
  have S0 := Lib.hid hs
  clear hs
  go_enter Try.func76, Try.ntmps76
  go_wp2_with fail
  go_loopw [1, 5] (fun v i wr => ∃ (j : Nat), j ≤ l.length ∧ i = .int .i64 j ∧ v = .int .i64 ((k + j : Nat) : Int) ∧ Hid (Osl wr S 1 A c ((markTo mkI cnI l k j).map (D.num .i64))) ∧ Hid (Touch S w wr)) (fun _ i _ => l.length - (intOf i).toNat)
  case atStart => exact ⟨0, by omega, by go_num, by go_num, Lib.hid (by rw [markTo_zero]; exact S0.out), Lib.hid (Touch.refl _ _)⟩
  case round =>
    obtain ⟨j, hj, rfl, rfl, HO, HT⟩ := hrel
    by_cases hlt : j < l.length
    · obtain ⟨b, T, cs, rfl, hSb, hTb, hf, hTS, hcl, hc, hd, hput⟩ := HO.out.focus j (by rw [List.length_map, markTo_length _ _ _ _ _ hj]; exact hlt)
      obtain ⟨v0, rfl⟩ : ∃ v, cs = [v] := by match cs, hcl with | [v], _ => exact ⟨v, rfl⟩
      have x0 : wr.cell? ⟨b, j, none⟩ = some v0 := by simpa using hc 0 _ rfl
      have HP := Lib.hid (hput (wr.setCell ⟨b, j, none⟩ (.int .i64 ((k + j : Nat) : Int))) (.num .i64 ((k + j : Nat) : Int)) [.int .i64 ((k + j : Nat) : Int)] (fun x _ hx _ => Below.heap_setCell wr ⟨b, j, none⟩ _ x hx)
        (fun q hq => World.cell?_setCell_other _ _ _ _ (fun e => by have := congrArg Addr.off e; simp at this; omega)) (fun o => (World.frozen?_setCell _ _ _ _).trans (hf o)) rfl
        (fun q v hv => by
          match q with
          | 0 =>
            have hv : (.int .i64 ((k + j : Nat) : Int)) = v := by simpa using hv
            subst hv
            rw [show j * 1 + 0 = j by omega]
            exact World.cell?_setCell_same _ _ _ x0
          | q + 1 => simp at hv)
        (D.own_num.2 ⟨rfl, by simp [Lit.wf, IntKind.min, IntKind.max, IntKind.signed, IntKind.bits]; omega⟩))
      have HT2 := Lib.hid (HT.out.trans (Touch.setCell (w := wr) (o := j) hSb (.int .i64 ((k + j : Nat) : Int))))
      clear hput hc hd hTS
      go_wp2_with fail
      go_roundw
      case rel => exact ⟨j + 1, by omega, by go_num, by go_num, Lib.hid (by have e := markTo_set mkI cnI l k j hlt; rw [cntL_int] at e; simp only [List.length_take, Nat.min_eq_left hj] at e; rw [← e, List.map_set]; exact HP.out), HT2⟩
      case measure => simp [intOf]; omega
    · have hjl : j = l.length := by omega
      have Hj := Lib.hid hjl
      clear hjl
      go_wp2_with fail
      go_ret
      exact ⟨ret_int (by rw [Hj.out]), by have := HO.out; rw [Hj.out, markTo_all] at this; exact this, HT.out⟩

theorem markIntSI (l : List Int) (A : Option Addr) (c k : Nat) (x : Int) (S : Nat → Prop) (w : World) (hx : x = k) (hk : k + cntL cnI l ≤ 4611686018427387904) (hs : Osl w S 1 A c (l.map (D.num .i64))) :
    Calls Try.prog 76 #[.slice A l.length c, .int .i64 x] w fun e w' => e = .returned (.int .i64 ((k + cntL cnI l : Nat) : Int)) ∧ Osl w' S 1 A c ((markL mkI cnI l k).map (D.num .i64)) ∧ Touch S w w' := by
  subst hx; exact markIntS l A c k S w hk hs

theorem heldIntSI (l : List Int) (A : Option Addr) (c k : Nat) (x : Int) (w : World) (hx : x = k) (hk : k + cntL cnI l ≤ 4611686018427387904) (hs : Sl w (Lt w.heap.size) 1 A c ((markL mkI cnI l k).map (D.num .i64))) :
    Calls Try.prog 78 #[.slice A l.length c, .int .i64 x] w fun e w' => e = .returned (.int .i64 ((k + cntL cnI l : Nat) : Int)) ∧ Below w.heap.size w w' := by
  subst hx
  have hlen : l.length ≤ 9223372036854775807 := by have := hs.len; simpa [markL_length] using this
  rw [cntL_int] at hk ⊢
  have S0 := Lib.hid hs
  clear hs
  go_enter Try.func78, Try.ntmps78
  go_wp2_with fail
  go_loopw [1, 5] (fun v i wr => ∃ (j : Nat), j ≤ l.length ∧ i = .int .i64 j ∧ v = .int .i64 ((k + j : Nat) : Int) ∧ Below w.heap.size w wr) (fun _ i _ => l.length - (intOf i).toNat)
  case atStart => exact ⟨0, by omega, by go_num, by go_num, Below.refl _ _⟩
  case round =>
    obtain ⟨j, hj, rfl, ev, hb⟩ := hrel
    obtain ⟨K, hK⟩ : ∃ K, K = k + j := ⟨_, rfl⟩
    rw [← hK] at ev
    subst ev
    by_cases hlt : j < l.length
    · obtain ⟨b, off, rfl, hSb, g0, _⟩ := int_elem (S0.out.below hb (Nat.le_refl _)) j (by rw [markL_length]; exact hlt)
      rw [markL_get _ _ _ _ _ hlt] at g0
      have x0 : wr.cell? ⟨b, off + j, none⟩ = some (.int .i64 (K : Int)) := by rw [g0, mkI, cntL_int, hK]; simp; omega
      have hKb : K ≤ 4611686018427387903 := by omega
      have HK := Lib.hid hK
      clear g0 hK
      go_wp2_with fail
      go_roundw
      case rel => exact ⟨j + 1, by omega, by go_num, by rw [HK.out]; go_num, hb⟩
      case measure => simp [intOf]; omega
    · have hjl : j = l.length := by omega
      have Hj := Lib.hid hjl
      have HK := Lib.hid hK
      clear hjl hK
      go_wp2_with fail
      go_ret
      exact ⟨ret_int (by rw [HK.out, Hj.out]), hb⟩
end Go.Proofs.Ytghldoiblbcacaa

/- Rows of numbers, and growing slices cut by one (no program in sight). Conditions: none. -/
namespace Go.Proofs.Ytghldoiblbcacaa
open Go.RowKit
set_option linter.unusedVariables false
set_option linter.unusedSimpArgs false

/-- the cells of a list of numbers -/
def rowI (l : List Int) : Array Value := (l.map (Value.int .i64)).toArray
theorem rowI_get {l : List Int} {k : Nat} (h : k < l.length) : (rowI l)[k]? = some (.int .i64 l[k]) := by
  unfold rowI; simp [h]
theorem rowI_set (l : List Int) (k : Nat) (d : Int) : (rowI l).setIfInBounds k (.int .i64 d) = rowI (l.set k d) := by
  unfold rowI; rw [List.map_set]; simp
theorem rowI_size (l : List Int) : (rowI l).size = l.length := by unfold rowI; simp
theorem zr_int (n : Nat) : zr (.int .i64 0) 1 n = rowI (List.replicate n 0) := by
  unfold zr rowI madeCells
  apply Array.ext
  · simp [Value.cells]
  · intro i h1 h2
    have e : i % 1 = 0 := Nat.mod_one i
    simp [Value.cells, e]
theorem wf_i64 {n : Int} (h1 : -9223372036854775808 ≤ n) (h2 : n ≤ 9223372036854775807) : (Lit.int .i64 n).wf = true := by
  simp [Lit.wf, IntKind.min, IntKind.max, IntKind.signed, IntKind.bits]; omega
theorem rowI_ownR {w : World} {b : Nat} : ∀ (l : List Int) (S : Nat → Prop) (off : Nat), (∀ x ∈ l, (Lit.int .i64 x).wf = true) → (∀ k (h : k < l.length), w.cell? ⟨b, off + k, none⟩ = some (.int .i64 l[k])) → D.ownR w 1 b (l.map (D.num .i64)) S off
  | [], _, _, _, _ => by simp only [List.map_nil, D.ownR]
  | x :: r, S, off, hw, hc => by
    simp only [List.map_cons, D.ownR]
    refine ⟨fun _ => False, S, [.int .i64 x], fun _ h => h.elim, fun _ h => h, rfl, fun j v hj => ?_, D.own_num.2 ⟨rfl, hw x (by simp)⟩, rowI_ownR r S (off + 1) (fun y hy => hw y (by simp [hy])) fun k h => ?_⟩
    · match j with
      | 0 => have := hc 0 (by simp); simp at hj; subst hj; simpa using this
      | j + 1 => simp at hj
    · have := hc (k + 1) (by simpa using h)
      rw [show off + 1 + k = off + (k + 1) by omega]
      simpa using this
theorem rowI_osl {w : World} {g B : Nat} {t : TypeId} {l : List Int} (h : Row w g t (rowI l)) (hB : B ≤ g) (hl : l.length ≤ maxLen) (hw : ∀ x ∈ l, (Lit.int .i64 x).wf = true) : Osl w (Btw B w.heap.size) 1 (some ⟨g, 0, none⟩) l.length (l.map (D.num .i64)) :=
  ⟨by simp, hl, .inr ⟨g, rfl, ⟨hB, h.lt⟩, fun o => h.frozen o, rowI_ownR l _ 0 hw fun k hk => by rw [Nat.zero_add, h.cell, rowI_get hk]⟩⟩
theorem rowI_sl {w : World} {g : Nat} {t : TypeId} {l : List Int} (h : Row w g t (rowI l)) (hl : l.length ≤ maxLen) (hw : ∀ x ∈ l, (Lit.int .i64 x).wf = true) : Sl w (Lt w.heap.size) 1 (some ⟨g, 0, none⟩) l.length (l.map (D.num .i64)) :=
  ((rowI_osl (B := 0) h (by omega) hl hw).sl).keep fun b hb => ⟨hb.2, rfl⟩

theorem rdC_len {w : World} {size : Nat} {S : Nat → Prop} : ∀ (xs : List D) (cs : List Value), rdC w size S xs cs → cs.length = xs.length * size
  | [], cs, h => by simp only [rdC] at h; simp [h]
  | d :: r, cs, h => by
    simp only [rdC] at h
    obtain ⟨c1, c2, rfl, hl, _, h2⟩ := h
    have := rdC_len r c2 h2
    rw [List.length_append, hl, this, List.length_cons, Nat.add_mul]; omega
theorem rdC_init {w : World} {size : Nat} {S : Nat → Prop} {d : D} : ∀ (xs : List D) (cs : List Value), rdC w size S (xs ++ [d]) cs → ∃ c1 c2, cs = c1 ++ c2 ∧ rdC w size S xs c1
  | [], cs, h => ⟨[], cs, rfl, rfl⟩
  | x :: r, cs, h => by
    simp only [List.cons_append, rdC] at h
    obtain ⟨c1, c2, rfl, hl, h1, h2⟩ := h
    obtain ⟨e1, e2, rfl, h3⟩ := rdC_init r c2 h2
    refine ⟨c1 ++ e1, e2, by simp, ?_⟩
    simp only [rdC]
    exact ⟨c1, e1, rfl, hl, h1, h3⟩
/-- the last element cut off -/
theorem Gsh.pop {w : World} {B : Nat} {e : TypeId} {size : Nat} {A : Option Addr} {c n : Nat} {d : D} {xs : List D} (h : Gsh w B e size (.slice A (n + 1) c) (n + 1) (xs ++ [d])) : Gsh w B e size (.slice A n c) n xs := by
  obtain ⟨h1, cs, h2, h4⟩ := h
  have hx : xs.length = n := by simpa using h1
  obtain ⟨c1, c2, rfl, h5⟩ := rdC_init xs cs h4
  have hc1 := rdC_len _ _ h5
  refine ⟨hx, c1, ⟨by rw [hc1, hx], ?_⟩, h5⟩
  rcases h2.2 with ⟨_, h⟩ | ⟨g, cap, cur, hv, a1, a2, a3, a4, a5, a6⟩
  · omega
  · simp only [Value.slice.injEq] at hv
    obtain ⟨rfl, _, rfl⟩ := hv
    refine .inr ⟨g, c, cur, rfl, a1, a2, by omega, a4, a5, ?_⟩
    have e1 : (c1 ++ c2).take (n * size) = c1 := by rw [← hx, ← hc1]; simp
    rw [← a6, List.take_take] at e1
    rwa [Nat.min_eq_left (by rw [Nat.add_mul]; omega)] at e1
/-- a slice that was just laid -/
theorem Gsh.laid {w : World} {B g : Nat} {e : TypeId} {size : Nat} {cs : Array Value} {n : Nat} {xs : List D} (hr : Row w g e cs) (hB : B ≤ g) (hx : rdC w size (Lt B) xs cs.toList) (hn : xs.length = n) (hm : n ≤ maxLen) : Gsh w B e size (.slice (some ⟨g, 0, none⟩) n n) n xs := by
  have hl := rdC_len _ _ hx
  rw [hn] at hl
  exact ⟨hn, cs.toList, ⟨hl, .inr ⟨g, n, cs, rfl, hB, hr, Nat.le_refl _, hm, by simpa using hl, by rw [← hl]; exact List.take_length⟩⟩, hx⟩
theorem rdC_int {w : World} {S : Nat → Prop} : ∀ (l : List Int), (∀ x ∈ l, (Lit.int .i64 x).wf = true) → rdC w 1 S (l.map (D.num .i64)) (l.map (Value.int .i64))
  | [], _ => rfl
  | x :: r, h => by
    simp only [List.map_cons, rdC]
    exact ⟨[.int .i64 x], r.map (Value.int .i64), rfl, rfl, D.rd_num.2 ⟨rfl, h x (by simp)⟩, rdC_int r fun y hy => h y (by simp [hy])⟩
end Go.Proofs.Ytghldoiblbcacaa

/- append of many data onto a slice of one's own; its data may lie anywhere but in its own row (no program in sight). Conditions: none. -/
namespace Go.Proofs.Ytghldoiblbcacaa
open Go.RowKit
set_option linter.unusedVariables false
set_option linter.unusedSimpArgs false

theorem run_append_many {P : Program} (w : World) (base : Nat) (t ty e : TypeId) (i : TypeInfo) (z : Value) (size bytes : Nat) (ht : P.underlying t = some (.slice e)) (hi : P.info? e = some i) (hz : i.zero = some z)
    (hsize : i.size = size) (hby : i.bytes = bytes) (hzs : z.cells.size = size) (hsz : 0 < size)
    (v : Value) (n : Nat) (xs : List Value) (hown : w.ownsRow base e size v n xs)
    (A : Option Addr) (m c : Nat) (news : List Value) (hA : A = none → m = 0) (hl : news.length = m * size) (hnews : ∀ a, A = some a → ∀ j u, news[j]? = some u → w.cell? (a.add j) = some u) (h1 : ∀ u ∈ news, u.oneCell' = true)
    (h63 : n + m ≤ maxLen) (hbytes : (n + m) * bytes ≤ 140737488355328) (hbase : base ≤ w.heap.size) :
    ∃ v' w', (Builtin.append_ #[t, t] ty #[v, .slice A m c]).run P w = .ok v' w' ∧ w'.ownsRow base e size v' (n + m) (xs ++ news) ∧ w.grownBy w' v.ownBlock ∧ (v'.ownBlock = v.ownBlock ∨ v'.ownBlock = some w.heap.size) := by
  match A with
  | some a =>
    obtain ⟨v', w', a1, a2, a3, _, a4⟩ := run_append_own_at (P := P) w base t ty e i z size bytes ht hi hz hsize hby hzs hsz v n xs hown a m c news hl (hnews a rfl) h1 h63 hbytes hbase
    exact ⟨v', w', a1, a2, a3, a4⟩
  | none =>
    have hm := hA rfl
    subst hm
    have hn : news = [] := List.eq_nil_of_length_eq_zero (by simpa using hl)
    subst hn
    subst hsize
    subst hby
    refine ⟨v, w, ?_, by simpa using hown, ⟨rfl, rfl, rfl, Nat.le_refl _, fun _ _ _ => rfl⟩, .inl rfl⟩
    rcases hown.2 with ⟨rfl, rfl⟩ | ⟨g, cap, cur, rfl, hbg, hg, hnc, hcm, hcs, htake⟩
    · simp [Builtin.append_, run_underlying ht, sizeOf, typeInfo, hi, Builtin.lenOf, Builtin.firstCells, loadCells, loadCellsFrom]
    · have hr := run_append_room_src (P := P) w t t ty e i ht hi g 0 n cap (.slice none 0 c) 0 [] (Src.ofNil w ht c) (by omega) (by simp) (by simp)
      simpa [World.setCells] using hr

mutual
/-- data's cells are one cell each -/
theorem D.rd_one {w : World} {S : Nat → Prop} : ∀ (d : D) (cs : List Value), d.rd w S cs → ∀ u ∈ cs, u.oneCell' = true
  | .num k n, cs, h, u, hu => by obtain ⟨rfl, _⟩ := D.rd_num.1 h; simp at hu; subst hu; rfl
  | .str s, cs, h, u, hu => by obtain ⟨rfl, _⟩ := D.rd_str.1 h; simp at hu; subst hu; rfl
  | .bool b, cs, h, u, hu => by obtain rfl := D.rd_bool.1 h; simp at hu; subst hu; rfl
  | .agg fs, cs, h, u, hu => D.rdF_one fs cs (D.rd_agg.1 h) u hu
  | .sl size xs, cs, h, u, hu => by obtain ⟨A, c, rfl, _⟩ := D.rd_sl.1 h; simp at hu; subst hu; rfl
theorem D.rdF_one {w : World} {S : Nat → Prop} : ∀ (fs : List D) (cs : List Value), D.rdF w S fs cs → ∀ u ∈ cs, u.oneCell' = true
  | [], cs, h, u, hu => by obtain rfl := D.rdF_nil.1 h; simp at hu
  | d :: r, cs, h, u, hu => by
    obtain ⟨c1, c2, rfl, h1, h2⟩ := D.rdF_cons.1 h
    rcases List.mem_append.1 hu with hu | hu
    · exact D.rd_one d c1 h1 u hu
    · exact D.rdF_one r c2 h2 u hu
end
theorem rdC_one {w : World} {size : Nat} {S : Nat → Prop} : ∀ (xs : List D) (cs : List Value), rdC w size S xs cs → ∀ u ∈ cs, u.oneCell' = true
  | [], cs, h, u, hu => by simp only [rdC] at h; subst h; simp at hu
  | d :: r, cs, h, u, hu => by
    simp only [rdC] at h
    obtain ⟨c1, c2, rfl, hl, h1, h2⟩ := h
    rcases List.mem_append.1 hu with hu | hu
    · exact D.rd_one d c1 h1 u hu
    · exact rdC_one r c2 h2 u hu
theorem rdC_length {w : World} {size : Nat} {S : Nat → Prop} : ∀ (xs : List D) (cs : List Value), rdC w size S xs cs → cs.length = xs.length * size
  | [], cs, h => by simp only [rdC] at h; simp [h]
  | d :: r, cs, h => by
    simp only [rdC] at h
    obtain ⟨c1, c2, rfl, hl, _, h2⟩ := h
    have := rdC_length r c2 h2
    rw [List.length_append, hl, this, List.length_cons, Nat.add_mul]; omega
theorem rdC_append {w : World} {size : Nat} {S : Nat → Prop} {ys : List D} {es : List Value} (hy : rdC w size S ys es) : ∀ (xs : List D) (cs : List Value), rdC w size S xs cs → rdC w size S (xs ++ ys) (cs ++ es)
  | [], cs, h => by simp only [rdC] at h; subst h; simpa using hy
  | d :: r, cs, h => by
    simp only [rdC, List.cons_append] at h ⊢
    obtain ⟨c1, c2, rfl, hl, h1, h2⟩ := h
    exact ⟨c1, c2 ++ es, by simp, hl, h1, rdC_append hy r c2 h2⟩
/-- the cells of a row that reads as data -/
theorem rdR_cells {w : World} {size b : Nat} {S : Nat → Prop} : ∀ (xs : List D) (off : Nat), D.rdR w S size b xs off → ∃ cs, rdC w size S xs cs ∧ ∀ j u, cs[j]? = some u → w.cell? ⟨b, off + j, none⟩ = some u
  | [], off, _ => ⟨[], rfl, fun j u h => by simp at h⟩
  | d :: r, off, h => by
    simp only [D.rdR] at h
    obtain ⟨⟨c1, hl, hc, h1⟩, h2⟩ := h
    obtain ⟨c2, k1, k2⟩ := rdR_cells r (off + size) h2
    refine ⟨c1 ++ c2, by simp only [rdC]; exact ⟨c1, c2, rfl, hl, h1, k1⟩, fun j u hj => ?_⟩
    by_cases hlt : j < c1.length
    · rw [List.getElem?_append_left hlt] at hj; exact hc j u hj
    · rw [List.getElem?_append_right (by omega)] at hj
      have := k2 (j - c1.length) u hj
      rwa [show off + size + (j - c1.length) = off + j by omega] at this

theorem rdR_take {w : World} {size b : Nat} {S : Nat → Prop} : ∀ (xs : List D) (off j : Nat), D.rdR w S size b xs off → D.rdR w S size b (xs.take j) off
  | [], _, j, h => by simpa using h
  | x :: r, off, 0, h => by simp only [List.take_zero, D.rdR]
  | x :: r, off, j + 1, h => by
    simp only [List.take_succ_cons, D.rdR] at h ⊢
    exact ⟨h.1, rdR_take r (off + size) j h.2⟩
theorem rdR_drop {w : World} {size b : Nat} {S : Nat → Prop} : ∀ (xs : List D) (off j : Nat), D.rdR w S size b xs off → D.rdR w S size b (xs.drop j) (off + j * size)
  | [], _, j, h => by simp only [List.drop_nil, D.rdR]
  | x :: r, off, 0, h => by simpa using h
  | x :: r, off, j + 1, h => by
    simp only [D.rdR] at h
    have := rdR_drop r (off + size) j h.2
    rw [List.drop_succ_cons, Nat.add_mul, Nat.one_mul, show off + (j * size + size) = off + size + j * size by omega]
    exact this
theorem Sl.take {w : World} {S : Nat → Prop} {size : Nat} {A : Option Addr} {c : Nat} {xs : List D} (h : Sl w S size A c xs) (j : Nat) : Sl w S size A c (xs.take j) := by
  obtain ⟨h1, h2, h3⟩ := h
  refine ⟨by rw [List.length_take]; omega, h2, ?_⟩
  rcases h3 with rfl | ⟨b, off, e, hS, hr⟩
  · exact .inl (by simp)
  · exact .inr ⟨b, off, e, hS, rdR_take xs off j hr⟩
theorem Sl.drop {w : World} {S : Nat → Prop} {size b off c : Nat} {xs : List D} (h : Sl w S size (some ⟨b, off, none⟩) c xs) (j : Nat) (hj : j ≤ xs.length) : Sl w S size (some ⟨b, off + j * size, none⟩) (c - j) (xs.drop j) := by
  obtain ⟨h1, h2, h3⟩ := h
  refine ⟨by rw [List.length_drop]; omega, by omega, ?_⟩
  rcases h3 with rfl | ⟨b', off', e, hS, hr⟩
  · exact .inl (by simp)
  · obtain ⟨rfl, rfl⟩ : b = b' ∧ off = off' := by simpa using e
    exact .inr ⟨b, off + j * size, rfl, hS, rdR_drop xs off j hr⟩

/-- a slice that grows: nil, or a row of one's own from block B on; its data lie anywhere but in that row -/
def Gre (w : World) (B : Nat) (e : TypeId) (size : Nat) (v : Value) (n : Nat) (xs : List D) : Prop :=
  xs.length = n ∧ ∃ cs, w.ownsRow B e size v n cs ∧ rdC w size (fun b => b < w.heap.size ∧ v.ownBlock ≠ some b) xs cs
theorem Gre.nil (w : World) (B : Nat) (e : TypeId) (size : Nat) : Gre w B e size (.slice none 0 0) 0 [] := ⟨rfl, [], World.ownsRow_nil w B e size, rfl⟩
theorem Gre.made {w : World} {B g : Nat} {e : TypeId} {size : Nat} (hr : Row w g e #[]) (hB : B ≤ g) : Gre w B e size (.slice (some ⟨g, 0, none⟩) 0 0) 0 [] :=
  ⟨rfl, [], ⟨by simp, .inr ⟨g, 0, #[], rfl, hB, hr, Nat.le_refl _, by unfold maxLen; omega, by simp, by simp⟩⟩, rfl⟩
theorem Gre.of_gsh {w : World} {B : Nat} {e : TypeId} {size : Nat} {v : Value} {n : Nat} {xs : List D} (h : Gsh w B e size v n xs) (hB : B ≤ w.heap.size) : Gre w B e size v n xs := by
  have ho := h.own
  obtain ⟨h1, cs, h2, h4⟩ := h
  refine ⟨h1, cs, h2, rdC_keep (fun b hb => ⟨⟨Nat.lt_of_lt_of_le hb hB, fun e => ?_⟩, rfl⟩) xs cs h4⟩
  have := (ho b e).1
  have : b < B := hb
  omega
theorem Gre.own {w : World} {B : Nat} {e : TypeId} {size : Nat} {v : Value} {n : Nat} {xs : List D} (h : Gre w B e size v n xs) : ∀ g, v.ownBlock = some g → B ≤ g ∧ g < w.heap.size := by
  obtain ⟨h1, cs, h2, h4⟩ := h
  exact fun g hg => h2.lt g hg
theorem Gre.form {w : World} {B : Nat} {e : TypeId} {size : Nat} {v : Value} {n : Nat} {xs : List D} (h : Gre w B e size v n xs) : ∃ A c, v = .slice A n c := by
  obtain ⟨h1, cs, h2, h4⟩ := h
  rcases h2.2 with ⟨rfl, h0⟩ | ⟨g, cap, cur, rfl, _⟩
  · exact ⟨none, 0, by rw [h0]⟩
  · exact ⟨_, cap, rfl⟩
/-- what reads as data anywhere but in a row is kept where that row and new blocks alone turn -/
theorem Gre.keep {w w' : World} {B : Nat} {e : TypeId} {size : Nat} {v : Value} {n : Nat} {xs : List D} (h : Gre w B e size v n xs) (hs : w.heap.size ≤ w'.heap.size) (hk : ∀ b, b < w.heap.size → w'.heap[b]? = w.heap[b]?) : Gre w' B e size v n xs := by
  have ho := h.own
  obtain ⟨h1, cs, h2, h4⟩ := h
  refine ⟨h1, cs, ⟨h2.1, ?_⟩, rdC_keep (fun b hb => ⟨⟨Nat.lt_of_lt_of_le hb.1 hs, hb.2⟩, hk b hb.1⟩) xs cs h4⟩
  rcases h2.2 with h | ⟨g, cap, cur, rfl, a1, a2, a3⟩
  · exact .inl h
  · exact .inr ⟨g, cap, cur, rfl, a1, (hk g (ho g rfl).2).trans a2, a3⟩
theorem Gre.below {w w' : World} {B : Nat} {e : TypeId} {size : Nat} {v : Value} {n : Nat} {xs : List D} (h : Gre w B e size v n xs) (hb : Below w.heap.size w w') : Gre w' B e size v n xs := h.keep hb.size hb.block
theorem Gre.sl {w : World} {B : Nat} {e : TypeId} {size : Nat} {v : Value} {n : Nat} {xs : List D} (h : Gre w B e size v n xs) : ∃ A c, v = .slice A n c ∧ Sl w (Lt w.heap.size) size A c xs := by
  have hlt := h.own
  obtain ⟨h1, cs, h2, h4⟩ := h
  rcases h2.2 with ⟨rfl, h⟩ | ⟨g, cap, cur, rfl, a1, a2, a3, a4, a5, a6⟩
  · have : xs = [] := List.eq_nil_of_length_eq_zero (by omega)
    subst this
    exact ⟨none, 0, by rw [h], Sl.nil (by unfold maxLen; omega)⟩
  · refine ⟨_, cap, rfl, by omega, a4, .inr ⟨g, 0, rfl, (hlt g rfl).2, ?_⟩⟩
    refine rdC_row xs cs 0 (fun j v hj => ?_) (rdC_keep (fun b hb => ⟨hb.1, rfl⟩) xs cs h4)
    rw [Nat.zero_add, Row.cell (t := e) (cs := cur) a2]
    rw [← a6, List.getElem?_take] at hj
    split at hj
    · simpa using hj
    · cases hj

/-- the step itself -/
theorem Gre.step {P : Program} (w : World) (t ty e : TypeId) (z : Value) (size bytes : Nat) (ht : P.underlying t = some (.slice e)) (hi : (P.info? e).map (fun i => (i.zero, i.size, i.bytes)) = some (some z, size, bytes)) (hzs : z.cells.size = size) (hsz : 0 < size)
    (B : Nat) (v : Value) (n : Nat) (xs : List D) (hg : Gre w B e size v n xs) (A : Option Addr) (c m : Nat) (ys : List D) (hm : ys.length = m) (hy : Sl w (fun b => b < w.heap.size ∧ v.ownBlock ≠ some b) size A c ys) (hB : B ≤ w.heap.size)
    (hn : n + m ≤ maxLen) (hbt : (n + m) * bytes ≤ 140737488355328) :
    ∃ A' c' w', (Builtin.append_ #[t, t] ty #[v, .slice A m c]).run P w = .ok (.slice A' (n + m) c') w' ∧ Gre w' B e size (.slice A' (n + m) c') (n + m) (xs ++ ys) ∧ Gr w w' v (.slice A' (n + m) c') := by
  obtain ⟨i, i1, i2, i3, i4⟩ := info_parts hi
  have ho := hg.own
  obtain ⟨hxs, cells, g2, g4⟩ := id hg
  obtain ⟨es, k1, k2, k3⟩ : ∃ es, rdC w size (fun b => b < w.heap.size ∧ v.ownBlock ≠ some b) ys es ∧ (A = none → m = 0) ∧ ∀ a, A = some a → ∀ j u, es[j]? = some u → w.cell? (a.add j) = some u := by
    rcases hy.2.2 with rfl | ⟨b, off, rfl, hS, hr⟩
    · exact ⟨[], rfl, fun _ => by simpa using hm.symm, fun _ _ j u h => by simp at h⟩
    · obtain ⟨es, h1, h2⟩ := rdR_cells ys off hr
      refine ⟨es, h1, fun h => by simp at h, fun a ha j u hj => ?_⟩
      obtain rfl : ⟨b, off, none⟩ = a := by simpa using ha
      have hadd : (⟨b, off, none⟩ : Addr).add j = ⟨b, off + j, none⟩ := by unfold Addr.add; split <;> simp_all
      rw [hadd]; exact h2 j u hj
  obtain ⟨v', w', hr, hown, hgr, hat⟩ := run_append_many (P := P) w B t ty e i z size bytes ht i1 i2 i3 i4 hzs hsz v n cells g2 A m c es k2 (by rw [rdC_length _ _ k1, hm]) k3 (rdC_one _ _ k1) hn hbt hB
  have hfm : ∃ A' c', v' = .slice A' (n + m) c' := by
    rcases hown.2 with ⟨rfl, h0⟩ | ⟨g, cap, cur, rfl, _⟩
    · exact ⟨none, 0, by rw [h0]⟩
    · exact ⟨_, cap, rfl⟩
  obtain ⟨A', c', rfl⟩ := hfm
  have hG : Gr w w' v (.slice A' (n + m) c') := ⟨hgr, hat.imp id fun h => ⟨_, h, Nat.le_refl _⟩⟩
  refine ⟨A', c', w', hr, ⟨by simp [hxs, hm], cells ++ es, hown, rdC_keep (fun b hb => ⟨⟨Nat.lt_of_lt_of_le hb.1 hgr.size, hG.ne hb.2 hb.1⟩, hgr.block b hb.1 fun e => hb.2 e.symm⟩) _ _ (rdC_append k1 _ _ g4)⟩, hG⟩

theorem wp_append_M {P : Program} {o : Oper} {a : Act} {K : Act → World → Prop} {Q : Exit → Act → World → Prop} (w : World) (s x : Operand) (t : TypeId) (ho : o.op = .call { callee := .builtin .append, args := #[s, x], argTypes := #[t, t] })
    (e : TypeId) (z : Value) (size bytes : Nat) (ht : P.underlying t = some (.slice e)) (hi : (P.info? e).map (fun i => (i.zero, i.size, i.bytes)) = some (some z, size, bytes)) (hzs : z.cells.size = size) (hsz : 0 < size)
    (B : Nat) (v : Value) (n : Nat) (xs : List D) (hg : Gre w B e size v n xs) (A : Option Addr) (c m : Nat) (ys : List D) (hm : ys.length = m) (hy : Sl w (fun b => b < w.heap.size ∧ v.ownBlock ≠ some b) size A c ys) (hB : B ≤ w.heap.size)
    (hn : n + m ≤ maxLen) (hbt : (n + m) * bytes ≤ 140737488355328) (hs : a.eval s = v) (hx : a.eval x = .slice A m c)
    (h : ∀ A' c' w', Gre w' B e size (.slice A' (n + m) c') (n + m) (xs ++ ys) → Gr w w' v (.slice A' (n + m) c') → K (a.put o.dst (.slice A' (n + m) c')) w') : o.wp P a w K Q := by
  obtain ⟨A', c', w', hr, h2, h3⟩ := Gre.step (P := P) w t o.type e z size bytes ht hi hzs hsz B v n xs hg A c m ys hm hy hB hn hbt
  unfold Oper.wp execOp
  simp only [ho, resolve, invoke, builtin, Sem.run_bind, Sem.run_pure, Result.andThen_ok, List.map_toArray, List.map_cons, List.map_nil, hs, hx, hr]
  exact h A' c' w' h2 h3
theorem wpList_append_M {P : Program} {ops : Array Oper} {rest : List Oper} {o : Oper} {a : Act} {Q : Exit → Act → World → Prop} (w : World) (hgd : o.guard = none) (s x : Operand) (t : TypeId) (ho : o.op = .call { callee := .builtin .append, args := #[s, x], argTypes := #[t, t] })
    (e : TypeId) (z : Value) (size bytes : Nat) (ht : P.underlying t = some (.slice e)) (hi : (P.info? e).map (fun i => (i.zero, i.size, i.bytes)) = some (some z, size, bytes)) (hzs : z.cells.size = size) (hsz : 0 < size)
    (B : Nat) (v : Value) (n : Nat) (xs : List D) (hg : Gre w B e size v n xs) (A : Option Addr) (c m : Nat) (ys : List D) (hm : ys.length = m) (hy : Sl w (fun b => b < w.heap.size ∧ v.ownBlock ≠ some b) size A c ys) (hB : B ≤ w.heap.size)
    (hn : n + m ≤ maxLen) (hbt : (n + m) * bytes ≤ 140737488355328) (hs : a.eval s = v) (hx : a.eval x = .slice A m c)
    (h : ∀ A' c' w', Gre w' B e size (.slice A' (n + m) c') (n + m) (xs ++ ys) → Gr w w' v (.slice A' (n + m) c') → wpList P ops Q rest (a.put o.dst (.slice A' (n + m) c')) w') : wpList P ops Q (o :: rest) a w :=
  wpList_plain hgd fun _ hK => wp_append_M w s x t ho e z size bytes ht hi hzs hsz B v n xs hg A c m ys hm hy hB hn hbt hs hx fun A' c' w' h2 h3 => hK _ _ (h A' c' w' h2 h3)
theorem step_append_M {P : Program} {ops : Array Oper} {o : Oper} {a : Act} {K : Act → World → Prop} {Q : Exit → Act → World → Prop} {E : Prop} (w : World) (hgd : o.guard = none) (s x : Operand) (t : TypeId) (ho : o.op = .call { callee := .builtin .append, args := #[s, x], argTypes := #[t, t] })
    (e : TypeId) (z : Value) (size bytes : Nat) (ht : P.underlying t = some (.slice e)) (hi : (P.info? e).map (fun i => (i.zero, i.size, i.bytes)) = some (some z, size, bytes)) (hzs : z.cells.size = size) (hsz : 0 < size)
    (B : Nat) (v : Value) (n : Nat) (xs : List D) (hg : Gre w B e size v n xs) (A : Option Addr) (c m : Nat) (ys : List D) (hm : ys.length = m) (hy : Sl w (fun b => b < w.heap.size ∧ v.ownBlock ≠ some b) size A c ys) (hB : B ≤ w.heap.size)
    (hn : n + m ≤ maxLen) (hbt : (n + m) * bytes ≤ 140737488355328) (hs : a.eval s = v) (hx : a.eval x = .slice A m c)
    (h : ∀ A' c' w', Gre w' B e size (.slice A' (n + m) c') (n + m) (xs ++ ys) → Gr w w' v (.slice A' (n + m) c') → K (a.put o.dst (.slice A' (n + m) c')) w') : if Region.wanted o (yielded ops a.tmps) = true then Oper.wp P o a w K Q else E := by
  have hw : Region.wanted o (yielded ops a.tmps) = true := by simp [Region.wanted, hgd]
  rw [if_pos hw]
  exact wp_append_M w s x t ho e z size bytes ht hi hzs hsz B v n xs hg A c m ys hm hy hB hn hbt hs hx h
end Go.Proofs.Ytghldoiblbcacaa

/- The vars of a type: as they are met, and ascending. Conditions: none but a bound on the sizes. -/
namespace Go.Proofs.Ytghldoiblbcacaa
open Go.RowKit
set_option linter.unusedVariables false
set_option linter.unusedSimpArgs false
set_option maxHeartbeats 2000000

/-- a number put into an ascending list, once -/
def ins (n : Int) : List Int → List Int
  | [] => [n]
  | x :: r => if x < n then x :: ins n r else if x = n then x :: r else n :: x :: r
theorem ins_at {n : Int} : ∀ {l : List Int} {j : Nat}, j ≤ l.length → (∀ k (h : k < l.length), k < j → l[k] < n) → ins n l = l.take j ++ ins n (l.drop j)
  | l, 0, _, _ => by simp
  | [], j + 1, h, _ => by simp at h
  | x :: r, j + 1, h, hk => by
    have h0 := hk 0 (by simp) (by omega)
    simp only [List.getElem_cons_zero] at h0
    have ih := ins_at (n := n) (l := r) (j := j) (by simpa using h) (fun k h1 h2 => by have := hk (k + 1) (by simpa using h1) (by omega); simpa using this)
    simp only [ins, if_pos h0, List.take_succ_cons, List.drop_succ_cons, List.cons_append, ih]
theorem ins_here {n : Int} {l : List Int} {j : Nat} (hj : j < l.length) (hk : ∀ k (h : k < l.length), k < j → l[k] < n) (e : l[j] = n) : ins n l = l := by
  rw [ins_at (j := j) (by omega) hk, List.drop_eq_getElem_cons hj, ins, if_neg (by omega), if_pos e, ← List.drop_eq_getElem_cons hj, List.take_append_drop]
theorem ins_new {n : Int} {l : List Int} {j : Nat} (hj : j ≤ l.length) (hk : ∀ k (h : k < l.length), k < j → l[k] < n) (e : ∀ h : j < l.length, n < l[j]) : ins n l = l.take j ++ n :: l.drop j := by
  rw [ins_at hj hk]
  congr 1
  by_cases h : j < l.length
  · have := e h
    rw [List.drop_eq_getElem_cons h, ins, if_neg (by omega), if_neg (by omega)]
  · rw [List.drop_of_length_le (by omega)]; rfl
theorem ins_len (n : Int) : ∀ l : List Int, (ins n l).length ≤ l.length + 1
  | [] => by simp [ins]
  | x :: r => by have := ins_len n r; simp only [ins]; split; simp; omega; split <;> simp
theorem ins_mem {n a : Int} : ∀ {l : List Int}, a ∈ ins n l ↔ a ∈ l ∨ a = n
  | [] => by simp [ins]
  | x :: r => by
    simp only [ins]
    split
    · simp only [List.mem_cons, ins_mem (l := r), or_assoc]
    · split
      · rename_i h; subst h; simp only [List.mem_cons]; constructor
        · exact .inl
        · rintro (h | rfl); exact h; exact .inl rfl
      · simp only [List.mem_cons]; constructor
        · rintro (h | h); exact .inr h; exact .inl h
        · rintro (h | h); exact .inr h; exact .inl h
theorem ins_asc {n : Int} : ∀ {l : List Int}, l.Pairwise (· < ·) → (ins n l).Pairwise (· < ·)
  | [], _ => by simp [ins]
  | x :: r, h => by
    rw [List.pairwise_cons] at h
    simp only [ins]
    split
    · rename_i h1
      rw [List.pairwise_cons]
      refine ⟨fun a ha => ?_, ins_asc h.2⟩
      rcases ins_mem.1 ha with h2 | rfl
      · exact h.1 a h2
      · exact h1
    · split
      · rw [List.pairwise_cons]; exact h
      · rename_i h1 h2
        rw [List.pairwise_cons]
        refine ⟨fun a ha => ?_, List.pairwise_cons.2 h⟩
        rcases List.mem_cons.1 ha with rfl | ha
        · omega
        · have := h.1 a ha; omega

mutual
/-- the vars of a type, ascending, put into a list -/
def GTy.vs : GTy → List Int → List Int | .mk op n s kids, xs => GTy.vsL kids (if op = 2 then ins n xs else xs)
def GTy.vsL : List GTy → List Int → List Int | [], xs => xs | t :: r, xs => GTy.vsL r (t.vs xs)
end
mutual
/-- the vars of a type as they are met, behind a list -/
def GTy.vi : GTy → List Int → List Int | .mk op n s kids, xs => GTy.viL kids (if op = 2 ∧ xs.any (fun x => x == n) = false then xs ++ [n] else xs)
def GTy.viL : List GTy → List Int → List Int | [], xs => xs | t :: r, xs => GTy.viL r (t.vi xs)
end
theorem GTy.vs_eq (t : GTy) (xs : List Int) : t.vs xs = GTy.vsL t.kids (if t.op = 2 then ins t.n xs else xs) := by cases t; rw [GTy.vs]; rfl
theorem GTy.vi_eq (t : GTy) (xs : List Int) : t.vi xs = GTy.viL t.kids (if t.op = 2 ∧ xs.any (fun x => x == t.n) = false then xs ++ [t.n] else xs) := by cases t; rw [GTy.vi]; rfl
theorem GTy.vsL_snoc (t : GTy) : ∀ (l : List GTy) (xs : List Int), GTy.vsL (l ++ [t]) xs = t.vs (GTy.vsL l xs)
  | [], xs => by simp [GTy.vsL]
  | x :: r, xs => by simp only [List.cons_append, GTy.vsL, GTy.vsL_snoc t r]
theorem GTy.viL_snoc (t : GTy) : ∀ (l : List GTy) (xs : List Int), GTy.viL (l ++ [t]) xs = t.vi (GTy.viL l xs)
  | [], xs => by simp [GTy.viL]
  | x :: r, xs => by simp only [List.cons_append, GTy.viL, GTy.viL_snoc t r]
theorem GTy.vsL_take {l : List GTy} {j : Nat} (h : j < l.length) (xs : List Int) : GTy.vsL (l.take (j + 1)) xs = (l[j]).vs (GTy.vsL (l.take j) xs) := by rw [take_snoc' l j h, GTy.vsL_snoc]
theorem GTy.viL_take {l : List GTy} {j : Nat} (h : j < l.length) (xs : List Int) : GTy.viL (l.take (j + 1)) xs = (l[j]).vi (GTy.viL (l.take j) xs) := by rw [take_snoc' l j h, GTy.viL_snoc]
mutual
theorem GTy.vs_len : ∀ (t : GTy) (xs : List Int), (t.vs xs).length ≤ xs.length + 1 + t.bulk
  | .mk op n s kids, xs => by
    rw [GTy.vs]
    have h := GTy.vsL_len kids (if op = 2 then ins n xs else xs)
    have h1 : (if op = 2 then ins n xs else xs).length ≤ xs.length + 1 := by split; exact ins_len n xs; omega
    have h2 := (GTy.mk op n s kids).bulk_eq
    simp only [GTy.kids] at h2
    omega
theorem GTy.vsL_len : ∀ (l : List GTy) (xs : List Int), (GTy.vsL l xs).length ≤ xs.length + bulkL GTy.bulk l
  | [], xs => by simp [GTy.vsL, bulkL]
  | t :: r, xs => by
    rw [GTy.vsL]
    have h1 := GTy.vs_len t xs
    have h2 := GTy.vsL_len r (t.vs xs)
    simp only [bulkL]; omega
end
mutual
theorem GTy.vi_len : ∀ (t : GTy) (xs : List Int), (t.vi xs).length ≤ xs.length + 1 + t.bulk
  | .mk op n s kids, xs => by
    rw [GTy.vi]
    have h := GTy.viL_len kids (if op = 2 ∧ xs.any (fun x => x == n) = false then xs ++ [n] else xs)
    have h1 : (if op = 2 ∧ xs.any (fun x => x == n) = false then xs ++ [n] else xs).length ≤ xs.length + 1 := by split <;> simp
    have h2 := (GTy.mk op n s kids).bulk_eq
    simp only [GTy.kids] at h2
    omega
theorem GTy.viL_len : ∀ (l : List GTy) (xs : List Int), (GTy.viL l xs).length ≤ xs.length + bulkL GTy.bulk l
  | [], xs => by simp [GTy.viL, bulkL]
  | t :: r, xs => by
    rw [GTy.viL]
    have h1 := GTy.vi_len t xs
    have h2 := GTy.viL_len r (t.vi xs)
    simp only [bulkL]; omega
end
/-- the one list ascends, the other holds each once; both hold the same -/
def SameAs (xs ys : List Int) : Prop := xs.Pairwise (· < ·) ∧ ys.Nodup ∧ ∀ a, a ∈ xs ↔ a ∈ ys
mutual
theorem GTy.same : ∀ (t : GTy) (xs ys : List Int), SameAs xs ys → SameAs (t.vs xs) (t.vi ys)
  | .mk op n s kids, xs, ys, h => by
    rw [GTy.vs, GTy.vi]
    refine GTy.sameL kids _ _ ?_
    by_cases ho : op = 2
    · rw [if_pos ho]
      by_cases ha : ys.any (fun x => x == n) = false
      · rw [if_pos ⟨ho, ha⟩]
        have hn : ¬ n ∈ ys := fun hm => by
          have := List.any_eq_false.1 ha n hm; simp at this
        refine ⟨ins_asc h.1, ?_, fun a => ?_⟩
        · rw [List.nodup_append]; exact ⟨h.2.1, by simp, fun a h3 b hb e => by simp at hb; subst hb; subst e; exact hn h3⟩
        · rw [ins_mem, h.2.2]; simp
      · rw [if_neg (fun e => ha e.2)]
        have hm : n ∈ ys := by
          have : ys.any (fun x => x == n) = true := by simpa using ha
          obtain ⟨x, hx, e⟩ := List.any_eq_true.1 this
          obtain rfl : x = n := by simpa using e
          exact hx
        refine ⟨ins_asc h.1, h.2.1, fun a => ?_⟩
        rw [ins_mem, h.2.2]
        constructor
        · rintro (h1 | rfl); exact h1; exact hm
        · exact .inl
    · rw [if_neg ho, if_neg (fun e => ho e.1)]; exact h
theorem GTy.sameL : ∀ (l : List GTy) (xs ys : List Int), SameAs xs ys → SameAs (GTy.vsL l xs) (GTy.viL l ys)
  | [], xs, ys, h => h
  | t :: r, xs, ys, h => by rw [GTy.vsL, GTy.viL]; exact GTy.sameL r _ _ (GTy.same t xs ys h)
end
theorem asc_one : ∀ {xs ys : List Int}, xs.Pairwise (· < ·) → ys.Pairwise (· < ·) → (∀ a, a ∈ xs ↔ a ∈ ys) → xs = ys
  | [], [], _, _, _ => rfl
  | [], y :: r, _, _, h => by have := (h y).2 (by simp); simp at this
  | x :: r, [], _, _, h => by have := (h x).1 (by simp); simp at this
  | x :: r, y :: q, hx, hy, h => by
    rw [List.pairwise_cons] at hx hy
    have e : x = y := by
      rcases List.mem_cons.1 ((h x).1 (by simp)) with e | e
      · exact e
      · rcases List.mem_cons.1 ((h y).2 (by simp)) with e2 | e2
        · exact e2.symm
        · have := hx.1 y e2; have := hy.1 x e; omega
    subst e
    congr 1
    refine asc_one hx.2 hy.2 fun a => ?_
    constructor
    · intro ha
      rcases List.mem_cons.1 ((h a).1 (by simp [ha])) with e | e
      · subst e; have := hx.1 _ ha; omega
      · exact e
    · intro ha
      rcases List.mem_cons.1 ((h a).2 (by simp [ha])) with e | e
      · subst e; have := hy.1 _ ha; omega
      · exact e
/-- sorted, they are the ascending ones -/
theorem SameAs.sorted {xs ys : List Int} (h : SameAs xs ys) : (ys.mergeSort fun x y => decide (x ≤ y)) = xs := by
  have hp := List.mergeSort_perm ys (fun x y => decide (x ≤ y))
  refine asc_one ?_ h.1 fun a => by rw [hp.mem_iff]; exact (h.2.2 a).symm
  have hs := List.pairwise_mergeSort (le := fun (x y : Int) => decide (x ≤ y)) (fun a b c h1 h2 => by simp at *; omega) (fun a b => by simp; omega) ys
  have hn : (ys.mergeSort fun x y => decide (x ≤ y)).Nodup := hp.nodup_iff.2 h.2.1
  have hand := List.Pairwise.and hs hn
  exact hand.imp fun h => by obtain ⟨a, b⟩ := h; simp at a; omega

/-- a list of one's own that a call hands back -/
def VTo (B : Nat) (xs : List Int) (w : World) (e : Ending) (w' : World) : Prop := ∃ A c, e = .returned (.slice A xs.length c) ∧ Gre w' B 3 1 (.slice A xs.length c) xs.length (xs.map (D.num .i64)) ∧ Below w.heap.size w w'
set_option maxRecDepth 20000 in
theorem specInsert (B : Nat) (xs : List Int) (A : Option Addr) (c : Nat) (n : Int) (w : World) (hn : (Lit.int .i64 n).wf = true) (hl : xs.length ≤ 4194304) (hB : B ≤ w.heap.size) (hG : Gre w B 3 1 (.slice A xs.length c) xs.length (xs.map (D.num .i64))) :
    Calls Try.prog 95 #[.slice A xs.length c, .int .i64 n] w (VTo B (ins n xs) w) := by
  have HG := Lib.hid hG
  have HS := Lib.hid (show Sl w (Lt w.heap.size) 1 A c (xs.map (D.num .i64)) from by obtain ⟨A', c', e', h⟩ := hG.sl; obtain ⟨rfl, rfl⟩ : A = A' ∧ c = c' := (by simpa using e'); exact h)
  have HW := Lib.hid hn
  have hcx : xs.length ≤ c := by have := HS.out.1; simpa using this
  have hcm := HS.out.2.1
  have hcm2 : c ≤ 9223372036854775807 := by unfold maxLen at hcm; omega
  clear hG hn
  go_enter Try.func95, Try.ntmps95
  go_wp2_with fail
  go_loop [5] (fun i => ∃ (j : Nat), j ≤ xs.length ∧ i = .int .i64 j ∧ Hid (∀ k (h : k < xs.length), k < j → xs[k] < n)) (fun i => xs.length - (intOf i).toNat)
  case atStart => exact ⟨0, by omega, by go_num, Lib.hid (fun k h h2 => by omega)⟩
  case round =>
    obtain ⟨j, hj, rfl, HK⟩ := hrel
    by_cases hlt : j < xs.length
    · obtain ⟨b, off, rfl, hSb, g0, gw⟩ := int_elem HS.out j hlt
      by_cases h1 : xs[j] < n
      · have e1 : decide (xs[j] < n) = true := decide_eq_true h1
        have HK2 := Lib.hid (show ∀ k (h : k < xs.length), k < j + 1 → xs[k] < n from fun k h hk => by
          rcases Nat.lt_or_ge k j with h2 | h2
          · exact HK.out k h h2
          · obtain rfl : k = j := by omega
            exact h1)
        clear h1
        go_wp2_with fail
        go_round
        case rel => exact ⟨j + 1, by omega, by go_num, HK2⟩
        case measure => simp [intOf]; omega
      · have e1 : decide (xs[j] < n) = false := decide_eq_false h1
        by_cases h2 : xs[j] = n
        · have e2 : (xs[j] == n) = true := by rw [beq_iff_eq]; exact h2
          have HV := Lib.hid (ins_here hlt HK.out h2)
          clear h1 h2
          go_wp2_with fail
          go_ret
          rw [HV.out]
          exact ⟨_, _, rfl, HG.out, Below.refl _ _⟩
        · have e2 : (xs[j] == n) = false := by rw [beq_eq_false_iff_ne]; exact h2
          have HV := Lib.hid (ins_new hj HK.out (fun _ => by omega))
          have hg : some (⟨b, off, none⟩ : Addr) = some ⟨b, off, none⟩ := rfl
          clear h1 h2
          have E1 := Lib.hid (show Below w.heap.size w (w.alloc (.cells #[] 3)) from (Below.refl _ _).alloc (Nat.le_refl _) _)
          have G1 := Lib.hid (show Gre (w.alloc (.cells #[] 3)) B 3 1 (.slice (some ⟨w.heap.size, 0, none⟩) 0 0) 0 [] from Gre.made (Row.new' _ _ _ rfl) hB)
          have T1 := Lib.hid (show Sl (w.alloc (.cells #[] 3)) (fun b => b < (w.alloc (.cells #[] 3)).heap.size ∧ (Value.slice (some ⟨w.heap.size, 0, none⟩) 0 0).ownBlock ≠ some b) 1 (some ⟨b, off, none⟩) c ((xs.take j).map (D.num .i64)) from by
            rw [List.map_take]
            exact (HS.out.take j).keep fun q hq => ⟨⟨Nat.lt_of_lt_of_le hq E1.out.size, fun e => by simp [Value.ownBlock] at e; have h2 : q < w.heap.size := hq; omega⟩, E1.out.block q hq⟩)
          have hB1 : B ≤ (w.alloc (.cells #[] 3)).heap.size := Nat.le_trans hB E1.out.size
          have hlj : (xs.take j).length = j := by rw [List.length_take]; omega
          go_wp2_with (first
            | (at_builtin; refine wpList_append_M (w.alloc (.cells #[] 3)) rfl (.tmp 34) (.tmp 37) 42 rfl 3 (.int .i64 0) 1 8 Try.underlying42 (by kernel_rfl) rfl (by omega) B (.slice (some ⟨w.heap.size, 0, none⟩) 0 0) 0 [] G1.out (some ⟨b, off, none⟩) c j _ (by rw [List.length_map]; exact hlj) T1.out hB1 (by unfold maxLen; omega) (by omega) rfl rfl ?_
               intro A3 c3 w3 G3 hGr3
               rw [Nat.zero_add] at G3 hGr3
               have E3 := Lib.hid (show Below w.heap.size w w3 from E1.out.trans (hGr3.below E1.out.size (fun gg hg => by simp [Value.ownBlock] at hg; omega)))
               have O3 := Lib.hid (show ∀ gg, (Value.slice A3 j c3).ownBlock = some gg → w.heap.size ≤ gg from fun gg hg => by
                 rcases hGr3.own with h | ⟨g2, h, h2⟩
                 · rw [h] at hg; simp [Value.ownBlock] at hg; omega
                 · rw [h] at hg; cases hg; exact Nat.le_trans E1.out.size h2)
               have G3h := Lib.hid (show Gre w3 B 3 1 (.slice A3 j c3) j ((xs.take j).map (D.num .i64)) from G3)
               have hs3 := E3.out.size
               have EA := Lib.hid (show Below w3.heap.size w3 (w3.alloc (.cells #[.int .i64 n] 3)) from (Below.refl _ _).alloc (Nat.le_refl _) _)
               have GA := Lib.hid (G3h.out.below EA.out)
               have TA := Lib.hid (show Sl (w3.alloc (.cells #[.int .i64 n] 3)) (fun b => b < (w3.alloc (.cells #[.int .i64 n] 3)).heap.size ∧ (Value.slice A3 j c3).ownBlock ≠ some b) 1 (some ⟨w3.heap.size, 0, none⟩) 1 ([n].map (D.num .i64)) from
                 (rowI_osl (B := w3.heap.size) (Row.new' w3 3 (rowI [n]) rfl) (Nat.le_refl _) (by simp [maxLen]) (by intro x hx; simp at hx; rw [hx]; exact HW.out)).sl.keep fun b hb => ⟨⟨hb.2, fun e => by have := (G3h.out.own b e).2; have := hb.1; omega⟩, rfl⟩)
               have hBA : B ≤ (w3.alloc (.cells #[.int .i64 n] 3)).heap.size := Nat.le_trans hB (Nat.le_trans hs3 EA.out.size)
               clear G3 hGr3)
            | (at_builtin; refine wpList_append_M (w3.alloc (.cells #[.int .i64 n] 3)) rfl (.tmp 39) (.tmp 41) 42 rfl 3 (.int .i64 0) 1 8 Try.underlying42 (by kernel_rfl) rfl (by omega) B (.slice A3 j c3) j _ GA.out (some ⟨w3.heap.size, 0, none⟩) 1 1 _ rfl TA.out hBA (by unfold maxLen; omega) (by omega) rfl rfl ?_
               intro A4 c4 w4 G4 hGr4
               have E4 := Lib.hid (show Below w.heap.size w w4 from (E3.out.trans (EA.out.mono hs3)).trans (hGr4.below (Nat.le_trans hs3 EA.out.size) O3.out))
               have O4 := Lib.hid (show ∀ gg, (Value.slice A4 (j + 1) c4).ownBlock = some gg → w.heap.size ≤ gg from fun gg hg => by
                 rcases hGr4.own with h | ⟨g2, h, h2⟩
                 · rw [h] at hg; exact O3.out gg hg
                 · rw [h] at hg; cases hg; exact Nat.le_trans hs3 (Nat.le_trans EA.out.size h2))
               have G4h := Lib.hid G4
               have hs4 := E4.out.size
               have hBD : B ≤ w4.heap.size := Nat.le_trans hB hs4
               have TD := Lib.hid (show Sl w4 (fun b => b < w4.heap.size ∧ (Value.slice A4 (j + 1) c4).ownBlock ≠ some b) 1 (some ⟨b, off + j, none⟩) (c - j) ((xs.drop j).map (D.num .i64)) from by
                 rw [List.map_drop]; have h := HS.out.drop j (by simpa using hj); rw [Nat.mul_one] at h; exact h.keep fun q hq => ⟨⟨Nat.lt_of_lt_of_le hq hs4, fun e => by have := O4.out q e; have h2 : q < w.heap.size := hq; omega⟩, E4.out.block q hq⟩)
               clear G4 hGr4)
            | (at_builtin; refine wpList_append_M w4 rfl (.tmp 43) (.tmp 46) 42 rfl 3 (.int .i64 0) 1 8 Try.underlying42 (by kernel_rfl) rfl (by omega) B (.slice A4 (j + 1) c4) (j + 1) _ G4h.out (some ⟨b, off + j, none⟩) (c - j) (xs.length - j) _ (by simp) TD.out hBD (by unfold maxLen; omega) (by omega) rfl rfl ?_
               intro A5 c5 w5 G5 hGr5
               have E5 := Lib.hid (show Below w.heap.size w w5 from E4.out.trans (hGr5.below hs4 O4.out))
               have G5h := Lib.hid G5
               clear G5 hGr5))
          go_ret
          have hlen : j + 1 + (xs.length - j) = (ins n xs).length := by rw [HV.out, List.length_append, List.length_cons, List.length_take, List.length_drop]; omega
          refine ⟨A5, c5, by rw [← hlen]; rfl, ?_, E5.out⟩
          have h := G5h.out
          rw [← hlen, HV.out]
          simpa [List.map_append] using h
    · have HV := Lib.hid (ins_new hj HK.out (fun h => absurd h hlt))
      have hA : (A = none ∧ xs.length = 0 ∧ c = 0) ∨ ∃ g, A = some ⟨g, 0, none⟩ := by
        obtain ⟨h1, cs, h2, h4⟩ := HG.out
        rcases h2.2 with ⟨h5, h6⟩ | ⟨g, cap, cur, hv, _⟩
        · simp only [Value.slice.injEq] at h5
          exact .inl ⟨h5.1, h6, h5.2.2⟩
        · simp only [Value.slice.injEq] at hv
          exact .inr ⟨g, hv.1⟩
      rcases hA with ⟨rfl, hx0, rfl⟩ | ⟨g0, rfl⟩
      · obtain rfl : xs = [] := List.eq_nil_of_length_eq_zero hx0
        obtain rfl : j = 0 := by simpa using hj
        clear hx0
        have E1 := Lib.hid (show Below w.heap.size w (w.alloc (.cells #[] 3)) from (Below.refl _ _).alloc (Nat.le_refl _) _)
        have G1 := Lib.hid (show Gre (w.alloc (.cells #[] 3)) B 3 1 (.slice (some ⟨w.heap.size, 0, none⟩) 0 0) 0 [] from Gre.made (Row.new' _ _ _ rfl) hB)
        have T1 := Lib.hid (show Sl (w.alloc (.cells #[] 3)) (fun b => b < (w.alloc (.cells #[] 3)).heap.size ∧ (Value.slice (some ⟨w.heap.size, 0, none⟩) 0 0).ownBlock ≠ some b) 1 none 0 ((([] : List Int)).map (D.num .i64)) from by
                    exact HS.out.keep fun q hq => ⟨⟨Nat.lt_of_lt_of_le hq E1.out.size, fun e => by simp [Value.ownBlock] at e; have h2 : q < w.heap.size := hq; omega⟩, E1.out.block q hq⟩)
        have hB1 : B ≤ (w.alloc (.cells #[] 3)).heap.size := Nat.le_trans hB E1.out.size
        have hlj : ([] : List Int).length = 0 := rfl
        go_wp2_with (first
          | (at_builtin; refine wpList_append_M (w.alloc (.cells #[] 3)) rfl (.tmp 34) (.tmp 37) 42 rfl 3 (.int .i64 0) 1 8 Try.underlying42 (by kernel_rfl) rfl (by omega) B (.slice (some ⟨w.heap.size, 0, none⟩) 0 0) 0 [] G1.out none 0 0 _ (by rw [List.length_map]; exact hlj) T1.out hB1 (by unfold maxLen; omega) (by omega) rfl rfl ?_
             intro A3 c3 w3 G3 hGr3
             rw [Nat.zero_add] at G3 hGr3
             have E3 := Lib.hid (show Below w.heap.size w w3 from E1.out.trans (hGr3.below E1.out.size (fun gg hg => by simp [Value.ownBlock] at hg; omega)))
             have O3 := Lib.hid (show ∀ gg, (Value.slice A3 0 c3).ownBlock = some gg → w.heap.size ≤ gg from fun gg hg => by
               rcases hGr3.own with h | ⟨g2, h, h2⟩
               · rw [h] at hg; simp [Value.ownBlock] at hg; omega
               · rw [h] at hg; cases hg; exact Nat.le_trans E1.out.size h2)
             have G3h := Lib.hid (show Gre w3 B 3 1 (.slice A3 0 c3) 0 ((([] : List Int)).map (D.num .i64)) from G3)
             have hs3 := E3.out.size
             have EA := Lib.hid (show Below w3.heap.size w3 (w3.alloc (.cells #[.int .i64 n] 3)) from (Below.refl _ _).alloc (Nat.le_refl _) _)
             have GA := Lib.hid (G3h.out.below EA.out)
             have TA := Lib.hid (show Sl (w3.alloc (.cells #[.int .i64 n] 3)) (fun b => b < (w3.alloc (.cells #[.int .i64 n] 3)).heap.size ∧ (Value.slice A3 0 c3).ownBlock ≠ some b) 1 (some ⟨w3.heap.size, 0, none⟩) 1 ([n].map (D.num .i64)) from
               (rowI_osl (B := w3.heap.size) (Row.new' w3 3 (rowI [n]) rfl) (Nat.le_refl _) (by simp [maxLen]) (by intro x hx; simp at hx; rw [hx]; exact HW.out)).sl.keep fun b hb => ⟨⟨hb.2, fun e => by have := (G3h.out.own b e).2; have := hb.1; omega⟩, rfl⟩)
             have hBA : B ≤ (w3.alloc (.cells #[.int .i64 n] 3)).heap.size := Nat.le_trans hB (Nat.le_trans hs3 EA.out.size)
             clear G3 hGr3)
          | (at_builtin; refine wpList_append_M (w3.alloc (.cells #[.int .i64 n] 3)) rfl (.tmp 39) (.tmp 41) 42 rfl 3 (.int .i64 0) 1 8 Try.underlying42 (by kernel_rfl) rfl (by omega) B (.slice A3 0 c3) 0 _ GA.out (some ⟨w3.heap.size, 0, none⟩) 1 1 _ rfl TA.out hBA (by unfold maxLen; omega) (by omega) rfl rfl ?_
             intro A4 c4 w4 G4 hGr4
             have E4 := Lib.hid (show Below w.heap.size w w4 from (E3.out.trans (EA.out.mono hs3)).trans (hGr4.below (Nat.le_trans hs3 EA.out.size) O3.out))
             have O4 := Lib.hid (show ∀ gg, (Value.slice A4 (0 + 1) c4).ownBlock = some gg → w.heap.size ≤ gg from fun gg hg => by
               rcases hGr4.own with h | ⟨g2, h, h2⟩
               · rw [h] at hg; exact O3.out gg hg
               · rw [h] at hg; cases hg; exact Nat.le_trans hs3 (Nat.le_trans EA.out.size h2))
             have G4h := Lib.hid G4
             have hs4 := E4.out.size
             have hBD : B ≤ w4.heap.size := Nat.le_trans hB hs4
             have TD := Lib.hid (show Sl w4 (fun b => b < w4.heap.size ∧ (Value.slice A4 (0 + 1) c4).ownBlock ≠ some b) 1 none 0 ((([] : List Int)).map (D.num .i64)) from by
               simp; exact Sl.nil (by omega))
             clear G4 hGr4)
          | (at_builtin; refine wpList_append_M w4 rfl (.tmp 43) (.tmp 46) 42 rfl 3 (.int .i64 0) 1 8 Try.underlying42 (by kernel_rfl) rfl (by omega) B (.slice A4 (0 + 1) c4) (0 + 1) _ G4h.out none 0 (0) _ (by simp) TD.out hBD (by unfold maxLen; omega) (by omega) rfl rfl ?_
             intro A5 c5 w5 G5 hGr5
             have E5 := Lib.hid (show Below w.heap.size w w5 from E4.out.trans (hGr5.below hs4 O4.out))
             have G5h := Lib.hid G5
             clear G5 hGr5))
        go_ret
        exact ⟨A5, c5, rfl, by simpa [ins] using G5h.out, E5.out⟩
      · by_cases hcj : j = c
        · subst hcj
          have E1 := Lib.hid (show Below w.heap.size w (w.alloc (.cells #[] 3)) from (Below.refl _ _).alloc (Nat.le_refl _) _)
          have G1 := Lib.hid (show Gre (w.alloc (.cells #[] 3)) B 3 1 (.slice (some ⟨w.heap.size, 0, none⟩) 0 0) 0 [] from Gre.made (Row.new' _ _ _ rfl) hB)
          have T1 := Lib.hid (show Sl (w.alloc (.cells #[] 3)) (fun b => b < (w.alloc (.cells #[] 3)).heap.size ∧ (Value.slice (some ⟨w.heap.size, 0, none⟩) 0 0).ownBlock ≠ some b) 1 (some ⟨g0, 0, none⟩) j ((xs.take j).map (D.num .i64)) from by
            rw [List.map_take]
            exact (HS.out.take j).keep fun q hq => ⟨⟨Nat.lt_of_lt_of_le hq E1.out.size, fun e => by simp [Value.ownBlock] at e; have h2 : q < w.heap.size := hq; omega⟩, E1.out.block q hq⟩)
          have hB1 : B ≤ (w.alloc (.cells #[] 3)).heap.size := Nat.le_trans hB E1.out.size
          have hlj : (xs.take j).length = j := by rw [List.length_take]; omega
          go_wp2_with (first
            | (at_builtin; refine wpList_append_M (w.alloc (.cells #[] 3)) rfl (.tmp 34) (.tmp 37) 42 rfl 3 (.int .i64 0) 1 8 Try.underlying42 (by kernel_rfl) rfl (by omega) B (.slice (some ⟨w.heap.size, 0, none⟩) 0 0) 0 [] G1.out (some ⟨g0, 0, none⟩) j j _ (by rw [List.length_map]; exact hlj) T1.out hB1 (by unfold maxLen; omega) (by omega) rfl rfl ?_
               intro A3 c3 w3 G3 hGr3
               rw [Nat.zero_add] at G3 hGr3
               have E3 := Lib.hid (show Below w.heap.size w w3 from E1.out.trans (hGr3.below E1.out.size (fun gg hg => by simp [Value.ownBlock] at hg; omega)))
               have O3 := Lib.hid (show ∀ gg, (Value.slice A3 j c3).ownBlock = some gg → w.heap.size ≤ gg from fun gg hg => by
                 rcases hGr3.own with h | ⟨g2, h, h2⟩
                 · rw [h] at hg; simp [Value.ownBlock] at hg; omega
                 · rw [h] at hg; cases hg; exact Nat.le_trans E1.out.size h2)
               have G3h := Lib.hid (show Gre w3 B 3 1 (.slice A3 j c3) j ((xs.take j).map (D.num .i64)) from G3)
               have hs3 := E3.out.size
               have EA := Lib.hid (show Below w3.heap.size w3 (w3.alloc (.cells #[.int .i64 n] 3)) from (Below.refl _ _).alloc (Nat.le_refl _) _)
               have GA := Lib.hid (G3h.out.below EA.out)
               have TA := Lib.hid (show Sl (w3.alloc (.cells #[.int .i64 n] 3)) (fun b => b < (w3.alloc (.cells #[.int .i64 n] 3)).heap.size ∧ (Value.slice A3 j c3).ownBlock ≠ some b) 1 (some ⟨w3.heap.size, 0, none⟩) 1 ([n].map (D.num .i64)) from
                 (rowI_osl (B := w3.heap.size) (Row.new' w3 3 (rowI [n]) rfl) (Nat.le_refl _) (by simp [maxLen]) (by intro x hx; simp at hx; rw [hx]; exact HW.out)).sl.keep fun b hb => ⟨⟨hb.2, fun e => by have := (G3h.out.own b e).2; have := hb.1; omega⟩, rfl⟩)
               have hBA : B ≤ (w3.alloc (.cells #[.int .i64 n] 3)).heap.size := Nat.le_trans hB (Nat.le_trans hs3 EA.out.size)
               clear G3 hGr3)
            | (at_builtin; refine wpList_append_M (w3.alloc (.cells #[.int .i64 n] 3)) rfl (.tmp 39) (.tmp 41) 42 rfl 3 (.int .i64 0) 1 8 Try.underlying42 (by kernel_rfl) rfl (by omega) B (.slice A3 j c3) j _ GA.out (some ⟨w3.heap.size, 0, none⟩) 1 1 _ rfl TA.out hBA (by unfold maxLen; omega) (by omega) rfl rfl ?_
               intro A4 c4 w4 G4 hGr4
               have E4 := Lib.hid (show Below w.heap.size w w4 from (E3.out.trans (EA.out.mono hs3)).trans (hGr4.below (Nat.le_trans hs3 EA.out.size) O3.out))
               have O4 := Lib.hid (show ∀ gg, (Value.slice A4 (j + 1) c4).ownBlock = some gg → w.heap.size ≤ gg from fun gg hg => by
                 rcases hGr4.own with h | ⟨g2, h, h2⟩
                 · rw [h] at hg; exact O3.out gg hg
                 · rw [h] at hg; cases hg; exact Nat.le_trans hs3 (Nat.le_trans EA.out.size h2))
               have G4h := Lib.hid G4
               have hs4 := E4.out.size
               have hBD : B ≤ w4.heap.size := Nat.le_trans hB hs4
               have TD := Lib.hid (show Sl w4 (fun b => b < w4.heap.size ∧ (Value.slice A4 (j + 1) c4).ownBlock ≠ some b) 1 (some ⟨g0, 0, none⟩) 0 ((xs.drop j).map (D.num .i64)) from by
                 rw [List.drop_of_length_le (by omega)]; exact Sl.nil (by omega))
               clear G4 hGr4)
            | (at_builtin; refine wpList_append_M w4 rfl (.tmp 43) (.tmp 46) 42 rfl 3 (.int .i64 0) 1 8 Try.underlying42 (by kernel_rfl) rfl (by omega) B (.slice A4 (j + 1) c4) (j + 1) _ G4h.out (some ⟨g0, 0, none⟩) 0 0 _ (by rw [List.length_map, List.length_drop]; omega) TD.out hBD (by unfold maxLen; omega) (by omega) rfl rfl ?_
               intro A5 c5 w5 G5 hGr5
               have E5 := Lib.hid (show Below w.heap.size w w5 from E4.out.trans (hGr5.below hs4 O4.out))
               have G5h := Lib.hid G5
               clear G5 hGr5))
          go_ret
          have hlen : j + 1 + 0 = (ins n xs).length := by rw [HV.out, List.length_append, List.length_cons, List.length_take, List.length_drop]; omega
          refine ⟨A5, c5, by rw [← hlen]; rfl, ?_, E5.out⟩
          have h := G5h.out
          rw [← hlen, HV.out]
          simpa [List.map_append] using h
        · have hcj2 : ¬ c = j := fun e => hcj e.symm
          have E1 := Lib.hid (show Below w.heap.size w (w.alloc (.cells #[] 3)) from (Below.refl _ _).alloc (Nat.le_refl _) _)
          have G1 := Lib.hid (show Gre (w.alloc (.cells #[] 3)) B 3 1 (.slice (some ⟨w.heap.size, 0, none⟩) 0 0) 0 [] from Gre.made (Row.new' _ _ _ rfl) hB)
          have T1 := Lib.hid (show Sl (w.alloc (.cells #[] 3)) (fun b => b < (w.alloc (.cells #[] 3)).heap.size ∧ (Value.slice (some ⟨w.heap.size, 0, none⟩) 0 0).ownBlock ≠ some b) 1 (some ⟨g0, 0, none⟩) c ((xs.take j).map (D.num .i64)) from by
            rw [List.map_take]
            exact (HS.out.take j).keep fun q hq => ⟨⟨Nat.lt_of_lt_of_le hq E1.out.size, fun e => by simp [Value.ownBlock] at e; have h2 : q < w.heap.size := hq; omega⟩, E1.out.block q hq⟩)
          have hB1 : B ≤ (w.alloc (.cells #[] 3)).heap.size := Nat.le_trans hB E1.out.size
          have hlj : (xs.take j).length = j := by rw [List.length_take]; omega
          go_wp2_with (first
            | (at_builtin; refine wpList_append_M (w.alloc (.cells #[] 3)) rfl (.tmp 34) (.tmp 37) 42 rfl 3 (.int .i64 0) 1 8 Try.underlying42 (by kernel_rfl) rfl (by omega) B (.slice (some ⟨w.heap.size, 0, none⟩) 0 0) 0 [] G1.out (some ⟨g0, 0, none⟩) c j _ (by rw [List.length_map]; exact hlj) T1.out hB1 (by unfold maxLen; omega) (by omega) rfl rfl ?_
               intro A3 c3 w3 G3 hGr3
               rw [Nat.zero_add] at G3 hGr3
               have E3 := Lib.hid (show Below w.heap.size w w3 from E1.out.trans (hGr3.below E1.out.size (fun gg hg => by simp [Value.ownBlock] at hg; omega)))
               have O3 := Lib.hid (show ∀ gg, (Value.slice A3 j c3).ownBlock = some gg → w.heap.size ≤ gg from fun gg hg => by
                 rcases hGr3.own with h | ⟨g2, h, h2⟩
                 · rw [h] at hg; simp [Value.ownBlock] at hg; omega
                 · rw [h] at hg; cases hg; exact Nat.le_trans E1.out.size h2)
               have G3h := Lib.hid (show Gre w3 B 3 1 (.slice A3 j c3) j ((xs.take j).map (D.num .i64)) from G3)
               have hs3 := E3.out.size
               have EA := Lib.hid (show Below w3.heap.size w3 (w3.alloc (.cells #[.int .i64 n] 3)) from (Below.refl _ _).alloc (Nat.le_refl _) _)
               have GA := Lib.hid (G3h.out.below EA.out)
               have TA := Lib.hid (show Sl (w3.alloc (.cells #[.int .i64 n] 3)) (fun b => b < (w3.alloc (.cells #[.int .i64 n] 3)).heap.size ∧ (Value.slice A3 j c3).ownBlock ≠ some b) 1 (some ⟨w3.heap.size, 0, none⟩) 1 ([n].map (D.num .i64)) from
                 (rowI_osl (B := w3.heap.size) (Row.new' w3 3 (rowI [n]) rfl) (Nat.le_refl _) (by simp [maxLen]) (by intro x hx; simp at hx; rw [hx]; exact HW.out)).sl.keep fun b hb => ⟨⟨hb.2, fun e => by have := (G3h.out.own b e).2; have := hb.1; omega⟩, rfl⟩)
               have hBA : B ≤ (w3.alloc (.cells #[.int .i64 n] 3)).heap.size := Nat.le_trans hB (Nat.le_trans hs3 EA.out.size)
               clear G3 hGr3)
            | (at_builtin; refine wpList_append_M (w3.alloc (.cells #[.int .i64 n] 3)) rfl (.tmp 39) (.tmp 41) 42 rfl 3 (.int .i64 0) 1 8 Try.underlying42 (by kernel_rfl) rfl (by omega) B (.slice A3 j c3) j _ GA.out (some ⟨w3.heap.size, 0, none⟩) 1 1 _ rfl TA.out hBA (by unfold maxLen; omega) (by omega) rfl rfl ?_
               intro A4 c4 w4 G4 hGr4
               have E4 := Lib.hid (show Below w.heap.size w w4 from (E3.out.trans (EA.out.mono hs3)).trans (hGr4.below (Nat.le_trans hs3 EA.out.size) O3.out))
               have O4 := Lib.hid (show ∀ gg, (Value.slice A4 (j + 1) c4).ownBlock = some gg → w.heap.size ≤ gg from fun gg hg => by
                 rcases hGr4.own with h | ⟨g2, h, h2⟩
                 · rw [h] at hg; exact O3.out gg hg
                 · rw [h] at hg; cases hg; exact Nat.le_trans hs3 (Nat.le_trans EA.out.size h2))
               have G4h := Lib.hid G4
               have hs4 := E4.out.size
               have hBD : B ≤ w4.heap.size := Nat.le_trans hB hs4
               have TD := Lib.hid (show Sl w4 (fun b => b < w4.heap.size ∧ (Value.slice A4 (j + 1) c4).ownBlock ≠ some b) 1 (some ⟨g0, j, none⟩) (c - j) ((xs.drop j).map (D.num .i64)) from by
                 rw [List.drop_of_length_le (by omega)]; exact Sl.nil (by omega))
               clear G4 hGr4)
            | (at_builtin; refine wpList_append_M w4 rfl (.tmp 43) (.tmp 46) 42 rfl 3 (.int .i64 0) 1 8 Try.underlying42 (by kernel_rfl) rfl (by omega) B (.slice A4 (j + 1) c4) (j + 1) _ G4h.out (some ⟨g0, j, none⟩) (c - j) (xs.length - j) _ (by simp) TD.out hBD (by unfold maxLen; omega) (by omega) rfl rfl ?_
               intro A5 c5 w5 G5 hGr5
               have E5 := Lib.hid (show Below w.heap.size w w5 from E4.out.trans (hGr5.below hs4 O4.out))
               have G5h := Lib.hid G5
               clear G5 hGr5))
          go_ret
          have hlen : j + 1 + (xs.length - j) = (ins n xs).length := by rw [HV.out, List.length_append, List.length_cons, List.length_take, List.length_drop]; omega
          refine ⟨A5, c5, by rw [← hlen]; rfl, ?_, E5.out⟩
          have h := G5h.out
          rw [← hlen, HV.out]
          simpa [List.map_append] using h


theorem bulkV_snoc {α : Type} (f : α → Nat) (x : α) : ∀ l : List α, bulkL f (l ++ [x]) = bulkL f l + f x + 1
  | [] => by simp [bulkL]; omega
  | y :: r => by simp only [List.cons_append, bulkL, bulkV_snoc f x r]; omega
theorem bulkV_next {α : Type} (f : α → Nat) {l : List α} {j : Nat} (h : j < l.length) : bulkL f (l.take (j + 1)) = bulkL f (l.take j) + f l[j] + 1 ∧ bulkL f (l.take (j + 1)) ≤ bulkL f l := by
  refine ⟨by rw [take_snoc' l j h, bulkV_snoc], ?_⟩
  have := bulkL_take_le f l (j + 1) (by omega)
  omega
set_option maxRecDepth 20000 in
theorem specVars (B k : Nat) : ∀ (t : GTy) (A1 : Option Addr) (c1 : Nat) (xs : List Int) (Vl : Option Addr) (vc : Nat) (w : World), t.bulk < k → xs.length + 1 + t.bulk ≤ 1048577 → B ≤ w.heap.size → Gre w B 3 1 (.slice Vl xs.length vc) xs.length (xs.map (D.num .i64)) → GTy.At w (Lt w.heap.size) A1 c1 t →
    Calls Try.prog 57 #[.agg #[.int .i64 t.op, .int .i64 t.n, .string t.s, .slice A1 t.kids.length c1], .slice Vl xs.length vc] w (VTo B (t.vs xs) w) := by
  induction k with
  | zero => intros; omega
  | succ k ih =>
    intro t A1 c1 xs Vl vc w hk h1 hB hg hat
    have hbe := t.bulk_eq
    have hlen : t.kids.length ≤ 1048576 := by have := bulkL_len GTy.bulk t.kids; omega
    have HKB := Lib.hid (fun (j : Nat) (h : j < t.kids.length) => bulkV_next GTy.bulk h)
    have HH := Lib.hid (fun (j : Nat) (h : j < t.kids.length) (A1 : Option Addr) (c1 : Nat) => ih t.kids[j] A1 c1)
    have HBE := Lib.hid hbe
    have HKK := Lib.hid hk
    have H1 := Lib.hid h1
    have T0 := Lib.hid hat
    obtain ⟨w0, e0⟩ : ∃ w0, w0 = w.alloc (.cells #[.int .i64 t.op, .int .i64 t.n, .string t.s, .slice A1 t.kids.length c1] 27) := ⟨_, rfl⟩
    have E0 := Lib.hid (show Below w.heap.size w w0 by rw [e0]; exact (Below.refl _ _).alloc (Nat.le_refl _) _)
    have Ra0 := Lib.hid (show Row w0 w.heap.size 27 #[.int .i64 t.op, .int .i64 t.n, .string t.s, .slice A1 t.kids.length c1] by rw [e0]; exact Row.new' _ _ _ rfl)
    have G0 := Lib.hid (hg.below E0.out)
    have S0 : w0.heap.size = w.heap.size + 1 := by rw [e0]; simp
    have hca0 := fun i => Ra0.out.cell i
    have HVE := Lib.hid (t.vs_eq xs)
    have hwn : Hid ((Lit.int .i64 t.n).wf = true) := Lib.hid hat.2.1
    clear ih hbe hk h1 hat hg
    cases o2 : (t.op == 2)
    · have HM := Lib.hid (show t.vs xs = GTy.vsL t.kids xs by rw [HVE.out, if_neg (by simpa using o2)])
      have HYL := Lib.hid (show xs.length ≤ xs.length + 1 by omega)
      go_enter Try.func57, Try.ntmps57
      go_wp2_with fail
      rw [← e0]
      clear e0 hca0
      go_loopw [1, 5] (fun v i wr => ∃ (j : Nat) (zs : List Int) (A : Option Addr) (c : Nat), j ≤ t.kids.length ∧ i = .int .i64 j ∧ v = .slice A zs.length c ∧ Hid (zs = GTy.vsL (t.kids.take j) xs) ∧ Hid (Gre wr B 3 1 (.slice A zs.length c) zs.length (zs.map (D.num .i64))) ∧ Hid (Row wr w.heap.size 27 #[.int .i64 t.op, .int .i64 t.n, .string t.s, .slice A1 t.kids.length c1]) ∧ Hid (zs.length ≤ xs.length + bulkL GTy.bulk (t.kids.take j)) ∧ Below w.heap.size w wr) (fun _ i _ => t.kids.length - (intOf i).toNat)
      case atStart => exact ⟨0, _, _, _, by omega, by go_num, rfl, Lib.hid (by simp [GTy.vsL]), G0, Ra0, Lib.hid (by simp [bulkL]), E0.out⟩
      case round =>
        obtain ⟨j, zs, A, c, hj, rfl, rfl, HZ, HG, HRa, HZL, hbl⟩ := hrel
        have hsz := hbl.size
        have hca := fun i => HRa.out.cell i
        by_cases hlt : j < t.kids.length
        · obtain ⟨b, off, A2, c2, eA, hSb, g0, g1, g2, g3, hatk⟩ := GTy.elem (T0.out.below hbl (Nat.le_refl _)).2.2.2 j hlt
          have HA := Lib.hid (hatk.below (Below.refl _ _) hsz)
          have HJ := Lib.hid (HKB.out j hlt)
          subst eA
          clear hatk
          go_wp2_with fail
          refine (HH.out j hlt A2 c2 zs A c _ (by have := HKK.out; have := HBE.out; have := HJ.out; omega) (by have := H1.out; have := HBE.out; have := HJ.out; have := HZL.out; have := HYL.out; omega) (by omega) HG.out HA.out).mono ?_
          rintro e w1 ⟨A3, c3, rfl, hG1, hb1⟩
          have HG1 := Lib.hid hG1
          have B1 := Lib.hid (hbl.trans (hb1.mono hsz))
          have R1 := Lib.hid (HRa.out.below hb1 HRa.out.lt)
          clear hG1 hb1
          go_wp2_with fail
          go_roundw
          case rel => exact ⟨j + 1, _, A3, c3, by omega, by go_num, rfl, Lib.hid (by rw [GTy.vsL_take hlt, ← HZ.out]), HG1, R1, Lib.hid (by have h1 := GTy.vs_len (t.kids[j]) zs; have h2 := HJ.out; have h3 := HZL.out; omega), B1.out⟩
          case measure => simp [intOf]; omega
        · have HY := Lib.hid (show zs = t.vs xs from by rw [HM.out, HZ.out, show j = t.kids.length by omega, List.take_length])
          go_wp2_with fail
          go_ret
          rw [← HY.out]
          exact ⟨A, c, rfl, HG.out, hbl⟩
    · have HM := Lib.hid (show t.vs xs = GTy.vsL t.kids (ins t.n xs) by rw [HVE.out, if_pos (by simpa using o2)])
      have HYL := Lib.hid (ins_len t.n xs)
      have hxl : xs.length ≤ 4194304 := by have := H1.out; omega
      obtain ⟨ys, hys⟩ : ∃ ys, ys = ins t.n xs := ⟨_, rfl⟩
      rw [← hys] at HM HYL
      go_enter Try.func57, Try.ntmps57
      go_wp2_with fail
      rw [← e0]
      clear e0
      refine (specInsert B xs Vl vc t.n w0 hwn.out hxl (by omega) G0.out).mono ?_
      rintro e w1 ⟨A3, c3, rfl, hG1, hb1⟩
      rw [← hys] at hG1
      rw [← hys]
      have G1 := Lib.hid hG1
      have E1 := Lib.hid (E0.out.trans (hb1.mono (by omega)))
      have Ra1 := Lib.hid (Ra0.out.below hb1 Ra0.out.lt)
      have hca1 := fun i => Ra1.out.cell i
      clear hG1 hb1 hca0 hys
      go_wp2_with fail
      clear hca1
      go_loopw [1, 5] (fun v i wr => ∃ (j : Nat) (zs : List Int) (A : Option Addr) (c : Nat), j ≤ t.kids.length ∧ i = .int .i64 j ∧ v = .slice A zs.length c ∧ Hid (zs = GTy.vsL (t.kids.take j) ys) ∧ Hid (Gre wr B 3 1 (.slice A zs.length c) zs.length (zs.map (D.num .i64))) ∧ Hid (Row wr w.heap.size 27 #[.int .i64 t.op, .int .i64 t.n, .string t.s, .slice A1 t.kids.length c1]) ∧ Hid (zs.length ≤ ys.length + bulkL GTy.bulk (t.kids.take j)) ∧ Below w.heap.size w wr) (fun _ i _ => t.kids.length - (intOf i).toNat)
      case atStart => exact ⟨0, _, _, _, by omega, by go_num, rfl, Lib.hid (by simp [GTy.vsL]), G1, Ra1, Lib.hid (by simp [bulkL]), E1.out⟩
      case round =>
        obtain ⟨j, zs, A, c, hj, rfl, rfl, HZ, HG, HRa, HZL, hbl⟩ := hrel
        have hsz := hbl.size
        have hca := fun i => HRa.out.cell i
        by_cases hlt : j < t.kids.length
        · obtain ⟨b, off, A2, c2, eA, hSb, g0, g1, g2, g3, hatk⟩ := GTy.elem (T0.out.below hbl (Nat.le_refl _)).2.2.2 j hlt
          have HA := Lib.hid (hatk.below (Below.refl _ _) hsz)
          have HJ := Lib.hid (HKB.out j hlt)
          subst eA
          clear hatk
          go_wp2_with fail
          refine (HH.out j hlt A2 c2 zs A c _ (by have := HKK.out; have := HBE.out; have := HJ.out; omega) (by have := H1.out; have := HBE.out; have := HJ.out; have := HZL.out; have := HYL.out; omega) (by omega) HG.out HA.out).mono ?_
          rintro e w1 ⟨A3, c3, rfl, hG1, hb1⟩
          have HG1 := Lib.hid hG1
          have B1 := Lib.hid (hbl.trans (hb1.mono hsz))
          have R1 := Lib.hid (HRa.out.below hb1 HRa.out.lt)
          clear hG1 hb1
          go_wp2_with fail
          go_roundw
          case rel => exact ⟨j + 1, _, A3, c3, by omega, by go_num, rfl, Lib.hid (by rw [GTy.vsL_take hlt, ← HZ.out]), HG1, R1, Lib.hid (by have h1 := GTy.vs_len (t.kids[j]) zs; have h2 := HJ.out; have h3 := HZL.out; omega), B1.out⟩
          case measure => simp [intOf]; omega
        · have HY := Lib.hid (show zs = t.vs xs from by rw [HM.out, HZ.out, show j = t.kids.length by omega, List.take_length])
          go_wp2_with fail
          go_ret
          rw [← HY.out]
          exact ⟨A, c, rfl, HG.out, hbl⟩

/-- a list of one's own that a call lets grow -/
def VGr (B : Nat) (xs : List Int) (v : Value) (w : World) (e : Ending) (w' : World) : Prop := ∃ A c, e = .returned (.slice A xs.length c) ∧ Gre w' B 3 1 (.slice A xs.length c) xs.length (xs.map (D.num .i64)) ∧ Gr w w' v (.slice A xs.length c)
theorem any_flipV (l : List Int) (n : Int) : (l.any fun x => n == x) = l.any fun x => x == n := by
  congr 1; funext x; rw [Bool.eq_iff_iff, beq_iff_eq, beq_iff_eq]; exact eq_comm
theorem implIndexI (l : List Int) (A : Option Addr) (c : Nat) (n : Int) (w : World) (hs : Sl w (Lt w.heap.size) 1 A c (l.map (D.num .i64))) :
    Calls Try.prog 117 #[.slice A l.length c, .int .i64 n] w fun e w' => e = .returned (.int .i64 (idxI (fun x => n == x) l)) ∧ Below w.heap.size w w' := by
  have hlen : l.length ≤ 9223372036854775807 := by simpa using hs.len
  have S0 := Lib.hid hs
  clear hs
  go_enter Try.func117, Try.ntmps117
  go_wp2_with fail
  go_loopw [8] (fun i wr => ∃ (j : Nat), j ≤ l.length ∧ i = .int .i64 j ∧ Hid (noneTo (fun x : Int => n == x) l j) ∧ Below w.heap.size w wr) (fun i _ => l.length - (intOf i).toNat)
  case atStart => exact ⟨0, by omega, by go_num, Lib.hid (noneTo_zero _ _), Below.refl _ _⟩
  case round =>
    obtain ⟨j, hj, rfl, HN, hbl⟩ := hrel
    by_cases hlt : j < l.length
    · obtain ⟨b, off, rfl, hSb, g0, _⟩ := int_elem (S0.out.below hbl (Nat.le_refl _)) j hlt
      cases he : (n == l[j]) with
      | true =>
        have HV := Lib.hid (idxI_at HN.out hlt he)
        go_wp2_with fail
        go_ret
        exact ⟨ret_int HV.out.symm, hbl⟩
      | false =>
        have HN2 := Lib.hid (noneTo_succ HN.out hlt he)
        go_wp2_with fail
        go_roundw
        case rel => exact ⟨j + 1, by omega, by go_num, HN2, hbl⟩
        case measure => simp [intOf]; omega
    · have HV := Lib.hid (idxI_none (by have := HN.out; rwa [show j = l.length by omega] at this))
      go_wp2_with fail
      go_ret
      exact ⟨ret_int HV.out.symm, hbl⟩
theorem implIntHas (l : List Int) (A : Option Addr) (c : Nat) (n : Int) (w : World) (hs : Sl w (Lt w.heap.size) 1 A c (l.map (D.num .i64))) :
    Calls Try.prog 92 #[.slice A l.length c, .int .i64 n] w fun e w' => e = .returned (.bool (l.any fun x => x == n)) ∧ Below w.heap.size w w' := by
  have HS := Lib.hid hs
  clear hs
  have HID := Lib.hid (show (decide ((idxI (fun x : Int => n == x) l) ≥ 0)) = l.any (fun x => x == n) by
    rw [← any_flipV]
    cases ha : l.any fun x => n == x with
    | true => have := idxI_any_true ha; simpa using this
    | false => rw [idxI_any_false ha]; rfl)
  go_enter Try.func92, Try.ntmps92
  go_wp2_with fail
  refine (implIndexI l A c n _ HS.out).mono ?_
  rintro e w1 ⟨rfl, hb1⟩
  go_wp2_with fail
  go_ret
  exact ⟨ret_bool HID.out, hb1⟩
set_option maxRecDepth 20000 in
theorem implVars (B k : Nat) : ∀ (t : GTy) (A1 : Option Addr) (c1 : Nat) (xs : List Int) (Vl : Option Addr) (vc : Nat) (w : World), t.bulk < k → xs.length + 1 + t.bulk ≤ 1048577 → B ≤ w.heap.size → Gre w B 3 1 (.slice Vl xs.length vc) xs.length (xs.map (D.num .i64)) → GTy.At w (Lt B) A1 c1 t →
    Calls Try.prog 55 #[.agg #[.int .i64 t.op, .int .i64 t.n, .string t.s, .slice A1 t.kids.length c1], .slice Vl xs.length vc] w (VGr B (t.vi xs) (.slice Vl xs.length vc) w) := by
  induction k with
  | zero => intros; omega
  | succ k ih =>
    intro t A1 c1 xs Vl vc w hk h1 hB hg hat
    have hbe := t.bulk_eq
    have hlen : t.kids.length ≤ 1048576 := by have := bulkL_len GTy.bulk t.kids; omega
    have HKB := Lib.hid (fun (j : Nat) (h : j < t.kids.length) => bulkV_next GTy.bulk h)
    have HH := Lib.hid (fun (j : Nat) (h : j < t.kids.length) (A1 : Option Addr) (c1 : Nat) => ih t.kids[j] A1 c1)
    have HBE := Lib.hid hbe
    have HKK := Lib.hid hk
    have H1 := Lib.hid h1
    have T0 := Lib.hid hat
    obtain ⟨w0, e0⟩ : ∃ w0, w0 = w.alloc (.cells #[.int .i64 t.op, .int .i64 t.n, .string t.s, .slice A1 t.kids.length c1] 27) := ⟨_, rfl⟩
    have E0 := Lib.hid (show Below w.heap.size w w0 by rw [e0]; exact (Below.refl _ _).alloc (Nat.le_refl _) _)
    have Ra0 := Lib.hid (show Row w0 w.heap.size 27 #[.int .i64 t.op, .int .i64 t.n, .string t.s, .slice A1 t.kids.length c1] by rw [e0]; exact Row.new' _ _ _ rfl)
    have G0 := Lib.hid (hg.below E0.out)
    have GF := Lib.hid (show Gr w w0 (.slice Vl xs.length vc) (.slice Vl xs.length vc) from Gr.of_below E0.out)
    have hne0 : (Value.slice Vl xs.length vc).ownBlock ≠ some w.heap.size := fun e => by have := (hg.own _ e).2; omega
    have hBo := Lib.hid (fun g h => (hg.own g h).1)
    have S0 : w0.heap.size = w.heap.size + 1 := by rw [e0]; simp
    have hca0 := fun i => Ra0.out.cell i
    have HVE := Lib.hid (t.vi_eq xs)
    have hwn : Hid ((Lit.int .i64 t.n).wf = true) := Lib.hid hat.2.1
    have hxl : xs.length ≤ 1048577 := by omega
    clear ih hbe hk h1 hat hg
    cases o2 : (t.op == 2)
    · have HM := Lib.hid (show t.vi xs = GTy.viL t.kids xs by rw [HVE.out, if_neg (fun h => by simp at o2; exact o2 h.1)])
      have HYL := Lib.hid (show xs.length ≤ xs.length + 1 by omega)
      go_enter Try.func55, Try.ntmps55
      go_wp2_with fail
      rw [← e0]
      clear e0 hca0
      go_loopw [1, 25] (fun v i wr => ∃ (j : Nat) (zs : List Int) (A : Option Addr) (c : Nat), j ≤ t.kids.length ∧ i = .int .i64 j ∧ v = .slice A zs.length c ∧ Hid (zs = GTy.viL (t.kids.take j) xs) ∧ Hid (Gre wr B 3 1 (.slice A zs.length c) zs.length (zs.map (D.num .i64))) ∧ Hid (Gr w wr (.slice Vl xs.length vc) (.slice A zs.length c)) ∧ (Value.slice A zs.length c).ownBlock ≠ some w.heap.size ∧ Hid (Row wr w.heap.size 27 #[.int .i64 t.op, .int .i64 t.n, .string t.s, .slice A1 t.kids.length c1]) ∧ Hid (zs.length ≤ xs.length + bulkL GTy.bulk (t.kids.take j))) (fun _ i _ => t.kids.length - (intOf i).toNat)
      case atStart => exact ⟨0, _, _, _, by omega, by go_num, rfl, Lib.hid (by simp [GTy.viL]), G0, GF, hne0, Ra0, Lib.hid (by simp [bulkL])⟩
      case round =>
        obtain ⟨j, zs, A, c, hj, rfl, rfl, HZ, HG, HGr, hne, HRa, HZL⟩ := hrel
        have HB := Lib.hid (HGr.out.below hB hBo.out)
        have hca := fun i => HRa.out.cell i
        have hsz := HGr.out.size
        have hra := HRa.out.lt
        by_cases hlt : j < t.kids.length
        · obtain ⟨b, off, A2, c2, eA, hSb, g0, g1, g2, g3, hatk⟩ := GTy.elem (T0.out.below HB.out (Nat.le_refl _)).2.2.2 j hlt
          have HA := Lib.hid hatk
          have HJ := Lib.hid (HKB.out j hlt)
          subst eA
          clear hatk
          obtain ⟨wb, eb⟩ : ∃ wb, wb = wr.alloc (.cells #[.int .i64 (t.kids[j]).op, .int .i64 (t.kids[j]).n, .string (t.kids[j]).s, .slice A2 (t.kids[j]).kids.length c2] 27) := ⟨_, rfl⟩
          have EB := Lib.hid (show Below wr.heap.size wr wb by rw [eb]; exact (Below.refl _ _).alloc (Nat.le_refl _) _)
          have RB := Lib.hid (show Row wb wr.heap.size 27 #[.int .i64 (t.kids[j]).op, .int .i64 (t.kids[j]).n, .string (t.kids[j]).s, .slice A2 (t.kids[j]).kids.length c2] by rw [eb]; exact Row.new' _ _ _ rfl)
          have GB := Lib.hid (HG.out.below EB.out)
          have AB := Lib.hid (HA.out.below (EB.out.mono (by omega)) (Nat.le_refl _))
          have hsb := EB.out.size
          go_wp2_with fail
          rw [← eb]
          clear eb
          have hcb := fun i => RB.out.cell i
          try go_wp2_with fail
          refine (HH.out j hlt A2 c2 zs A c _ (by have := HKK.out; have := HBE.out; have := HJ.out; omega) (by have := H1.out; have := HBE.out; have := HJ.out; have := HZL.out; have := HYL.out; omega) (by omega) GB.out AB.out).mono ?_
          rintro e w1 ⟨A3, c3, rfl, hG1, hGr1⟩
          have HG1 := Lib.hid hG1
          have HGr1 := Lib.hid ((Gr.of_below (v := .slice A zs.length c) EB.out).trans hGr1)
          clear hG1 hGr1 hcb
          go_wp2_with fail
          go_roundw
          case rel => exact ⟨j + 1, _, A3, c3, by omega, by go_num, rfl, Lib.hid (by rw [GTy.viL_take hlt, ← HZ.out]), HG1, Lib.hid (HGr.out.trans HGr1.out), HGr1.out.ne hne hra, Lib.hid (HGr1.out.row HRa.out hne), Lib.hid (by have h1 := GTy.vi_len (t.kids[j]) zs; have h2 := HJ.out; have h3 := HZL.out; omega)⟩
          case measure => simp [intOf]; omega
        · have HY := Lib.hid (show zs = t.vi xs from by rw [HM.out, HZ.out, show j = t.kids.length by omega, List.take_length])
          go_wp2_with fail
          go_ret
          rw [← HY.out]
          exact ⟨A, c, rfl, HG.out, HGr.out⟩
    have ho2 : t.op = 2 := by simpa using o2
    cases ha : xs.any (fun x => x == t.n)
    · have HM := Lib.hid (show t.vi xs = GTy.viL t.kids (xs ++ [t.n]) by rw [HVE.out, if_pos ⟨ho2, ha⟩])
      have HYL := Lib.hid (show (xs ++ [t.n]).length ≤ xs.length + 1 by simp)
      clear ho2
      have HSL := Lib.hid (show Sl w0 (Lt w0.heap.size) 1 Vl vc (xs.map (D.num .i64)) from by obtain ⟨A, c, e, h⟩ := G0.out.sl; cases e; exact h)
      go_enter Try.func55, Try.ntmps55
      go_wp2_with fail
      rw [← e0]
      clear e0
      refine (implIntHas xs Vl vc t.n w0 HSL.out).mono ?_
      rintro e w1 ⟨rfl, hb1⟩
      rw [ha]
      clear ha HSL hca0
      have Ra1 := Lib.hid (Ra0.out.below hb1 Ra0.out.lt)
      have G1 := Lib.hid (G0.out.below hb1)
      have GF1 := Lib.hid (GF.out.trans (Gr.of_below hb1))
      have S1 := hb1.size
      clear hb1
      have hca1 := fun i => Ra1.out.cell i
      have hra1 := Ra1.out.lt
      have EA := Lib.hid (show Below w1.heap.size w1 (w1.alloc (.cells #[.int .i64 t.n] 3)) from (Below.refl _ _).alloc (Nat.le_refl _) _)
      have GA := Lib.hid (G1.out.below EA.out)
      have RA := Lib.hid (Ra1.out.below EA.out hra1)
      have TA := Lib.hid (show Sl (w1.alloc (.cells #[.int .i64 t.n] 3)) (fun b => b < (w1.alloc (.cells #[.int .i64 t.n] 3)).heap.size ∧ (Value.slice Vl xs.length vc).ownBlock ≠ some b) 1 (some ⟨w1.heap.size, 0, none⟩) 1 ([t.n].map (D.num .i64)) from
        (rowI_osl (B := w1.heap.size) (Row.new' w1 3 (rowI [t.n]) rfl) (Nat.le_refl _) (by simp [maxLen]) (by intro x hx; simp at hx; rw [hx]; exact hwn.out)).sl.keep fun b hb => ⟨⟨hb.2, fun e => by have := (G1.out.own b e).2; have := hb.1; omega⟩, rfl⟩)
      have hBA : B ≤ (w1.alloc (.cells #[.int .i64 t.n] 3)).heap.size := Nat.le_trans (by omega) EA.out.size
      have hsA := EA.out.size
      go_wp2_with (first | (at_builtin; refine wpList_append_M (w1.alloc (.cells #[.int .i64 t.n] 3)) rfl (.tmp 17) (.tmp 20) 42 rfl 3 (.int .i64 0) 1 8 Try.underlying42 (by kernel_rfl) rfl (by omega) B (.slice Vl xs.length vc) xs.length _ GA.out (some ⟨w1.heap.size, 0, none⟩) 1 1 _ rfl TA.out hBA (by unfold maxLen; omega) (by omega) rfl rfl ?_; intro A4 c4 w2 G4 hGr4; have R4 := Lib.hid (hGr4.row RA.out hne0); have hca4 := fun i => R4.out.cell i; have G4h := Lib.hid G4; have GR4 := Lib.hid ((GF1.out.trans (Gr.of_below EA.out)).trans hGr4); have NE4 := hGr4.ne hne0 (Nat.lt_of_lt_of_le hra1 hsA); clear G4 hGr4))
      obtain ⟨ys, hys⟩ : ∃ ys, ys = xs ++ [t.n] := ⟨_, rfl⟩
      have e2 : xs.length + 1 = ys.length := by rw [hys]; simp
      rw [← hys] at HM HYL
      have G5 := Lib.hid (show Gre w2 B 3 1 (.slice A4 ys.length c4) ys.length (ys.map (D.num .i64)) from by rw [← e2, hys, List.map_append]; exact G4h.out)
      rw [e2] at GR4 NE4 ⊢
      clear e2 hys hca4 G4h hca1
      skip
      go_loopw [1, 25] (fun v i wr => ∃ (j : Nat) (zs : List Int) (A : Option Addr) (c : Nat), j ≤ t.kids.length ∧ i = .int .i64 j ∧ v = .slice A zs.length c ∧ Hid (zs = GTy.viL (t.kids.take j) ys) ∧ Hid (Gre wr B 3 1 (.slice A zs.length c) zs.length (zs.map (D.num .i64))) ∧ Hid (Gr w wr (.slice Vl xs.length vc) (.slice A zs.length c)) ∧ (Value.slice A zs.length c).ownBlock ≠ some w.heap.size ∧ Hid (Row wr w.heap.size 27 #[.int .i64 t.op, .int .i64 t.n, .string t.s, .slice A1 t.kids.length c1]) ∧ Hid (zs.length ≤ ys.length + bulkL GTy.bulk (t.kids.take j))) (fun _ i _ => t.kids.length - (intOf i).toNat)
      case atStart => exact ⟨0, _, _, _, by omega, by go_num, rfl, Lib.hid (by simp [GTy.viL]), G5, GR4, NE4, R4, Lib.hid (by simp [bulkL])⟩
      case round =>
        obtain ⟨j, zs, A, c, hj, rfl, rfl, HZ, HG, HGr, hne, HRa, HZL⟩ := hrel
        have HB := Lib.hid (HGr.out.below hB hBo.out)
        have hca := fun i => HRa.out.cell i
        have hsz := HGr.out.size
        have hra := HRa.out.lt
        by_cases hlt : j < t.kids.length
        · obtain ⟨b, off, A2, c2, eA, hSb, g0, g1, g2, g3, hatk⟩ := GTy.elem (T0.out.below HB.out (Nat.le_refl _)).2.2.2 j hlt
          have HA := Lib.hid hatk
          have HJ := Lib.hid (HKB.out j hlt)
          subst eA
          clear hatk
          obtain ⟨wb, eb⟩ : ∃ wb, wb = wr.alloc (.cells #[.int .i64 (t.kids[j]).op, .int .i64 (t.kids[j]).n, .string (t.kids[j]).s, .slice A2 (t.kids[j]).kids.length c2] 27) := ⟨_, rfl⟩
          have EB := Lib.hid (show Below wr.heap.size wr wb by rw [eb]; exact (Below.refl _ _).alloc (Nat.le_refl _) _)
          have RB := Lib.hid (show Row wb wr.heap.size 27 #[.int .i64 (t.kids[j]).op, .int .i64 (t.kids[j]).n, .string (t.kids[j]).s, .slice A2 (t.kids[j]).kids.length c2] by rw [eb]; exact Row.new' _ _ _ rfl)
          have GB := Lib.hid (HG.out.below EB.out)
          have AB := Lib.hid (HA.out.below (EB.out.mono (by omega)) (Nat.le_refl _))
          have hsb := EB.out.size
          go_wp2_with fail
          rw [← eb]
          clear eb
          have hcb := fun i => RB.out.cell i
          try go_wp2_with fail
          refine (HH.out j hlt A2 c2 zs A c _ (by have := HKK.out; have := HBE.out; have := HJ.out; omega) (by have := H1.out; have := HBE.out; have := HJ.out; have := HZL.out; have := HYL.out; omega) (by omega) GB.out AB.out).mono ?_
          rintro e w1 ⟨A3, c3, rfl, hG1, hGr1⟩
          have HG1 := Lib.hid hG1
          have HGr1 := Lib.hid ((Gr.of_below (v := .slice A zs.length c) EB.out).trans hGr1)
          clear hG1 hGr1 hcb
          go_wp2_with fail
          go_roundw
          case rel => exact ⟨j + 1, _, A3, c3, by omega, by go_num, rfl, Lib.hid (by rw [GTy.viL_take hlt, ← HZ.out]), HG1, Lib.hid (HGr.out.trans HGr1.out), HGr1.out.ne hne hra, Lib.hid (HGr1.out.row HRa.out hne), Lib.hid (by have h1 := GTy.vi_len (t.kids[j]) zs; have h2 := HJ.out; have h3 := HZL.out; omega)⟩
          case measure => simp [intOf]; omega
        · have HY := Lib.hid (show zs = t.vi xs from by rw [HM.out, HZ.out, show j = t.kids.length by omega, List.take_length])
          go_wp2_with fail
          go_ret
          rw [← HY.out]
          exact ⟨A, c, rfl, HG.out, HGr.out⟩
    · have HM := Lib.hid (show t.vi xs = GTy.viL t.kids xs by rw [HVE.out, if_neg (fun h => by rw [ha] at h; cases h.2)])
      have HYL := Lib.hid (show xs.length ≤ xs.length + 1 by omega)
      clear ho2
      have HSL := Lib.hid (show Sl w0 (Lt w0.heap.size) 1 Vl vc (xs.map (D.num .i64)) from by obtain ⟨A, c, e, h⟩ := G0.out.sl; cases e; exact h)
      go_enter Try.func55, Try.ntmps55
      go_wp2_with fail
      rw [← e0]
      clear e0
      refine (implIntHas xs Vl vc t.n w0 HSL.out).mono ?_
      rintro e w1 ⟨rfl, hb1⟩
      rw [ha]
      clear ha HSL hca0
      have Ra1 := Lib.hid (Ra0.out.below hb1 Ra0.out.lt)
      have G1 := Lib.hid (G0.out.below hb1)
      have GF1 := Lib.hid (GF.out.trans (Gr.of_below hb1))
      have S1 := hb1.size
      clear hb1
      have hca1 := fun i => Ra1.out.cell i
      go_wp2_with fail
      clear hca1
      go_loopw [1, 25] (fun v i wr => ∃ (j : Nat) (zs : List Int) (A : Option Addr) (c : Nat), j ≤ t.kids.length ∧ i = .int .i64 j ∧ v = .slice A zs.length c ∧ Hid (zs = GTy.viL (t.kids.take j) xs) ∧ Hid (Gre wr B 3 1 (.slice A zs.length c) zs.length (zs.map (D.num .i64))) ∧ Hid (Gr w wr (.slice Vl xs.length vc) (.slice A zs.length c)) ∧ (Value.slice A zs.length c).ownBlock ≠ some w.heap.size ∧ Hid (Row wr w.heap.size 27 #[.int .i64 t.op, .int .i64 t.n, .string t.s, .slice A1 t.kids.length c1]) ∧ Hid (zs.length ≤ xs.length + bulkL GTy.bulk (t.kids.take j))) (fun _ i _ => t.kids.length - (intOf i).toNat)
      case atStart => exact ⟨0, _, _, _, by omega, by go_num, rfl, Lib.hid (by simp [GTy.viL]), G1, GF1, hne0, Ra1, Lib.hid (by simp [bulkL])⟩
      case round =>
        obtain ⟨j, zs, A, c, hj, rfl, rfl, HZ, HG, HGr, hne, HRa, HZL⟩ := hrel
        have HB := Lib.hid (HGr.out.below hB hBo.out)
        have hca := fun i => HRa.out.cell i
        have hsz := HGr.out.size
        have hra := HRa.out.lt
        by_cases hlt : j < t.kids.length
        · obtain ⟨b, off, A2, c2, eA, hSb, g0, g1, g2, g3, hatk⟩ := GTy.elem (T0.out.below HB.out (Nat.le_refl _)).2.2.2 j hlt
          have HA := Lib.hid hatk
          have HJ := Lib.hid (HKB.out j hlt)
          subst eA
          clear hatk
          obtain ⟨wb, eb⟩ : ∃ wb, wb = wr.alloc (.cells #[.int .i64 (t.kids[j]).op, .int .i64 (t.kids[j]).n, .string (t.kids[j]).s, .slice A2 (t.kids[j]).kids.length c2] 27) := ⟨_, rfl⟩
          have EB := Lib.hid (show Below wr.heap.size wr wb by rw [eb]; exact (Below.refl _ _).alloc (Nat.le_refl _) _)
          have RB := Lib.hid (show Row wb wr.heap.size 27 #[.int .i64 (t.kids[j]).op, .int .i64 (t.kids[j]).n, .string (t.kids[j]).s, .slice A2 (t.kids[j]).kids.length c2] by rw [eb]; exact Row.new' _ _ _ rfl)
          have GB := Lib.hid (HG.out.below EB.out)
          have AB := Lib.hid (HA.out.below (EB.out.mono (by omega)) (Nat.le_refl _))
          have hsb := EB.out.size
          go_wp2_with fail
          rw [← eb]
          clear eb
          have hcb := fun i => RB.out.cell i
          try go_wp2_with fail
          refine (HH.out j hlt A2 c2 zs A c _ (by have := HKK.out; have := HBE.out; have := HJ.out; omega) (by have := H1.out; have := HBE.out; have := HJ.out; have := HZL.out; have := HYL.out; omega) (by omega) GB.out AB.out).mono ?_
          rintro e w1 ⟨A3, c3, rfl, hG1, hGr1⟩
          have HG1 := Lib.hid hG1
          have HGr1 := Lib.hid ((Gr.of_below (v := .slice A zs.length c) EB.out).trans hGr1)
          clear hG1 hGr1 hcb
          go_wp2_with fail
          go_roundw
          case rel => exact ⟨j + 1, _, A3, c3, by omega, by go_num, rfl, Lib.hid (by rw [GTy.viL_take hlt, ← HZ.out]), HG1, Lib.hid (HGr.out.trans HGr1.out), HGr1.out.ne hne hra, Lib.hid (HGr1.out.row HRa.out hne), Lib.hid (by have h1 := GTy.vi_len (t.kids[j]) zs; have h2 := HJ.out; have h3 := HZL.out; omega)⟩
          case measure => simp [intOf]; omega
        · have HY := Lib.hid (show zs = t.vi xs from by rw [HM.out, HZ.out, show j = t.kids.length by omega, List.take_length])
          go_wp2_with fail
          go_ret
          rw [← HY.out]
          exact ⟨A, c, rfl, HG.out, HGr.out⟩
end Go.Proofs.Ytghldoiblbcacaa

/- Is a var in a type: the reference's walk, and that it is so where the list of vars has it. Conditions: none. -/
namespace Go.Proofs.Ytghldoiblbcacaa
open Go.RowKit
set_option linter.unusedVariables false
set_option linter.unusedSimpArgs false
set_option maxHeartbeats 1000000

theorem noneTo_any {α : Type} {p : α → Bool} {l : List α} (h : noneTo p l l.length) : l.any p = false := by
  rw [List.any_eq_false]
  intro x hx
  obtain ⟨i, hi, rfl⟩ := List.getElem_of_mem hx
  rw [h i hi hi]; simp
mutual
def GTy.has (n : Int) : GTy → Bool | .mk op m s kids => (op == 2 && m == n) || GTy.hasL n kids
def GTy.hasL (n : Int) : List GTy → Bool | [] => false | t :: r => t.has n || GTy.hasL n r
end
theorem GTy.has_eq (n : Int) (t : GTy) : t.has n = ((t.op == 2 && t.n == n) || GTy.hasL n t.kids) := by cases t; rw [GTy.has]; rfl
theorem GTy.hasL_any (n : Int) : ∀ l : List GTy, GTy.hasL n l = l.any (fun t => t.has n)
  | [] => by rw [GTy.hasL]; rfl
  | t :: r => by rw [GTy.hasL, GTy.hasL_any n r]; rfl
mutual
theorem GTy.mem_vs (n : Int) : ∀ (t : GTy) (xs : List Int), n ∈ t.vs xs ↔ n ∈ xs ∨ t.has n = true
  | .mk op m s kids, xs => by
    rw [GTy.vs, GTy.mem_vsL n kids, GTy.has]
    by_cases h : op = 2
    · rw [if_pos h, ins_mem, or_assoc]; simp only [h, beq_self_eq_true, Bool.true_and, Bool.or_eq_true, beq_iff_eq]; exact or_congr Iff.rfl (or_congr ⟨Eq.symm, Eq.symm⟩ Iff.rfl)
    · rw [if_neg h]; simp [h]
theorem GTy.mem_vsL (n : Int) : ∀ (l : List GTy) (xs : List Int), n ∈ GTy.vsL l xs ↔ n ∈ xs ∨ GTy.hasL n l = true
  | [], xs => by rw [GTy.vsL, GTy.hasL]; simp
  | t :: r, xs => by rw [GTy.vsL, GTy.mem_vsL n r, GTy.mem_vs n t, GTy.hasL]; simp [or_assoc]
end
theorem GTy.has_vs (n : Int) (t : GTy) : t.has n = true ↔ n ∈ t.vs [] := by rw [GTy.mem_vs]; simp

set_option maxRecDepth 20000 in
theorem specHas (n : Int) (k : Nat) : ∀ (t : GTy) (A1 : Option Addr) (c1 : Nat) (w : World), t.bulk < k → GTy.At w (Lt w.heap.size) A1 c1 t →
    Calls Try.prog 83 #[.agg #[.int .i64 t.op, .int .i64 t.n, .string t.s, .slice A1 t.kids.length c1], .int .i64 n] w fun e w' => e = .returned (.bool (t.has n)) ∧ Below w.heap.size w w' := by
  induction k with
  | zero => intros; omega
  | succ k ih =>
    intro t A1 c1 w hk hat
    have hlen : t.kids.length ≤ 9223372036854775807 := by simpa using hat.2.2.2.len
    have hbe := t.bulk_eq
    have HH := Lib.hid (fun (j : Nat) (h : j < t.kids.length) (A1 : Option Addr) (c1 : Nat) => ih t.kids[j] A1 c1)
    have HKB := Lib.hid (fun (j : Nat) (h : j < t.kids.length) => show t.kids[j].bulk < k from by have := (bulkV_next GTy.bulk h).2; have := (bulkV_next GTy.bulk h).1; omega)
    have T0 := Lib.hid hat
    obtain ⟨w0, e0⟩ : ∃ w0, w0 = w.alloc (.cells #[.int .i64 t.op, .int .i64 t.n, .string t.s, .slice A1 t.kids.length c1] 27) := ⟨_, rfl⟩
    have E0 := Lib.hid (show Below w.heap.size w w0 by rw [e0]; exact (Below.refl _ _).alloc (Nat.le_refl _) _)
    have Ra0 := Lib.hid (show Row w0 w.heap.size 27 #[.int .i64 t.op, .int .i64 t.n, .string t.s, .slice A1 t.kids.length c1] by rw [e0]; exact Row.new' _ _ _ rfl)
    have S0 : w0.heap.size = w.heap.size + 1 := by rw [e0]; simp
    have hca0 := fun i => Ra0.out.cell i
    have HE := Lib.hid (t.has_eq n)
    have HA := Lib.hid (GTy.hasL_any n t.kids)
    clear ih hbe hk hat
    cases o2 : (t.op == 2)
    case' false =>
      have HV := Lib.hid (show t.has n = t.kids.any (fun t => t.has n) by rw [HE.out, o2, HA.out]; rfl)
    case' true =>
      cases on : (t.n == n)
      case true =>
        have HV := Lib.hid (show t.has n = true by rw [HE.out, o2, on]; rfl)
        go_enter Try.func83, Try.ntmps83
        go_wp2_with fail
        go_ret
        exact ⟨ret_bool HV.out.symm, by rw [← e0]; exact E0.out⟩
      have HV := Lib.hid (show t.has n = t.kids.any (fun t => t.has n) by rw [HE.out, o2, on, HA.out]; rfl)
    all_goals
      go_enter Try.func83, Try.ntmps83
      go_wp2_with fail
      rw [← e0]
      clear e0 hca0
      go_loopw [5] (fun i wr => ∃ (j : Nat), j ≤ t.kids.length ∧ i = .int .i64 j ∧ Hid (noneTo (fun t => t.has n) t.kids j) ∧ Hid (Row wr w.heap.size 27 #[.int .i64 t.op, .int .i64 t.n, .string t.s, .slice A1 t.kids.length c1]) ∧ Hid (Below w.heap.size w wr)) (fun i _ => t.kids.length - (intOf i).toNat)
      case atStart => exact ⟨0, by omega, by go_num, Lib.hid (noneTo_zero _ _), Ra0, E0⟩
      case round =>
        obtain ⟨j, hj, rfl, HN, HRa, HB⟩ := hrel
        have hca := fun i => HRa.out.cell i
        have hsz := HB.out.size
        by_cases hlt : j < t.kids.length
        · obtain ⟨b, off, A2, c2, eA, hSb, g0, g1, g2, g3, hatk⟩ := GTy.elem (T0.out.below HB.out (Nat.le_refl _)).2.2.2 j hlt
          have HAk := Lib.hid (hatk.below (Below.refl _ _) hsz)
          have hkb := HKB.out j hlt
          subst eA
          clear hatk
          go_wp2_with fail
          refine (HH.out j hlt A2 c2 _ hkb HAk.out).mono ?_
          rintro e w1 ⟨rfl, hb1⟩
          have R1 := Lib.hid (HRa.out.below hb1 HRa.out.lt)
          have B1 := Lib.hid (HB.out.trans (hb1.mono hsz))
          clear hb1 hkb
          cases he : (t.kids[j]).has n
          · have HN2 := Lib.hid (noneTo_succ HN.out hlt he)
            go_wp2_with fail
            go_roundw
            case rel => exact ⟨j + 1, by omega, by go_num, HN2, R1, B1⟩
            case measure => simp [intOf]; omega
          · have HW := Lib.hid (show t.has n = true by rw [HV.out]; exact List.any_eq_true.2 ⟨_, List.getElem_mem hlt, he⟩)
            go_wp2_with fail
            go_ret
            exact ⟨ret_bool HW.out.symm, B1.out⟩
        · have HW := Lib.hid (show t.has n = false from by rw [HV.out]; exact noneTo_any (by have := HN.out; rwa [show j = t.kids.length by omega] at this))
          go_wp2_with fail
          go_ret
          exact ⟨ret_bool HW.out.symm, HB.out⟩
end Go.Proofs.Ytghldoiblbcacaa
