/- The text of a mark, and the numbers of slices of ints. Conditions: the mark is from 1 on. -/
import Derived.Test.YtgbcdfeflgnogaaRows
import Derived.Test.YtgbcdfeflgnogaaPw
import Derived.Test.YtgbcdfeflgnogaaFocus
import Derived.BigQuiet
import Derived.Lib.Hide
namespace Go.Proofs.Ytgbcdfeflgnogaa
open Go.RowKit
set_option linter.unusedVariables false
set_option linter.unusedSimpArgs false
set_option maxHeartbeats 1000000

/-! ### one element's marking, stage by stage -/
/-- the world u: on the way from wr, where the cells from lo to hi of block b, and blocks of T, are written; w: the world at the beginning -/
structure MSt (w wr : World) (S T : Nat → Prop) (b lo hi : Nat) (u : World) : Prop where
  blk : ∀ x, x < wr.heap.size → x ≠ b → ¬ T x → u.heap[x]? = wr.heap[x]?
  out : ∀ o, (o < lo ∨ hi ≤ o) → u.cell? ⟨b, o, none⟩ = wr.cell? ⟨b, o, none⟩
  fr : ∀ o, u.frozen? ⟨b, o, none⟩ = false
  touch : Touch S w u
  size : wr.heap.size ≤ u.heap.size
theorem cell_ne {w : World} {b i k : Nat} {v : Value} (h : i ≠ k) : (w.setCell ⟨b, i, none⟩ v).cell? ⟨b, k, none⟩ = w.cell? ⟨b, k, none⟩ :=
  World.cell?_setCell_other _ _ _ _ (fun e => h (congrArg Addr.off e))
theorem MSt.start {w wr : World} {S T : Nat → Prop} {b lo hi : Nat} (hf : ∀ o, wr.frozen? ⟨b, o, none⟩ = false) (ht : Touch S w wr) : MSt w wr S T b lo hi wr :=
  ⟨fun _ _ _ _ => rfl, fun _ _ => rfl, hf, ht, Nat.le_refl _⟩
theorem MSt.set {w wr u : World} {S T : Nat → Prop} {b lo hi : Nat} (h : MSt w wr S T b lo hi u) (hS : S b) (o : Nat) (h1 : lo ≤ o) (h2 : o < hi) (v : Value) : MSt w wr S T b lo hi (u.setCell ⟨b, o, none⟩ v) :=
  ⟨fun x a1 a2 a3 => (Below.heap_setCell u ⟨b, o, none⟩ v x a2).trans (h.blk x a1 a2 a3), fun q hq => (cell_ne (by omega)).trans (h.out q hq), fun q => (World.frozen?_setCell _ _ _ _).trans (h.fr q), h.touch.trans (Touch.setCell hS v), by have := h.size; simpa [World.setCell] using this⟩
theorem MSt.below {w wr u u' : World} {S T : Nat → Prop} {b lo hi : Nat} (h : MSt w wr S T b lo hi u) (hb : Below u.heap.size u u') (hbl : b < wr.heap.size) (hS : ∀ x, S x → x < w.heap.size) : MSt w wr S T b lo hi u' :=
  ⟨fun x a1 a2 a3 => (hb.block x (Nat.lt_of_lt_of_le a1 h.size)).trans (h.blk x a1 a2 a3), fun q hq => (hb.cell (p := ⟨b, q, none⟩) (Nat.lt_of_lt_of_le hbl h.size)).trans (h.out q hq), fun q => (hb.frozen (p := ⟨b, q, none⟩) (Nat.lt_of_lt_of_le hbl h.size)).trans (h.fr q),
    h.touch.trans (Below.touch hb (fun x hx => Nat.lt_of_lt_of_le (hS x hx) h.touch.size)), Nat.le_trans h.size hb.size⟩
theorem MSt.mark {w wr u u' : World} {S T T' : Nat → Prop} {b lo hi : Nat} (h : MSt w wr S T b lo hi u) (ht : Touch T' u u') (hT : ∀ x, T' x → T x) (hTS : ∀ x, T x → S x) (hTb : ¬ T b) (hbl : b < wr.heap.size) (hS : ∀ x, S x → x < w.heap.size) : MSt w wr S T b lo hi u' :=
  have hu : b < u.heap.size := Nat.lt_of_lt_of_le hbl h.size
  have hbb := ht.block b hu (fun e => hTb (hT b e))
  ⟨fun x a1 a2 a3 => (ht.block x (Nat.lt_of_lt_of_le a1 h.size) (fun e => a3 (hT x e))).trans (h.blk x a1 a2 a3), fun q hq => (World.cell?_of_block hbb).trans (h.out q hq), fun q => (World.frozen?_of_block hbb).trans (h.fr q),
    h.touch.trans (ht.mono (fun x hx => hTS x (hT x hx)) (fun x hx => Nat.lt_of_lt_of_le (hS x hx) h.touch.size)), Nat.le_trans h.size ht.size⟩
theorem MSt.blk2 {w wr u : World} {S T : Nat → Prop} {b lo hi : Nat} (h : MSt w wr S T b lo hi u) (hS : ∀ x, S x → x < w.heap.size) (hl : w.heap.size ≤ wr.heap.size) : ∀ x, S x → x ≠ b → ¬ T x → u.heap[x]? = wr.heap[x]? :=
  fun x a1 a2 a3 => h.blk x (Nat.lt_of_lt_of_le (hS x a1) hl) a2 a3
theorem Osl.set {u : World} {T : Nat → Prop} {size b o c : Nat} {A : Option Addr} {xs : List D} (h : Osl u T size A c xs) (hb : ¬ T b) (v : Value) : Osl (u.setCell ⟨b, o, none⟩ v) T size A c xs :=
  h.keep fun x hx => ⟨hx, Below.heap_setCell u ⟨b, o, none⟩ v x (fun e => hb (by subst e; exact hx))⟩
theorem Osl.belowS {u u' : World} {T : Nat → Prop} {size c : Nat} {A : Option Addr} {xs : List D} (h : Osl u T size A c xs) (hb : Below u.heap.size u u') (hT : ∀ x, T x → x < u.heap.size) : Osl u' T size A c xs :=
  h.keep fun x hx => ⟨hx, hb.block x (hT x hx)⟩
theorem Osl.touched {u u' : World} {T T' : Nat → Prop} {size c : Nat} {A : Option Addr} {xs : List D} (h : Osl u T size A c xs) (ht : Touch T' u u') (hd : ∀ x, T x → ¬ T' x) (hT : ∀ x, T x → x < u.heap.size) : Osl u' T size A c xs :=
  h.keep fun x hx => ⟨hx, ht.block x (hT x hx) (hd x hx)⟩

/-- a list that is marked, from number k on: each element by mk, cn numbers an element -/
def markL {α : Type} (mk : α → Nat → α) (cn : α → Nat) : List α → Nat → List α
  | [], _ => []
  | t :: r, k => mk t k :: markL mk cn r (k + cn t)
def cntL {α : Type} (cn : α → Nat) : List α → Nat
  | [] => 0
  | t :: r => cn t + cntL cn r
theorem markL_length {α : Type} (mk : α → Nat → α) (cn : α → Nat) : ∀ (l : List α) (k : Nat), (markL mk cn l k).length = l.length
  | [], _ => rfl
  | t :: r, k => by simp only [markL, List.length_cons, markL_length mk cn r]
theorem cntL_take_succ {α : Type} (cn : α → Nat) (l : List α) (j : Nat) (h : j < l.length) : cntL cn (l.take (j + 1)) = cntL cn (l.take j) + cn l[j] := by
  induction l generalizing j with
  | nil => simp at h
  | cons t r ih =>
    match j with
    | 0 => simp [cntL]
    | j + 1 => simp only [List.take_succ_cons, cntL, List.getElem_cons_succ]; rw [ih j (by simpa using h)]; omega
theorem markL_take_succ {α : Type} (mk : α → Nat → α) (cn : α → Nat) (l : List α) (j k : Nat) (h : j < l.length) : markL mk cn (l.take (j + 1)) k = markL mk cn (l.take j) k ++ [mk l[j] (k + cntL cn (l.take j))] := by
  induction l generalizing j k with
  | nil => simp at h
  | cons t r ih =>
    match j with
    | 0 => simp [markL, cntL]
    | j + 1 =>
      simp only [List.take_succ_cons, markL, List.getElem_cons_succ, List.cons_append, cntL]
      rw [ih j (k + cn t) (by simpa using h), Nat.add_assoc]
theorem cntL_take_le {α : Type} (cn : α → Nat) (l : List α) (j : Nat) (h : j < l.length) : cntL cn (l.take j) + cn l[j] ≤ cntL cn l := by
  induction l generalizing j with
  | nil => simp at h
  | cons t r ih =>
    match j with
    | 0 => simp [cntL]
    | j + 1 => simp only [List.take_succ_cons, cntL, List.getElem_cons_succ]; have := ih j (by simpa using h); omega
theorem markL_get {α : Type} (mk : α → Nat → α) (cn : α → Nat) (l : List α) (k j : Nat) (h : j < l.length) : (markL mk cn l k)[j]'(by rw [markL_length]; exact h) = mk l[j] (k + cntL cn (l.take j)) := by
  induction l generalizing k j with
  | nil => simp at h
  | cons t r ih =>
    match j with
    | 0 => simp [markL, cntL]
    | j + 1 =>
      simp only [markL, List.getElem_cons_succ, List.take_succ_cons, cntL]
      rw [ih (k + cn t) j (by simpa using h), Nat.add_assoc]
theorem cntL_le {α : Type} (cn f : α → Nat) (l : List α) (H : ∀ t, t ∈ l → cn t ≤ 16 * (1 + f t)) : cntL cn l ≤ 16 * bulkL f l := by
  induction l with
  | nil => simp [cntL]
  | cons t r ih =>
    simp only [cntL, bulkL]
    have := H t (by simp)
    have := ih (fun x hx => H x (by simp [hx]))
    omega
/-- the first j elements are marked -/
def markTo {α : Type} (mk : α → Nat → α) (cn : α → Nat) (l : List α) (k j : Nat) : List α := markL mk cn (l.take j) k ++ l.drop j
theorem markTo_zero {α : Type} (mk : α → Nat → α) (cn : α → Nat) (l : List α) (k : Nat) : markTo mk cn l k 0 = l := by simp [markTo, markL]
theorem markTo_all {α : Type} (mk : α → Nat → α) (cn : α → Nat) (l : List α) (k : Nat) : markTo mk cn l k l.length = markL mk cn l k := by simp [markTo]
theorem markTo_length {α : Type} (mk : α → Nat → α) (cn : α → Nat) (l : List α) (k j : Nat) (h : j ≤ l.length) : (markTo mk cn l k j).length = l.length := by
  simp only [markTo, List.length_append, markL_length, List.length_take, List.length_drop]; omega
theorem markTo_get {α : Type} (mk : α → Nat → α) (cn : α → Nat) (l : List α) (k j : Nat) (h : j < l.length) : (markTo mk cn l k j)[j]'(by rw [markTo_length mk cn l k j (by omega)]; exact h) = l[j] := by
  have e : (markL mk cn (l.take j) k).length = j := by rw [markL_length]; simp; omega
  simp only [markTo]
  rw [List.getElem_append_right (by omega)]
  simp [e]
theorem markTo_set {α : Type} (mk : α → Nat → α) (cn : α → Nat) (l : List α) (k j : Nat) (h : j < l.length) : (markTo mk cn l k j).set j (mk l[j] (k + cntL cn (l.take j))) = markTo mk cn l k (j + 1) := by
  have e : (markL mk cn (l.take j) k).length = j := by rw [markL_length]; simp; omega
  simp only [markTo]
  rw [markL_take_succ mk cn l j k h, List.set_append_right _ _ (by omega), e, Nat.sub_self, List.drop_eq_getElem_cons h, List.set_cons_zero, List.append_assoc]
  rfl

theorem wfNat (n : Nat) (h : n ≤ 9223372036854775807) : (Lit.int .i64 (n : Int)).wf = true := by
  simp [Lit.wf, IntKind.min, IntKind.max, IntKind.signed, IntKind.bits]; omega
/-- the text of a mark -/
def markT (k : Nat) : ByteArray := ⟨#[109]⟩ ++ digU k
theorem markT_size (k : Nat) (h : k ≤ 9223372036854775807) : (markT k).size ≤ 20 := by
  unfold markT
  have := digU_size19 k (by omega)
  rw [ByteArray.size_append]
  have : (⟨#[109]⟩ : ByteArray).size = 1 := rfl
  omega

theorem markText (n : Nat) (w : World) (h1 : 0 < n) (h2 : n ≤ 9223372036854775807) :
    Calls Try.prog 144 #[.int .i64 n] w fun e w' => e = .returned (.string (markT n)) ∧ Below w.heap.size w w' := by
  have hcv := fun (w : World) (x : Int) => run_string_one (P := Try.prog) w 55 9 5 x Try.underlying55 Try.underlying5 Try.underlying9
  have hz : decide ((n : Int) ≤ 0) = false := decide_eq_false (by omega)
  go_enter Try.func144, Try.ntmps144
  go_wp2
  go_loopw [0, 3] (fun t i wr => ∃ (a : Nat) (s : ByteArray), a ≤ 9223372036854775807 ∧ t = .int .i64 a ∧ i = .string s ∧ digR a s = digR n ⟨#[]⟩ ∧ Below w.heap.size w wr) (fun t _ _ => (intOf t).toNat)
  case atStart => exact ⟨n, ⟨#[]⟩, by omega, by go_num, rfl, rfl, Below.refl _ _⟩
  case round =>
    obtain ⟨a, s, ha, rfl, rfl, hd, hb⟩ := hrel
    have hs : s.size ≤ 19 := by
      have g1 := digR_size a s
      rw [hd, digR_start (by omega)] at g1
      have := digU_size19 n (by omega)
      omega
    have Hd := Lib.hid hd
    clear hd
    have hbs := hb.size
    rcases Nat.eq_zero_or_pos a with hz0 | hp
    · subst hz0
      go_wp2
      go_ret
      refine ⟨ret_str ?_, hb⟩
      have e := Hd.out
      rw [digR_zero, digR_start (by omega)] at e
      rw [e]; rfl
    · have hk1 : 0 < (a : Int) := by omega
      have hm : 0 ≤ (a : Int) % 10 ∧ (a : Int) % 10 ≤ 9 := by omega
      have Hst := Lib.hid (digR_step (a := a) (by omega) s)
      go_wp2
      go_roundw
      case rel => exact ⟨a / 10, one (48 + (a : Int) % 10) ++ s, by omega, by go_num, rfl, by rw [← Hd.out, ← Hst.out]; simp, hb.alloc hbs _⟩
      case measure => simp [intOf]; omega
theorem markTextI (x : Int) (n : Nat) (e : x = n) (w : World) (h1 : 0 < n) (h2 : n ≤ 9223372036854775807) :
    Calls Try.prog 144 #[.int .i64 x] w fun e w' => e = .returned (.string (markT n)) ∧ Below w.heap.size w w' := by
  subst e; exact markText n w h1 h2
end Go.Proofs.Ytgbcdfeflgnogaa
