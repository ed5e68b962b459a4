/- ValueText. Conditions: what the value holds is at most 1048576. -/
import Derived.Test.YtdcchfpgpdekmaaDigits
import Derived.Test.YtdcchfpgpdekmaaGValue
namespace Go.Proofs.Ytdcchfpgpdekmaa
open Go.RowKit
set_option linter.unusedVariables false
set_option linter.unusedSimpArgs false
set_option maxHeartbeats 800000

mutual
/-- a value as text -/
def GValue.text : GValue → ByteArray
  | .mk kind n s kids => if kind = 1 then digI n else if kind = 2 then (if kids.length = 0 then s else ⟨#[40]⟩ ++ (s ++ GValue.textL kids) ++ ⟨#[41]⟩) else ⟨#[102, 117, 110]⟩
def GValue.textL : List GValue → ByteArray
  | [] => ⟨#[]⟩
  | v :: r => (⟨#[32]⟩ ++ v.text) ++ GValue.textL r
end

theorem GValue.text_eq (v : GValue) : v.text = if v.kind = 1 then digI v.n else if v.kind = 2 then (if v.kids.length = 0 then v.s else ⟨#[40]⟩ ++ (v.s ++ GValue.textL v.kids) ++ ⟨#[41]⟩) else ⟨#[102, 117, 110]⟩ := by
  cases v; simp only [GValue.text, GValue.kind, GValue.n, GValue.s, GValue.kids]; rfl

theorem ba_nil (a : ByteArray) : a ++ ⟨#[]⟩ = a := by apply ByteArray.ext; simp [ByteArray.data_append]
theorem ba_nil' (a : ByteArray) : ⟨#[]⟩ ++ a = a := by apply ByteArray.ext; simp [ByteArray.data_append]

theorem GValue.textL_take (l : List GValue) (i : Nat) (h : i < l.length) : GValue.textL (l.take (i + 1)) = GValue.textL (l.take i) ++ (⟨#[32]⟩ ++ (l[i]).text) := by
  induction l generalizing i with
  | nil => simp at h
  | cons t r ih =>
    match i with
    | 0 => simp [GValue.textL, ba_nil, ba_nil']
    | i + 1 => simp only [List.take_succ_cons, GValue.textL, List.getElem_cons_succ]; rw [ih i (by simpa using h), ba_assoc, ba_assoc, ba_assoc]

theorem GValue.textL_le (l : List GValue) (i : Nat) : (GValue.textL (l.take i)).size ≤ (GValue.textL l).size := by
  induction l generalizing i with
  | nil => simp
  | cons t r ih =>
    match i with
    | 0 => simp only [List.take_zero, GValue.textL]; exact Nat.zero_le _
    | i + 1 => simp only [List.take_succ_cons, GValue.textL, ByteArray.size_append']; have := ih i; omega

theorem digI_size_any (n : Int) (h : (Lit.int .i64 n).wf = true) : (digI n).size ≤ 20 := digI_size n (wf64 h).1 (wf64 h).2


mutual
def GValue.fit : GValue → Prop
  | .mk kind n s kids => (Lit.int .i64 n).wf = true ∧ GValue.fitL kids
def GValue.fitL : List GValue → Prop
  | [] => True
  | v :: r => v.fit ∧ GValue.fitL r
end

mutual
theorem GValue.text_size : ∀ v : GValue, v.fit → v.text.size + 1 ≤ 25 * (v.bulk + 1)
  | .mk kind n s kids, h => by
    simp only [GValue.fit] at h
    have h1 := GValue.textL_size kids h.2
    have h2 := digI_size_any n h.1
    simp only [GValue.text, GValue.bulk]
    split
    · omega
    · split
      · split
        · omega
        · simp only [ByteArray.size_append']
          have e1 : (ByteArray.mk #[40]).size = 1 := rfl
          have e2 : (ByteArray.mk #[41]).size = 1 := rfl
          omega
      · have e1 : (ByteArray.mk #[102, 117, 110]).size = 3 := rfl
        omega
theorem GValue.textL_size : ∀ l : List GValue, GValue.fitL l → (GValue.textL l).size ≤ 25 * GValue.bulks l
  | [], _ => by simp only [GValue.textL]; exact Nat.zero_le _
  | v :: r, h => by
    simp only [GValue.fitL] at h
    have h1 := GValue.text_size v h.1
    have h2 := GValue.textL_size r h.2
    have e1 : (ByteArray.mk #[32]).size = 1 := rfl
    simp only [GValue.textL, GValue.bulks, ByteArray.size_append']
    omega
end

/-- the numbers of what lies in memory fit -/
theorem GValue.rd_fit {w : World} {S : Nat → Prop} (k : Nat) : ∀ (v : GValue) (cs : List Value), v.bulk < k → v.toD.rd w S cs → v.fit := by
  induction k with
  | zero => intro v cs h; omega
  | succ k ih =>
    intro v cs hk h
    obtain ⟨A, c, _, h0, h1, h2, h3⟩ := GValue.rd h
    have hb := v.bulk_eq
    have hall : ∀ l : List GValue, (∀ u ∈ l, u.fit) → GValue.fitL l := by
      intro l
      induction l with
      | nil => intro _; simp only [GValue.fitL]
      | cons t r ihl => intro hu; simp only [GValue.fitL]; exact ⟨hu t (by simp), ihl fun u hm => hu u (by simp [hm])⟩
    have hk2 : GValue.fitL v.kids := hall _ fun u hu => by
      obtain ⟨i, hi, rfl⟩ := List.mem_iff_getElem.1 hu
      obtain ⟨b, off, cs', _, _, _, _, hr⟩ := Sl.get h3 i (by simpa using hi)
      rw [List.getElem_map] at hr
      exact ih _ cs' (by have := bulkL_mem GValue.bulk v.kids _ hu; omega) hr
    cases v
    exact ⟨h1, hk2⟩

theorem GValue.At.fit {w : World} {S : Nat → Prop} {A1 : Option Addr} {c1 : Nat} {v : GValue} (h : GValue.At w S A1 c1 v) : v.fit :=
  GValue.rd_fit (v.bulk + 1) v _ (by omega) (GValue.rd_mk h)

theorem GValue.fitL_mem : ∀ {l : List GValue} {u : GValue}, GValue.fitL l → u ∈ l → u.fit
  | t :: r, u, h, hm => by
    simp only [GValue.fitL] at h
    cases hm with
    | head => exact h.1
    | tail _ hm => exact GValue.fitL_mem h.2 hm

theorem GValue.fit_kids {v : GValue} (h : v.fit) : GValue.fitL v.kids := by cases v; exact h.2

theorem implValueText (k : Nat) : ∀ (t : GValue) (A1 : Option Addr) (c1 : Nat) (w : World), t.bulk < k → t.bulk ≤ 1048576 → GValue.At w (Lt w.heap.size) A1 c1 t →
    Calls Try.prog 49 #[.agg #[.int .i64 t.kind, .int .i64 t.n, .string t.s, .slice A1 t.kids.length c1]] w fun e w' => e = .returned (.string t.text) ∧ Below w.heap.size w w' := by
  induction k with
  | zero => intro t A1 c1 w h; omega
  | succ k ih =>
    intro t A1 c1 w hk hb ht
    have hfit := ht.fit
    obtain ⟨h0, h1, h2, hs⟩ := id ht
    have hn := wf64 h1
    have hte := Lib.hid t.text_eq
    have E : Below w.heap.size w (w.alloc (.cells #[.int .i64 t.kind, .int .i64 t.n, .string t.s, .slice A1 t.kids.length c1] 81)) := (Below.refl _ _).alloc (Nat.le_refl _) _
    by_cases hk1 : t.kind = 1
    · have q1 : (t.kind == 1) = true := by simpa using hk1
      have Hk1 := Lib.hid hk1
      clear hk1
      go_enter Try.func49, Try.ntmps49
      go_wp2_with fail
      refine (implDigits' t.n _ hn.1 hn.2).mono ?_
      rintro e w1 ⟨rfl, rfl⟩
      go_wp2_with fail
      go_ret
      exact ⟨ret_str (by rw [hte.out, if_pos Hk1.out]), E⟩
    have q1 : (t.kind == 1) = false := by simpa using hk1
    by_cases hk2 : t.kind = 2
    rotate_left
    · have q2 : (t.kind == 2) = false := by simpa using hk2
      have Hk1 := Lib.hid hk1
      have Hk2 := Lib.hid hk2
      clear hk1 hk2
      go_enter Try.func49, Try.ntmps49
      go_wp2_with fail
      go_ret
      exact ⟨ret_str (by rw [hte.out, if_neg Hk1.out, if_neg Hk2.out]), E⟩
    have q2 : (t.kind == 2) = true := by simpa using hk2
    have Hk1 := Lib.hid hk1
    have Hk2 := Lib.hid hk2
    clear hk1 hk2
    have hlen : t.kids.length ≤ 9223372036854775807 := by simpa using hs.len
    have hbe := t.bulk_eq
    have hzs : t.s.size ≤ 1048576 := by omega
    have hzL := GValue.textL_size t.kids (GValue.fit_kids hfit)
    rw [GValue.bulks_eq] at hzL
    have hzL2 : (GValue.textL t.kids).size ≤ 26214500 := by omega
    clear hzL h2
    go_enter Try.func49, Try.ntmps49
    go_wp2_with fail
    go_loopw [3, 20] (fun n i wr => ∃ j : Nat, j ≤ t.kids.length ∧ i = .int .i64 j ∧ n = .string (t.s ++ GValue.textL (t.kids.take j)) ∧ Below w.heap.size w wr ∧ Row wr w.heap.size 81 #[.int .i64 t.kind, .int .i64 t.n, .string t.s, .slice A1 t.kids.length c1]) (fun _ i _ => t.kids.length - (intOf i).toNat)
    case atStart => exact ⟨0, by omega, by go_num, by simp [GValue.textL, ba_nil], E, Row.new _ _ _⟩
    case round =>
      clear E
      obtain ⟨j, hj, rfl, rfl, hbl, hrow⟩ := hrel
      have hsz := hbl.size
      have hgl := hrow.lt
      have hc := fun i => hrow.cell i
      have hzt := GValue.textL_le t.kids j
      by_cases hlt : j < t.kids.length
      · have htr := GValue.elem (hs.below hbl (Nat.le_refl _)) j hlt
        obtain ⟨b, off, A', c', rfl, hSb, g0, g1, g2, g3, hat⟩ := htr
        have hmem : t.kids[j] ∈ t.kids := List.getElem_mem hlt
        have Hs := Lib.hid (GValue.textL_take t.kids j hlt)
        have hs5 : (t.kids[j]).bulk < k ∧ (t.kids[j]).bulk ≤ 1048576 := by have := bulkL_mem GValue.bulk t.kids _ hmem; omega
        have hs6 := GValue.text_size t.kids[j] (GValue.fitL_mem (GValue.fit_kids hfit) hmem)
        have hs7 : (t.kids[j]).text.size ≤ 26214500 := by omega
        clear hs6
        go_wp2_with fail
        refine (ih _ _ _ _ hs5.1 hs5.2 (hat.below ((Below.refl _ _).alloc (by omega) _) (by simp; omega))).mono ?_
        rintro e w1 ⟨rfl, hb1⟩
        go_wp2_with fail
        go_roundw
        case rel => exact ⟨j + 1, by omega, by go_num, by rw [Hs.out, ba_assoc], hbl.trans (((Below.refl _ _).alloc hsz _).trans (hb1.mono (by simp; omega))), (hrow.alloc _).below hb1 (by simp; omega)⟩
        case measure => simp [intOf]; omega
      · have hjl : j = t.kids.length := by omega
        have Hj := Lib.hid hjl
        clear hjl
        by_cases hk0 : t.kids.length = 0
        · have hk0' : ¬ 0 < t.kids.length := by omega
          have Hk0 := Lib.hid hk0
          clear hk0
          go_wp2_with fail
          go_ret
          exact ⟨ret_str (by rw [hte.out, if_neg Hk1.out, if_pos Hk2.out, if_pos Hk0.out, Hj.out, List.take_length, List.eq_nil_of_length_eq_zero Hk0.out]; simp [GValue.textL, ba_nil]), hbl⟩
        · have hk0' : 0 < t.kids.length := by omega
          go_wp2_with fail
          go_ret
          exact ⟨ret_str (by rw [hte.out, if_neg Hk1.out, if_pos Hk2.out, if_neg hk0, Hj.out, List.take_length]), hbl⟩

theorem specValueText (k : Nat) : ∀ (t : GValue) (A1 : Option Addr) (c1 : Nat) (w : World), t.bulk < k → t.bulk ≤ 1048576 → GValue.At w (Lt w.heap.size) A1 c1 t →
    Calls Try.prog 47 #[.agg #[.int .i64 t.kind, .int .i64 t.n, .string t.s, .slice A1 t.kids.length c1]] w fun e w' => e = .returned (.string t.text) ∧ Below w.heap.size w w' := by
  induction k with
  | zero => intro t A1 c1 w h; omega
  | succ k ih =>
    intro t A1 c1 w hk hb ht
    have hfit := ht.fit
    obtain ⟨h0, h1, h2, hs⟩ := id ht
    have hn := wf64 h1
    have hte := Lib.hid t.text_eq
    have E : Below w.heap.size w (w.alloc (.cells #[.int .i64 t.kind, .int .i64 t.n, .string t.s, .slice A1 t.kids.length c1] 81)) := (Below.refl _ _).alloc (Nat.le_refl _) _
    by_cases hk1 : t.kind = 1
    · have q1 : (t.kind == 1) = true := by simpa using hk1
      have Hk1 := Lib.hid hk1
      clear hk1
      go_enter Try.func47, Try.ntmps47
      go_wp2_with fail
      refine (specDigits t.n _ hn.1 hn.2).mono ?_
      rintro e w1 ⟨rfl, hb1⟩
      go_wp2_with fail
      go_ret
      exact ⟨ret_str (by rw [hte.out, if_pos Hk1.out]), E.trans (hb1.mono E.size)⟩
    have q1 : (t.kind == 1) = false := by simpa using hk1
    by_cases hk2 : t.kind = 2
    rotate_left
    · have q2 : (t.kind == 2) = false := by simpa using hk2
      have Hk1 := Lib.hid hk1
      have Hk2 := Lib.hid hk2
      clear hk1 hk2
      go_enter Try.func47, Try.ntmps47
      go_wp2_with fail
      go_ret
      exact ⟨ret_str (by rw [hte.out, if_neg Hk1.out, if_neg Hk2.out]), E⟩
    have q2 : (t.kind == 2) = true := by simpa using hk2
    have Hk1 := Lib.hid hk1
    have Hk2 := Lib.hid hk2
    clear hk1 hk2
    have hlen : t.kids.length ≤ 9223372036854775807 := by simpa using hs.len
    have hbe := t.bulk_eq
    have hzs : t.s.size ≤ 1048576 := by omega
    have hzL := GValue.textL_size t.kids (GValue.fit_kids hfit)
    rw [GValue.bulks_eq] at hzL
    have hzL2 : (GValue.textL t.kids).size ≤ 26214500 := by omega
    clear hzL h2
    go_enter Try.func47, Try.ntmps47
    go_wp2_with fail
    go_loopw [3, 4] (fun n i wr => ∃ j : Nat, j ≤ t.kids.length ∧ i = .int .i64 j ∧ n = .string (t.s ++ GValue.textL (t.kids.take j)) ∧ Below w.heap.size w wr ∧ Row wr w.heap.size 81 #[.int .i64 t.kind, .int .i64 t.n, .string t.s, .slice A1 t.kids.length c1]) (fun _ i _ => t.kids.length - (intOf i).toNat)
    case atStart => exact ⟨0, by omega, by go_num, by simp [GValue.textL, ba_nil], E, Row.new _ _ _⟩
    case round =>
      clear E
      obtain ⟨j, hj, rfl, rfl, hbl, hrow⟩ := hrel
      have hsz := hbl.size
      have hgl := hrow.lt
      have hc := fun i => hrow.cell i
      have hzt := GValue.textL_le t.kids j
      by_cases hlt : j < t.kids.length
      · have htr := GValue.elem (hs.below hbl (Nat.le_refl _)) j hlt
        obtain ⟨b, off, A', c', rfl, hSb, g0, g1, g2, g3, hat⟩ := htr
        have hmem : t.kids[j] ∈ t.kids := List.getElem_mem hlt
        have Hs := Lib.hid (GValue.textL_take t.kids j hlt)
        have hs5 : (t.kids[j]).bulk < k ∧ (t.kids[j]).bulk ≤ 1048576 := by have := bulkL_mem GValue.bulk t.kids _ hmem; omega
        have hs6 := GValue.text_size t.kids[j] (GValue.fitL_mem (GValue.fit_kids hfit) hmem)
        have hs7 : (t.kids[j]).text.size ≤ 26214500 := by omega
        clear hs6
        go_wp2_with fail
        refine (ih _ _ _ _ hs5.1 hs5.2 (hat.below (Below.refl _ _) (by omega))).mono ?_
        rintro e w1 ⟨rfl, hb1⟩
        go_wp2_with fail
        go_roundw
        case rel => exact ⟨j + 1, by omega, by go_num, by rw [Hs.out]; simp only [ba_assoc], hbl.trans (hb1.mono hsz), hrow.below hb1 hgl⟩
        case measure => simp [intOf]; omega
      · have hjl : j = t.kids.length := by omega
        have Hj := Lib.hid hjl
        clear hjl
        by_cases hk0 : t.kids.length = 0
        · have hk0' : ¬ 0 < t.kids.length := by omega
          have Hk0 := Lib.hid hk0
          clear hk0
          go_wp2_with fail
          go_ret
          exact ⟨ret_str (by rw [hte.out, if_neg Hk1.out, if_pos Hk2.out, if_pos Hk0.out, Hj.out, List.take_length, List.eq_nil_of_length_eq_zero Hk0.out]; simp [GValue.textL, ba_nil]), hbl⟩
        · have hk0' : 0 < t.kids.length := by omega
          go_wp2_with fail
          go_ret
          exact ⟨ret_str (by rw [hte.out, if_neg Hk1.out, if_pos Hk2.out, if_neg hk0, Hj.out, List.take_length]), hbl⟩
end Go.Proofs.Ytdcchfpgpdekmaa
