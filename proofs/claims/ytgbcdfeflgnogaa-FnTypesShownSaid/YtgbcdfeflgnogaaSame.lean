/- Same. Conditions: none. -/
import Derived.Test.YtgbcdfeflgnogaaRows
import Derived.Test.YtgbcdfeflgnogaaPw
import Derived.Test.YtgbcdfeflgnogaaGTy
import Derived.Lib.Hide
import Derived.StillTailTactics
namespace Go.Proofs.Ytgbcdfeflgnogaa
open Go.RowKit
set_option linter.unusedVariables false
set_option linter.unusedSimpArgs false
set_option maxHeartbeats 800000

mutual
/-- are two types alike? -/
def GTy.sm : GTy → GTy → Bool
  | .mk o n s k, .mk o2 n2 s2 k2 => o == o2 && (n == n2 && (s.toList == s2.toList && GTy.smL k k2))
def GTy.smL : List GTy → List GTy → Bool
  | [], [] => true
  | a :: r, b :: r2 => a.sm b && GTy.smL r r2
  | [], _ :: _ => false
  | _ :: _, [] => false
end

theorem GTy.sm_eq (a b : GTy) : a.sm b = (a.op == b.op && (a.n == b.n && (a.s.toList == b.s.toList && GTy.smL a.kids b.kids))) := by
  cases a; cases b; simp only [GTy.sm, GTy.op, GTy.n, GTy.s, GTy.kids]

theorem GTy.smL_len : ∀ {l l2 : List GTy}, l.length ≠ l2.length → GTy.smL l l2 = false
  | [], [], h => by simp at h
  | [], _ :: _, _ => by simp [GTy.smL]
  | _ :: _, [], _ => by simp [GTy.smL]
  | a :: r, b :: r2, h => by
    simp only [GTy.smL]
    rw [GTy.smL_len (l := r) (l2 := r2) (by simpa using h)]
    simp

theorem GTy.smL_false : ∀ {l l2 : List GTy} (i : Nat) (h1 : i < l.length) (h2 : i < l2.length), (l[i]).sm l2[i] = false → GTy.smL l l2 = false
  | [], _, i, h1, _, _ => by simp at h1
  | _ :: _, [], i, _, h2, _ => by simp at h2
  | a :: r, b :: r2, 0, _, _, h => by simp only [GTy.smL]; simp only [List.getElem_cons_zero] at h; rw [h]; rfl
  | a :: r, b :: r2, i + 1, h1, h2, h => by
    simp only [GTy.smL]
    rw [GTy.smL_false (l := r) (l2 := r2) i (by simpa using h1) (by simpa using h2) (by simpa using h)]
    simp

theorem GTy.smL_true : ∀ {l l2 : List GTy}, l.length = l2.length → (∀ i (h1 : i < l.length) (h2 : i < l2.length), (l[i]).sm l2[i] = true) → GTy.smL l l2 = true
  | [], [], _, _ => by simp [GTy.smL]
  | [], _ :: _, h, _ => by simp at h
  | _ :: _, [], h, _ => by simp at h
  | a :: r, b :: r2, h, hi => by
    simp only [GTy.smL]
    rw [GTy.smL_true (l := r) (l2 := r2) (by simpa using h) (fun i h1 h2 => hi (i + 1) (by simpa using h1) (by simpa using h2))]
    have := hi 0 (by simp) (by simp)
    simp only [List.getElem_cons_zero] at this
    rw [this]; rfl

set_option maxRecDepth 20000 in
theorem equalFuncTy (K : Nat) (hK : ∀ (args : Array Value) (w : World), (callFunc K args).run Try.prog w = .ok (.enter K args) w) (l l2 : List GTy) (A B : Option Addr) (c d : Nat) (w : World) (hs : Sl w (Lt w.heap.size) 4 A c (l.map GTy.toD)) (hs2 : Sl w (Lt w.heap.size) 4 B d (l2.map GTy.toD))
    (H : ∀ a b, a ∈ l → ∀ (A1 : Option Addr) (c1 : Nat) (B1 : Option Addr) (d1 : Nat) (w : World), GTy.At w (Lt w.heap.size) A1 c1 a → GTy.At w (Lt w.heap.size) B1 d1 b →
      Calls Try.prog K #[.agg #[.int .i64 a.op, .int .i64 a.n, .string a.s, .slice A1 a.kids.length c1], .agg #[.int .i64 b.op, .int .i64 b.n, .string b.s, .slice B1 b.kids.length d1]] w
      fun e w' => e = .returned (.bool (a.sm b)) ∧ Below w.heap.size w w') :
    Calls Try.prog 118 #[.slice A l.length c, .slice B l2.length d, .func (.func K) #[] #[]] w
      fun e w' => e = .returned (.bool (GTy.smL l l2)) ∧ Below w.heap.size w w' := by
  have hlen : l.length ≤ 9223372036854775807 := by simpa using hs.len
  have hlen2 : l2.length ≤ 9223372036854775807 := by simpa using hs2.len
  have HH := Lib.hid H
  clear H
  by_cases hl : l.length = l2.length
  rotate_left
  · have e1 : (l.length != l2.length) = true := by simpa using hl
    have e2 : ((l.length : Int) != (l2.length : Int)) = true := by rw [bne_iff_ne]; omega
    have hr := Lib.hid (GTy.smL_len hl)
    clear hl
    go_enter Try.func118, Try.ntmps118
    go_wp2_with fail
    go_ret
    exact ⟨ret_bool hr.out.symm, Below.refl _ _⟩
  have e1 : (l.length != l2.length) = false := by simpa using hl
  have e2 : ((l.length : Int) != (l2.length : Int)) = false := by rw [bne_eq_false_iff_eq]; omega
  have Hl := Lib.hid hl
  have hle : l.length ≤ l2.length := by omega
  have hle2 : l2.length ≤ l.length := by omega
  clear hl
  go_enter Try.func118, Try.ntmps118
  go_wp2_with fail
  go_loopw [17] (fun i wr => ∃ j : Nat, j ≤ l.length ∧ i = .int .i64 j ∧ (∀ i (h1 : i < l.length) (h2 : i < l2.length), i < j → (l[i]).sm l2[i] = true) ∧ Below w.heap.size w wr) (fun i _ => l.length - (intOf i).toNat)
  case atStart => exact ⟨0, by omega, by go_num, fun i _ _ h => by omega, Below.refl _ _⟩
  case round =>
    obtain ⟨j, hj, rfl, hall, hbl⟩ := hrel
    have Hall := Lib.hid hall
    clear hall
    have hsz := hbl.size
    by_cases hlt : j < l.length
    · have hlt2 : j < l2.length := by omega
      have htr := GTy.elem (hs.below hbl (Nat.le_refl _)) j hlt
      obtain ⟨b, off, A1, c1, rfl, hSb, g0, g1, g2, g3, hat⟩ := htr
      have htr := GTy.elem (hs2.below hbl (Nat.le_refl _)) j hlt2
      obtain ⟨b', off', B1, d1, rfl, hSb', g0', g1', g2', g3', hat'⟩ := htr
      have hmem : l[j] ∈ l := List.getElem_mem hlt
      have hlb : b < wr.heap.size := Nat.lt_of_lt_of_le hSb hsz
      have hlb' : b' < wr.heap.size := Nat.lt_of_lt_of_le hSb' hsz
      have E : Below w.heap.size wr ((wr.alloc (.cells #[.int .i64 l[j].op, .int .i64 l[j].n, .string l[j].s, .slice A1 l[j].kids.length c1] 59)).alloc (.cells #[.int .i64 l2[j].op, .int .i64 l2[j].n, .string l2[j].s, .slice B1 l2[j].kids.length d1] 59)) :=
        ((Below.refl _ _).alloc hsz _).alloc (by simp; omega) _
      go_wp2_with fail
      refine (HH.out _ _ hmem _ _ _ _ _ (hat.below E (by simp; omega)) (hat'.below E (by simp; omega))).mono ?_
      rintro e w1 ⟨rfl, hb1⟩
      have B1 := hbl.trans (E.trans (hb1.mono (by simp; omega)))
      cases he : (l[j]).sm l2[j]
      · have hr := Lib.hid (GTy.smL_false j hlt hlt2 he)
        go_wp2_with fail
        go_ret
        exact ⟨ret_bool hr.out.symm, B1⟩
      · have he2 := Lib.hid he
        go_wp2_with fail
        go_roundw
        case rel => exact ⟨j + 1, by omega, by go_num, fun i h1 h2 hi => by
          rcases Nat.lt_or_ge i j with h | h
          · exact Hall.out i h1 h2 h
          · obtain rfl : i = j := by omega
            exact he2.out, B1⟩
        case measure => simp [intOf]; omega
    · have hjl : j = l.length := by omega
      have Hj := Lib.hid hjl
      clear hjl
      go_wp2_with fail
      go_ret
      exact ⟨ret_bool (GTy.smL_true Hl.out (fun i h1 h2 => Hall.out i h1 h2 (by rw [Hj.out]; exact h1))).symm, hbl⟩

set_option maxRecDepth 20000 in
theorem implSame (k : Nat) : ∀ (a b : GTy) (A1 : Option Addr) (c1 : Nat) (B1 : Option Addr) (d1 : Nat) (w : World), a.bulk < k → GTy.At w (Lt w.heap.size) A1 c1 a → GTy.At w (Lt w.heap.size) B1 d1 b →
    Calls Try.prog 39 #[.agg #[.int .i64 a.op, .int .i64 a.n, .string a.s, .slice A1 a.kids.length c1], .agg #[.int .i64 b.op, .int .i64 b.n, .string b.s, .slice B1 b.kids.length d1]] w
      fun e w' => e = .returned (.bool (a.sm b)) ∧ Below w.heap.size w w' := by
  induction k with
  | zero => intro a b A1 c1 B1 d1 w h; omega
  | succ k ih =>
    intro a b A1 c1 B1 d1 w hk ha hb
    have hse := Lib.hid (GTy.sm_eq a b)
    cases g0 : (a.op == b.op)
    · go_enter Try.func39, Try.ntmps39
      go_wp2_with fail
      go_ret
      exact ⟨ret_bool (by rw [hse.out, g0]; rfl), ((Below.refl _ _).alloc (Nat.le_refl _) _).alloc (by simp) _⟩
    cases g1 : (a.n == b.n)
    · go_enter Try.func39, Try.ntmps39
      go_wp2_with fail
      go_ret
      exact ⟨ret_bool (by rw [hse.out, g0, g1]; rfl), ((Below.refl _ _).alloc (Nat.le_refl _) _).alloc (by simp) _⟩
    cases g2 : (a.s.toList == b.s.toList)
    · go_enter Try.func39, Try.ntmps39
      go_wp2_with fail
      go_ret
      exact ⟨ret_bool (by rw [hse.out, g0, g1, g2]; rfl), ((Below.refl _ _).alloc (Nat.le_refl _) _).alloc (by simp) _⟩
    · go_enter Try.func39, Try.ntmps39
      have E : Below w.heap.size w ((w.alloc (.cells #[.int .i64 a.op, .int .i64 a.n, .string a.s, .slice A1 a.kids.length c1] 59)).alloc (.cells #[.int .i64 b.op, .int .i64 b.n, .string b.s, .slice B1 b.kids.length d1] 59)) :=
        ((Below.refl _ _).alloc (Nat.le_refl _) _).alloc (by simp) _
      go_wp2_with fail
      obtain ⟨-, -, -, q⟩ := ha.below E E.size
      obtain ⟨-, -, -, q2⟩ := hb.below E E.size
      refine (equalFuncTy 39 (enters Try.func39 (by kernel_rfl) (by kernel_rfl)) a.kids b.kids A1 B1 c1 d1 _ q q2 (fun u v hu A1 c1 B1 d1 w h1 h2 => ih u v A1 c1 B1 d1 w (by have := bulkL_mem GTy.bulk a.kids u hu; have := a.bulk_eq; omega) h1 h2)).mono ?_
      rintro e w1 ⟨rfl, hb1⟩
      go_wp2_with fail
      go_ret
      exact ⟨ret_bool (by rw [hse.out, g0, g1, g2]; rfl), E.trans (hb1.mono E.size)⟩

set_option maxRecDepth 20000 in
theorem specSame (k : Nat) : ∀ (a b : GTy) (A1 : Option Addr) (c1 : Nat) (B1 : Option Addr) (d1 : Nat) (w : World), a.bulk < k → GTy.At w (Lt w.heap.size) A1 c1 a → GTy.At w (Lt w.heap.size) B1 d1 b →
    Calls Try.prog 40 #[.agg #[.int .i64 a.op, .int .i64 a.n, .string a.s, .slice A1 a.kids.length c1], .agg #[.int .i64 b.op, .int .i64 b.n, .string b.s, .slice B1 b.kids.length d1]] w
      fun e w' => e = .returned (.bool (a.sm b)) ∧ Below w.heap.size w w' := by
  induction k with
  | zero => intro a b A1 c1 B1 d1 w h; omega
  | succ k ih =>
    intro a b A1 c1 B1 d1 w hk ha hb
    obtain ⟨-, -, -, hs⟩ := id ha
    obtain ⟨-, -, -, hs2⟩ := id hb
    have hlen : a.kids.length ≤ 9223372036854775807 := by simpa using hs.len
    have hlen2 : b.kids.length ≤ 9223372036854775807 := by simpa using hs2.len
    have hse := Lib.hid (GTy.sm_eq a b)
    have E : Below w.heap.size w ((w.alloc (.cells #[.int .i64 a.op, .int .i64 a.n, .string a.s, .slice A1 a.kids.length c1] 59)).alloc (.cells #[.int .i64 b.op, .int .i64 b.n, .string b.s, .slice B1 b.kids.length d1] 59)) :=
      ((Below.refl _ _).alloc (Nat.le_refl _) _).alloc (by simp) _
    cases g0 : (a.op == b.op)
    · have q0 : (a.op != b.op) = true := by rw [bne, g0]; rfl
      go_enter Try.func40, Try.ntmps40
      go_wp2_with fail
      go_ret
      exact ⟨ret_bool (by rw [hse.out, g0]; rfl), E⟩
    have q0 : (a.op != b.op) = false := by rw [bne, g0]; rfl
    cases g1 : (a.n == b.n)
    · have q1 : (a.n != b.n) = true := by rw [bne, g1]; rfl
      go_enter Try.func40, Try.ntmps40
      go_wp2_with fail
      go_ret
      exact ⟨ret_bool (by rw [hse.out, g0, g1]; rfl), E⟩
    have q1 : (a.n != b.n) = false := by rw [bne, g1]; rfl
    cases g2 : (a.s.toList == b.s.toList)
    · have q2 : (a.s.toList != b.s.toList) = true := by rw [bne, g2]; rfl
      go_enter Try.func40, Try.ntmps40
      go_wp2_with fail
      go_ret
      exact ⟨ret_bool (by rw [hse.out, g0, g1, g2]; rfl), E⟩
    have q2 : (a.s.toList != b.s.toList) = false := by rw [bne, g2]; rfl
    by_cases hl : a.kids.length = b.kids.length
    rotate_left
    · have e1 : (a.kids.length != b.kids.length) = true := by simpa using hl
      have e2 : ((a.kids.length : Int) != (b.kids.length : Int)) = true := by rw [bne_iff_ne]; omega
      have hr := Lib.hid (GTy.smL_len hl)
      clear hl
      go_enter Try.func40, Try.ntmps40
      go_wp2_with fail
      go_ret
      exact ⟨ret_bool (by rw [hse.out, g0, g1, g2, hr.out]; rfl), E⟩
    have e1 : (a.kids.length != b.kids.length) = false := by simpa using hl
    have e2 : ((a.kids.length : Int) != (b.kids.length : Int)) = false := by rw [bne_eq_false_iff_eq]; omega
    have Hl := Lib.hid hl
    have hle : a.kids.length ≤ b.kids.length := by omega
    have hle2 : b.kids.length ≤ a.kids.length := by omega
    clear hl
    have Ra := Lib.hid ((Row.new w 59 #[.int .i64 a.op, .int .i64 a.n, .string a.s, .slice A1 a.kids.length c1]).alloc (.cells #[.int .i64 b.op, .int .i64 b.n, .string b.s, .slice B1 b.kids.length d1] 59))
    have Rb := Lib.hid (Row.new' (w.alloc (.cells #[.int .i64 a.op, .int .i64 a.n, .string a.s, .slice A1 a.kids.length c1] 59)) 59 #[.int .i64 b.op, .int .i64 b.n, .string b.s, .slice B1 b.kids.length d1] (g := w.heap.size + 1) (by simp))
    go_enter Try.func40, Try.ntmps40
    go_wp2_with fail
    go_loopw [5] (fun i wr => ∃ j : Nat, j ≤ a.kids.length ∧ i = .int .i64 j ∧ (∀ i (h1 : i < a.kids.length) (h2 : i < b.kids.length), i < j → (a.kids[i]).sm b.kids[i] = true) ∧ Below w.heap.size w wr ∧
      Row wr w.heap.size 59 #[.int .i64 a.op, .int .i64 a.n, .string a.s, .slice A1 a.kids.length c1] ∧ Row wr (w.heap.size + 1) 59 #[.int .i64 b.op, .int .i64 b.n, .string b.s, .slice B1 b.kids.length d1]) (fun i _ => a.kids.length - (intOf i).toNat)
    case atStart => exact ⟨0, by omega, by go_num, fun i _ _ h => by omega, E, Ra.out, Rb.out⟩
    case round =>
      clear Ra Rb E
      obtain ⟨j, hj, rfl, hall, hbl, ra, rb⟩ := hrel
      have Hall := Lib.hid hall
      clear hall
      have hsz := hbl.size
      have hca := fun i => ra.cell i
      have hcb := fun i => rb.cell i
      have hla := ra.lt
      have hlb := rb.lt
      by_cases hlt : j < a.kids.length
      · have hlt2 : j < b.kids.length := by omega
        have htr := GTy.elem (hs.below hbl (Nat.le_refl _)) j hlt
        obtain ⟨bk, off, A2, c2, rfl, hSb, y0, y1, y2, y3, hat⟩ := htr
        have htr := GTy.elem (hs2.below hbl (Nat.le_refl _)) j hlt2
        obtain ⟨bk', off', B2, d2, rfl, hSb', y0', y1', y2', y3', hat'⟩ := htr
        have hmem : a.kids[j] ∈ a.kids := List.getElem_mem hlt
        have hlt3 : (a.kids[j]).bulk < k := by have := bulkL_mem GTy.bulk a.kids _ hmem; have := a.bulk_eq; omega
        go_wp2_with fail
        refine wp_region_still_tail 10 (by kernel_rfl) (by kernel_rfl) ?_
        simp only [List.take_succ_cons, List.take_zero, List.drop_succ_cons, List.drop_zero]
        change wpStill _ _ wr.drew (fun a' => wpList _ _ _ _ a' wr.drew) _ _
        iterate 10 still_step
        refine wpStill_nil ?_
        go_wp2_with fail
        refine (ih _ _ _ _ _ _ wr.drew hlt3 (hat.keep fun b hb => ⟨Nat.lt_of_lt_of_le hb hsz, rfl⟩) (hat'.keep fun b hb => ⟨Nat.lt_of_lt_of_le hb hsz, rfl⟩)).mono ?_
        rintro e w1 ⟨rfl, hb1⟩
        have BB := hbl.drew.trans (hb1.mono hsz)
        cases he : (a.kids[j]).sm b.kids[j]
        · have hr := Lib.hid (GTy.smL_false j hlt hlt2 he)
          go_wp2_with fail
          go_ret
          exact ⟨ret_bool (by rw [hse.out, g0, g1, g2, hr.out]; rfl), BB⟩
        · have he2 := Lib.hid he
          clear he
          go_wp2_with fail
          go_roundw
          case rel => exact ⟨j + 1, by omega, by go_num, fun i h1 h2 hi => by
            rcases Nat.lt_or_ge i j with h | h
            · exact Hall.out i h1 h2 h
            · obtain rfl : i = j := by omega
              exact he2.out, BB, Row.below (w := wr.drew) ra hb1 hla, Row.below (w := wr.drew) rb hb1 hlb⟩
          case measure => simp [intOf]; omega
      · have hjl : j = a.kids.length := by omega
        have Hj := Lib.hid hjl
        clear hjl
        go_wp2_with fail
        go_ret
        exact ⟨ret_bool (by rw [hse.out, g0, g1, g2, GTy.smL_true Hl.out (fun i h1 h2 => Hall.out i h1 h2 (by rw [Hj.out]; exact h1))]; rfl), hbl⟩
end Go.Proofs.Ytgbcdfeflgnogaa
