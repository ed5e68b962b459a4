/- Fits. Conditions: none. -/
import Derived.Test.YtdcchfpgpdekmaaRows
import Derived.Test.YtdcchfpgpdekmaaPw
import Derived.Test.YtdcchfpgpdekmaaGNode
import Derived.Test.YtdcchfpgpdekmaaGValue
import Derived.Lib.Hide
import Derived.StillTailTactics
namespace Go.Proofs.Ytdcchfpgpdekmaa
open Go.RowKit
set_option linter.unusedVariables false
set_option linter.unusedSimpArgs false
set_option maxHeartbeats 1000000

mutual
/-- does a value fit a pattern? -/
def fitsB : GNode → GValue → Bool
  | .mk op n s _ kids, .mk kind n2 s2 kids2 => if op = 17 ∨ op = 18 then true else if op = 19 then kind == 1 && n2 == n else if op = 20 then (kind == 2 && s2.toList == s.toList) && fitsL kids kids2 else false
def fitsL : List GNode → List GValue → Bool
  | [], [] => true
  | a :: r, b :: r2 => fitsB a b && fitsL r r2
  | [], _ :: _ => false
  | _ :: _, [] => false
end

theorem fitsB_eq (p : GNode) (v : GValue) : fitsB p v = if p.op = 17 ∨ p.op = 18 then true else if p.op = 19 then v.kind == 1 && v.n == p.n else if p.op = 20 then (v.kind == 2 && v.s.toList == p.s.toList) && fitsL p.kids v.kids else false := by
  cases p; cases v; simp only [fitsB, GNode.op, GNode.n, GNode.s, GNode.kids, GValue.kind, GValue.n, GValue.s, GValue.kids]; rfl

theorem fitsL_len : ∀ {l : List GNode} {l2 : List GValue}, l.length ≠ l2.length → fitsL l l2 = false
  | [], [], h => by simp at h
  | [], _ :: _, _ => by simp [fitsL]
  | _ :: _, [], _ => by simp [fitsL]
  | a :: r, b :: r2, h => by
    simp only [fitsL]
    rw [fitsL_len (l := r) (l2 := r2) (by simpa using h)]
    simp

theorem fitsL_false : ∀ {l : List GNode} {l2 : List GValue} (i : Nat) (h1 : i < l.length) (h2 : i < l2.length), fitsB l[i] l2[i] = false → fitsL l l2 = false
  | [], _, i, h1, _, _ => by simp at h1
  | _ :: _, [], i, _, h2, _ => by simp at h2
  | a :: r, b :: r2, 0, _, _, h => by simp only [fitsL]; simp only [List.getElem_cons_zero] at h; rw [h]; rfl
  | a :: r, b :: r2, i + 1, h1, h2, h => by
    simp only [fitsL]
    rw [fitsL_false (l := r) (l2 := r2) i (by simpa using h1) (by simpa using h2) (by simpa using h)]
    simp

theorem fitsL_true : ∀ {l : List GNode} {l2 : List GValue}, l.length = l2.length → (∀ i (h1 : i < l.length) (h2 : i < l2.length), fitsB l[i] l2[i] = true) → fitsL l l2 = true
  | [], [], _, _ => by simp [fitsL]
  | [], _ :: _, h, _ => by simp at h
  | _ :: _, [], h, _ => by simp at h
  | a :: r, b :: r2, h, hi => by
    simp only [fitsL]
    rw [fitsL_true (l := r) (l2 := r2) (by simpa using h) (fun i h1 h2 => hi (i + 1) (by simpa using h1) (by simpa using h2))]
    have := hi 0 (by simp) (by simp)
    simp only [List.getElem_cons_zero] at this
    rw [this]; rfl

set_option maxRecDepth 20000 in
theorem specFits (k : Nat) : ∀ (p : GNode) (v : GValue) (A1 : Option Addr) (c1 : Nat) (B1 : Option Addr) (d1 : Nat) (w : World), p.bulk < k → GNode.At w (Lt w.heap.size) A1 c1 p → GValue.At w (Lt w.heap.size) B1 d1 v →
    Calls Try.prog 62 #[.agg #[.int .i64 p.op, .int .i64 p.n, .string p.s, .string p.t, .slice A1 p.kids.length c1], .agg #[.int .i64 v.kind, .int .i64 v.n, .string v.s, .slice B1 v.kids.length d1]] w fun e w' => e = .returned (.bool (fitsB p v)) ∧ Below w.heap.size w w' := by
  induction k with
  | zero => intro p v A1 c1 B1 d1 w h; omega
  | succ k ih =>
    intro p v A1 c1 B1 d1 w hk ha hb
    obtain ⟨-, -, -, -, hs⟩ := id ha
    obtain ⟨-, -, -, hs2⟩ := id hb
    have hlen : p.kids.length ≤ 9223372036854775807 := by simpa using hs.len
    have hlen2 : v.kids.length ≤ 9223372036854775807 := by simpa using hs2.len
    have hse := Lib.hid (fitsB_eq p v)
    have hbe := p.bulk_eq
    have E : Below w.heap.size w ((w.alloc (.cells #[.int .i64 p.op, .int .i64 p.n, .string p.s, .string p.t, .slice A1 p.kids.length c1] 61)).alloc (.cells #[.int .i64 v.kind, .int .i64 v.n, .string v.s, .slice B1 v.kids.length d1] 81)) := ((Below.refl _ _).alloc (Nat.le_refl _) _).alloc (by simp) _
    cases o1 : (p.op == 17)
    rotate_left
    · have x1 := Lib.hid (beq_iff_eq.1 o1)
      go_enter Try.func62, Try.ntmps62
      go_wp2_with fail
      go_ret
      exact ⟨ret_bool (by rw [hse.out]; rw [if_pos (.inl x1.out)]), E⟩
    cases o2 : (p.op == 18)
    rotate_left
    · have x2 := Lib.hid (beq_iff_eq.1 o2)
      go_enter Try.func62, Try.ntmps62
      go_wp2_with fail
      go_ret
      exact ⟨ret_bool (by rw [hse.out]; rw [if_pos (.inr x2.out)]), E⟩
    have x1 := Lib.hid (show ¬ (p.op = 17 ∨ p.op = 18) from by simp only [beq_eq_false_iff_ne, ne_eq] at o1 o2; omega)
    cases o3 : (p.op == 19)
    rotate_left
    · have x3 := Lib.hid (beq_iff_eq.1 o3)
      cases y1 : (v.kind == 1)
      · skip
        go_enter Try.func62, Try.ntmps62
        go_wp2_with fail
        go_ret
        exact ⟨ret_bool (by rw [hse.out]; rw [if_neg x1.out, if_pos x3.out, y1]; rfl), E⟩
      · cases y2 : (v.n == p.n)
        · skip
          go_enter Try.func62, Try.ntmps62
          go_wp2_with fail
          go_ret
          exact ⟨ret_bool (by rw [hse.out]; rw [if_neg x1.out, if_pos x3.out, y1, y2]; rfl), E⟩
        · skip
          go_enter Try.func62, Try.ntmps62
          go_wp2_with fail
          go_ret
          exact ⟨ret_bool (by rw [hse.out]; rw [if_neg x1.out, if_pos x3.out, y1, y2]; rfl), E⟩
    have x3 := Lib.hid (show ¬ (p.op = 19) from by simpa using o3)
    cases o4 : (p.op == 20)
    · have x4 := Lib.hid (show ¬ (p.op = 20) from by simpa using o4)
      go_enter Try.func62, Try.ntmps62
      go_wp2_with fail
      go_ret
      exact ⟨ret_bool (by rw [hse.out]; rw [if_neg x1.out, if_neg x3.out, if_neg x4.out]), E⟩
    have x4 := Lib.hid (beq_iff_eq.1 o4)
    cases y1 : (v.kind == 2)
    · have z1 : (v.kind != 2) = true := by rw [bne, y1]; rfl
      go_enter Try.func62, Try.ntmps62
      go_wp2_with fail
      go_ret
      exact ⟨ret_bool (by rw [hse.out]; rw [if_neg x1.out, if_neg x3.out, if_pos x4.out, y1]; rfl), E⟩
    have z1 : (v.kind != 2) = false := by rw [bne, y1]; rfl
    cases y2 : (v.s.toList == p.s.toList)
    · have z2 : (v.s.toList != p.s.toList) = true := by rw [bne, y2]; rfl
      go_enter Try.func62, Try.ntmps62
      go_wp2_with fail
      go_ret
      exact ⟨ret_bool (by rw [hse.out]; rw [if_neg x1.out, if_neg x3.out, if_pos x4.out, y1, y2]; rfl), E⟩
    have z2 : (v.s.toList != p.s.toList) = false := by rw [bne, y2]; rfl
    by_cases hl : p.kids.length = v.kids.length
    rotate_left
    · have e1 : (v.kids.length != p.kids.length) = true := by rw [bne_iff_ne]; omega
      have e2 : ((v.kids.length : Int) != (p.kids.length : Int)) = true := by rw [bne_iff_ne]; omega
      have hr := Lib.hid (fitsL_len hl)
      clear hl
      go_enter Try.func62, Try.ntmps62
      go_wp2_with fail
      go_ret
      exact ⟨ret_bool (by rw [hse.out]; rw [if_neg x1.out, if_neg x3.out, if_pos x4.out, y1, y2, hr.out]; rfl), E⟩
    have e1 : (v.kids.length != p.kids.length) = false := by rw [bne_eq_false_iff_eq]; omega
    have e2 : ((v.kids.length : Int) != (p.kids.length : Int)) = false := by rw [bne_eq_false_iff_eq]; omega
    have Hl := Lib.hid hl
    have hle : p.kids.length ≤ v.kids.length := by omega
    have hle2 : v.kids.length ≤ p.kids.length := by omega
    clear hl
    have Ra := Lib.hid ((Row.new w 61 #[.int .i64 p.op, .int .i64 p.n, .string p.s, .string p.t, .slice A1 p.kids.length c1]).alloc (.cells #[.int .i64 v.kind, .int .i64 v.n, .string v.s, .slice B1 v.kids.length d1] 81))
    have Rb := Lib.hid (Row.new' (w.alloc (.cells #[.int .i64 p.op, .int .i64 p.n, .string p.s, .string p.t, .slice A1 p.kids.length c1] 61)) 81 #[.int .i64 v.kind, .int .i64 v.n, .string v.s, .slice B1 v.kids.length d1] (g := w.heap.size + 1) (by simp))
    go_enter Try.func62, Try.ntmps62
    go_wp2_with fail
    go_loopw [5] (fun i wr => ∃ j : Nat, j ≤ p.kids.length ∧ i = .int .i64 j ∧ (∀ i (h1 : i < p.kids.length) (h2 : i < v.kids.length), i < j → fitsB p.kids[i] v.kids[i] = true) ∧ Below w.heap.size w wr ∧ Row wr w.heap.size 61 #[.int .i64 p.op, .int .i64 p.n, .string p.s, .string p.t, .slice A1 p.kids.length c1] ∧ Row wr (w.heap.size + 1) 81 #[.int .i64 v.kind, .int .i64 v.n, .string v.s, .slice B1 v.kids.length d1]) (fun i _ => p.kids.length - (intOf i).toNat)
    case atStart => exact ⟨0, by omega, by go_num, fun i _ _ h => by omega, E, Ra.out, Rb.out⟩
    case round =>
      clear Ra Rb E
      obtain ⟨j, hj, rfl, hall, hbl, ra, rb⟩ := hrel
      have Hall := Lib.hid hall
      clear hall
      have hsz := hbl.size
      have hca := fun i => ra.cell i
      have hcb := fun i => rb.cell i
      have hla := ra.lt
      have hlb := rb.lt
      by_cases hlt : j < p.kids.length
      · have hlt2 : j < v.kids.length := by omega
        have htr := GNode.elem (hs.below hbl (Nat.le_refl _)) j hlt
        obtain ⟨bk, off, A2, c2, rfl, hSb, q0, q1, q2, q3, q4, hat⟩ := htr
        have htr := GValue.elem (hs2.below hbl (Nat.le_refl _)) j hlt2
        obtain ⟨bk', off', B2, d2, rfl, hSb', q0', q1', q2', q3', hat'⟩ := htr
        have hmem : p.kids[j] ∈ p.kids := List.getElem_mem hlt
        have hlt3 : (p.kids[j]).bulk < k := by have := bulkL_mem GNode.bulk p.kids _ hmem; omega
        have hb1' : bk < wr.heap.size := Nat.lt_of_lt_of_le hSb hsz
        have hb2' : bk' < wr.heap.size := Nat.lt_of_lt_of_le hSb' hsz
        go_wp2_with fail
        refine wp_region_still_tail 10 (by kernel_rfl) (by kernel_rfl) ?_
        simp only [List.take_succ_cons, List.take_zero, List.drop_succ_cons, List.drop_zero]
        change wpStill _ _ wr.drew (fun a' => wpList _ _ _ _ a' wr.drew) _ _
        iterate 10 still_step
        refine wpStill_nil ?_
        go_wp2_with fail
        refine (ih _ _ _ _ _ _ wr.drew hlt3 (hat.keep fun b hb => ⟨Nat.lt_of_lt_of_le hb hsz, rfl⟩) (hat'.keep fun b hb => ⟨Nat.lt_of_lt_of_le hb hsz, rfl⟩)).mono ?_
        rintro e w1 ⟨rfl, hb1⟩
        have BB := hbl.drew.trans (hb1.mono hsz)
        have ra1 := Row.below (w := wr.drew) ra hb1 hla
        have rb1 := Row.below (w := wr.drew) rb hb1 hlb
        cases he : fitsB p.kids[j] v.kids[j]
        · have hr := Lib.hid (fitsL_false j hlt hlt2 he)
          go_wp2_with fail
          go_ret
          exact ⟨ret_bool (by rw [hse.out, if_neg x1.out, if_neg x3.out, if_pos x4.out, y1, y2, hr.out]; rfl), BB⟩
        · have he2 := Lib.hid he
          clear he
          go_wp2_with fail
          go_roundw
          case rel => exact ⟨j + 1, by omega, by go_num, fun i h1 h2 hi => by
            rcases Nat.lt_or_ge i j with h | h
            · exact Hall.out i h1 h2 h
            · obtain rfl : i = j := by omega
              exact he2.out, BB, ra1, rb1⟩
          case measure => simp [intOf]; omega
      · have hjl : j = p.kids.length := by omega
        have Hj := Lib.hid hjl
        clear hjl
        go_wp2_with fail
        go_ret
        exact ⟨ret_bool (by rw [hse.out, if_neg x1.out, if_neg x3.out, if_pos x4.out, y1, y2, fitsL_true Hl.out (fun i h1 h2 => Hall.out i h1 h2 (by rw [Hj.out]; exact h1))]; rfl), hbl⟩

set_option maxRecDepth 20000 in
theorem implFits (k : Nat) : ∀ (p : GNode) (v : GValue) (A1 : Option Addr) (c1 : Nat) (B1 : Option Addr) (d1 : Nat) (w : World), p.bulk < k → GNode.At w (Lt w.heap.size) A1 c1 p → GValue.At w (Lt w.heap.size) B1 d1 v →
    Calls Try.prog 63 #[.agg #[.int .i64 p.op, .int .i64 p.n, .string p.s, .string p.t, .slice A1 p.kids.length c1], .agg #[.int .i64 v.kind, .int .i64 v.n, .string v.s, .slice B1 v.kids.length d1]] w fun e w' => e = .returned (.bool (fitsB p v)) ∧ Below w.heap.size w w' := by
  induction k with
  | zero => intro p v A1 c1 B1 d1 w h; omega
  | succ k ih =>
    intro p v A1 c1 B1 d1 w hk ha hb
    obtain ⟨-, -, -, -, hs⟩ := id ha
    obtain ⟨-, -, -, hs2⟩ := id hb
    have hlen : p.kids.length ≤ 9223372036854775807 := by simpa using hs.len
    have hlen2 : v.kids.length ≤ 9223372036854775807 := by simpa using hs2.len
    have hse := Lib.hid (fitsB_eq p v)
    have hbe := p.bulk_eq
    have E : Below w.heap.size w ((w.alloc (.cells #[.int .i64 p.op, .int .i64 p.n, .string p.s, .string p.t, .slice A1 p.kids.length c1] 61)).alloc (.cells #[.int .i64 v.kind, .int .i64 v.n, .string v.s, .slice B1 v.kids.length d1] 81)) := ((Below.refl _ _).alloc (Nat.le_refl _) _).alloc (by simp) _
    cases o1 : (p.op == 17)
    rotate_left
    · have x1 := Lib.hid (beq_iff_eq.1 o1)
      go_enter Try.func63, Try.ntmps63
      go_wp2_with fail
      go_ret
      exact ⟨ret_bool (by rw [hse.out]; rw [if_pos (.inl x1.out)]), E⟩
    cases o2 : (p.op == 18)
    rotate_left
    · have x2 := Lib.hid (beq_iff_eq.1 o2)
      go_enter Try.func63, Try.ntmps63
      go_wp2_with fail
      go_ret
      exact ⟨ret_bool (by rw [hse.out]; rw [if_pos (.inr x2.out)]), E⟩
    have x1 := Lib.hid (show ¬ (p.op = 17 ∨ p.op = 18) from by simp only [beq_eq_false_iff_ne, ne_eq] at o1 o2; omega)
    cases o3 : (p.op == 19)
    rotate_left
    · have x3 := Lib.hid (beq_iff_eq.1 o3)
      cases y1 : (v.kind == 1)
      · skip
        go_enter Try.func63, Try.ntmps63
        go_wp2_with fail
        go_ret
        exact ⟨ret_bool (by rw [hse.out]; rw [if_neg x1.out, if_pos x3.out, y1]; rfl), E⟩
      · cases y2 : (v.n == p.n)
        · skip
          go_enter Try.func63, Try.ntmps63
          go_wp2_with fail
          go_ret
          exact ⟨ret_bool (by rw [hse.out]; rw [if_neg x1.out, if_pos x3.out, y1, y2]; rfl), E⟩
        · skip
          go_enter Try.func63, Try.ntmps63
          go_wp2_with fail
          go_ret
          exact ⟨ret_bool (by rw [hse.out]; rw [if_neg x1.out, if_pos x3.out, y1, y2]; rfl), E⟩
    have x3 := Lib.hid (show ¬ (p.op = 19) from by simpa using o3)
    cases o4 : (p.op == 20)
    · have x4 := Lib.hid (show ¬ (p.op = 20) from by simpa using o4)
      go_enter Try.func63, Try.ntmps63
      go_wp2_with fail
      go_ret
      exact ⟨ret_bool (by rw [hse.out]; rw [if_neg x1.out, if_neg x3.out, if_neg x4.out]), E⟩
    have x4 := Lib.hid (beq_iff_eq.1 o4)
    cases y1 : (v.kind == 2)
    · have z1 : (v.kind != 2) = true := by rw [bne, y1]; rfl
      go_enter Try.func63, Try.ntmps63
      go_wp2_with fail
      go_ret
      exact ⟨ret_bool (by rw [hse.out]; rw [if_neg x1.out, if_neg x3.out, if_pos x4.out, y1]; rfl), E⟩
    have z1 : (v.kind != 2) = false := by rw [bne, y1]; rfl
    cases y2 : (v.s.toList == p.s.toList)
    · have z2 : (v.s.toList != p.s.toList) = true := by rw [bne, y2]; rfl
      go_enter Try.func63, Try.ntmps63
      go_wp2_with fail
      go_ret
      exact ⟨ret_bool (by rw [hse.out]; rw [if_neg x1.out, if_neg x3.out, if_pos x4.out, y1, y2]; rfl), E⟩
    have z2 : (v.s.toList != p.s.toList) = false := by rw [bne, y2]; rfl
    by_cases hl : p.kids.length = v.kids.length
    rotate_left
    · have e1 : (v.kids.length != p.kids.length) = true := by rw [bne_iff_ne]; omega
      have e2 : ((v.kids.length : Int) != (p.kids.length : Int)) = true := by rw [bne_iff_ne]; omega
      have hr := Lib.hid (fitsL_len hl)
      clear hl
      go_enter Try.func63, Try.ntmps63
      go_wp2_with fail
      go_ret
      exact ⟨ret_bool (by rw [hse.out]; rw [if_neg x1.out, if_neg x3.out, if_pos x4.out, y1, y2, hr.out]; rfl), E⟩
    have e1 : (v.kids.length != p.kids.length) = false := by rw [bne_eq_false_iff_eq]; omega
    have e2 : ((v.kids.length : Int) != (p.kids.length : Int)) = false := by rw [bne_eq_false_iff_eq]; omega
    have Hl := Lib.hid hl
    have hle : p.kids.length ≤ v.kids.length := by omega
    have hle2 : v.kids.length ≤ p.kids.length := by omega
    clear hl
    have Ra := Lib.hid ((Row.new w 61 #[.int .i64 p.op, .int .i64 p.n, .string p.s, .string p.t, .slice A1 p.kids.length c1]).alloc (.cells #[.int .i64 v.kind, .int .i64 v.n, .string v.s, .slice B1 v.kids.length d1] 81))
    have Rb := Lib.hid (Row.new' (w.alloc (.cells #[.int .i64 p.op, .int .i64 p.n, .string p.s, .string p.t, .slice A1 p.kids.length c1] 61)) 81 #[.int .i64 v.kind, .int .i64 v.n, .string v.s, .slice B1 v.kids.length d1] (g := w.heap.size + 1) (by simp))
    go_enter Try.func63, Try.ntmps63
    go_wp2_with fail
    go_loopw [48] (fun i wr => ∃ j : Nat, j ≤ p.kids.length ∧ i = .int .i64 j ∧ (∀ i (h1 : i < p.kids.length) (h2 : i < v.kids.length), i < j → fitsB p.kids[i] v.kids[i] = true) ∧ Below w.heap.size w wr ∧ Row wr w.heap.size 61 #[.int .i64 p.op, .int .i64 p.n, .string p.s, .string p.t, .slice A1 p.kids.length c1] ∧ Row wr (w.heap.size + 1) 81 #[.int .i64 v.kind, .int .i64 v.n, .string v.s, .slice B1 v.kids.length d1]) (fun i _ => p.kids.length - (intOf i).toNat)
    case atStart => exact ⟨0, by omega, by go_num, fun i _ _ h => by omega, E, Ra.out, Rb.out⟩
    case round =>
      clear Ra Rb E
      obtain ⟨j, hj, rfl, hall, hbl, ra, rb⟩ := hrel
      have Hall := Lib.hid hall
      clear hall
      have hsz := hbl.size
      have hca := fun i => ra.cell i
      have hcb := fun i => rb.cell i
      have hla := ra.lt
      have hlb := rb.lt
      by_cases hlt : j < p.kids.length
      · have hlt2 : j < v.kids.length := by omega
        have htr := GNode.elem (hs.below hbl (Nat.le_refl _)) j hlt
        obtain ⟨bk, off, A2, c2, rfl, hSb, q0, q1, q2, q3, q4, hat⟩ := htr
        have htr := GValue.elem (hs2.below hbl (Nat.le_refl _)) j hlt2
        obtain ⟨bk', off', B2, d2, rfl, hSb', q0', q1', q2', q3', hat'⟩ := htr
        have hmem : p.kids[j] ∈ p.kids := List.getElem_mem hlt
        have hlt3 : (p.kids[j]).bulk < k := by have := bulkL_mem GNode.bulk p.kids _ hmem; omega
        have hb1' : bk < wr.heap.size := Nat.lt_of_lt_of_le hSb hsz
        have hb2' : bk' < wr.heap.size := Nat.lt_of_lt_of_le hSb' hsz
        have E2 : Below wr.heap.size wr (wr.alloc (.cells #[.int .i64 p.kids[j].op, .int .i64 p.kids[j].n, .string p.kids[j].s, .string p.kids[j].t, .slice A2 p.kids[j].kids.length c2] 61)) := (Below.refl _ _).alloc (Nat.le_refl _) _
        have hat1 := hat.below (B' := (wr.alloc (.cells #[.int .i64 p.kids[j].op, .int .i64 p.kids[j].n, .string p.kids[j].s, .string p.kids[j].t, .slice A2 p.kids[j].kids.length c2] 61)).heap.size) (E2.mono hsz) (by simp; omega)
        have hat1' := hat'.below (B' := (wr.alloc (.cells #[.int .i64 p.kids[j].op, .int .i64 p.kids[j].n, .string p.kids[j].s, .string p.kids[j].t, .slice A2 p.kids[j].kids.length c2] 61)).heap.size) (E2.mono hsz) (by simp; omega)
        have rn := Row.new wr 61 #[.int .i64 p.kids[j].op, .int .i64 p.kids[j].n, .string p.kids[j].s, .string p.kids[j].t, .slice A2 p.kids[j].kids.length c2]
        have ra0 := ra.alloc (.cells #[.int .i64 p.kids[j].op, .int .i64 p.kids[j].n, .string p.kids[j].s, .string p.kids[j].t, .slice A2 p.kids[j].kids.length c2] 61)
        have rb0 := rb.alloc (.cells #[.int .i64 p.kids[j].op, .int .i64 p.kids[j].n, .string p.kids[j].s, .string p.kids[j].t, .slice A2 p.kids[j].kids.length c2] 61)
        have B3 := hbl.trans (E2.mono hsz)
        go_wp2_with fail
        have q0x := hat1'
        generalize hwx : (wr.alloc (.cells #[.int .i64 p.kids[j].op, .int .i64 p.kids[j].n, .string p.kids[j].s, .string p.kids[j].t, .slice A2 p.kids[j].kids.length c2] 61)) = wx at *
        have hrn := fun i => rn.cell i
        have hra := fun i => ra0.cell i
        have hrb := fun i => rb0.cell i
        have p0' := (World.cell?_of_block (a := ⟨bk', off' + j * 4, none⟩) (E2.block bk' hb2')).trans q0'
        have p1' := (World.cell?_of_block (a := ⟨bk', off' + j * 4 + 1, none⟩) (E2.block bk' hb2')).trans q1'
        have p2' := (World.cell?_of_block (a := ⟨bk', off' + j * 4 + 2, none⟩) (E2.block bk' hb2')).trans q2'
        have p3' := (World.cell?_of_block (a := ⟨bk', off' + j * 4 + 3, none⟩) (E2.block bk' hb2')).trans q3'
        have Rn := Lib.hid rn
        have Ra := Lib.hid ra0
        have Rb := Lib.hid rb0
        clear hwx rn ra0 rb0 ra rb q0x hca hcb q0 q1 q2 q3 q4 q0' q1' q2' q3'
        refine wp_region_still_tail 6 (by kernel_rfl) (by kernel_rfl) ?_
        simp only [List.take_succ_cons, List.take_zero, List.drop_succ_cons, List.drop_zero]
        change wpStill _ _ wx.drew (fun a' => wpList _ _ _ _ a' wx.drew) _ _
        iterate 6 still_step
        refine wpStill_nil ?_
        go_wp2_with fail
        refine (ih _ _ _ _ _ _ wx.drew hlt3 (hat1.keep fun b hb => ⟨hb, rfl⟩) (hat1'.keep fun b hb => ⟨hb, rfl⟩)).mono ?_
        rintro e w1 ⟨rfl, hb1⟩
        have BB := B3.drew.trans (hb1.mono B3.size)
        have ra1 := Lib.hid (Row.below (w := wx.drew) Ra.out hb1 Ra.out.lt)
        have rb1 := Lib.hid (Row.below (w := wx.drew) Rb.out hb1 Rb.out.lt)
        cases he : fitsB p.kids[j] v.kids[j]
        · have hr := Lib.hid (fitsL_false j hlt hlt2 he)
          go_wp2_with fail
          go_ret
          exact ⟨ret_bool (by rw [hse.out, if_neg x1.out, if_neg x3.out, if_pos x4.out, y1, y2, hr.out]; rfl), BB⟩
        · have he2 := Lib.hid he
          clear he
          go_wp2_with fail
          go_roundw
          case rel => exact ⟨j + 1, by omega, by go_num, fun i h1 h2 hi => by
            rcases Nat.lt_or_ge i j with h | h
            · exact Hall.out i h1 h2 h
            · obtain rfl : i = j := by omega
              exact he2.out, BB, ra1.out, rb1.out⟩
          case measure => simp [intOf]; omega
      · have hjl : j = p.kids.length := by omega
        have Hj := Lib.hid hjl
        clear hjl
        go_wp2_with fail
        go_ret
        exact ⟨ret_bool (by rw [hse.out, if_neg x1.out, if_neg x3.out, if_pos x4.out, y1, y2, fitsL_true Hl.out (fun i h1 h2 => Hall.out i h1 h2 (by rw [Hj.out]; exact h1))]; rfl), hbl⟩

end Go.Proofs.Ytdcchfpgpdekmaa
