/- Marks on what is owned: the Go struct Scheme. Conditions: none but a bound on the numbers. -/
import Derived.Test.YtnjindgpmacjmaaGScheme
import Derived.Test.YtnjindgpmacjmaaInt
import Derived.Deep.RegionHeld3
import Derived.Test.YtnjindgpmacjmaaMTy
namespace Go.Proofs.Ytnjindgpmacjmaa
open Go.RowKit
set_option linter.unusedVariables false
set_option linter.unusedSimpArgs false
set_option maxHeartbeats 1000000

theorem GScheme.own_inv {w : World} {S : Nat → Prop} {t : GScheme} {cs : List Value} (h : t.toD.own w S cs) : ∃ A1 c1 A2 c2, cs = [.slice A1 t.vars.length c1, .int .i64 t.ty.op, .int .i64 t.ty.n, .string t.ty.s, .slice A2 t.ty.kids.length c2] ∧ GScheme.Ow w S A1 c1 A2 c2 t := by
  unfold GScheme.toD at h
  rw [D.own_agg] at h
  simp only [D.ownF] at h
  obtain ⟨U0, V0, x0, r0, a0, b0, e0, h0, U1, V1, x1, r1, a1, b1, e1, h1, ee⟩ := h
  subst ee
  subst e1
  subst e0
  obtain ⟨B1, d1, rfl, k0⟩ := D.own_sl.1 h0
  obtain ⟨B2, d2, rfl, k1⟩ := GTy.own_inv h1
  exact ⟨B1, d1, B2, d2, (by simp), ⟨U0, U1, fun x hx => (a0 x hx).1, fun x hx => b0 x ((a1 x hx).1), fun x hx hy => (a0 x hx).2 ((a1 x hy).1), k0, k1⟩⟩

/-- the marked data -/
def GScheme.mark (t : GScheme) (k : Nat) : GScheme := ⟨(markL mkI cnI t.vars (k)), (GTy.mark t.ty (k + cntL cnI t.vars))⟩
/-- how many marks -/
def GScheme.cnt (t : GScheme) : Nat := cntL cnI t.vars + GTy.cnt t.ty
/-- the same, but for its own numbers and texts -/
def GScheme.mark0 (t : GScheme) (k : Nat) : GScheme := ⟨(markL mkI cnI t.vars (k)), (GTy.mark0 t.ty (k + cntL cnI t.vars))⟩
def GScheme.cnt0 (t : GScheme) : Nat := cntL cnI t.vars + GTy.cnt0 t.ty
theorem GScheme.cnt_eq (t : GScheme) : t.cnt = 3 + cntL cnI t.vars + cntL GTy.cnt t.ty.kids := by
  simp only [GScheme.cnt, GTy.cnt_eq] <;> omega
theorem GScheme.mark_vars (t : GScheme) (k : Nat) : (t.mark k).vars = (markL mkI cnI t.vars (k)) := by
  rfl
theorem GScheme.mark_ty (t : GScheme) (k : Nat) : (t.mark k).ty = (GTy.mark t.ty (k + cntL cnI t.vars)) := by
  rfl
theorem GScheme.mark_cells (t : GScheme) (K : Nat) (A1 : Option Addr) (c1 : Nat) (A2 : Option Addr) (c2 : Nat) (v1 : Int) (v2 : Int) (e1 : v1 = ((K + cntL cnI t.vars : Nat) : Int)) (e2 : v2 = ((K + 1 + cntL cnI t.vars : Nat) : Int)) : ([.slice A1 t.vars.length c1, .int .i64 v1, .int .i64 v2, .string (markT (K + 2 + cntL cnI t.vars)), .slice A2 t.ty.kids.length c2] : List Value) = [.slice A1 (t.mark K).vars.length c1, .int .i64 (t.mark K).ty.op, .int .i64 (t.mark K).ty.n, .string (t.mark K).ty.s, .slice A2 (t.mark K).ty.kids.length c2] := by
  subst e1
  subst e2
  simp only [GScheme.mark_vars, GScheme.mark_ty, GTy.mark_op, GTy.mark_n, GTy.mark_s, GTy.mark_kids, markL_length]
  try (simp only [Nat.add_assoc, Nat.add_comm, Nat.add_left_comm])

theorem GScheme.Ow_mark {w : World} {S S1 S2 : Nat → Prop} {t : GScheme} {K : Nat} {A1 : Option Addr} {c1 : Nat} {A2 : Option Addr} {c2 : Nat} (hK : K + t.cnt ≤ 4611686018427387904) (g1 : ∀ x, S1 x → S x) (g2 : ∀ x, S2 x → S x) (d12 : ∀ x, S1 x → ¬ S2 x) (o1 : Osl w S1 1 A1 c1 ((markL mkI cnI t.vars (K)).map (D.num .i64))) (o2 : Osl w S2 4 A2 c2 ((markL GTy.mark GTy.cnt t.ty.kids (K + 3 + cntL cnI t.vars)).map GTy.toD)) : GScheme.Ow w S A1 c1 A2 c2 (t.mark K) := by
  rw [GScheme.cnt_eq] at hK
  unfold GScheme.Ow
  exact ⟨S1, S2, g1, g2, d12, (by simp only [GScheme.mark_vars, GScheme.mark_ty, GTy.mark_op, GTy.mark_n, GTy.mark_s, GTy.mark_kids]; first | exact o1 | (rw [show K = K from by first | omega | (simp only [GTy.cnt_eq]; omega)]; exact o1)), ⟨(by simp only [GScheme.mark_vars, GScheme.mark_ty, GTy.mark_op, GTy.mark_n, GTy.mark_s, GTy.mark_kids]; exact wfNat _ (by first | omega | (simp only [GTy.cnt_eq]; omega))), (by simp only [GScheme.mark_vars, GScheme.mark_ty, GTy.mark_op, GTy.mark_n, GTy.mark_s, GTy.mark_kids]; exact wfNat _ (by first | omega | (simp only [GTy.cnt_eq]; omega))), (by simp only [GScheme.mark_vars, GScheme.mark_ty, GTy.mark_op, GTy.mark_n, GTy.mark_s, GTy.mark_kids]; have := markT_size (K + cntL cnI t.vars + 2) (by first | omega | (simp only [GTy.cnt_eq]; omega)); unfold maxLen; omega), (by simp only [GScheme.mark_vars, GScheme.mark_ty, GTy.mark_op, GTy.mark_n, GTy.mark_s, GTy.mark_kids]; first | exact o2 | (rw [show K + cntL cnI t.vars + 3 = K + 3 + cntL cnI t.vars from by first | omega | (simp only [GTy.cnt_eq]; omega)]; exact o2))⟩⟩

theorem GScheme.cnt_bulk (t : GScheme) : t.cnt ≤ 16 * (1 + t.bulk) := by
  have hb := t.bulk_eq
  have := t.ty.bulk_eq
  have := cntL_int t.vars
  have := cntL_le GTy.cnt GTy.bulk t.ty.kids (fun x _ => GTy.cnt_bulk x)
  rw [GScheme.cnt_eq]; omega
theorem GScheme.cnts_bulk (l : List GScheme) : cntL GScheme.cnt l ≤ 16 * bulkL GScheme.bulk l := cntL_le _ _ l fun x _ => GScheme.cnt_bulk x
theorem GScheme.cnt0_le (t : GScheme) : t.cnt0 ≤ t.cnt := by
  rw [GScheme.cnt_eq]; simp only [GScheme.cnt0, GTy.cnt0]; omega




theorem markScheme0 (t : GScheme) (A1 : Option Addr) (c1 : Nat) (A2 : Option Addr) (c2 : Nat) (k : Nat) (x : Int) (S : Nat → Prop) (w : World) (hx : x = k) (h0 : 0 < k) (hk : k + t.cnt0 ≤ 4611686018427387904) (hS : ∀ b, S b → b < w.heap.size) (how : GScheme.Ow w S A1 c1 A2 c2 t) :
    Calls Try.prog 70 #[.agg #[.slice A1 t.vars.length c1, .int .i64 t.ty.op, .int .i64 t.ty.n, .string t.ty.s, .slice A2 t.ty.kids.length c2], .int .i64 x] w fun e w' => e = .returned (.int .i64 ((k + t.cnt0 : Nat) : Int)) ∧ GScheme.Ow w' S A1 c1 A2 c2 (t.mark0 k) ∧ Touch S w w' := by
  subst hx
  unfold GScheme.cnt0 at hk
  obtain ⟨S1, S2, g1, g2, d12, o_vars, o_ty⟩ := how
  have HS := Lib.hid hS
  have T0 := Lib.hid (Below.touch (S := S) (show Below w.heap.size w (w.alloc (.cells #[.slice A1 t.vars.length c1, .int .i64 t.ty.op, .int .i64 t.ty.n, .string t.ty.s, .slice A2 t.ty.kids.length c2] 102)) from (Below.refl _ _).alloc (Nat.le_refl _) _) hS)
  have R0 := Lib.hid (Row.new w 102 #[.slice A1 t.vars.length c1, .int .i64 t.ty.op, .int .i64 t.ty.n, .string t.ty.s, .slice A2 t.ty.kids.length c2])
  have O_vars_0 := Lib.hid (o_vars.keep (S' := S1) (w' := w.alloc (.cells #[.slice A1 t.vars.length c1, .int .i64 t.ty.op, .int .i64 t.ty.n, .string t.ty.s, .slice A2 t.ty.kids.length c2] 102)) fun q hq => ⟨hq, Below.heap_alloc _ _ _ (hS q (g1 q hq))⟩)
  have O_ty_0 := Lib.hid (o_ty.keep (S' := S2) (w' := w.alloc (.cells #[.slice A1 t.vars.length c1, .int .i64 t.ty.op, .int .i64 t.ty.n, .string t.ty.s, .slice A2 t.ty.kids.length c2] 102)) fun q hq => ⟨hq, Below.heap_alloc _ _ _ (hS q (g2 q hq))⟩)
  clear hS o_vars o_ty
  go_enter Try.func70, Try.ntmps70
  go_wp2_with fail
  refine (markIntSI t.vars A1 c1 (k) _ S1 _ (by omega) (by omega) O_vars_0.out).mono ?_
  rintro e w1 ⟨rfl, ho1, ht1⟩
  have O_vars_1 := Lib.hid ho1
  have O_ty_1 := Lib.hid (O_ty_0.out.keep (S' := S2) (w' := w1) fun q hq => ⟨hq, ht1.block q (Nat.lt_of_lt_of_le (HS.out q (g2 q hq)) T0.out.size) ((fun x h1 h2 => d12 x h2 h1) q hq)⟩)
  have R1 := Lib.hid (show Row w1 w.heap.size 102 #[.slice A1 t.vars.length c1, .int .i64 t.ty.op, .int .i64 t.ty.n, .string t.ty.s, .slice A2 t.ty.kids.length c2] from (ht1.block w.heap.size R0.out.lt (fun e => Nat.lt_irrefl _ (HS.out _ (g1 _ e)))).trans R0.out)
  have T1 := Lib.hid (T0.out.trans (ht1.mono (fun q hq => (g1 _ hq)) (fun q hq => Nat.lt_of_lt_of_le (HS.out q hq) T0.out.size)))
  have hc1 := fun i => R1.out.cell i
  clear ho1 ht1
  obtain ⟨K1, hK1⟩ : ∃ K1 : Nat, K1 = k + cntL cnI t.vars := ⟨_, rfl⟩
  first | rw [← hK1] | rw [Nat.add_assoc, ← Nat.add_assoc, ← hK1]
  go_wp2_with fail
  refine (markTy0 t.ty A2 c2 (k + cntL cnI t.vars) _ S2 _ (by omega) (by omega) (by omega) (fun q hq => Nat.lt_of_lt_of_le (HS.out q (g2 _ hq)) T1.out.size) O_ty_1.out).mono ?_
  rintro e w2 ⟨rfl, ho2, ht2⟩
  have O_ty_2 := Lib.hid ho2
  have O_vars_2 := Lib.hid (O_vars_1.out.keep (S' := S1) (w' := w2) fun q hq => ⟨hq, ht2.block q (Nat.lt_of_lt_of_le (HS.out q (g1 q hq)) T1.out.size) (d12 q hq)⟩)
  have R2 := Lib.hid (show Row w2 w.heap.size 102 #[.slice A1 t.vars.length c1, .int .i64 t.ty.op, .int .i64 t.ty.n, .string t.ty.s, .slice A2 t.ty.kids.length c2] from (ht2.block w.heap.size R1.out.lt (fun e => Nat.lt_irrefl _ (HS.out _ (g2 _ e)))).trans R1.out)
  have T2 := Lib.hid (T1.out.trans (ht2.mono (fun q hq => (g2 _ hq)) (fun q hq => Nat.lt_of_lt_of_le (HS.out q hq) T1.out.size)))
  have hc2 := fun i => R2.out.cell i
  clear ho2 ht2 hc1
  go_wp2_with fail
  go_ret
  exact ⟨ret_int (by unfold GScheme.cnt0; omega), ⟨S1, S2, g1, g2, d12, O_vars_2.out, O_ty_2.out⟩, T2.out⟩


end Go.Proofs.Ytnjindgpmacjmaa
