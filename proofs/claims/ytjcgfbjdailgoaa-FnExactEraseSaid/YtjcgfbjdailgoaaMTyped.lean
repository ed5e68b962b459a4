/- Marks on what is owned: the Go struct Typed. Conditions: none but a bound on the numbers. -/
import Derived.Test.YtjcgfbjdailgoaaGTyped
import Derived.Test.YtjcgfbjdailgoaaInt
import Derived.Deep.RegionHeld3
import Derived.Test.YtjcgfbjdailgoaaMTy
namespace Go.Proofs.Ytjcgfbjdailgoaa
open Go.RowKit
set_option linter.unusedVariables false
set_option linter.unusedSimpArgs false
set_option maxHeartbeats 1000000

theorem GTyped.own_inv {w : World} {S : Nat → Prop} {t : GTyped} {cs : List Value} (h : t.toD.own w S cs) : ∃ A1 c1 A2 c2 A3 c3 A4 c4, cs = [.int .i64 t.op, .int .i64 t.n, .string t.s, .string t.t, .int .i64 t.ty.op, .int .i64 t.ty.n, .string t.ty.s, .slice A1 t.ty.kids.length c1, .slice A2 t.inst.length c2, .slice A3 t.vars.length c3, .slice A4 t.kids.length c4] ∧ GTyped.Ow w S A1 c1 A2 c2 A3 c3 A4 c4 t := by
  cases t with
  | mk op n s t ty inst vars kids =>
  simp only [GTyped.toD, GTyped.toDs_map] at h
  rw [D.own_agg] at h
  simp only [D.ownF] at h
  obtain ⟨U0, V0, x0, r0, a0, b0, e0, h0, U1, V1, x1, r1, a1, b1, e1, h1, U2, V2, x2, r2, a2, b2, e2, h2, U3, V3, x3, r3, a3, b3, e3, h3, U4, V4, x4, r4, a4, b4, e4, h4, U5, V5, x5, r5, a5, b5, e5, h5, U6, V6, x6, r6, a6, b6, e6, h6, U7, V7, x7, r7, a7, b7, e7, h7, ee⟩ := h
  subst ee
  subst e7
  subst e6
  subst e5
  subst e4
  subst e3
  subst e2
  subst e1
  subst e0
  obtain ⟨rfl, k0⟩ := D.own_num.1 h0
  obtain ⟨rfl, k1⟩ := D.own_num.1 h1
  obtain ⟨rfl, k2⟩ := D.own_str.1 h2
  obtain ⟨rfl, k3⟩ := D.own_str.1 h3
  obtain ⟨B1, d1, rfl, k4⟩ := GTy.own_inv h4
  obtain ⟨B2, d2, rfl, k5⟩ := D.own_sl.1 h5
  obtain ⟨B3, d3, rfl, k6⟩ := D.own_sl.1 h6
  obtain ⟨B4, d4, rfl, k7⟩ := D.own_sl.1 h7
  exact ⟨B1, d1, B2, d2, B3, d3, B4, d4, (by simp [GTyped.op, GTyped.n, GTyped.s, GTyped.t, GTyped.ty, GTyped.inst, GTyped.vars, GTyped.kids]), ⟨U4, U5, U6, U7, fun x hx => b0 x (b1 x (b2 x (b3 x ((a4 x hx).1)))), fun x hx => b0 x (b1 x (b2 x (b3 x (b4 x ((a5 x hx).1))))), fun x hx => b0 x (b1 x (b2 x (b3 x (b4 x (b5 x ((a6 x hx).1)))))), fun x hx => b0 x (b1 x (b2 x (b3 x (b4 x (b5 x (b6 x ((a7 x hx).1))))))), fun x hx hy => (a4 x hx).2 ((a5 x hy).1), fun x hx hy => (a4 x hx).2 (b5 x ((a6 x hy).1)), fun x hx hy => (a4 x hx).2 (b5 x (b6 x ((a7 x hy).1))), fun x hx hy => (a5 x hx).2 ((a6 x hy).1), fun x hx hy => (a5 x hx).2 (b6 x ((a7 x hy).1)), fun x hx hy => (a6 x hx).2 ((a7 x hy).1), k0, k1, k2, k3, k4, k5, k6, k7⟩⟩

mutual
/-- the marked tree -/
def GTyped.mark : GTyped → Nat → GTyped | .mk op n s t ty inst vars kids, k => .mk (((k : Nat) : Int)) (((k + 1 : Nat) : Int)) (markT (k + 2)) (markT (k + 3)) (GTy.mark ty (k + 4)) (markL GTy.mark GTy.cnt inst (k + 4 + GTy.cnt ty)) (markL mkI cnI vars (k + 4 + GTy.cnt ty + cntL GTy.cnt inst)) (GTyped.marks kids (k + 4 + GTy.cnt ty + cntL GTy.cnt inst + cntL cnI vars))
def GTyped.marks : List GTyped → Nat → List GTyped | [], _ => [] | t :: r, k => t.mark k :: GTyped.marks r (k + t.cnt)
/-- how many marks -/
def GTyped.cnt : GTyped → Nat | .mk op n s t ty inst vars kids => 4 + GTy.cnt ty + cntL GTy.cnt inst + cntL cnI vars + GTyped.cnts kids
def GTyped.cnts : List GTyped → Nat | [] => 0 | t :: r => t.cnt + GTyped.cnts r
end
theorem GTyped.marks_eq : ∀ (l : List GTyped) (k : Nat), GTyped.marks l k = markL GTyped.mark GTyped.cnt l k
  | [], _ => by simp only [GTyped.marks, markL]
  | t :: r, k => by simp only [GTyped.marks, markL, GTyped.marks_eq r]
theorem GTyped.cnts_eq : ∀ (l : List GTyped), GTyped.cnts l = cntL GTyped.cnt l
  | [] => by simp only [GTyped.cnts, cntL]
  | t :: r => by simp only [GTyped.cnts, cntL, GTyped.cnts_eq r]
/-- the same, but for its own numbers and texts -/
def GTyped.mark0 (t : GTyped) (k : Nat) : GTyped := .mk t.op t.n t.s t.t (GTy.mark0 t.ty (k)) (markL GTy.mark GTy.cnt t.inst (k + GTy.cnt0 t.ty)) (markL mkI cnI t.vars (k + GTy.cnt0 t.ty + cntL GTy.cnt t.inst)) (markL GTyped.mark GTyped.cnt t.kids (k + GTy.cnt0 t.ty + cntL GTy.cnt t.inst + cntL cnI t.vars))
def GTyped.cnt0 (t : GTyped) : Nat := GTy.cnt0 t.ty + cntL GTy.cnt t.inst + cntL cnI t.vars + cntL GTyped.cnt t.kids
theorem GTyped.cnt_eq (t : GTyped) : t.cnt = 7 + cntL GTy.cnt t.ty.kids + cntL GTy.cnt t.inst + cntL cnI t.vars + cntL GTyped.cnt t.kids := by
  cases t; simp only [GTyped.cnt, GTyped.op, GTyped.n, GTyped.s, GTyped.t, GTyped.ty, GTyped.inst, GTyped.vars, GTyped.kids, GTyped.cnts_eq, GTy.cnt_eq] <;> omega
theorem GTyped.mark_op (t : GTyped) (k : Nat) : (t.mark k).op = (((k : Nat) : Int)) := by
  cases t; simp only [GTyped.mark, GTyped.marks_eq, GTyped.op, GTyped.n, GTyped.s, GTyped.t, GTyped.ty, GTyped.inst, GTyped.vars, GTyped.kids]
theorem GTyped.mark_n (t : GTyped) (k : Nat) : (t.mark k).n = (((k + 1 : Nat) : Int)) := by
  cases t; simp only [GTyped.mark, GTyped.marks_eq, GTyped.op, GTyped.n, GTyped.s, GTyped.t, GTyped.ty, GTyped.inst, GTyped.vars, GTyped.kids]
theorem GTyped.mark_s (t : GTyped) (k : Nat) : (t.mark k).s = (markT (k + 2)) := by
  cases t; simp only [GTyped.mark, GTyped.marks_eq, GTyped.op, GTyped.n, GTyped.s, GTyped.t, GTyped.ty, GTyped.inst, GTyped.vars, GTyped.kids]
theorem GTyped.mark_t (t : GTyped) (k : Nat) : (t.mark k).t = (markT (k + 3)) := by
  cases t; simp only [GTyped.mark, GTyped.marks_eq, GTyped.op, GTyped.n, GTyped.s, GTyped.t, GTyped.ty, GTyped.inst, GTyped.vars, GTyped.kids]
theorem GTyped.mark_ty (t : GTyped) (k : Nat) : (t.mark k).ty = (GTy.mark t.ty (k + 4)) := by
  cases t; simp only [GTyped.mark, GTyped.marks_eq, GTyped.op, GTyped.n, GTyped.s, GTyped.t, GTyped.ty, GTyped.inst, GTyped.vars, GTyped.kids]
theorem GTyped.mark_inst (t : GTyped) (k : Nat) : (t.mark k).inst = (markL GTy.mark GTy.cnt t.inst (k + 4 + GTy.cnt t.ty)) := by
  cases t; simp only [GTyped.mark, GTyped.marks_eq, GTyped.op, GTyped.n, GTyped.s, GTyped.t, GTyped.ty, GTyped.inst, GTyped.vars, GTyped.kids]
theorem GTyped.mark_vars (t : GTyped) (k : Nat) : (t.mark k).vars = (markL mkI cnI t.vars (k + 4 + GTy.cnt t.ty + cntL GTy.cnt t.inst)) := by
  cases t; simp only [GTyped.mark, GTyped.marks_eq, GTyped.op, GTyped.n, GTyped.s, GTyped.t, GTyped.ty, GTyped.inst, GTyped.vars, GTyped.kids]
theorem GTyped.mark_kids (t : GTyped) (k : Nat) : (t.mark k).kids = (markL GTyped.mark GTyped.cnt t.kids (k + 4 + GTy.cnt t.ty + cntL GTy.cnt t.inst + cntL cnI t.vars)) := by
  cases t; simp only [GTyped.mark, GTyped.marks_eq, GTyped.op, GTyped.n, GTyped.s, GTyped.t, GTyped.ty, GTyped.inst, GTyped.vars, GTyped.kids]
theorem GTyped.mark_cells (t : GTyped) (K : Nat) (A1 : Option Addr) (c1 : Nat) (A2 : Option Addr) (c2 : Nat) (A3 : Option Addr) (c3 : Nat) (A4 : Option Addr) (c4 : Nat) (v0 : Int) (v1 : Int) (v4 : Int) (v5 : Int) (e0 : v0 = ((K : Nat) : Int)) (e1 : v1 = ((K + 1 : Nat) : Int)) (e4 : v4 = ((K + 4 : Nat) : Int)) (e5 : v5 = ((K + 5 : Nat) : Int)) : ([.int .i64 v0, .int .i64 v1, .string (markT (K + 2)), .string (markT (K + 3)), .int .i64 v4, .int .i64 v5, .string (markT (K + 6)), .slice A1 t.ty.kids.length c1, .slice A2 t.inst.length c2, .slice A3 t.vars.length c3, .slice A4 t.kids.length c4] : List Value) = [.int .i64 (t.mark K).op, .int .i64 (t.mark K).n, .string (t.mark K).s, .string (t.mark K).t, .int .i64 (t.mark K).ty.op, .int .i64 (t.mark K).ty.n, .string (t.mark K).ty.s, .slice A1 (t.mark K).ty.kids.length c1, .slice A2 (t.mark K).inst.length c2, .slice A3 (t.mark K).vars.length c3, .slice A4 (t.mark K).kids.length c4] := by
  subst e0
  subst e1
  subst e4
  subst e5
  simp only [GTyped.mark_op, GTyped.mark_n, GTyped.mark_s, GTyped.mark_t, GTyped.mark_ty, GTy.mark_op, GTy.mark_n, GTy.mark_s, GTy.mark_kids, GTyped.mark_inst, GTyped.mark_vars, GTyped.mark_kids, markL_length]
  try (simp only [Nat.add_assoc, Nat.add_comm, Nat.add_left_comm])

theorem GTyped.Ow_mark {w : World} {S S1 S2 S3 S4 : Nat → Prop} {t : GTyped} {K : Nat} {A1 : Option Addr} {c1 : Nat} {A2 : Option Addr} {c2 : Nat} {A3 : Option Addr} {c3 : Nat} {A4 : Option Addr} {c4 : Nat} (hK : K + t.cnt ≤ 4611686018427387904) (g1 : ∀ x, S1 x → S x) (g2 : ∀ x, S2 x → S x) (g3 : ∀ x, S3 x → S x) (g4 : ∀ x, S4 x → S x) (d12 : ∀ x, S1 x → ¬ S2 x) (d13 : ∀ x, S1 x → ¬ S3 x) (d14 : ∀ x, S1 x → ¬ S4 x) (d23 : ∀ x, S2 x → ¬ S3 x) (d24 : ∀ x, S2 x → ¬ S4 x) (d34 : ∀ x, S3 x → ¬ S4 x) (o1 : Osl w S1 4 A1 c1 ((markL GTy.mark GTy.cnt t.ty.kids (K + 7)).map GTy.toD)) (o2 : Osl w S2 4 A2 c2 ((markL GTy.mark GTy.cnt t.inst (K + 7 + cntL GTy.cnt t.ty.kids)).map GTy.toD)) (o3 : Osl w S3 1 A3 c3 ((markL mkI cnI t.vars (K + 7 + cntL GTy.cnt t.ty.kids + cntL GTy.cnt t.inst)).map (D.num .i64))) (o4 : Osl w S4 11 A4 c4 ((markL GTyped.mark GTyped.cnt t.kids (K + 7 + cntL GTy.cnt t.ty.kids + cntL GTy.cnt t.inst + cntL cnI t.vars)).map GTyped.toD)) : GTyped.Ow w S A1 c1 A2 c2 A3 c3 A4 c4 (t.mark K) := by
  rw [GTyped.cnt_eq] at hK
  unfold GTyped.Ow
  exact ⟨S1, S2, S3, S4, g1, g2, g3, g4, d12, d13, d14, d23, d24, d34, (by simp only [GTyped.mark_op, GTyped.mark_n, GTyped.mark_s, GTyped.mark_t, GTyped.mark_ty, GTy.mark_op, GTy.mark_n, GTy.mark_s, GTy.mark_kids, GTyped.mark_inst, GTyped.mark_vars, GTyped.mark_kids]; exact wfNat _ (by first | omega | (simp only [GTy.cnt_eq]; omega))), (by simp only [GTyped.mark_op, GTyped.mark_n, GTyped.mark_s, GTyped.mark_t, GTyped.mark_ty, GTy.mark_op, GTy.mark_n, GTy.mark_s, GTy.mark_kids, GTyped.mark_inst, GTyped.mark_vars, GTyped.mark_kids]; exact wfNat _ (by first | omega | (simp only [GTy.cnt_eq]; omega))), (by simp only [GTyped.mark_op, GTyped.mark_n, GTyped.mark_s, GTyped.mark_t, GTyped.mark_ty, GTy.mark_op, GTy.mark_n, GTy.mark_s, GTy.mark_kids, GTyped.mark_inst, GTyped.mark_vars, GTyped.mark_kids]; have := markT_size (K + 2) (by first | omega | (simp only [GTy.cnt_eq]; omega)); unfold maxLen; omega), (by simp only [GTyped.mark_op, GTyped.mark_n, GTyped.mark_s, GTyped.mark_t, GTyped.mark_ty, GTy.mark_op, GTy.mark_n, GTy.mark_s, GTy.mark_kids, GTyped.mark_inst, GTyped.mark_vars, GTyped.mark_kids]; have := markT_size (K + 3) (by first | omega | (simp only [GTy.cnt_eq]; omega)); unfold maxLen; omega), ⟨(by simp only [GTyped.mark_op, GTyped.mark_n, GTyped.mark_s, GTyped.mark_t, GTyped.mark_ty, GTy.mark_op, GTy.mark_n, GTy.mark_s, GTy.mark_kids, GTyped.mark_inst, GTyped.mark_vars, GTyped.mark_kids]; exact wfNat _ (by first | omega | (simp only [GTy.cnt_eq]; omega))), (by simp only [GTyped.mark_op, GTyped.mark_n, GTyped.mark_s, GTyped.mark_t, GTyped.mark_ty, GTy.mark_op, GTy.mark_n, GTy.mark_s, GTy.mark_kids, GTyped.mark_inst, GTyped.mark_vars, GTyped.mark_kids]; exact wfNat _ (by first | omega | (simp only [GTy.cnt_eq]; omega))), (by simp only [GTyped.mark_op, GTyped.mark_n, GTyped.mark_s, GTyped.mark_t, GTyped.mark_ty, GTy.mark_op, GTy.mark_n, GTy.mark_s, GTy.mark_kids, GTyped.mark_inst, GTyped.mark_vars, GTyped.mark_kids]; have := markT_size (K + 4 + 2) (by first | omega | (simp only [GTy.cnt_eq]; omega)); unfold maxLen; omega), (by simp only [GTyped.mark_op, GTyped.mark_n, GTyped.mark_s, GTyped.mark_t, GTyped.mark_ty, GTy.mark_op, GTy.mark_n, GTy.mark_s, GTy.mark_kids, GTyped.mark_inst, GTyped.mark_vars, GTyped.mark_kids]; first | exact o1 | (rw [show K + 4 + 3 = K + 7 from by first | omega | (simp only [GTy.cnt_eq]; omega)]; exact o1))⟩, (by simp only [GTyped.mark_op, GTyped.mark_n, GTyped.mark_s, GTyped.mark_t, GTyped.mark_ty, GTy.mark_op, GTy.mark_n, GTy.mark_s, GTy.mark_kids, GTyped.mark_inst, GTyped.mark_vars, GTyped.mark_kids]; first | exact o2 | (rw [show K + 4 + GTy.cnt t.ty = K + 7 + cntL GTy.cnt t.ty.kids from by first | omega | (simp only [GTy.cnt_eq]; omega)]; exact o2)), (by simp only [GTyped.mark_op, GTyped.mark_n, GTyped.mark_s, GTyped.mark_t, GTyped.mark_ty, GTy.mark_op, GTy.mark_n, GTy.mark_s, GTy.mark_kids, GTyped.mark_inst, GTyped.mark_vars, GTyped.mark_kids]; first | exact o3 | (rw [show K + 4 + GTy.cnt t.ty + cntL GTy.cnt t.inst = K + 7 + cntL GTy.cnt t.ty.kids + cntL GTy.cnt t.inst from by first | omega | (simp only [GTy.cnt_eq]; omega)]; exact o3)), (by simp only [GTyped.mark_op, GTyped.mark_n, GTyped.mark_s, GTyped.mark_t, GTyped.mark_ty, GTy.mark_op, GTy.mark_n, GTy.mark_s, GTy.mark_kids, GTyped.mark_inst, GTyped.mark_vars, GTyped.mark_kids]; first | exact o4 | (rw [show K + 4 + GTy.cnt t.ty + cntL GTy.cnt t.inst + cntL cnI t.vars = K + 7 + cntL GTy.cnt t.ty.kids + cntL GTy.cnt t.inst + cntL cnI t.vars from by first | omega | (simp only [GTy.cnt_eq]; omega)]; exact o4))⟩

theorem GTyped.cnt_bulk : ∀ t : GTyped, t.cnt ≤ 16 * (1 + t.bulk) := by
  have H : ∀ kk : Nat, ∀ t : GTyped, t.bulk < kk → t.cnt ≤ 16 * (1 + t.bulk) := by
    intro kk; induction kk with
    | zero => intro t h; omega
    | succ kk ih =>
      intro t h
      have hb := t.bulk_eq
      have := t.ty.bulk_eq
      have := cntL_le GTy.cnt GTy.bulk t.ty.kids (fun x _ => GTy.cnt_bulk x)
      have := cntL_le GTy.cnt GTy.bulk t.inst (fun x _ => GTy.cnt_bulk x)
      have := cntL_int t.vars
      have := cntL_le GTyped.cnt GTyped.bulk t.kids (fun x hx => ih x (by have := bulkL_mem GTyped.bulk t.kids x hx; omega))
      rw [GTyped.cnt_eq]; omega
  exact fun t => H (t.bulk + 1) t (by omega)
theorem GTyped.cnts_bulk (l : List GTyped) : cntL GTyped.cnt l ≤ 16 * bulkL GTyped.bulk l := cntL_le _ _ l fun x _ => GTyped.cnt_bulk x
theorem GTyped.cnt0_le (t : GTyped) : t.cnt0 ≤ t.cnt := by
  rw [GTyped.cnt_eq]; simp only [GTyped.cnt0, GTy.cnt0]; omega
set_option maxRecDepth 20000 in
theorem markTypedS (kk : Nat) : ∀ (l : List GTyped) (A : Option Addr) (c k : Nat) (x : Int) (S : Nat → Prop) (w : World), bulkL GTyped.bulk l < kk → x = k → 0 < k → k + cntL GTyped.cnt l ≤ 4611686018427387904 → (∀ b, S b → b < w.heap.size) → Osl w S 11 A c (l.map GTyped.toD) →
    Calls Try.prog 92 #[.slice A l.length c, .int .i64 x] w fun e w' => e = .returned (.int .i64 ((k + cntL GTyped.cnt l : Nat) : Int)) ∧ Osl w' S 11 A c ((markL GTyped.mark GTyped.cnt l k).map GTyped.toD) ∧ Touch S w w' := by
  induction kk with
  | zero => intro l A c k x S w h; omega
  | succ kk ih =>
    intro l A c k x S w hkk hx h0 hk hS hs
    have HB := Lib.hid (fun (j : Nat) (h : j < l.length) => (show bulkL GTyped.bulk (l[j]).kids < kk by have := bulkL_mem GTyped.bulk l _ (List.getElem_mem h); have := (l[j]).bulk_eq; omega))
    clear hkk
    subst hx
    have hlen : l.length ≤ 9223372036854775807 := by simpa using hs.sl.len
    have HS := Lib.hid hS
    have S0 := Lib.hid hs
    clear hs hS
    go_enter Try.func92, Try.ntmps92
    go_wp2_with fail
    go_loopw [1, 5] (fun v i wr => ∃ (j : Nat), j ≤ l.length ∧ i = .int .i64 j ∧ v = .int .i64 ((k + cntL GTyped.cnt (l.take j) : Nat) : Int) ∧ Hid (Osl wr S 11 A c ((markTo GTyped.mark GTyped.cnt l k j).map GTyped.toD)) ∧ Hid (Touch S w wr)) (fun _ i _ => l.length - (intOf i).toNat)
    case atStart => exact ⟨0, by omega, by go_num, by simp [cntL], Lib.hid (by rw [markTo_zero]; exact S0.out), Lib.hid (Touch.refl _ _)⟩
    case round =>
      obtain ⟨j, hj, rfl, ev, HO, HT⟩ := hrel
      obtain ⟨K, hK⟩ : ∃ K, K = k + cntL GTyped.cnt (l.take j) := ⟨_, rfl⟩
      rw [← hK] at ev
      subst ev
      by_cases hlt : j < l.length
      · obtain ⟨b, T, cs, rfl, hSb, hTb, hf0, hTS, hcl, hc, hd, hput⟩ := HO.out.focus j (by rw [List.length_map, markTo_length _ _ _ _ _ hj]; exact hlt)
        rw [List.getElem_map, markTo_get _ _ _ _ _ hlt] at hd
        obtain ⟨A1, c1, A2, c2, A3, c3, A4, c4, rfl, how⟩ := GTyped.own_inv hd
        have x0 : wr.cell? ⟨b, j * 11, none⟩ = some (.int .i64 l[j].op) := by simpa using hc 0 _ rfl
        have x1 : wr.cell? ⟨b, j * 11 + 1, none⟩ = some (.int .i64 l[j].n) := by simpa using hc 1 _ rfl
        have x2 : wr.cell? ⟨b, j * 11 + 2, none⟩ = some (.string l[j].s) := by simpa using hc 2 _ rfl
        have x3 : wr.cell? ⟨b, j * 11 + 3, none⟩ = some (.string l[j].t) := by simpa using hc 3 _ rfl
        have x4 : wr.cell? ⟨b, j * 11 + 4, none⟩ = some (.int .i64 l[j].ty.op) := by simpa using hc 4 _ rfl
        have x5 : wr.cell? ⟨b, j * 11 + 5, none⟩ = some (.int .i64 l[j].ty.n) := by simpa using hc 5 _ rfl
        have x6 : wr.cell? ⟨b, j * 11 + 6, none⟩ = some (.string l[j].ty.s) := by simpa using hc 6 _ rfl
        have x7 : wr.cell? ⟨b, j * 11 + 7, none⟩ = some (.slice A1 l[j].ty.kids.length c1) := by simpa using hc 7 _ rfl
        have x8 : wr.cell? ⟨b, j * 11 + 8, none⟩ = some (.slice A2 l[j].inst.length c2) := by simpa using hc 8 _ rfl
        have x9 : wr.cell? ⟨b, j * 11 + 9, none⟩ = some (.slice A3 l[j].vars.length c3) := by simpa using hc 9 _ rfl
        have x10 : wr.cell? ⟨b, j * 11 + 10, none⟩ = some (.slice A4 l[j].kids.length c4) := by simpa using hc 10 _ rfl
        have hKk : 0 < K := by omega
        have hKb : K + GTyped.cnt l[j] ≤ 4611686018427387904 := by have := cntL_take_le GTyped.cnt l j hlt; omega
        have HKB := Lib.hid hKb
        rw [GTyped.cnt_eq] at hKb
        have HK := Lib.hid hK
        have hbl : b < wr.heap.size := Nat.lt_of_lt_of_le (HS.out b hSb) HT.out.size
        have M0 := Lib.hid (MSt.start (w := w) (wr := wr) (S := S) (T := T) (b := b) (lo := j * 11) (hi := j * 11 + 11) hf0 HT.out)
        obtain ⟨S1, S2, S3, S4, g1, g2, g3, g4, d12, d13, d14, d23, d24, d34, -, -, -, -, ⟨-, -, -, o1⟩, o2, o3, o4⟩ := how
        have O1_0 := Lib.hid o1
        have O2_0 := Lib.hid o2
        have O3_0 := Lib.hid o3
        have O4_0 := Lib.hid o4
        clear o1 o2 o3 o4
        have HPUT := Lib.hid hput
        clear hc hd hcl hput hK
        go_wp2_with fail
        refine (markTextI _ (K + 2) (by omega) _ (by omega) (by omega)).mono ?_
        rintro e w1 ⟨rfl, hb1⟩
        have x0_1 : w1.cell? ⟨b, j * 11, none⟩ = some (.int .i64 ((K : Int))) := (hb1.cell (p := ⟨b, j * 11, none⟩) (Nat.lt_of_lt_of_le hbl (((((M0.out).set hSb (j * 11) (by omega) (by omega) (.int .i64 ((K : Int))))).set hSb (j * 11 + 1) (by omega) (by omega) (.int .i64 ((K : Int) + 1)))).size)).trans ((cell_ne (by omega)).trans (World.cell?_setCell_same _ _ _ x0))
        have x1_1 : w1.cell? ⟨b, j * 11 + 1, none⟩ = some (.int .i64 ((K : Int) + 1)) := (hb1.cell (p := ⟨b, j * 11 + 1, none⟩) (Nat.lt_of_lt_of_le hbl (((((M0.out).set hSb (j * 11) (by omega) (by omega) (.int .i64 ((K : Int))))).set hSb (j * 11 + 1) (by omega) (by omega) (.int .i64 ((K : Int) + 1)))).size)).trans (World.cell?_setCell_same _ _ _ ((cell_ne (by omega)).trans x1))
        have x2_1 : w1.cell? ⟨b, j * 11 + 2, none⟩ = some (.string l[j].s) := (hb1.cell (p := ⟨b, j * 11 + 2, none⟩) (Nat.lt_of_lt_of_le hbl (((((M0.out).set hSb (j * 11) (by omega) (by omega) (.int .i64 ((K : Int))))).set hSb (j * 11 + 1) (by omega) (by omega) (.int .i64 ((K : Int) + 1)))).size)).trans ((cell_ne (by omega)).trans ((cell_ne (by omega)).trans x2))
        have x3_1 : w1.cell? ⟨b, j * 11 + 3, none⟩ = some (.string l[j].t) := (hb1.cell (p := ⟨b, j * 11 + 3, none⟩) (Nat.lt_of_lt_of_le hbl (((((M0.out).set hSb (j * 11) (by omega) (by omega) (.int .i64 ((K : Int))))).set hSb (j * 11 + 1) (by omega) (by omega) (.int .i64 ((K : Int) + 1)))).size)).trans ((cell_ne (by omega)).trans ((cell_ne (by omega)).trans x3))
        have x4_1 : w1.cell? ⟨b, j * 11 + 4, none⟩ = some (.int .i64 l[j].ty.op) := (hb1.cell (p := ⟨b, j * 11 + 4, none⟩) (Nat.lt_of_lt_of_le hbl (((((M0.out).set hSb (j * 11) (by omega) (by omega) (.int .i64 ((K : Int))))).set hSb (j * 11 + 1) (by omega) (by omega) (.int .i64 ((K : Int) + 1)))).size)).trans ((cell_ne (by omega)).trans ((cell_ne (by omega)).trans x4))
        have x5_1 : w1.cell? ⟨b, j * 11 + 5, none⟩ = some (.int .i64 l[j].ty.n) := (hb1.cell (p := ⟨b, j * 11 + 5, none⟩) (Nat.lt_of_lt_of_le hbl (((((M0.out).set hSb (j * 11) (by omega) (by omega) (.int .i64 ((K : Int))))).set hSb (j * 11 + 1) (by omega) (by omega) (.int .i64 ((K : Int) + 1)))).size)).trans ((cell_ne (by omega)).trans ((cell_ne (by omega)).trans x5))
        have x6_1 : w1.cell? ⟨b, j * 11 + 6, none⟩ = some (.string l[j].ty.s) := (hb1.cell (p := ⟨b, j * 11 + 6, none⟩) (Nat.lt_of_lt_of_le hbl (((((M0.out).set hSb (j * 11) (by omega) (by omega) (.int .i64 ((K : Int))))).set hSb (j * 11 + 1) (by omega) (by omega) (.int .i64 ((K : Int) + 1)))).size)).trans ((cell_ne (by omega)).trans ((cell_ne (by omega)).trans x6))
        have x7_1 : w1.cell? ⟨b, j * 11 + 7, none⟩ = some (.slice A1 l[j].ty.kids.length c1) := (hb1.cell (p := ⟨b, j * 11 + 7, none⟩) (Nat.lt_of_lt_of_le hbl (((((M0.out).set hSb (j * 11) (by omega) (by omega) (.int .i64 ((K : Int))))).set hSb (j * 11 + 1) (by omega) (by omega) (.int .i64 ((K : Int) + 1)))).size)).trans ((cell_ne (by omega)).trans ((cell_ne (by omega)).trans x7))
        have x8_1 : w1.cell? ⟨b, j * 11 + 8, none⟩ = some (.slice A2 l[j].inst.length c2) := (hb1.cell (p := ⟨b, j * 11 + 8, none⟩) (Nat.lt_of_lt_of_le hbl (((((M0.out).set hSb (j * 11) (by omega) (by omega) (.int .i64 ((K : Int))))).set hSb (j * 11 + 1) (by omega) (by omega) (.int .i64 ((K : Int) + 1)))).size)).trans ((cell_ne (by omega)).trans ((cell_ne (by omega)).trans x8))
        have x9_1 : w1.cell? ⟨b, j * 11 + 9, none⟩ = some (.slice A3 l[j].vars.length c3) := (hb1.cell (p := ⟨b, j * 11 + 9, none⟩) (Nat.lt_of_lt_of_le hbl (((((M0.out).set hSb (j * 11) (by omega) (by omega) (.int .i64 ((K : Int))))).set hSb (j * 11 + 1) (by omega) (by omega) (.int .i64 ((K : Int) + 1)))).size)).trans ((cell_ne (by omega)).trans ((cell_ne (by omega)).trans x9))
        have x10_1 : w1.cell? ⟨b, j * 11 + 10, none⟩ = some (.slice A4 l[j].kids.length c4) := (hb1.cell (p := ⟨b, j * 11 + 10, none⟩) (Nat.lt_of_lt_of_le hbl (((((M0.out).set hSb (j * 11) (by omega) (by omega) (.int .i64 ((K : Int))))).set hSb (j * 11 + 1) (by omega) (by omega) (.int .i64 ((K : Int) + 1)))).size)).trans ((cell_ne (by omega)).trans ((cell_ne (by omega)).trans x10))
        have M1 := Lib.hid (MSt.below (((((M0.out).set hSb (j * 11) (by omega) (by omega) (.int .i64 ((K : Int))))).set hSb (j * 11 + 1) (by omega) (by omega) (.int .i64 ((K : Int) + 1)))) hb1 hbl HS.out)
        have hf1 := M1.out.fr
        have O1_1 := Lib.hid (Osl.belowS ((Osl.set (o := j * 11 + 1) ((Osl.set (o := j * 11) (O1_0.out) (fun e => hTb (g1 b e)) (.int .i64 ((K : Int))))) (fun e => hTb (g1 b e)) (.int .i64 ((K : Int) + 1)))) hb1 (fun q hq => Nat.lt_of_lt_of_le (HS.out q (hTS q (g1 q hq))) (((((M0.out).set hSb (j * 11) (by omega) (by omega) (.int .i64 ((K : Int))))).set hSb (j * 11 + 1) (by omega) (by omega) (.int .i64 ((K : Int) + 1)))).touch.size))
        have O2_1 := Lib.hid (Osl.belowS ((Osl.set (o := j * 11 + 1) ((Osl.set (o := j * 11) (O2_0.out) (fun e => hTb (g2 b e)) (.int .i64 ((K : Int))))) (fun e => hTb (g2 b e)) (.int .i64 ((K : Int) + 1)))) hb1 (fun q hq => Nat.lt_of_lt_of_le (HS.out q (hTS q (g2 q hq))) (((((M0.out).set hSb (j * 11) (by omega) (by omega) (.int .i64 ((K : Int))))).set hSb (j * 11 + 1) (by omega) (by omega) (.int .i64 ((K : Int) + 1)))).touch.size))
        have O3_1 := Lib.hid (Osl.belowS ((Osl.set (o := j * 11 + 1) ((Osl.set (o := j * 11) (O3_0.out) (fun e => hTb (g3 b e)) (.int .i64 ((K : Int))))) (fun e => hTb (g3 b e)) (.int .i64 ((K : Int) + 1)))) hb1 (fun q hq => Nat.lt_of_lt_of_le (HS.out q (hTS q (g3 q hq))) (((((M0.out).set hSb (j * 11) (by omega) (by omega) (.int .i64 ((K : Int))))).set hSb (j * 11 + 1) (by omega) (by omega) (.int .i64 ((K : Int) + 1)))).touch.size))
        have O4_1 := Lib.hid (Osl.belowS ((Osl.set (o := j * 11 + 1) ((Osl.set (o := j * 11) (O4_0.out) (fun e => hTb (g4 b e)) (.int .i64 ((K : Int))))) (fun e => hTb (g4 b e)) (.int .i64 ((K : Int) + 1)))) hb1 (fun q hq => Nat.lt_of_lt_of_le (HS.out q (hTS q (g4 q hq))) (((((M0.out).set hSb (j * 11) (by omega) (by omega) (.int .i64 ((K : Int))))).set hSb (j * 11 + 1) (by omega) (by omega) (.int .i64 ((K : Int) + 1)))).touch.size))
        clear x0 x1 x2 x3 x4 x5 x6 x7 x8 x9 x10 hf0 hb1
        go_wp2_with fail
        refine (markTextI _ (K + 3) (by omega) _ (by omega) (by omega)).mono ?_
        rintro e w2 ⟨rfl, hb2⟩
        have x0_2 : w2.cell? ⟨b, j * 11, none⟩ = some (.int .i64 ((K : Int))) := (hb2.cell (p := ⟨b, j * 11, none⟩) (Nat.lt_of_lt_of_le hbl (((M1.out).set hSb (j * 11 + 2) (by omega) (by omega) (.string (markT (K + 2))))).size)).trans ((cell_ne (by omega)).trans x0_1)
        have x1_2 : w2.cell? ⟨b, j * 11 + 1, none⟩ = some (.int .i64 ((K : Int) + 1)) := (hb2.cell (p := ⟨b, j * 11 + 1, none⟩) (Nat.lt_of_lt_of_le hbl (((M1.out).set hSb (j * 11 + 2) (by omega) (by omega) (.string (markT (K + 2))))).size)).trans ((cell_ne (by omega)).trans x1_1)
        have x2_2 : w2.cell? ⟨b, j * 11 + 2, none⟩ = some (.string (markT (K + 2))) := (hb2.cell (p := ⟨b, j * 11 + 2, none⟩) (Nat.lt_of_lt_of_le hbl (((M1.out).set hSb (j * 11 + 2) (by omega) (by omega) (.string (markT (K + 2))))).size)).trans (World.cell?_setCell_same _ _ _ x2_1)
        have x3_2 : w2.cell? ⟨b, j * 11 + 3, none⟩ = some (.string l[j].t) := (hb2.cell (p := ⟨b, j * 11 + 3, none⟩) (Nat.lt_of_lt_of_le hbl (((M1.out).set hSb (j * 11 + 2) (by omega) (by omega) (.string (markT (K + 2))))).size)).trans ((cell_ne (by omega)).trans x3_1)
        have x4_2 : w2.cell? ⟨b, j * 11 + 4, none⟩ = some (.int .i64 l[j].ty.op) := (hb2.cell (p := ⟨b, j * 11 + 4, none⟩) (Nat.lt_of_lt_of_le hbl (((M1.out).set hSb (j * 11 + 2) (by omega) (by omega) (.string (markT (K + 2))))).size)).trans ((cell_ne (by omega)).trans x4_1)
        have x5_2 : w2.cell? ⟨b, j * 11 + 5, none⟩ = some (.int .i64 l[j].ty.n) := (hb2.cell (p := ⟨b, j * 11 + 5, none⟩) (Nat.lt_of_lt_of_le hbl (((M1.out).set hSb (j * 11 + 2) (by omega) (by omega) (.string (markT (K + 2))))).size)).trans ((cell_ne (by omega)).trans x5_1)
        have x6_2 : w2.cell? ⟨b, j * 11 + 6, none⟩ = some (.string l[j].ty.s) := (hb2.cell (p := ⟨b, j * 11 + 6, none⟩) (Nat.lt_of_lt_of_le hbl (((M1.out).set hSb (j * 11 + 2) (by omega) (by omega) (.string (markT (K + 2))))).size)).trans ((cell_ne (by omega)).trans x6_1)
        have x7_2 : w2.cell? ⟨b, j * 11 + 7, none⟩ = some (.slice A1 l[j].ty.kids.length c1) := (hb2.cell (p := ⟨b, j * 11 + 7, none⟩) (Nat.lt_of_lt_of_le hbl (((M1.out).set hSb (j * 11 + 2) (by omega) (by omega) (.string (markT (K + 2))))).size)).trans ((cell_ne (by omega)).trans x7_1)
        have x8_2 : w2.cell? ⟨b, j * 11 + 8, none⟩ = some (.slice A2 l[j].inst.length c2) := (hb2.cell (p := ⟨b, j * 11 + 8, none⟩) (Nat.lt_of_lt_of_le hbl (((M1.out).set hSb (j * 11 + 2) (by omega) (by omega) (.string (markT (K + 2))))).size)).trans ((cell_ne (by omega)).trans x8_1)
        have x9_2 : w2.cell? ⟨b, j * 11 + 9, none⟩ = some (.slice A3 l[j].vars.length c3) := (hb2.cell (p := ⟨b, j * 11 + 9, none⟩) (Nat.lt_of_lt_of_le hbl (((M1.out).set hSb (j * 11 + 2) (by omega) (by omega) (.string (markT (K + 2))))).size)).trans ((cell_ne (by omega)).trans x9_1)
        have x10_2 : w2.cell? ⟨b, j * 11 + 10, none⟩ = some (.slice A4 l[j].kids.length c4) := (hb2.cell (p := ⟨b, j * 11 + 10, none⟩) (Nat.lt_of_lt_of_le hbl (((M1.out).set hSb (j * 11 + 2) (by omega) (by omega) (.string (markT (K + 2))))).size)).trans ((cell_ne (by omega)).trans x10_1)
        have M2 := Lib.hid (MSt.below (((M1.out).set hSb (j * 11 + 2) (by omega) (by omega) (.string (markT (K + 2))))) hb2 hbl HS.out)
        have hf2 := M2.out.fr
        have O1_2 := Lib.hid (Osl.belowS ((Osl.set (o := j * 11 + 2) (O1_1.out) (fun e => hTb (g1 b e)) (.string (markT (K + 2))))) hb2 (fun q hq => Nat.lt_of_lt_of_le (HS.out q (hTS q (g1 q hq))) (((M1.out).set hSb (j * 11 + 2) (by omega) (by omega) (.string (markT (K + 2))))).touch.size))
        have O2_2 := Lib.hid (Osl.belowS ((Osl.set (o := j * 11 + 2) (O2_1.out) (fun e => hTb (g2 b e)) (.string (markT (K + 2))))) hb2 (fun q hq => Nat.lt_of_lt_of_le (HS.out q (hTS q (g2 q hq))) (((M1.out).set hSb (j * 11 + 2) (by omega) (by omega) (.string (markT (K + 2))))).touch.size))
        have O3_2 := Lib.hid (Osl.belowS ((Osl.set (o := j * 11 + 2) (O3_1.out) (fun e => hTb (g3 b e)) (.string (markT (K + 2))))) hb2 (fun q hq => Nat.lt_of_lt_of_le (HS.out q (hTS q (g3 q hq))) (((M1.out).set hSb (j * 11 + 2) (by omega) (by omega) (.string (markT (K + 2))))).touch.size))
        have O4_2 := Lib.hid (Osl.belowS ((Osl.set (o := j * 11 + 2) (O4_1.out) (fun e => hTb (g4 b e)) (.string (markT (K + 2))))) hb2 (fun q hq => Nat.lt_of_lt_of_le (HS.out q (hTS q (g4 q hq))) (((M1.out).set hSb (j * 11 + 2) (by omega) (by omega) (.string (markT (K + 2))))).touch.size))
        clear x0_1 x1_1 x2_1 x3_1 x4_1 x5_1 x6_1 x7_1 x8_1 x9_1 x10_1 hf1 hb2
        go_wp2_with fail
        refine (markTextI _ (K + 6) (by omega) _ (by omega) (by omega)).mono ?_
        rintro e w3 ⟨rfl, hb3⟩
        have x0_3 : w3.cell? ⟨b, j * 11, none⟩ = some (.int .i64 ((K : Int))) := (hb3.cell (p := ⟨b, j * 11, none⟩) (Nat.lt_of_lt_of_le hbl (((((((M2.out).set hSb (j * 11 + 3) (by omega) (by omega) (.string (markT (K + 3))))).set hSb (j * 11 + 4) (by omega) (by omega) (.int .i64 ((K : Int) + 1 + 1 + 1 + 1)))).set hSb (j * 11 + 5) (by omega) (by omega) (.int .i64 ((K : Int) + 1 + 1 + 1 + 1 + 1)))).size)).trans ((cell_ne (by omega)).trans ((cell_ne (by omega)).trans ((cell_ne (by omega)).trans x0_2)))
        have x1_3 : w3.cell? ⟨b, j * 11 + 1, none⟩ = some (.int .i64 ((K : Int) + 1)) := (hb3.cell (p := ⟨b, j * 11 + 1, none⟩) (Nat.lt_of_lt_of_le hbl (((((((M2.out).set hSb (j * 11 + 3) (by omega) (by omega) (.string (markT (K + 3))))).set hSb (j * 11 + 4) (by omega) (by omega) (.int .i64 ((K : Int) + 1 + 1 + 1 + 1)))).set hSb (j * 11 + 5) (by omega) (by omega) (.int .i64 ((K : Int) + 1 + 1 + 1 + 1 + 1)))).size)).trans ((cell_ne (by omega)).trans ((cell_ne (by omega)).trans ((cell_ne (by omega)).trans x1_2)))
        have x2_3 : w3.cell? ⟨b, j * 11 + 2, none⟩ = some (.string (markT (K + 2))) := (hb3.cell (p := ⟨b, j * 11 + 2, none⟩) (Nat.lt_of_lt_of_le hbl (((((((M2.out).set hSb (j * 11 + 3) (by omega) (by omega) (.string (markT (K + 3))))).set hSb (j * 11 + 4) (by omega) (by omega) (.int .i64 ((K : Int) + 1 + 1 + 1 + 1)))).set hSb (j * 11 + 5) (by omega) (by omega) (.int .i64 ((K : Int) + 1 + 1 + 1 + 1 + 1)))).size)).trans ((cell_ne (by omega)).trans ((cell_ne (by omega)).trans ((cell_ne (by omega)).trans x2_2)))
        have x3_3 : w3.cell? ⟨b, j * 11 + 3, none⟩ = some (.string (markT (K + 3))) := (hb3.cell (p := ⟨b, j * 11 + 3, none⟩) (Nat.lt_of_lt_of_le hbl (((((((M2.out).set hSb (j * 11 + 3) (by omega) (by omega) (.string (markT (K + 3))))).set hSb (j * 11 + 4) (by omega) (by omega) (.int .i64 ((K : Int) + 1 + 1 + 1 + 1)))).set hSb (j * 11 + 5) (by omega) (by omega) (.int .i64 ((K : Int) + 1 + 1 + 1 + 1 + 1)))).size)).trans ((cell_ne (by omega)).trans ((cell_ne (by omega)).trans (World.cell?_setCell_same _ _ _ x3_2)))
        have x4_3 : w3.cell? ⟨b, j * 11 + 4, none⟩ = some (.int .i64 ((K : Int) + 1 + 1 + 1 + 1)) := (hb3.cell (p := ⟨b, j * 11 + 4, none⟩) (Nat.lt_of_lt_of_le hbl (((((((M2.out).set hSb (j * 11 + 3) (by omega) (by omega) (.string (markT (K + 3))))).set hSb (j * 11 + 4) (by omega) (by omega) (.int .i64 ((K : Int) + 1 + 1 + 1 + 1)))).set hSb (j * 11 + 5) (by omega) (by omega) (.int .i64 ((K : Int) + 1 + 1 + 1 + 1 + 1)))).size)).trans ((cell_ne (by omega)).trans (World.cell?_setCell_same _ _ _ ((cell_ne (by omega)).trans x4_2)))
        have x5_3 : w3.cell? ⟨b, j * 11 + 5, none⟩ = some (.int .i64 ((K : Int) + 1 + 1 + 1 + 1 + 1)) := (hb3.cell (p := ⟨b, j * 11 + 5, none⟩) (Nat.lt_of_lt_of_le hbl (((((((M2.out).set hSb (j * 11 + 3) (by omega) (by omega) (.string (markT (K + 3))))).set hSb (j * 11 + 4) (by omega) (by omega) (.int .i64 ((K : Int) + 1 + 1 + 1 + 1)))).set hSb (j * 11 + 5) (by omega) (by omega) (.int .i64 ((K : Int) + 1 + 1 + 1 + 1 + 1)))).size)).trans (World.cell?_setCell_same _ _ _ ((cell_ne (by omega)).trans ((cell_ne (by omega)).trans x5_2)))
        have x6_3 : w3.cell? ⟨b, j * 11 + 6, none⟩ = some (.string l[j].ty.s) := (hb3.cell (p := ⟨b, j * 11 + 6, none⟩) (Nat.lt_of_lt_of_le hbl (((((((M2.out).set hSb (j * 11 + 3) (by omega) (by omega) (.string (markT (K + 3))))).set hSb (j * 11 + 4) (by omega) (by omega) (.int .i64 ((K : Int) + 1 + 1 + 1 + 1)))).set hSb (j * 11 + 5) (by omega) (by omega) (.int .i64 ((K : Int) + 1 + 1 + 1 + 1 + 1)))).size)).trans ((cell_ne (by omega)).trans ((cell_ne (by omega)).trans ((cell_ne (by omega)).trans x6_2)))
        have x7_3 : w3.cell? ⟨b, j * 11 + 7, none⟩ = some (.slice A1 l[j].ty.kids.length c1) := (hb3.cell (p := ⟨b, j * 11 + 7, none⟩) (Nat.lt_of_lt_of_le hbl (((((((M2.out).set hSb (j * 11 + 3) (by omega) (by omega) (.string (markT (K + 3))))).set hSb (j * 11 + 4) (by omega) (by omega) (.int .i64 ((K : Int) + 1 + 1 + 1 + 1)))).set hSb (j * 11 + 5) (by omega) (by omega) (.int .i64 ((K : Int) + 1 + 1 + 1 + 1 + 1)))).size)).trans ((cell_ne (by omega)).trans ((cell_ne (by omega)).trans ((cell_ne (by omega)).trans x7_2)))
        have x8_3 : w3.cell? ⟨b, j * 11 + 8, none⟩ = some (.slice A2 l[j].inst.length c2) := (hb3.cell (p := ⟨b, j * 11 + 8, none⟩) (Nat.lt_of_lt_of_le hbl (((((((M2.out).set hSb (j * 11 + 3) (by omega) (by omega) (.string (markT (K + 3))))).set hSb (j * 11 + 4) (by omega) (by omega) (.int .i64 ((K : Int) + 1 + 1 + 1 + 1)))).set hSb (j * 11 + 5) (by omega) (by omega) (.int .i64 ((K : Int) + 1 + 1 + 1 + 1 + 1)))).size)).trans ((cell_ne (by omega)).trans ((cell_ne (by omega)).trans ((cell_ne (by omega)).trans x8_2)))
        have x9_3 : w3.cell? ⟨b, j * 11 + 9, none⟩ = some (.slice A3 l[j].vars.length c3) := (hb3.cell (p := ⟨b, j * 11 + 9, none⟩) (Nat.lt_of_lt_of_le hbl (((((((M2.out).set hSb (j * 11 + 3) (by omega) (by omega) (.string (markT (K + 3))))).set hSb (j * 11 + 4) (by omega) (by omega) (.int .i64 ((K : Int) + 1 + 1 + 1 + 1)))).set hSb (j * 11 + 5) (by omega) (by omega) (.int .i64 ((K : Int) + 1 + 1 + 1 + 1 + 1)))).size)).trans ((cell_ne (by omega)).trans ((cell_ne (by omega)).trans ((cell_ne (by omega)).trans x9_2)))
        have x10_3 : w3.cell? ⟨b, j * 11 + 10, none⟩ = some (.slice A4 l[j].kids.length c4) := (hb3.cell (p := ⟨b, j * 11 + 10, none⟩) (Nat.lt_of_lt_of_le hbl (((((((M2.out).set hSb (j * 11 + 3) (by omega) (by omega) (.string (markT (K + 3))))).set hSb (j * 11 + 4) (by omega) (by omega) (.int .i64 ((K : Int) + 1 + 1 + 1 + 1)))).set hSb (j * 11 + 5) (by omega) (by omega) (.int .i64 ((K : Int) + 1 + 1 + 1 + 1 + 1)))).size)).trans ((cell_ne (by omega)).trans ((cell_ne (by omega)).trans ((cell_ne (by omega)).trans x10_2)))
        have M3 := Lib.hid (MSt.below (((((((M2.out).set hSb (j * 11 + 3) (by omega) (by omega) (.string (markT (K + 3))))).set hSb (j * 11 + 4) (by omega) (by omega) (.int .i64 ((K : Int) + 1 + 1 + 1 + 1)))).set hSb (j * 11 + 5) (by omega) (by omega) (.int .i64 ((K : Int) + 1 + 1 + 1 + 1 + 1)))) hb3 hbl HS.out)
        have hf3 := M3.out.fr
        have O1_3 := Lib.hid (Osl.belowS ((Osl.set (o := j * 11 + 5) ((Osl.set (o := j * 11 + 4) ((Osl.set (o := j * 11 + 3) (O1_2.out) (fun e => hTb (g1 b e)) (.string (markT (K + 3))))) (fun e => hTb (g1 b e)) (.int .i64 ((K : Int) + 1 + 1 + 1 + 1)))) (fun e => hTb (g1 b e)) (.int .i64 ((K : Int) + 1 + 1 + 1 + 1 + 1)))) hb3 (fun q hq => Nat.lt_of_lt_of_le (HS.out q (hTS q (g1 q hq))) (((((((M2.out).set hSb (j * 11 + 3) (by omega) (by omega) (.string (markT (K + 3))))).set hSb (j * 11 + 4) (by omega) (by omega) (.int .i64 ((K : Int) + 1 + 1 + 1 + 1)))).set hSb (j * 11 + 5) (by omega) (by omega) (.int .i64 ((K : Int) + 1 + 1 + 1 + 1 + 1)))).touch.size))
        have O2_3 := Lib.hid (Osl.belowS ((Osl.set (o := j * 11 + 5) ((Osl.set (o := j * 11 + 4) ((Osl.set (o := j * 11 + 3) (O2_2.out) (fun e => hTb (g2 b e)) (.string (markT (K + 3))))) (fun e => hTb (g2 b e)) (.int .i64 ((K : Int) + 1 + 1 + 1 + 1)))) (fun e => hTb (g2 b e)) (.int .i64 ((K : Int) + 1 + 1 + 1 + 1 + 1)))) hb3 (fun q hq => Nat.lt_of_lt_of_le (HS.out q (hTS q (g2 q hq))) (((((((M2.out).set hSb (j * 11 + 3) (by omega) (by omega) (.string (markT (K + 3))))).set hSb (j * 11 + 4) (by omega) (by omega) (.int .i64 ((K : Int) + 1 + 1 + 1 + 1)))).set hSb (j * 11 + 5) (by omega) (by omega) (.int .i64 ((K : Int) + 1 + 1 + 1 + 1 + 1)))).touch.size))
        have O3_3 := Lib.hid (Osl.belowS ((Osl.set (o := j * 11 + 5) ((Osl.set (o := j * 11 + 4) ((Osl.set (o := j * 11 + 3) (O3_2.out) (fun e => hTb (g3 b e)) (.string (markT (K + 3))))) (fun e => hTb (g3 b e)) (.int .i64 ((K : Int) + 1 + 1 + 1 + 1)))) (fun e => hTb (g3 b e)) (.int .i64 ((K : Int) + 1 + 1 + 1 + 1 + 1)))) hb3 (fun q hq => Nat.lt_of_lt_of_le (HS.out q (hTS q (g3 q hq))) (((((((M2.out).set hSb (j * 11 + 3) (by omega) (by omega) (.string (markT (K + 3))))).set hSb (j * 11 + 4) (by omega) (by omega) (.int .i64 ((K : Int) + 1 + 1 + 1 + 1)))).set hSb (j * 11 + 5) (by omega) (by omega) (.int .i64 ((K : Int) + 1 + 1 + 1 + 1 + 1)))).touch.size))
        have O4_3 := Lib.hid (Osl.belowS ((Osl.set (o := j * 11 + 5) ((Osl.set (o := j * 11 + 4) ((Osl.set (o := j * 11 + 3) (O4_2.out) (fun e => hTb (g4 b e)) (.string (markT (K + 3))))) (fun e => hTb (g4 b e)) (.int .i64 ((K : Int) + 1 + 1 + 1 + 1)))) (fun e => hTb (g4 b e)) (.int .i64 ((K : Int) + 1 + 1 + 1 + 1 + 1)))) hb3 (fun q hq => Nat.lt_of_lt_of_le (HS.out q (hTS q (g4 q hq))) (((((((M2.out).set hSb (j * 11 + 3) (by omega) (by omega) (.string (markT (K + 3))))).set hSb (j * 11 + 4) (by omega) (by omega) (.int .i64 ((K : Int) + 1 + 1 + 1 + 1)))).set hSb (j * 11 + 5) (by omega) (by omega) (.int .i64 ((K : Int) + 1 + 1 + 1 + 1 + 1)))).touch.size))
        clear x0_2 x1_2 x2_2 x3_2 x4_2 x5_2 x6_2 x7_2 x8_2 x9_2 x10_2 hf2 hb3
        have OW4 := Lib.hid (Osl.set (o := j * 11 + 6) (O1_3.out) (fun e => hTb (g1 b e)) (.string (markT (K + 6))))
        have LT4 := Lib.hid (show ∀ q, S1 q → q < (w3.setCell ⟨b, j * 11 + 6, none⟩ (.string (markT (K + 6)))).heap.size from (fun q hq => Nat.lt_of_lt_of_le (HS.out q (hTS q (g1 q hq))) (Nat.le_trans (((M3.out).set hSb (j * 11 + 6) (by omega) (by omega) (.string (markT (K + 6))))).touch.size (Nat.le_refl _))))
        go_wp2_with fail
        refine (markTyS' l[j].ty.kids A1 c1 (K + 7) _ S1 _ (by omega) (by omega) (by omega) LT4.out OW4.out).mono ?_
        rintro e w4 ⟨rfl, ho4, ht4⟩
        have Q4 := Lib.hid ho4
        clear ho4
        have x0_4 : w4.cell? ⟨b, j * 11, none⟩ = some (.int .i64 ((K : Int))) := (World.cell?_of_block (ht4.block b (Nat.lt_of_lt_of_le hbl (((M3.out).set hSb (j * 11 + 6) (by omega) (by omega) (.string (markT (K + 6))))).size) (fun e => hTb (g1 b e)))).trans ((cell_ne (by omega)).trans x0_3)
        have x1_4 : w4.cell? ⟨b, j * 11 + 1, none⟩ = some (.int .i64 ((K : Int) + 1)) := (World.cell?_of_block (ht4.block b (Nat.lt_of_lt_of_le hbl (((M3.out).set hSb (j * 11 + 6) (by omega) (by omega) (.string (markT (K + 6))))).size) (fun e => hTb (g1 b e)))).trans ((cell_ne (by omega)).trans x1_3)
        have x2_4 : w4.cell? ⟨b, j * 11 + 2, none⟩ = some (.string (markT (K + 2))) := (World.cell?_of_block (ht4.block b (Nat.lt_of_lt_of_le hbl (((M3.out).set hSb (j * 11 + 6) (by omega) (by omega) (.string (markT (K + 6))))).size) (fun e => hTb (g1 b e)))).trans ((cell_ne (by omega)).trans x2_3)
        have x3_4 : w4.cell? ⟨b, j * 11 + 3, none⟩ = some (.string (markT (K + 3))) := (World.cell?_of_block (ht4.block b (Nat.lt_of_lt_of_le hbl (((M3.out).set hSb (j * 11 + 6) (by omega) (by omega) (.string (markT (K + 6))))).size) (fun e => hTb (g1 b e)))).trans ((cell_ne (by omega)).trans x3_3)
        have x4_4 : w4.cell? ⟨b, j * 11 + 4, none⟩ = some (.int .i64 ((K : Int) + 1 + 1 + 1 + 1)) := (World.cell?_of_block (ht4.block b (Nat.lt_of_lt_of_le hbl (((M3.out).set hSb (j * 11 + 6) (by omega) (by omega) (.string (markT (K + 6))))).size) (fun e => hTb (g1 b e)))).trans ((cell_ne (by omega)).trans x4_3)
        have x5_4 : w4.cell? ⟨b, j * 11 + 5, none⟩ = some (.int .i64 ((K : Int) + 1 + 1 + 1 + 1 + 1)) := (World.cell?_of_block (ht4.block b (Nat.lt_of_lt_of_le hbl (((M3.out).set hSb (j * 11 + 6) (by omega) (by omega) (.string (markT (K + 6))))).size) (fun e => hTb (g1 b e)))).trans ((cell_ne (by omega)).trans x5_3)
        have x6_4 : w4.cell? ⟨b, j * 11 + 6, none⟩ = some (.string (markT (K + 6))) := (World.cell?_of_block (ht4.block b (Nat.lt_of_lt_of_le hbl (((M3.out).set hSb (j * 11 + 6) (by omega) (by omega) (.string (markT (K + 6))))).size) (fun e => hTb (g1 b e)))).trans (World.cell?_setCell_same _ _ _ x6_3)
        have x7_4 : w4.cell? ⟨b, j * 11 + 7, none⟩ = some (.slice A1 l[j].ty.kids.length c1) := (World.cell?_of_block (ht4.block b (Nat.lt_of_lt_of_le hbl (((M3.out).set hSb (j * 11 + 6) (by omega) (by omega) (.string (markT (K + 6))))).size) (fun e => hTb (g1 b e)))).trans ((cell_ne (by omega)).trans x7_3)
        have x8_4 : w4.cell? ⟨b, j * 11 + 8, none⟩ = some (.slice A2 l[j].inst.length c2) := (World.cell?_of_block (ht4.block b (Nat.lt_of_lt_of_le hbl (((M3.out).set hSb (j * 11 + 6) (by omega) (by omega) (.string (markT (K + 6))))).size) (fun e => hTb (g1 b e)))).trans ((cell_ne (by omega)).trans x8_3)
        have x9_4 : w4.cell? ⟨b, j * 11 + 9, none⟩ = some (.slice A3 l[j].vars.length c3) := (World.cell?_of_block (ht4.block b (Nat.lt_of_lt_of_le hbl (((M3.out).set hSb (j * 11 + 6) (by omega) (by omega) (.string (markT (K + 6))))).size) (fun e => hTb (g1 b e)))).trans ((cell_ne (by omega)).trans x9_3)
        have x10_4 : w4.cell? ⟨b, j * 11 + 10, none⟩ = some (.slice A4 l[j].kids.length c4) := (World.cell?_of_block (ht4.block b (Nat.lt_of_lt_of_le hbl (((M3.out).set hSb (j * 11 + 6) (by omega) (by omega) (.string (markT (K + 6))))).size) (fun e => hTb (g1 b e)))).trans ((cell_ne (by omega)).trans x10_3)
        have M4 := Lib.hid (MSt.mark (((M3.out).set hSb (j * 11 + 6) (by omega) (by omega) (.string (markT (K + 6))))) ht4 g1 hTS hTb hbl HS.out)
        have hf4 := M4.out.fr
        have O2_4 := Lib.hid (Osl.touched ((Osl.set (o := j * 11 + 6) (O2_3.out) (fun e => hTb (g2 b e)) (.string (markT (K + 6))))) ht4 (fun x h1 h2 => d12 x h2 h1) (fun q hq => Nat.lt_of_lt_of_le (HS.out q (hTS q (g2 q hq))) (((M3.out).set hSb (j * 11 + 6) (by omega) (by omega) (.string (markT (K + 6))))).touch.size))
        have O3_4 := Lib.hid (Osl.touched ((Osl.set (o := j * 11 + 6) (O3_3.out) (fun e => hTb (g3 b e)) (.string (markT (K + 6))))) ht4 (fun x h1 h2 => d13 x h2 h1) (fun q hq => Nat.lt_of_lt_of_le (HS.out q (hTS q (g3 q hq))) (((M3.out).set hSb (j * 11 + 6) (by omega) (by omega) (.string (markT (K + 6))))).touch.size))
        have O4_4 := Lib.hid (Osl.touched ((Osl.set (o := j * 11 + 6) (O4_3.out) (fun e => hTb (g4 b e)) (.string (markT (K + 6))))) ht4 (fun x h1 h2 => d14 x h2 h1) (fun q hq => Nat.lt_of_lt_of_le (HS.out q (hTS q (g4 q hq))) (((M3.out).set hSb (j * 11 + 6) (by omega) (by omega) (.string (markT (K + 6))))).touch.size))
        clear x0_3 x1_3 x2_3 x3_3 x4_3 x5_3 x6_3 x7_3 x8_3 x9_3 x10_3 hf3 ht4
        obtain ⟨K4, hK4⟩ : ∃ K4 : Nat, K4 = K + 7 + cntL GTy.cnt l[j].ty.kids := ⟨_, rfl⟩
        rw [← hK4]
        have OW5 := Lib.hid O2_4.out
        have LT5 := Lib.hid (show ∀ q, S2 q → q < w4.heap.size from (fun q hq => Nat.lt_of_lt_of_le (HS.out q (hTS q (g2 q hq))) (Nat.le_trans (M4.out).touch.size (Nat.le_refl _))))
        go_wp2_with fail
        refine (markTyS' l[j].inst A2 c2 (K + 7 + cntL GTy.cnt l[j].ty.kids) _ S2 _ (by omega) (by omega) (by omega) LT5.out OW5.out).mono ?_
        rintro e w5 ⟨rfl, ho5, ht5⟩
        have Q5 := Lib.hid ho5
        clear ho5
        have x0_5 : w5.cell? ⟨b, j * 11, none⟩ = some (.int .i64 ((K : Int))) := (World.cell?_of_block (ht5.block b (Nat.lt_of_lt_of_le hbl (M4.out).size) (fun e => hTb (g2 b e)))).trans x0_4
        have x1_5 : w5.cell? ⟨b, j * 11 + 1, none⟩ = some (.int .i64 ((K : Int) + 1)) := (World.cell?_of_block (ht5.block b (Nat.lt_of_lt_of_le hbl (M4.out).size) (fun e => hTb (g2 b e)))).trans x1_4
        have x2_5 : w5.cell? ⟨b, j * 11 + 2, none⟩ = some (.string (markT (K + 2))) := (World.cell?_of_block (ht5.block b (Nat.lt_of_lt_of_le hbl (M4.out).size) (fun e => hTb (g2 b e)))).trans x2_4
        have x3_5 : w5.cell? ⟨b, j * 11 + 3, none⟩ = some (.string (markT (K + 3))) := (World.cell?_of_block (ht5.block b (Nat.lt_of_lt_of_le hbl (M4.out).size) (fun e => hTb (g2 b e)))).trans x3_4
        have x4_5 : w5.cell? ⟨b, j * 11 + 4, none⟩ = some (.int .i64 ((K : Int) + 1 + 1 + 1 + 1)) := (World.cell?_of_block (ht5.block b (Nat.lt_of_lt_of_le hbl (M4.out).size) (fun e => hTb (g2 b e)))).trans x4_4
        have x5_5 : w5.cell? ⟨b, j * 11 + 5, none⟩ = some (.int .i64 ((K : Int) + 1 + 1 + 1 + 1 + 1)) := (World.cell?_of_block (ht5.block b (Nat.lt_of_lt_of_le hbl (M4.out).size) (fun e => hTb (g2 b e)))).trans x5_4
        have x6_5 : w5.cell? ⟨b, j * 11 + 6, none⟩ = some (.string (markT (K + 6))) := (World.cell?_of_block (ht5.block b (Nat.lt_of_lt_of_le hbl (M4.out).size) (fun e => hTb (g2 b e)))).trans x6_4
        have x7_5 : w5.cell? ⟨b, j * 11 + 7, none⟩ = some (.slice A1 l[j].ty.kids.length c1) := (World.cell?_of_block (ht5.block b (Nat.lt_of_lt_of_le hbl (M4.out).size) (fun e => hTb (g2 b e)))).trans x7_4
        have x8_5 : w5.cell? ⟨b, j * 11 + 8, none⟩ = some (.slice A2 l[j].inst.length c2) := (World.cell?_of_block (ht5.block b (Nat.lt_of_lt_of_le hbl (M4.out).size) (fun e => hTb (g2 b e)))).trans x8_4
        have x9_5 : w5.cell? ⟨b, j * 11 + 9, none⟩ = some (.slice A3 l[j].vars.length c3) := (World.cell?_of_block (ht5.block b (Nat.lt_of_lt_of_le hbl (M4.out).size) (fun e => hTb (g2 b e)))).trans x9_4
        have x10_5 : w5.cell? ⟨b, j * 11 + 10, none⟩ = some (.slice A4 l[j].kids.length c4) := (World.cell?_of_block (ht5.block b (Nat.lt_of_lt_of_le hbl (M4.out).size) (fun e => hTb (g2 b e)))).trans x10_4
        have M5 := Lib.hid (MSt.mark (M4.out) ht5 g2 hTS hTb hbl HS.out)
        have hf5 := M5.out.fr
        have O1_5 := Lib.hid (Osl.touched (Q4.out) ht5 d12 (fun q hq => Nat.lt_of_lt_of_le (HS.out q (hTS q (g1 q hq))) (M4.out).touch.size))
        have O3_5 := Lib.hid (Osl.touched (O3_4.out) ht5 (fun x h1 h2 => d23 x h2 h1) (fun q hq => Nat.lt_of_lt_of_le (HS.out q (hTS q (g3 q hq))) (M4.out).touch.size))
        have O4_5 := Lib.hid (Osl.touched (O4_4.out) ht5 (fun x h1 h2 => d24 x h2 h1) (fun q hq => Nat.lt_of_lt_of_le (HS.out q (hTS q (g4 q hq))) (M4.out).touch.size))
        clear x0_4 x1_4 x2_4 x3_4 x4_4 x5_4 x6_4 x7_4 x8_4 x9_4 x10_4 hf4 ht5
        obtain ⟨K5, hK5⟩ : ∃ K5 : Nat, K5 = K + 7 + cntL GTy.cnt l[j].ty.kids + cntL GTy.cnt l[j].inst := ⟨_, rfl⟩
        rw [← hK5]
        have OW6 := Lib.hid O3_5.out
        have LT6 := Lib.hid (show ∀ q, S3 q → q < w5.heap.size from (fun q hq => Nat.lt_of_lt_of_le (HS.out q (hTS q (g3 q hq))) (Nat.le_trans (M5.out).touch.size (Nat.le_refl _))))
        go_wp2_with fail
        refine (markIntSI l[j].vars A3 c3 (K + 7 + cntL GTy.cnt l[j].ty.kids + cntL GTy.cnt l[j].inst) _ S3 _ (by omega) (by omega) OW6.out).mono ?_
        rintro e w6 ⟨rfl, ho6, ht6⟩
        have Q6 := Lib.hid ho6
        clear ho6
        have x0_6 : w6.cell? ⟨b, j * 11, none⟩ = some (.int .i64 ((K : Int))) := (World.cell?_of_block (ht6.block b (Nat.lt_of_lt_of_le hbl (M5.out).size) (fun e => hTb (g3 b e)))).trans x0_5
        have x1_6 : w6.cell? ⟨b, j * 11 + 1, none⟩ = some (.int .i64 ((K : Int) + 1)) := (World.cell?_of_block (ht6.block b (Nat.lt_of_lt_of_le hbl (M5.out).size) (fun e => hTb (g3 b e)))).trans x1_5
        have x2_6 : w6.cell? ⟨b, j * 11 + 2, none⟩ = some (.string (markT (K + 2))) := (World.cell?_of_block (ht6.block b (Nat.lt_of_lt_of_le hbl (M5.out).size) (fun e => hTb (g3 b e)))).trans x2_5
        have x3_6 : w6.cell? ⟨b, j * 11 + 3, none⟩ = some (.string (markT (K + 3))) := (World.cell?_of_block (ht6.block b (Nat.lt_of_lt_of_le hbl (M5.out).size) (fun e => hTb (g3 b e)))).trans x3_5
        have x4_6 : w6.cell? ⟨b, j * 11 + 4, none⟩ = some (.int .i64 ((K : Int) + 1 + 1 + 1 + 1)) := (World.cell?_of_block (ht6.block b (Nat.lt_of_lt_of_le hbl (M5.out).size) (fun e => hTb (g3 b e)))).trans x4_5
        have x5_6 : w6.cell? ⟨b, j * 11 + 5, none⟩ = some (.int .i64 ((K : Int) + 1 + 1 + 1 + 1 + 1)) := (World.cell?_of_block (ht6.block b (Nat.lt_of_lt_of_le hbl (M5.out).size) (fun e => hTb (g3 b e)))).trans x5_5
        have x6_6 : w6.cell? ⟨b, j * 11 + 6, none⟩ = some (.string (markT (K + 6))) := (World.cell?_of_block (ht6.block b (Nat.lt_of_lt_of_le hbl (M5.out).size) (fun e => hTb (g3 b e)))).trans x6_5
        have x7_6 : w6.cell? ⟨b, j * 11 + 7, none⟩ = some (.slice A1 l[j].ty.kids.length c1) := (World.cell?_of_block (ht6.block b (Nat.lt_of_lt_of_le hbl (M5.out).size) (fun e => hTb (g3 b e)))).trans x7_5
        have x8_6 : w6.cell? ⟨b, j * 11 + 8, none⟩ = some (.slice A2 l[j].inst.length c2) := (World.cell?_of_block (ht6.block b (Nat.lt_of_lt_of_le hbl (M5.out).size) (fun e => hTb (g3 b e)))).trans x8_5
        have x9_6 : w6.cell? ⟨b, j * 11 + 9, none⟩ = some (.slice A3 l[j].vars.length c3) := (World.cell?_of_block (ht6.block b (Nat.lt_of_lt_of_le hbl (M5.out).size) (fun e => hTb (g3 b e)))).trans x9_5
        have x10_6 : w6.cell? ⟨b, j * 11 + 10, none⟩ = some (.slice A4 l[j].kids.length c4) := (World.cell?_of_block (ht6.block b (Nat.lt_of_lt_of_le hbl (M5.out).size) (fun e => hTb (g3 b e)))).trans x10_5
        have M6 := Lib.hid (MSt.mark (M5.out) ht6 g3 hTS hTb hbl HS.out)
        have hf6 := M6.out.fr
        have O1_6 := Lib.hid (Osl.touched (O1_5.out) ht6 d13 (fun q hq => Nat.lt_of_lt_of_le (HS.out q (hTS q (g1 q hq))) (M5.out).touch.size))
        have O2_6 := Lib.hid (Osl.touched (Q5.out) ht6 d23 (fun q hq => Nat.lt_of_lt_of_le (HS.out q (hTS q (g2 q hq))) (M5.out).touch.size))
        have O4_6 := Lib.hid (Osl.touched (O4_5.out) ht6 (fun x h1 h2 => d34 x h2 h1) (fun q hq => Nat.lt_of_lt_of_le (HS.out q (hTS q (g4 q hq))) (M5.out).touch.size))
        clear x0_5 x1_5 x2_5 x3_5 x4_5 x5_5 x6_5 x7_5 x8_5 x9_5 x10_5 hf5 ht6
        obtain ⟨K6, hK6⟩ : ∃ K6 : Nat, K6 = K + 7 + cntL GTy.cnt l[j].ty.kids + cntL GTy.cnt l[j].inst + cntL cnI l[j].vars := ⟨_, rfl⟩
        rw [← hK6]
        have OW7 := Lib.hid O4_6.out
        have LT7 := Lib.hid (show ∀ q, S4 q → q < w6.heap.size from (fun q hq => Nat.lt_of_lt_of_le (HS.out q (hTS q (g4 q hq))) (Nat.le_trans (M6.out).touch.size (Nat.le_refl _))))
        go_wp2_with fail
        refine (ih l[j].kids A4 c4 (K + 7 + cntL GTy.cnt l[j].ty.kids + cntL GTy.cnt l[j].inst + cntL cnI l[j].vars) _ S4 _ (HB.out j hlt) (by omega) (by omega) (by omega) LT7.out OW7.out).mono ?_
        rintro e w7 ⟨rfl, ho7, ht7⟩
        have Q7 := Lib.hid ho7
        clear ho7
        have x0_7 : w7.cell? ⟨b, j * 11, none⟩ = some (.int .i64 ((K : Int))) := (World.cell?_of_block (ht7.block b (Nat.lt_of_lt_of_le hbl (M6.out).size) (fun e => hTb (g4 b e)))).trans x0_6
        have x1_7 : w7.cell? ⟨b, j * 11 + 1, none⟩ = some (.int .i64 ((K : Int) + 1)) := (World.cell?_of_block (ht7.block b (Nat.lt_of_lt_of_le hbl (M6.out).size) (fun e => hTb (g4 b e)))).trans x1_6
        have x2_7 : w7.cell? ⟨b, j * 11 + 2, none⟩ = some (.string (markT (K + 2))) := (World.cell?_of_block (ht7.block b (Nat.lt_of_lt_of_le hbl (M6.out).size) (fun e => hTb (g4 b e)))).trans x2_6
        have x3_7 : w7.cell? ⟨b, j * 11 + 3, none⟩ = some (.string (markT (K + 3))) := (World.cell?_of_block (ht7.block b (Nat.lt_of_lt_of_le hbl (M6.out).size) (fun e => hTb (g4 b e)))).trans x3_6
        have x4_7 : w7.cell? ⟨b, j * 11 + 4, none⟩ = some (.int .i64 ((K : Int) + 1 + 1 + 1 + 1)) := (World.cell?_of_block (ht7.block b (Nat.lt_of_lt_of_le hbl (M6.out).size) (fun e => hTb (g4 b e)))).trans x4_6
        have x5_7 : w7.cell? ⟨b, j * 11 + 5, none⟩ = some (.int .i64 ((K : Int) + 1 + 1 + 1 + 1 + 1)) := (World.cell?_of_block (ht7.block b (Nat.lt_of_lt_of_le hbl (M6.out).size) (fun e => hTb (g4 b e)))).trans x5_6
        have x6_7 : w7.cell? ⟨b, j * 11 + 6, none⟩ = some (.string (markT (K + 6))) := (World.cell?_of_block (ht7.block b (Nat.lt_of_lt_of_le hbl (M6.out).size) (fun e => hTb (g4 b e)))).trans x6_6
        have x7_7 : w7.cell? ⟨b, j * 11 + 7, none⟩ = some (.slice A1 l[j].ty.kids.length c1) := (World.cell?_of_block (ht7.block b (Nat.lt_of_lt_of_le hbl (M6.out).size) (fun e => hTb (g4 b e)))).trans x7_6
        have x8_7 : w7.cell? ⟨b, j * 11 + 8, none⟩ = some (.slice A2 l[j].inst.length c2) := (World.cell?_of_block (ht7.block b (Nat.lt_of_lt_of_le hbl (M6.out).size) (fun e => hTb (g4 b e)))).trans x8_6
        have x9_7 : w7.cell? ⟨b, j * 11 + 9, none⟩ = some (.slice A3 l[j].vars.length c3) := (World.cell?_of_block (ht7.block b (Nat.lt_of_lt_of_le hbl (M6.out).size) (fun e => hTb (g4 b e)))).trans x9_6
        have x10_7 : w7.cell? ⟨b, j * 11 + 10, none⟩ = some (.slice A4 l[j].kids.length c4) := (World.cell?_of_block (ht7.block b (Nat.lt_of_lt_of_le hbl (M6.out).size) (fun e => hTb (g4 b e)))).trans x10_6
        have M7 := Lib.hid (MSt.mark (M6.out) ht7 g4 hTS hTb hbl HS.out)
        have hf7 := M7.out.fr
        have O1_7 := Lib.hid (Osl.touched (O1_6.out) ht7 d14 (fun q hq => Nat.lt_of_lt_of_le (HS.out q (hTS q (g1 q hq))) (M6.out).touch.size))
        have O2_7 := Lib.hid (Osl.touched (O2_6.out) ht7 d24 (fun q hq => Nat.lt_of_lt_of_le (HS.out q (hTS q (g2 q hq))) (M6.out).touch.size))
        have O3_7 := Lib.hid (Osl.touched (Q6.out) ht7 d34 (fun q hq => Nat.lt_of_lt_of_le (HS.out q (hTS q (g3 q hq))) (M6.out).touch.size))
        clear x0_6 x1_6 x2_6 x3_6 x4_6 x5_6 x6_6 x7_6 x8_6 x9_6 x10_6 hf6 ht7
        obtain ⟨K7, hK7⟩ : ∃ K7 : Nat, K7 = K + 7 + cntL GTy.cnt l[j].ty.kids + cntL GTy.cnt l[j].inst + cntL cnI l[j].vars + cntL GTyped.cnt l[j].kids := ⟨_, rfl⟩
        rw [← hK7]
        have HM := Lib.hid (M7.out)
        have HOW := Lib.hid (GTyped.Ow_mark (w := w7) (S := T) (t := l[j]) (K := K) HKB.out g1 g2 g3 g4 d12 d13 d14 d23 d24 d34 O1_7.out O2_7.out O3_7.out Q7.out)
        have HC := Lib.hid (GTyped.mark_cells l[j] K A1 c1 A2 c2 A3 c3 A4 c4 ((K : Int)) ((K : Int) + 1) ((K : Int) + 1 + 1 + 1 + 1) ((K : Int) + 1 + 1 + 1 + 1 + 1) (by omega) (by omega) (by omega) (by omega))
        have HP := Lib.hid (HPUT.out w7 (GTyped.mark l[j] K).toD [.int .i64 ((K : Int)), .int .i64 ((K : Int) + 1), .string (markT (K + 2)), .string (markT (K + 3)), .int .i64 ((K : Int) + 1 + 1 + 1 + 1), .int .i64 ((K : Int) + 1 + 1 + 1 + 1 + 1), .string (markT (K + 6)), .slice A1 l[j].ty.kids.length c1, .slice A2 l[j].inst.length c2, .slice A3 l[j].vars.length c3, .slice A4 l[j].kids.length c4] (HM.out.blk2 HS.out HT.out.size) HM.out.out HM.out.fr rfl
          (fun q v hv => by
            match q, hv with
            | 0, hv =>
              obtain rfl := Option.some.inj hv
              exact x0_7
            | 1, hv =>
              obtain rfl := Option.some.inj hv
              exact x1_7
            | 2, hv =>
              obtain rfl := Option.some.inj hv
              exact x2_7
            | 3, hv =>
              obtain rfl := Option.some.inj hv
              exact x3_7
            | 4, hv =>
              obtain rfl := Option.some.inj hv
              exact x4_7
            | 5, hv =>
              obtain rfl := Option.some.inj hv
              exact x5_7
            | 6, hv =>
              obtain rfl := Option.some.inj hv
              exact x6_7
            | 7, hv =>
              obtain rfl := Option.some.inj hv
              exact x7_7
            | 8, hv =>
              obtain rfl := Option.some.inj hv
              exact x8_7
            | 9, hv =>
              obtain rfl := Option.some.inj hv
              exact x9_7
            | 10, hv =>
              obtain rfl := Option.some.inj hv
              exact x10_7
            | q + 11, hv => cases hv)
          (by rw [HC.out]; exact GTyped.own_mk HOW.out))
        have HTF := Lib.hid HM.out.touch
        have hKe := HK.out
        clear HK HOW HC HPUT
        go_wp2_with fail
        go_roundw
        case rel => exact ⟨j + 1, by omega, by go_num, by have := cntL_take_succ GTyped.cnt l j hlt; have := GTyped.cnt_eq l[j]; congr 1; omega, Lib.hid (by have e := markTo_set GTyped.mark GTyped.cnt l k j hlt; rw [← hKe] at e; rw [← e, List.map_set]; exact HP.out), HTF⟩
        case measure => simp [intOf]; omega
      · have hjl : j = l.length := by omega
        have Hj := Lib.hid hjl
        have HK := Lib.hid hK
        clear hjl hK
        go_wp2_with fail
        go_ret
        exact ⟨ret_int (by rw [HK.out, Hj.out, List.take_length]), by have := HO.out; rw [Hj.out, markTo_all] at this; exact this, HT.out⟩

theorem markTypedS' (l : List GTyped) (A : Option Addr) (c k : Nat) (x : Int) (S : Nat → Prop) (w : World) (hx : x = k) (h0 : 0 < k) (hk : k + cntL GTyped.cnt l ≤ 4611686018427387904) (hS : ∀ b, S b → b < w.heap.size) (hs : Osl w S 11 A c (l.map GTyped.toD)) :
    Calls Try.prog 92 #[.slice A l.length c, .int .i64 x] w fun e w' => e = .returned (.int .i64 ((k + cntL GTyped.cnt l : Nat) : Int)) ∧ Osl w' S 11 A c ((markL GTyped.mark GTyped.cnt l k).map GTyped.toD) ∧ Touch S w w' :=
  markTypedS (bulkL GTyped.bulk l + 1) l A c k x S w (by omega) hx h0 hk hS hs



theorem markTyped0 (t : GTyped) (A1 : Option Addr) (c1 : Nat) (A2 : Option Addr) (c2 : Nat) (A3 : Option Addr) (c3 : Nat) (A4 : Option Addr) (c4 : Nat) (k : Nat) (x : Int) (S : Nat → Prop) (w : World) (hx : x = k) (h0 : 0 < k) (hk : k + t.cnt0 ≤ 4611686018427387904) (hS : ∀ b, S b → b < w.heap.size) (how : GTyped.Ow w S A1 c1 A2 c2 A3 c3 A4 c4 t) :
    Calls Try.prog 21 #[.agg #[.int .i64 t.op, .int .i64 t.n, .string t.s, .string t.t, .int .i64 t.ty.op, .int .i64 t.ty.n, .string t.ty.s, .slice A1 t.ty.kids.length c1, .slice A2 t.inst.length c2, .slice A3 t.vars.length c3, .slice A4 t.kids.length c4], .int .i64 x] w fun e w' => e = .returned (.int .i64 ((k + t.cnt0 : Nat) : Int)) ∧ GTyped.Ow w' S A1 c1 A2 c2 A3 c3 A4 c4 (t.mark0 k) ∧ Touch S w w' := by
  subst hx
  unfold GTyped.cnt0 at hk
  obtain ⟨S1, S2, S3, S4, g1, g2, g3, g4, d12, d13, d14, d23, d24, d34, h1, h2, h3, h4, o_ty, o_inst, o_vars, o_kids⟩ := how
  have HS := Lib.hid hS
  have T0 := Lib.hid (Below.touch (S := S) (show Below w.heap.size w (w.alloc (.cells #[.int .i64 t.op, .int .i64 t.n, .string t.s, .string t.t, .int .i64 t.ty.op, .int .i64 t.ty.n, .string t.ty.s, .slice A1 t.ty.kids.length c1, .slice A2 t.inst.length c2, .slice A3 t.vars.length c3, .slice A4 t.kids.length c4] 39)) from (Below.refl _ _).alloc (Nat.le_refl _) _) hS)
  have R0 := Lib.hid (Row.new w 39 #[.int .i64 t.op, .int .i64 t.n, .string t.s, .string t.t, .int .i64 t.ty.op, .int .i64 t.ty.n, .string t.ty.s, .slice A1 t.ty.kids.length c1, .slice A2 t.inst.length c2, .slice A3 t.vars.length c3, .slice A4 t.kids.length c4])
  have O_ty_0 := Lib.hid (o_ty.keep (S' := S1) (w' := w.alloc (.cells #[.int .i64 t.op, .int .i64 t.n, .string t.s, .string t.t, .int .i64 t.ty.op, .int .i64 t.ty.n, .string t.ty.s, .slice A1 t.ty.kids.length c1, .slice A2 t.inst.length c2, .slice A3 t.vars.length c3, .slice A4 t.kids.length c4] 39)) fun q hq => ⟨hq, Below.heap_alloc _ _ _ (hS q (g1 q hq))⟩)
  have O_inst_0 := Lib.hid (o_inst.keep (S' := S2) (w' := w.alloc (.cells #[.int .i64 t.op, .int .i64 t.n, .string t.s, .string t.t, .int .i64 t.ty.op, .int .i64 t.ty.n, .string t.ty.s, .slice A1 t.ty.kids.length c1, .slice A2 t.inst.length c2, .slice A3 t.vars.length c3, .slice A4 t.kids.length c4] 39)) fun q hq => ⟨hq, Below.heap_alloc _ _ _ (hS q (g2 q hq))⟩)
  have O_vars_0 := Lib.hid (o_vars.keep (S' := S3) (w' := w.alloc (.cells #[.int .i64 t.op, .int .i64 t.n, .string t.s, .string t.t, .int .i64 t.ty.op, .int .i64 t.ty.n, .string t.ty.s, .slice A1 t.ty.kids.length c1, .slice A2 t.inst.length c2, .slice A3 t.vars.length c3, .slice A4 t.kids.length c4] 39)) fun q hq => ⟨hq, Below.heap_alloc _ _ _ (hS q (g3 q hq))⟩)
  have O_kids_0 := Lib.hid (o_kids.keep (S' := S4) (w' := w.alloc (.cells #[.int .i64 t.op, .int .i64 t.n, .string t.s, .string t.t, .int .i64 t.ty.op, .int .i64 t.ty.n, .string t.ty.s, .slice A1 t.ty.kids.length c1, .slice A2 t.inst.length c2, .slice A3 t.vars.length c3, .slice A4 t.kids.length c4] 39)) fun q hq => ⟨hq, Below.heap_alloc _ _ _ (hS q (g4 q hq))⟩)
  clear hS o_ty o_inst o_vars o_kids
  go_enter Try.func21, Try.ntmps21
  go_wp2_with fail
  refine (markTy0 t.ty A1 c1 (k) _ S1 _ (by omega) (by omega) (by omega) (fun q hq => Nat.lt_of_lt_of_le (HS.out q (g1 _ hq)) T0.out.size) O_ty_0.out).mono ?_
  rintro e w1 ⟨rfl, ho1, ht1⟩
  have O_ty_1 := Lib.hid ho1
  have O_inst_1 := Lib.hid (O_inst_0.out.keep (S' := S2) (w' := w1) fun q hq => ⟨hq, ht1.block q (Nat.lt_of_lt_of_le (HS.out q (g2 q hq)) T0.out.size) ((fun x h1 h2 => d12 x h2 h1) q hq)⟩)
  have O_vars_1 := Lib.hid (O_vars_0.out.keep (S' := S3) (w' := w1) fun q hq => ⟨hq, ht1.block q (Nat.lt_of_lt_of_le (HS.out q (g3 q hq)) T0.out.size) ((fun x h1 h2 => d13 x h2 h1) q hq)⟩)
  have O_kids_1 := Lib.hid (O_kids_0.out.keep (S' := S4) (w' := w1) fun q hq => ⟨hq, ht1.block q (Nat.lt_of_lt_of_le (HS.out q (g4 q hq)) T0.out.size) ((fun x h1 h2 => d14 x h2 h1) q hq)⟩)
  have R1 := Lib.hid (show Row w1 w.heap.size 39 #[.int .i64 t.op, .int .i64 t.n, .string t.s, .string t.t, .int .i64 t.ty.op, .int .i64 t.ty.n, .string t.ty.s, .slice A1 t.ty.kids.length c1, .slice A2 t.inst.length c2, .slice A3 t.vars.length c3, .slice A4 t.kids.length c4] from (ht1.block w.heap.size R0.out.lt (fun e => Nat.lt_irrefl _ (HS.out _ (g1 _ e)))).trans R0.out)
  have T1 := Lib.hid (T0.out.trans (ht1.mono (fun q hq => (g1 _ hq)) (fun q hq => Nat.lt_of_lt_of_le (HS.out q hq) T0.out.size)))
  have hc1 := fun i => R1.out.cell i
  clear ho1 ht1
  obtain ⟨K1, hK1⟩ : ∃ K1 : Nat, K1 = k + GTy.cnt0 t.ty := ⟨_, rfl⟩
  first | rw [← hK1] | rw [Nat.add_assoc, ← Nat.add_assoc, ← hK1]
  go_wp2_with fail
  refine (markTyS' t.inst A2 c2 (k + GTy.cnt0 t.ty) _ S2 _ (by omega) (by omega) (by omega) (fun q hq => Nat.lt_of_lt_of_le (HS.out q (g2 _ hq)) T1.out.size) O_inst_1.out).mono ?_
  rintro e w2 ⟨rfl, ho2, ht2⟩
  have O_inst_2 := Lib.hid ho2
  have O_ty_2 := Lib.hid (O_ty_1.out.keep (S' := S1) (w' := w2) fun q hq => ⟨hq, ht2.block q (Nat.lt_of_lt_of_le (HS.out q (g1 q hq)) T1.out.size) (d12 q hq)⟩)
  have O_vars_2 := Lib.hid (O_vars_1.out.keep (S' := S3) (w' := w2) fun q hq => ⟨hq, ht2.block q (Nat.lt_of_lt_of_le (HS.out q (g3 q hq)) T1.out.size) ((fun x h1 h2 => d23 x h2 h1) q hq)⟩)
  have O_kids_2 := Lib.hid (O_kids_1.out.keep (S' := S4) (w' := w2) fun q hq => ⟨hq, ht2.block q (Nat.lt_of_lt_of_le (HS.out q (g4 q hq)) T1.out.size) ((fun x h1 h2 => d24 x h2 h1) q hq)⟩)
  have R2 := Lib.hid (show Row w2 w.heap.size 39 #[.int .i64 t.op, .int .i64 t.n, .string t.s, .string t.t, .int .i64 t.ty.op, .int .i64 t.ty.n, .string t.ty.s, .slice A1 t.ty.kids.length c1, .slice A2 t.inst.length c2, .slice A3 t.vars.length c3, .slice A4 t.kids.length c4] from (ht2.block w.heap.size R1.out.lt (fun e => Nat.lt_irrefl _ (HS.out _ (g2 _ e)))).trans R1.out)
  have T2 := Lib.hid (T1.out.trans (ht2.mono (fun q hq => (g2 _ hq)) (fun q hq => Nat.lt_of_lt_of_le (HS.out q hq) T1.out.size)))
  have hc2 := fun i => R2.out.cell i
  clear ho2 ht2 hc1
  obtain ⟨K2, hK2⟩ : ∃ K2 : Nat, K2 = k + GTy.cnt0 t.ty + cntL GTy.cnt t.inst := ⟨_, rfl⟩
  first | rw [← hK2] | rw [Nat.add_assoc, ← Nat.add_assoc, ← hK2]
  go_wp2_with fail
  refine (markIntSI t.vars A3 c3 (k + GTy.cnt0 t.ty + cntL GTy.cnt t.inst) _ S3 _ (by omega) (by omega) O_vars_2.out).mono ?_
  rintro e w3 ⟨rfl, ho3, ht3⟩
  have O_vars_3 := Lib.hid ho3
  have O_ty_3 := Lib.hid (O_ty_2.out.keep (S' := S1) (w' := w3) fun q hq => ⟨hq, ht3.block q (Nat.lt_of_lt_of_le (HS.out q (g1 q hq)) T2.out.size) (d13 q hq)⟩)
  have O_inst_3 := Lib.hid (O_inst_2.out.keep (S' := S2) (w' := w3) fun q hq => ⟨hq, ht3.block q (Nat.lt_of_lt_of_le (HS.out q (g2 q hq)) T2.out.size) (d23 q hq)⟩)
  have O_kids_3 := Lib.hid (O_kids_2.out.keep (S' := S4) (w' := w3) fun q hq => ⟨hq, ht3.block q (Nat.lt_of_lt_of_le (HS.out q (g4 q hq)) T2.out.size) ((fun x h1 h2 => d34 x h2 h1) q hq)⟩)
  have R3 := Lib.hid (show Row w3 w.heap.size 39 #[.int .i64 t.op, .int .i64 t.n, .string t.s, .string t.t, .int .i64 t.ty.op, .int .i64 t.ty.n, .string t.ty.s, .slice A1 t.ty.kids.length c1, .slice A2 t.inst.length c2, .slice A3 t.vars.length c3, .slice A4 t.kids.length c4] from (ht3.block w.heap.size R2.out.lt (fun e => Nat.lt_irrefl _ (HS.out _ (g3 _ e)))).trans R2.out)
  have T3 := Lib.hid (T2.out.trans (ht3.mono (fun q hq => (g3 _ hq)) (fun q hq => Nat.lt_of_lt_of_le (HS.out q hq) T2.out.size)))
  have hc3 := fun i => R3.out.cell i
  clear ho3 ht3 hc2
  obtain ⟨K3, hK3⟩ : ∃ K3 : Nat, K3 = k + GTy.cnt0 t.ty + cntL GTy.cnt t.inst + cntL cnI t.vars := ⟨_, rfl⟩
  first | rw [← hK3] | rw [Nat.add_assoc, ← Nat.add_assoc, ← hK3]
  go_wp2_with fail
  refine (markTypedS' t.kids A4 c4 (k + GTy.cnt0 t.ty + cntL GTy.cnt t.inst + cntL cnI t.vars) _ S4 _ (by omega) (by omega) (by omega) (fun q hq => Nat.lt_of_lt_of_le (HS.out q (g4 _ hq)) T3.out.size) O_kids_3.out).mono ?_
  rintro e w4 ⟨rfl, ho4, ht4⟩
  have O_kids_4 := Lib.hid ho4
  have O_ty_4 := Lib.hid (O_ty_3.out.keep (S' := S1) (w' := w4) fun q hq => ⟨hq, ht4.block q (Nat.lt_of_lt_of_le (HS.out q (g1 q hq)) T3.out.size) (d14 q hq)⟩)
  have O_inst_4 := Lib.hid (O_inst_3.out.keep (S' := S2) (w' := w4) fun q hq => ⟨hq, ht4.block q (Nat.lt_of_lt_of_le (HS.out q (g2 q hq)) T3.out.size) (d24 q hq)⟩)
  have O_vars_4 := Lib.hid (O_vars_3.out.keep (S' := S3) (w' := w4) fun q hq => ⟨hq, ht4.block q (Nat.lt_of_lt_of_le (HS.out q (g3 q hq)) T3.out.size) (d34 q hq)⟩)
  have R4 := Lib.hid (show Row w4 w.heap.size 39 #[.int .i64 t.op, .int .i64 t.n, .string t.s, .string t.t, .int .i64 t.ty.op, .int .i64 t.ty.n, .string t.ty.s, .slice A1 t.ty.kids.length c1, .slice A2 t.inst.length c2, .slice A3 t.vars.length c3, .slice A4 t.kids.length c4] from (ht4.block w.heap.size R3.out.lt (fun e => Nat.lt_irrefl _ (HS.out _ (g4 _ e)))).trans R3.out)
  have T4 := Lib.hid (T3.out.trans (ht4.mono (fun q hq => (g4 _ hq)) (fun q hq => Nat.lt_of_lt_of_le (HS.out q hq) T3.out.size)))
  have hc4 := fun i => R4.out.cell i
  clear ho4 ht4 hc3
  go_wp2_with fail
  go_ret
  exact ⟨ret_int (by unfold GTyped.cnt0; omega), ⟨S1, S2, S3, S4, g1, g2, g3, g4, d12, d13, d14, d23, d24, d34, h1, h2, h3, h4, O_ty_4.out, O_inst_4.out, O_vars_4.out, O_kids_4.out⟩, T4.out⟩


end Go.Proofs.Ytjcgfbjdailgoaa
