/- Marks on what is owned: the Go struct Scheme. Conditions: none but a bound on the numbers. -/
import Derived.Test.YtjcgfbjdailgoaaGScheme
import Derived.Test.YtjcgfbjdailgoaaInt
import Derived.Deep.RegionHeld3
import Derived.Test.YtjcgfbjdailgoaaMTy
namespace Go.Proofs.Ytjcgfbjdailgoaa
open Go.RowKit
set_option linter.unusedVariables false
set_option linter.unusedSimpArgs false
set_option maxHeartbeats 1000000

theorem GScheme.own_inv {w : World} {S : Nat → Prop} {t : GScheme} {cs : List Value} (h : t.toD.own w S cs) : ∃ A1 c1 A2 c2, cs = [.slice A1 t.vars.length c1, .int .i64 t.ty.op, .int .i64 t.ty.n, .string t.ty.s, .slice A2 t.ty.kids.length c2] ∧ GScheme.Ow w S A1 c1 A2 c2 t := by
  unfold GScheme.toD at h
  rw [D.own_agg] at h
  simp only [D.ownF] at h
  obtain ⟨U0, V0, x0, r0, a0, b0, e0, h0, U1, V1, x1, r1, a1, b1, e1, h1, ee⟩ := h
  subst ee
  subst e1
  subst e0
  obtain ⟨B1, d1, rfl, k0⟩ := D.own_sl.1 h0
  obtain ⟨B2, d2, rfl, k1⟩ := GTy.own_inv h1
  exact ⟨B1, d1, B2, d2, (by simp), ⟨U0, U1, fun x hx => (a0 x hx).1, fun x hx => b0 x ((a1 x hx).1), fun x hx hy => (a0 x hx).2 ((a1 x hy).1), k0, k1⟩⟩

/-- the marked data -/
def GScheme.mark (t : GScheme) (k : Nat) : GScheme := ⟨(markL mkI cnI t.vars (k)), (GTy.mark t.ty (k + cntL cnI t.vars))⟩
/-- how many marks -/
def GScheme.cnt (t : GScheme) : Nat := cntL cnI t.vars + GTy.cnt t.ty
/-- the same, but for its own numbers and texts -/
def GScheme.mark0 (t : GScheme) (k : Nat) : GScheme := ⟨(markL mkI cnI t.vars (k)), (GTy.mark0 t.ty (k + cntL cnI t.vars))⟩
def GScheme.cnt0 (t : GScheme) : Nat := cntL cnI t.vars + GTy.cnt0 t.ty
theorem GScheme.cnt_eq (t : GScheme) : t.cnt = 3 + cntL cnI t.vars + cntL GTy.cnt t.ty.kids := by
  simp only [GScheme.cnt, GTy.cnt_eq] <;> omega
theorem GScheme.mark_vars (t : GScheme) (k : Nat) : (t.mark k).vars = (markL mkI cnI t.vars (k)) := by
  rfl
theorem GScheme.mark_ty (t : GScheme) (k : Nat) : (t.mark k).ty = (GTy.mark t.ty (k + cntL cnI t.vars)) := by
  rfl
theorem GScheme.mark_cells (t : GScheme) (K : Nat) (A1 : Option Addr) (c1 : Nat) (A2 : Option Addr) (c2 : Nat) (v1 : Int) (v2 : Int) (e1 : v1 = ((K + cntL cnI t.vars : Nat) : Int)) (e2 : v2 = ((K + 1 + cntL cnI t.vars : Nat) : Int)) : ([.slice A1 t.vars.length c1, .int .i64 v1, .int .i64 v2, .string (markT (K + 2 + cntL cnI t.vars)), .slice A2 t.ty.kids.length c2] : List Value) = [.slice A1 (t.mark K).vars.length c1, .int .i64 (t.mark K).ty.op, .int .i64 (t.mark K).ty.n, .string (t.mark K).ty.s, .slice A2 (t.mark K).ty.kids.length c2] := by
  subst e1
  subst e2
  simp only [GScheme.mark_vars, GScheme.mark_ty, GTy.mark_op, GTy.mark_n, GTy.mark_s, GTy.mark_kids, markL_length]
  try (simp only [Nat.add_assoc, Nat.add_comm, Nat.add_left_comm])

theorem GScheme.Ow_mark {w : World} {S S1 S2 : Nat → Prop} {t : GScheme} {K : Nat} {A1 : Option Addr} {c1 : Nat} {A2 : Option Addr} {c2 : Nat} (hK : K + t.cnt ≤ 4611686018427387904) (g1 : ∀ x, S1 x → S x) (g2 : ∀ x, S2 x → S x) (d12 : ∀ x, S1 x → ¬ S2 x) (o1 : Osl w S1 1 A1 c1 ((markL mkI cnI t.vars (K)).map (D.num .i64))) (o2 : Osl w S2 4 A2 c2 ((markL GTy.mark GTy.cnt t.ty.kids (K + 3 + cntL cnI t.vars)).map GTy.toD)) : GScheme.Ow w S A1 c1 A2 c2 (t.mark K) := by
  rw [GScheme.cnt_eq] at hK
  unfold GScheme.Ow
  exact ⟨S1, S2, g1, g2, d12, (by simp only [GScheme.mark_vars, GScheme.mark_ty, GTy.mark_op, GTy.mark_n, GTy.mark_s, GTy.mark_kids]; first | exact o1 | (rw [show K = K from by first | omega | (simp only [GTy.cnt_eq]; omega)]; exact o1)), ⟨(by simp only [GScheme.mark_vars, GScheme.mark_ty, GTy.mark_op, GTy.mark_n, GTy.mark_s, GTy.mark_kids]; exact wfNat _ (by first | omega | (simp only [GTy.cnt_eq]; omega))), (by simp only [GScheme.mark_vars, GScheme.mark_ty, GTy.mark_op, GTy.mark_n, GTy.mark_s, GTy.mark_kids]; exact wfNat _ (by first | omega | (simp only [GTy.cnt_eq]; omega))), (by simp only [GScheme.mark_vars, GScheme.mark_ty, GTy.mark_op, GTy.mark_n, GTy.mark_s, GTy.mark_kids]; have := markT_size (K + cntL cnI t.vars + 2) (by first | omega | (simp only [GTy.cnt_eq]; omega)); unfold maxLen; omega), (by simp only [GScheme.mark_vars, GScheme.mark_ty, GTy.mark_op, GTy.mark_n, GTy.mark_s, GTy.mark_kids]; first | exact o2 | (rw [show K + cntL cnI t.vars + 3 = K + 3 + cntL cnI t.vars from by first | omega | (simp only [GTy.cnt_eq]; omega)]; exact o2))⟩⟩

theorem GScheme.cnt_bulk (t : GScheme) : t.cnt ≤ 16 * (1 + t.bulk) := by
  have hb := t.bulk_eq
  have := t.ty.bulk_eq
  have := cntL_int t.vars
  have := cntL_le GTy.cnt GTy.bulk t.ty.kids (fun x _ => GTy.cnt_bulk x)
  rw [GScheme.cnt_eq]; omega
theorem GScheme.cnts_bulk (l : List GScheme) : cntL GScheme.cnt l ≤ 16 * bulkL GScheme.bulk l := cntL_le _ _ l fun x _ => GScheme.cnt_bulk x
theorem GScheme.cnt0_le (t : GScheme) : t.cnt0 ≤ t.cnt := by
  rw [GScheme.cnt_eq]; simp only [GScheme.cnt0, GTy.cnt0]; omega
set_option maxRecDepth 20000 in
theorem markSchemeS (l : List GScheme) (A : Option Addr) (c k : Nat) (x : Int) (S : Nat → Prop) (w : World) (hx : x = k) (h0 : 0 < k) (hk : k + cntL GScheme.cnt l ≤ 4611686018427387904) (hS : ∀ b, S b → b < w.heap.size) (hs : Osl w S 5 A c (l.map GScheme.toD)) :
    Calls Try.prog 76 #[.slice A l.length c, .int .i64 x] w fun e w' => e = .returned (.int .i64 ((k + cntL GScheme.cnt l : Nat) : Int)) ∧ Osl w' S 5 A c ((markL GScheme.mark GScheme.cnt l k).map GScheme.toD) ∧ Touch S w w' := by
  subst hx
  have hlen : l.length ≤ 9223372036854775807 := by simpa using hs.sl.len
  have HS := Lib.hid hS
  have S0 := Lib.hid hs
  clear hs hS
  go_enter Try.func76, Try.ntmps76
  go_wp2_with fail
  go_loopw [1, 5] (fun v i wr => ∃ (j : Nat), j ≤ l.length ∧ i = .int .i64 j ∧ v = .int .i64 ((k + cntL GScheme.cnt (l.take j) : Nat) : Int) ∧ Hid (Osl wr S 5 A c ((markTo GScheme.mark GScheme.cnt l k j).map GScheme.toD)) ∧ Hid (Touch S w wr)) (fun _ i _ => l.length - (intOf i).toNat)
  case atStart => exact ⟨0, by omega, by go_num, by simp [cntL], Lib.hid (by rw [markTo_zero]; exact S0.out), Lib.hid (Touch.refl _ _)⟩
  case round =>
    obtain ⟨j, hj, rfl, ev, HO, HT⟩ := hrel
    obtain ⟨K, hK⟩ : ∃ K, K = k + cntL GScheme.cnt (l.take j) := ⟨_, rfl⟩
    rw [← hK] at ev
    subst ev
    by_cases hlt : j < l.length
    · obtain ⟨b, T, cs, rfl, hSb, hTb, hf0, hTS, hcl, hc, hd, hput⟩ := HO.out.focus j (by rw [List.length_map, markTo_length _ _ _ _ _ hj]; exact hlt)
      rw [List.getElem_map, markTo_get _ _ _ _ _ hlt] at hd
      obtain ⟨A1, c1, A2, c2, rfl, how⟩ := GScheme.own_inv hd
      have x0 : wr.cell? ⟨b, j * 5, none⟩ = some (.slice A1 l[j].vars.length c1) := by simpa using hc 0 _ rfl
      have x1 : wr.cell? ⟨b, j * 5 + 1, none⟩ = some (.int .i64 l[j].ty.op) := by simpa using hc 1 _ rfl
      have x2 : wr.cell? ⟨b, j * 5 + 2, none⟩ = some (.int .i64 l[j].ty.n) := by simpa using hc 2 _ rfl
      have x3 : wr.cell? ⟨b, j * 5 + 3, none⟩ = some (.string l[j].ty.s) := by simpa using hc 3 _ rfl
      have x4 : wr.cell? ⟨b, j * 5 + 4, none⟩ = some (.slice A2 l[j].ty.kids.length c2) := by simpa using hc 4 _ rfl
      have hKk : 0 < K := by omega
      have hKb : K + GScheme.cnt l[j] ≤ 4611686018427387904 := by have := cntL_take_le GScheme.cnt l j hlt; omega
      have HKB := Lib.hid hKb
      rw [GScheme.cnt_eq] at hKb
      have HK := Lib.hid hK
      have hbl : b < wr.heap.size := Nat.lt_of_lt_of_le (HS.out b hSb) HT.out.size
      have M0 := Lib.hid (MSt.start (w := w) (wr := wr) (S := S) (T := T) (b := b) (lo := j * 5) (hi := j * 5 + 5) hf0 HT.out)
      obtain ⟨S1, S2, g1, g2, d12, o1, ⟨-, -, -, o2⟩⟩ := how
      have O1_0 := Lib.hid o1
      have O2_0 := Lib.hid o2
      clear o1 o2
      have HPUT := Lib.hid hput
      clear hc hd hcl hput hK
      have OW1 := Lib.hid O1_0.out
      have LT1 := Lib.hid (show ∀ q, S1 q → q < wr.heap.size from (fun q hq => Nat.lt_of_lt_of_le (HS.out q (hTS q (g1 q hq))) (Nat.le_trans (M0.out).touch.size (Nat.le_refl _))))
      go_wp2_with fail
      refine (markIntSI l[j].vars A1 c1 (K) _ S1 _ (by omega) (by omega) OW1.out).mono ?_
      rintro e w1 ⟨rfl, ho1, ht1⟩
      have Q1 := Lib.hid ho1
      clear ho1
      have x0_1 : w1.cell? ⟨b, j * 5, none⟩ = some (.slice A1 l[j].vars.length c1) := (World.cell?_of_block (ht1.block b (Nat.lt_of_lt_of_le hbl (M0.out).size) (fun e => hTb (g1 b e)))).trans x0
      have x1_1 : w1.cell? ⟨b, j * 5 + 1, none⟩ = some (.int .i64 l[j].ty.op) := (World.cell?_of_block (ht1.block b (Nat.lt_of_lt_of_le hbl (M0.out).size) (fun e => hTb (g1 b e)))).trans x1
      have x2_1 : w1.cell? ⟨b, j * 5 + 2, none⟩ = some (.int .i64 l[j].ty.n) := (World.cell?_of_block (ht1.block b (Nat.lt_of_lt_of_le hbl (M0.out).size) (fun e => hTb (g1 b e)))).trans x2
      have x3_1 : w1.cell? ⟨b, j * 5 + 3, none⟩ = some (.string l[j].ty.s) := (World.cell?_of_block (ht1.block b (Nat.lt_of_lt_of_le hbl (M0.out).size) (fun e => hTb (g1 b e)))).trans x3
      have x4_1 : w1.cell? ⟨b, j * 5 + 4, none⟩ = some (.slice A2 l[j].ty.kids.length c2) := (World.cell?_of_block (ht1.block b (Nat.lt_of_lt_of_le hbl (M0.out).size) (fun e => hTb (g1 b e)))).trans x4
      have M1 := Lib.hid (MSt.mark (M0.out) ht1 g1 hTS hTb hbl HS.out)
      have hf1 := M1.out.fr
      have O2_1 := Lib.hid (Osl.touched (O2_0.out) ht1 (fun x h1 h2 => d12 x h2 h1) (fun q hq => Nat.lt_of_lt_of_le (HS.out q (hTS q (g2 q hq))) (M0.out).touch.size))
      clear x0 x1 x2 x3 x4 hf0 ht1
      obtain ⟨K1, hK1⟩ : ∃ K1 : Nat, K1 = K + cntL cnI l[j].vars := ⟨_, rfl⟩
      rw [← hK1]
      have hkb1 : K1 ≤ 4611686018427387904 := by omega
      have HKK1 := Lib.hid hK1
      clear hK1
      go_wp2_with fail
      have hK1 := HKK1.out
      refine (markTextI _ (K + 2 + cntL cnI l[j].vars) (by omega) _ (by omega) (by omega)).mono ?_
      rintro e w2 ⟨rfl, hb2⟩
      have x0_2 : w2.cell? ⟨b, j * 5, none⟩ = some (.slice A1 l[j].vars.length c1) := (hb2.cell (p := ⟨b, j * 5, none⟩) (Nat.lt_of_lt_of_le hbl (((((M1.out).set hSb (j * 5 + 1) (by omega) (by omega) (.int .i64 ((K1 : Int))))).set hSb (j * 5 + 2) (by omega) (by omega) (.int .i64 ((K1 : Int) + 1)))).size)).trans ((cell_ne (by omega)).trans ((cell_ne (by omega)).trans x0_1))
      have x1_2 : w2.cell? ⟨b, j * 5 + 1, none⟩ = some (.int .i64 ((K1 : Int))) := (hb2.cell (p := ⟨b, j * 5 + 1, none⟩) (Nat.lt_of_lt_of_le hbl (((((M1.out).set hSb (j * 5 + 1) (by omega) (by omega) (.int .i64 ((K1 : Int))))).set hSb (j * 5 + 2) (by omega) (by omega) (.int .i64 ((K1 : Int) + 1)))).size)).trans ((cell_ne (by omega)).trans (World.cell?_setCell_same _ _ _ x1_1))
      have x2_2 : w2.cell? ⟨b, j * 5 + 2, none⟩ = some (.int .i64 ((K1 : Int) + 1)) := (hb2.cell (p := ⟨b, j * 5 + 2, none⟩) (Nat.lt_of_lt_of_le hbl (((((M1.out).set hSb (j * 5 + 1) (by omega) (by omega) (.int .i64 ((K1 : Int))))).set hSb (j * 5 + 2) (by omega) (by omega) (.int .i64 ((K1 : Int) + 1)))).size)).trans (World.cell?_setCell_same _ _ _ ((cell_ne (by omega)).trans x2_1))
      have x3_2 : w2.cell? ⟨b, j * 5 + 3, none⟩ = some (.string l[j].ty.s) := (hb2.cell (p := ⟨b, j * 5 + 3, none⟩) (Nat.lt_of_lt_of_le hbl (((((M1.out).set hSb (j * 5 + 1) (by omega) (by omega) (.int .i64 ((K1 : Int))))).set hSb (j * 5 + 2) (by omega) (by omega) (.int .i64 ((K1 : Int) + 1)))).size)).trans ((cell_ne (by omega)).trans ((cell_ne (by omega)).trans x3_1))
      have x4_2 : w2.cell? ⟨b, j * 5 + 4, none⟩ = some (.slice A2 l[j].ty.kids.length c2) := (hb2.cell (p := ⟨b, j * 5 + 4, none⟩) (Nat.lt_of_lt_of_le hbl (((((M1.out).set hSb (j * 5 + 1) (by omega) (by omega) (.int .i64 ((K1 : Int))))).set hSb (j * 5 + 2) (by omega) (by omega) (.int .i64 ((K1 : Int) + 1)))).size)).trans ((cell_ne (by omega)).trans ((cell_ne (by omega)).trans x4_1))
      have M2 := Lib.hid (MSt.below (((((M1.out).set hSb (j * 5 + 1) (by omega) (by omega) (.int .i64 ((K1 : Int))))).set hSb (j * 5 + 2) (by omega) (by omega) (.int .i64 ((K1 : Int) + 1)))) hb2 hbl HS.out)
      have hf2 := M2.out.fr
      have O1_2 := Lib.hid (Osl.belowS ((Osl.set (o := j * 5 + 2) ((Osl.set (o := j * 5 + 1) (Q1.out) (fun e => hTb (g1 b e)) (.int .i64 ((K1 : Int))))) (fun e => hTb (g1 b e)) (.int .i64 ((K1 : Int) + 1)))) hb2 (fun q hq => Nat.lt_of_lt_of_le (HS.out q (hTS q (g1 q hq))) (((((M1.out).set hSb (j * 5 + 1) (by omega) (by omega) (.int .i64 ((K1 : Int))))).set hSb (j * 5 + 2) (by omega) (by omega) (.int .i64 ((K1 : Int) + 1)))).touch.size))
      have O2_2 := Lib.hid (Osl.belowS ((Osl.set (o := j * 5 + 2) ((Osl.set (o := j * 5 + 1) (O2_1.out) (fun e => hTb (g2 b e)) (.int .i64 ((K1 : Int))))) (fun e => hTb (g2 b e)) (.int .i64 ((K1 : Int) + 1)))) hb2 (fun q hq => Nat.lt_of_lt_of_le (HS.out q (hTS q (g2 q hq))) (((((M1.out).set hSb (j * 5 + 1) (by omega) (by omega) (.int .i64 ((K1 : Int))))).set hSb (j * 5 + 2) (by omega) (by omega) (.int .i64 ((K1 : Int) + 1)))).touch.size))
      clear x0_1 x1_1 x2_1 x3_1 x4_1 hf1 hb2
      have OW3 := Lib.hid (Osl.set (o := j * 5 + 3) (O2_2.out) (fun e => hTb (g2 b e)) (.string (markT (K + 2 + cntL cnI l[j].vars))))
      have LT3 := Lib.hid (show ∀ q, S2 q → q < (w2.setCell ⟨b, j * 5 + 3, none⟩ (.string (markT (K + 2 + cntL cnI l[j].vars)))).heap.size from (fun q hq => Nat.lt_of_lt_of_le (HS.out q (hTS q (g2 q hq))) (Nat.le_trans (((M2.out).set hSb (j * 5 + 3) (by omega) (by omega) (.string (markT (K + 2 + cntL cnI l[j].vars))))).touch.size (Nat.le_refl _))))
      go_wp2_with fail
      refine (markTyS' l[j].ty.kids A2 c2 (K + 3 + cntL cnI l[j].vars) _ S2 _ (by omega) (by omega) (by omega) LT3.out OW3.out).mono ?_
      rintro e w3 ⟨rfl, ho3, ht3⟩
      have Q3 := Lib.hid ho3
      clear ho3
      have x0_3 : w3.cell? ⟨b, j * 5, none⟩ = some (.slice A1 l[j].vars.length c1) := (World.cell?_of_block (ht3.block b (Nat.lt_of_lt_of_le hbl (((M2.out).set hSb (j * 5 + 3) (by omega) (by omega) (.string (markT (K + 2 + cntL cnI l[j].vars))))).size) (fun e => hTb (g2 b e)))).trans ((cell_ne (by omega)).trans x0_2)
      have x1_3 : w3.cell? ⟨b, j * 5 + 1, none⟩ = some (.int .i64 ((K1 : Int))) := (World.cell?_of_block (ht3.block b (Nat.lt_of_lt_of_le hbl (((M2.out).set hSb (j * 5 + 3) (by omega) (by omega) (.string (markT (K + 2 + cntL cnI l[j].vars))))).size) (fun e => hTb (g2 b e)))).trans ((cell_ne (by omega)).trans x1_2)
      have x2_3 : w3.cell? ⟨b, j * 5 + 2, none⟩ = some (.int .i64 ((K1 : Int) + 1)) := (World.cell?_of_block (ht3.block b (Nat.lt_of_lt_of_le hbl (((M2.out).set hSb (j * 5 + 3) (by omega) (by omega) (.string (markT (K + 2 + cntL cnI l[j].vars))))).size) (fun e => hTb (g2 b e)))).trans ((cell_ne (by omega)).trans x2_2)
      have x3_3 : w3.cell? ⟨b, j * 5 + 3, none⟩ = some (.string (markT (K + 2 + cntL cnI l[j].vars))) := (World.cell?_of_block (ht3.block b (Nat.lt_of_lt_of_le hbl (((M2.out).set hSb (j * 5 + 3) (by omega) (by omega) (.string (markT (K + 2 + cntL cnI l[j].vars))))).size) (fun e => hTb (g2 b e)))).trans (World.cell?_setCell_same _ _ _ x3_2)
      have x4_3 : w3.cell? ⟨b, j * 5 + 4, none⟩ = some (.slice A2 l[j].ty.kids.length c2) := (World.cell?_of_block (ht3.block b (Nat.lt_of_lt_of_le hbl (((M2.out).set hSb (j * 5 + 3) (by omega) (by omega) (.string (markT (K + 2 + cntL cnI l[j].vars))))).size) (fun e => hTb (g2 b e)))).trans ((cell_ne (by omega)).trans x4_2)
      have M3 := Lib.hid (MSt.mark (((M2.out).set hSb (j * 5 + 3) (by omega) (by omega) (.string (markT (K + 2 + cntL cnI l[j].vars))))) ht3 g2 hTS hTb hbl HS.out)
      have hf3 := M3.out.fr
      have O1_3 := Lib.hid (Osl.touched ((Osl.set (o := j * 5 + 3) (O1_2.out) (fun e => hTb (g1 b e)) (.string (markT (K + 2 + cntL cnI l[j].vars))))) ht3 d12 (fun q hq => Nat.lt_of_lt_of_le (HS.out q (hTS q (g1 q hq))) (((M2.out).set hSb (j * 5 + 3) (by omega) (by omega) (.string (markT (K + 2 + cntL cnI l[j].vars))))).touch.size))
      clear x0_2 x1_2 x2_2 x3_2 x4_2 hf2 ht3
      obtain ⟨K3, hK3⟩ : ∃ K3 : Nat, K3 = K + 3 + cntL cnI l[j].vars + cntL GTy.cnt l[j].ty.kids := ⟨_, rfl⟩
      rw [← hK3]
      have HM := Lib.hid (M3.out)
      have HOW := Lib.hid (GScheme.Ow_mark (w := w3) (S := T) (t := l[j]) (K := K) HKB.out g1 g2 d12 O1_3.out Q3.out)
      have HC := Lib.hid (GScheme.mark_cells l[j] K A1 c1 A2 c2 ((K1 : Int)) ((K1 : Int) + 1) (by omega) (by omega))
      have HP := Lib.hid (HPUT.out w3 (GScheme.mark l[j] K).toD [.slice A1 l[j].vars.length c1, .int .i64 ((K1 : Int)), .int .i64 ((K1 : Int) + 1), .string (markT (K + 2 + cntL cnI l[j].vars)), .slice A2 l[j].ty.kids.length c2] (HM.out.blk2 HS.out HT.out.size) HM.out.out HM.out.fr rfl
        (fun q v hv => by
          match q, hv with
          | 0, hv =>
            obtain rfl := Option.some.inj hv
            exact x0_3
          | 1, hv =>
            obtain rfl := Option.some.inj hv
            exact x1_3
          | 2, hv =>
            obtain rfl := Option.some.inj hv
            exact x2_3
          | 3, hv =>
            obtain rfl := Option.some.inj hv
            exact x3_3
          | 4, hv =>
            obtain rfl := Option.some.inj hv
            exact x4_3
          | q + 5, hv => cases hv)
        (by rw [HC.out]; exact GScheme.own_mk HOW.out))
      have HTF := Lib.hid HM.out.touch
      have hKe := HK.out
      clear HK HOW HC HPUT
      go_wp2_with fail
      go_roundw
      case rel => exact ⟨j + 1, by omega, by go_num, by have := cntL_take_succ GScheme.cnt l j hlt; have := GScheme.cnt_eq l[j]; congr 1; omega, Lib.hid (by have e := markTo_set GScheme.mark GScheme.cnt l k j hlt; rw [← hKe] at e; rw [← e, List.map_set]; exact HP.out), HTF⟩
      case measure => simp [intOf]; omega
    · have hjl : j = l.length := by omega
      have Hj := Lib.hid hjl
      have HK := Lib.hid hK
      clear hjl hK
      go_wp2_with fail
      go_ret
      exact ⟨ret_int (by rw [HK.out, Hj.out, List.take_length]), by have := HO.out; rw [Hj.out, markTo_all] at this; exact this, HT.out⟩

theorem markSchemeS' (l : List GScheme) (A : Option Addr) (c k : Nat) (x : Int) (S : Nat → Prop) (w : World) (hx : x = k) (h0 : 0 < k) (hk : k + cntL GScheme.cnt l ≤ 4611686018427387904) (hS : ∀ b, S b → b < w.heap.size) (hs : Osl w S 5 A c (l.map GScheme.toD)) :
    Calls Try.prog 76 #[.slice A l.length c, .int .i64 x] w fun e w' => e = .returned (.int .i64 ((k + cntL GScheme.cnt l : Nat) : Int)) ∧ Osl w' S 5 A c ((markL GScheme.mark GScheme.cnt l k).map GScheme.toD) ∧ Touch S w w' :=
  markSchemeS l A c k x S w hx h0 hk hS hs





end Go.Proofs.Ytjcgfbjdailgoaa
