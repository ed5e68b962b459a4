/- Marks on what is owned: the Go struct Bind. Conditions: none but a bound on the numbers. -/
import Derived.Test.YtnjindgpmacjmaaGBind
import Derived.Test.YtnjindgpmacjmaaInt
import Derived.Deep.RegionHeld3
import Derived.Test.YtnjindgpmacjmaaMTy
namespace Go.Proofs.Ytnjindgpmacjmaa
open Go.RowKit
set_option linter.unusedVariables false
set_option linter.unusedSimpArgs false
set_option maxHeartbeats 1000000

theorem GBind.own_inv {w : World} {S : Nat → Prop} {t : GBind} {cs : List Value} (h : t.toD.own w S cs) : ∃ A1 c1, cs = [.int .i64 t.n, .int .i64 t.ty.op, .int .i64 t.ty.n, .string t.ty.s, .slice A1 t.ty.kids.length c1] ∧ GBind.Ow w S A1 c1 t := by
  unfold GBind.toD at h
  rw [D.own_agg] at h
  simp only [D.ownF] at h
  obtain ⟨U0, V0, x0, r0, a0, b0, e0, h0, U1, V1, x1, r1, a1, b1, e1, h1, ee⟩ := h
  subst ee
  subst e1
  subst e0
  obtain ⟨rfl, k0⟩ := D.own_num.1 h0
  obtain ⟨B1, d1, rfl, k1⟩ := GTy.own_inv h1
  exact ⟨B1, d1, (by simp), ⟨k0, k1.keep fun x hx => ⟨b0 x ((a1 x hx).1), rfl⟩⟩⟩

/-- the marked data -/
def GBind.mark (t : GBind) (k : Nat) : GBind := ⟨(((k : Nat) : Int)), (GTy.mark t.ty (k + 1))⟩
/-- how many marks -/
def GBind.cnt (t : GBind) : Nat := 1 + GTy.cnt t.ty
/-- the same, but for its own numbers and texts -/
def GBind.mark0 (t : GBind) (k : Nat) : GBind := ⟨t.n, (GTy.mark0 t.ty (k))⟩
def GBind.cnt0 (t : GBind) : Nat := GTy.cnt0 t.ty
theorem GBind.cnt_eq (t : GBind) : t.cnt = 4 + cntL GTy.cnt t.ty.kids := by
  simp only [GBind.cnt, GTy.cnt_eq] <;> omega
theorem GBind.mark_n (t : GBind) (k : Nat) : (t.mark k).n = (((k : Nat) : Int)) := by
  rfl
theorem GBind.mark_ty (t : GBind) (k : Nat) : (t.mark k).ty = (GTy.mark t.ty (k + 1)) := by
  rfl
theorem GBind.mark_cells (t : GBind) (K : Nat) (A1 : Option Addr) (c1 : Nat) (v0 : Int) (v1 : Int) (v2 : Int) (e0 : v0 = ((K : Nat) : Int)) (e1 : v1 = ((K + 1 : Nat) : Int)) (e2 : v2 = ((K + 2 : Nat) : Int)) : ([.int .i64 v0, .int .i64 v1, .int .i64 v2, .string (markT (K + 3)), .slice A1 t.ty.kids.length c1] : List Value) = [.int .i64 (t.mark K).n, .int .i64 (t.mark K).ty.op, .int .i64 (t.mark K).ty.n, .string (t.mark K).ty.s, .slice A1 (t.mark K).ty.kids.length c1] := by
  subst e0
  subst e1
  subst e2
  simp only [GBind.mark_n, GBind.mark_ty, GTy.mark_op, GTy.mark_n, GTy.mark_s, GTy.mark_kids, markL_length]
  try (simp only [Nat.add_assoc, Nat.add_comm, Nat.add_left_comm])

theorem GBind.Ow_mark {w : World} {S : Nat → Prop} {t : GBind} {K : Nat} {A1 : Option Addr} {c1 : Nat} (hK : K + t.cnt ≤ 4611686018427387904)  (o1 : Osl w S 4 A1 c1 ((markL GTy.mark GTy.cnt t.ty.kids (K + 4)).map GTy.toD)) : GBind.Ow w S A1 c1 (t.mark K) := by
  rw [GBind.cnt_eq] at hK
  unfold GBind.Ow
  exact ⟨(by simp only [GBind.mark_n, GBind.mark_ty, GTy.mark_op, GTy.mark_n, GTy.mark_s, GTy.mark_kids]; exact wfNat _ (by first | omega | (simp only [GTy.cnt_eq]; omega))), ⟨(by simp only [GBind.mark_n, GBind.mark_ty, GTy.mark_op, GTy.mark_n, GTy.mark_s, GTy.mark_kids]; exact wfNat _ (by first | omega | (simp only [GTy.cnt_eq]; omega))), (by simp only [GBind.mark_n, GBind.mark_ty, GTy.mark_op, GTy.mark_n, GTy.mark_s, GTy.mark_kids]; exact wfNat _ (by first | omega | (simp only [GTy.cnt_eq]; omega))), (by simp only [GBind.mark_n, GBind.mark_ty, GTy.mark_op, GTy.mark_n, GTy.mark_s, GTy.mark_kids]; have := markT_size (K + 1 + 2) (by first | omega | (simp only [GTy.cnt_eq]; omega)); unfold maxLen; omega), (by simp only [GBind.mark_n, GBind.mark_ty, GTy.mark_op, GTy.mark_n, GTy.mark_s, GTy.mark_kids]; first | exact o1 | (rw [show K + 1 + 3 = K + 4 from by first | omega | (simp only [GTy.cnt_eq]; omega)]; exact o1))⟩⟩

theorem GBind.cnt_bulk (t : GBind) : t.cnt ≤ 16 * (1 + t.bulk) := by
  have hb := t.bulk_eq
  have := t.ty.bulk_eq
  have := cntL_le GTy.cnt GTy.bulk t.ty.kids (fun x _ => GTy.cnt_bulk x)
  rw [GBind.cnt_eq]; omega
theorem GBind.cnts_bulk (l : List GBind) : cntL GBind.cnt l ≤ 16 * bulkL GBind.bulk l := cntL_le _ _ l fun x _ => GBind.cnt_bulk x
theorem GBind.cnt0_le (t : GBind) : t.cnt0 ≤ t.cnt := by
  rw [GBind.cnt_eq]; simp only [GBind.cnt0, GTy.cnt0]; omega
set_option maxRecDepth 20000 in
theorem markBindS (l : List GBind) (A : Option Addr) (c k : Nat) (x : Int) (S : Nat → Prop) (w : World) (hx : x = k) (h0 : 0 < k) (hk : k + cntL GBind.cnt l ≤ 4611686018427387904) (hS : ∀ b, S b → b < w.heap.size) (hs : Osl w S 5 A c (l.map GBind.toD)) :
    Calls Try.prog 59 #[.slice A l.length c, .int .i64 x] w fun e w' => e = .returned (.int .i64 ((k + cntL GBind.cnt l : Nat) : Int)) ∧ Osl w' S 5 A c ((markL GBind.mark GBind.cnt l k).map GBind.toD) ∧ Touch S w w' := by
  subst hx
  have hlen : l.length ≤ 9223372036854775807 := by simpa using hs.sl.len
  have HS := Lib.hid hS
  have S0 := Lib.hid hs
  clear hs hS
  go_enter Try.func59, Try.ntmps59
  go_wp2_with fail
  go_loopw [1, 5] (fun v i wr => ∃ (j : Nat), j ≤ l.length ∧ i = .int .i64 j ∧ v = .int .i64 ((k + cntL GBind.cnt (l.take j) : Nat) : Int) ∧ Hid (Osl wr S 5 A c ((markTo GBind.mark GBind.cnt l k j).map GBind.toD)) ∧ Hid (Touch S w wr)) (fun _ i _ => l.length - (intOf i).toNat)
  case atStart => exact ⟨0, by omega, by go_num, by simp [cntL], Lib.hid (by rw [markTo_zero]; exact S0.out), Lib.hid (Touch.refl _ _)⟩
  case round =>
    obtain ⟨j, hj, rfl, ev, HO, HT⟩ := hrel
    obtain ⟨K, hK⟩ : ∃ K, K = k + cntL GBind.cnt (l.take j) := ⟨_, rfl⟩
    rw [← hK] at ev
    subst ev
    by_cases hlt : j < l.length
    · obtain ⟨b, T, cs, rfl, hSb, hTb, hf0, hTS, hcl, hc, hd, hput⟩ := HO.out.focus j (by rw [List.length_map, markTo_length _ _ _ _ _ hj]; exact hlt)
      rw [List.getElem_map, markTo_get _ _ _ _ _ hlt] at hd
      obtain ⟨A1, c1, rfl, how⟩ := GBind.own_inv hd
      have x0 : wr.cell? ⟨b, j * 5, none⟩ = some (.int .i64 l[j].n) := by simpa using hc 0 _ rfl
      have x1 : wr.cell? ⟨b, j * 5 + 1, none⟩ = some (.int .i64 l[j].ty.op) := by simpa using hc 1 _ rfl
      have x2 : wr.cell? ⟨b, j * 5 + 2, none⟩ = some (.int .i64 l[j].ty.n) := by simpa using hc 2 _ rfl
      have x3 : wr.cell? ⟨b, j * 5 + 3, none⟩ = some (.string l[j].ty.s) := by simpa using hc 3 _ rfl
      have x4 : wr.cell? ⟨b, j * 5 + 4, none⟩ = some (.slice A1 l[j].ty.kids.length c1) := by simpa using hc 4 _ rfl
      have hKk : 0 < K := by omega
      have hKb : K + GBind.cnt l[j] ≤ 4611686018427387904 := by have := cntL_take_le GBind.cnt l j hlt; omega
      have HKB := Lib.hid hKb
      rw [GBind.cnt_eq] at hKb
      have HK := Lib.hid hK
      have hbl : b < wr.heap.size := Nat.lt_of_lt_of_le (HS.out b hSb) HT.out.size
      have M0 := Lib.hid (MSt.start (w := w) (wr := wr) (S := S) (T := T) (b := b) (lo := j * 5) (hi := j * 5 + 5) hf0 HT.out)
      obtain ⟨-, ⟨-, -, -, o1⟩⟩ := how
      have O1_0 := Lib.hid o1
      clear o1
      have HPUT := Lib.hid hput
      clear hc hd hcl hput hK
      go_wp2_with fail
      refine (markTextI _ (K + 3) (by omega) _ (by omega) (by omega)).mono ?_
      rintro e w1 ⟨rfl, hb1⟩
      have x0_1 : w1.cell? ⟨b, j * 5, none⟩ = some (.int .i64 ((K : Int))) := (hb1.cell (p := ⟨b, j * 5, none⟩) (Nat.lt_of_lt_of_le hbl (((((((M0.out).set hSb (j * 5) (by omega) (by omega) (.int .i64 ((K : Int))))).set hSb (j * 5 + 1) (by omega) (by omega) (.int .i64 ((K : Int) + 1)))).set hSb (j * 5 + 2) (by omega) (by omega) (.int .i64 ((K : Int) + 1 + 1)))).size)).trans ((cell_ne (by omega)).trans ((cell_ne (by omega)).trans (World.cell?_setCell_same _ _ _ x0)))
      have x1_1 : w1.cell? ⟨b, j * 5 + 1, none⟩ = some (.int .i64 ((K : Int) + 1)) := (hb1.cell (p := ⟨b, j * 5 + 1, none⟩) (Nat.lt_of_lt_of_le hbl (((((((M0.out).set hSb (j * 5) (by omega) (by omega) (.int .i64 ((K : Int))))).set hSb (j * 5 + 1) (by omega) (by omega) (.int .i64 ((K : Int) + 1)))).set hSb (j * 5 + 2) (by omega) (by omega) (.int .i64 ((K : Int) + 1 + 1)))).size)).trans ((cell_ne (by omega)).trans (World.cell?_setCell_same _ _ _ ((cell_ne (by omega)).trans x1)))
      have x2_1 : w1.cell? ⟨b, j * 5 + 2, none⟩ = some (.int .i64 ((K : Int) + 1 + 1)) := (hb1.cell (p := ⟨b, j * 5 + 2, none⟩) (Nat.lt_of_lt_of_le hbl (((((((M0.out).set hSb (j * 5) (by omega) (by omega) (.int .i64 ((K : Int))))).set hSb (j * 5 + 1) (by omega) (by omega) (.int .i64 ((K : Int) + 1)))).set hSb (j * 5 + 2) (by omega) (by omega) (.int .i64 ((K : Int) + 1 + 1)))).size)).trans (World.cell?_setCell_same _ _ _ ((cell_ne (by omega)).trans ((cell_ne (by omega)).trans x2)))
      have x3_1 : w1.cell? ⟨b, j * 5 + 3, none⟩ = some (.string l[j].ty.s) := (hb1.cell (p := ⟨b, j * 5 + 3, none⟩) (Nat.lt_of_lt_of_le hbl (((((((M0.out).set hSb (j * 5) (by omega) (by omega) (.int .i64 ((K : Int))))).set hSb (j * 5 + 1) (by omega) (by omega) (.int .i64 ((K : Int) + 1)))).set hSb (j * 5 + 2) (by omega) (by omega) (.int .i64 ((K : Int) + 1 + 1)))).size)).trans ((cell_ne (by omega)).trans ((cell_ne (by omega)).trans ((cell_ne (by omega)).trans x3)))
      have x4_1 : w1.cell? ⟨b, j * 5 + 4, none⟩ = some (.slice A1 l[j].ty.kids.length c1) := (hb1.cell (p := ⟨b, j * 5 + 4, none⟩) (Nat.lt_of_lt_of_le hbl (((((((M0.out).set hSb (j * 5) (by omega) (by omega) (.int .i64 ((K : Int))))).set hSb (j * 5 + 1) (by omega) (by omega) (.int .i64 ((K : Int) + 1)))).set hSb (j * 5 + 2) (by omega) (by omega) (.int .i64 ((K : Int) + 1 + 1)))).size)).trans ((cell_ne (by omega)).trans ((cell_ne (by omega)).trans ((cell_ne (by omega)).trans x4)))
      have M1 := Lib.hid (MSt.below (((((((M0.out).set hSb (j * 5) (by omega) (by omega) (.int .i64 ((K : Int))))).set hSb (j * 5 + 1) (by omega) (by omega) (.int .i64 ((K : Int) + 1)))).set hSb (j * 5 + 2) (by omega) (by omega) (.int .i64 ((K : Int) + 1 + 1)))) hb1 hbl HS.out)
      have hf1 := M1.out.fr
      have O1_1 := Lib.hid (Osl.belowS ((Osl.set (o := j * 5 + 2) ((Osl.set (o := j * 5 + 1) ((Osl.set (o := j * 5) (O1_0.out) hTb (.int .i64 ((K : Int))))) hTb (.int .i64 ((K : Int) + 1)))) hTb (.int .i64 ((K : Int) + 1 + 1)))) hb1 (fun q hq => Nat.lt_of_lt_of_le (HS.out q (hTS q ((fun _ h => h) q hq))) (((((((M0.out).set hSb (j * 5) (by omega) (by omega) (.int .i64 ((K : Int))))).set hSb (j * 5 + 1) (by omega) (by omega) (.int .i64 ((K : Int) + 1)))).set hSb (j * 5 + 2) (by omega) (by omega) (.int .i64 ((K : Int) + 1 + 1)))).touch.size))
      clear x0 x1 x2 x3 x4 hf0 hb1
      have OW2 := Lib.hid (Osl.set (o := j * 5 + 3) (O1_1.out) hTb (.string (markT (K + 3))))
      have LT2 := Lib.hid (show ∀ q, T q → q < (w1.setCell ⟨b, j * 5 + 3, none⟩ (.string (markT (K + 3)))).heap.size from (fun q hq => Nat.lt_of_lt_of_le (HS.out q (hTS q ((fun _ h => h) q hq))) (Nat.le_trans (((M1.out).set hSb (j * 5 + 3) (by omega) (by omega) (.string (markT (K + 3))))).touch.size (Nat.le_refl _))))
      go_wp2_with fail
      refine (markTyS' l[j].ty.kids A1 c1 (K + 4) _ T _ (by omega) (by omega) (by omega) LT2.out OW2.out).mono ?_
      rintro e w2 ⟨rfl, ho2, ht2⟩
      have Q2 := Lib.hid ho2
      clear ho2
      have x0_2 : w2.cell? ⟨b, j * 5, none⟩ = some (.int .i64 ((K : Int))) := (World.cell?_of_block (ht2.block b (Nat.lt_of_lt_of_le hbl (((M1.out).set hSb (j * 5 + 3) (by omega) (by omega) (.string (markT (K + 3))))).size) hTb)).trans ((cell_ne (by omega)).trans x0_1)
      have x1_2 : w2.cell? ⟨b, j * 5 + 1, none⟩ = some (.int .i64 ((K : Int) + 1)) := (World.cell?_of_block (ht2.block b (Nat.lt_of_lt_of_le hbl (((M1.out).set hSb (j * 5 + 3) (by omega) (by omega) (.string (markT (K + 3))))).size) hTb)).trans ((cell_ne (by omega)).trans x1_1)
      have x2_2 : w2.cell? ⟨b, j * 5 + 2, none⟩ = some (.int .i64 ((K : Int) + 1 + 1)) := (World.cell?_of_block (ht2.block b (Nat.lt_of_lt_of_le hbl (((M1.out).set hSb (j * 5 + 3) (by omega) (by omega) (.string (markT (K + 3))))).size) hTb)).trans ((cell_ne (by omega)).trans x2_1)
      have x3_2 : w2.cell? ⟨b, j * 5 + 3, none⟩ = some (.string (markT (K + 3))) := (World.cell?_of_block (ht2.block b (Nat.lt_of_lt_of_le hbl (((M1.out).set hSb (j * 5 + 3) (by omega) (by omega) (.string (markT (K + 3))))).size) hTb)).trans (World.cell?_setCell_same _ _ _ x3_1)
      have x4_2 : w2.cell? ⟨b, j * 5 + 4, none⟩ = some (.slice A1 l[j].ty.kids.length c1) := (World.cell?_of_block (ht2.block b (Nat.lt_of_lt_of_le hbl (((M1.out).set hSb (j * 5 + 3) (by omega) (by omega) (.string (markT (K + 3))))).size) hTb)).trans ((cell_ne (by omega)).trans x4_1)
      have M2 := Lib.hid (MSt.mark (((M1.out).set hSb (j * 5 + 3) (by omega) (by omega) (.string (markT (K + 3))))) ht2 (fun _ h => h) hTS hTb hbl HS.out)
      have hf2 := M2.out.fr
      clear x0_1 x1_1 x2_1 x3_1 x4_1 hf1 ht2
      obtain ⟨K2, hK2⟩ : ∃ K2 : Nat, K2 = K + 4 + cntL GTy.cnt l[j].ty.kids := ⟨_, rfl⟩
      rw [← hK2]
      have HM := Lib.hid (M2.out)
      have HOW := Lib.hid (GBind.Ow_mark (w := w2) (S := T) (t := l[j]) (K := K) HKB.out Q2.out)
      have HC := Lib.hid (GBind.mark_cells l[j] K A1 c1 ((K : Int)) ((K : Int) + 1) ((K : Int) + 1 + 1) (by omega) (by omega) (by omega))
      have HP := Lib.hid (HPUT.out w2 (GBind.mark l[j] K).toD [.int .i64 ((K : Int)), .int .i64 ((K : Int) + 1), .int .i64 ((K : Int) + 1 + 1), .string (markT (K + 3)), .slice A1 l[j].ty.kids.length c1] (HM.out.blk2 HS.out HT.out.size) HM.out.out HM.out.fr rfl
        (fun q v hv => by
          match q, hv with
          | 0, hv =>
            obtain rfl := Option.some.inj hv
            exact x0_2
          | 1, hv =>
            obtain rfl := Option.some.inj hv
            exact x1_2
          | 2, hv =>
            obtain rfl := Option.some.inj hv
            exact x2_2
          | 3, hv =>
            obtain rfl := Option.some.inj hv
            exact x3_2
          | 4, hv =>
            obtain rfl := Option.some.inj hv
            exact x4_2
          | q + 5, hv => cases hv)
        (by rw [HC.out]; exact GBind.own_mk HOW.out))
      have HTF := Lib.hid HM.out.touch
      have hKe := HK.out
      clear HK HOW HC HPUT
      go_wp2_with fail
      go_roundw
      case rel => exact ⟨j + 1, by omega, by go_num, by have := cntL_take_succ GBind.cnt l j hlt; have := GBind.cnt_eq l[j]; congr 1; omega, Lib.hid (by have e := markTo_set GBind.mark GBind.cnt l k j hlt; rw [← hKe] at e; rw [← e, List.map_set]; exact HP.out), HTF⟩
      case measure => simp [intOf]; omega
    · have hjl : j = l.length := by omega
      have Hj := Lib.hid hjl
      have HK := Lib.hid hK
      clear hjl hK
      go_wp2_with fail
      go_ret
      exact ⟨ret_int (by rw [HK.out, Hj.out, List.take_length]), by have := HO.out; rw [Hj.out, markTo_all] at this; exact this, HT.out⟩

theorem markBindS' (l : List GBind) (A : Option Addr) (c k : Nat) (x : Int) (S : Nat → Prop) (w : World) (hx : x = k) (h0 : 0 < k) (hk : k + cntL GBind.cnt l ≤ 4611686018427387904) (hS : ∀ b, S b → b < w.heap.size) (hs : Osl w S 5 A c (l.map GBind.toD)) :
    Calls Try.prog 59 #[.slice A l.length c, .int .i64 x] w fun e w' => e = .returned (.int .i64 ((k + cntL GBind.cnt l : Nat) : Int)) ∧ Osl w' S 5 A c ((markL GBind.mark GBind.cnt l k).map GBind.toD) ∧ Touch S w w' :=
  markBindS l A c k x S w hx h0 hk hS hs





end Go.Proofs.Ytnjindgpmacjmaa
