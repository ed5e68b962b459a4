/- Marks on what is owned: the Go struct Fun. Conditions: none but a bound on the numbers. -/
import Derived.Test.YtjcgfbjdailgoaaGFun
import Derived.Test.YtjcgfbjdailgoaaInt
import Derived.Deep.RegionHeld3
import Derived.Test.YtjcgfbjdailgoaaMOp
namespace Go.Proofs.Ytjcgfbjdailgoaa
open Go.RowKit
set_option linter.unusedVariables false
set_option linter.unusedSimpArgs false
set_option maxHeartbeats 1000000

theorem GFun.own_inv {w : World} {S : Nat → Prop} {t : GFun} {cs : List Value} (h : t.toD.own w S cs) : ∃ A1 c1, cs = [.int .i64 t.free, .slice A1 t.list.length c1] ∧ GFun.Ow w S A1 c1 t := by
  unfold GFun.toD at h
  rw [D.own_agg] at h
  simp only [D.ownF] at h
  obtain ⟨U0, V0, x0, r0, a0, b0, e0, h0, U1, V1, x1, r1, a1, b1, e1, h1, ee⟩ := h
  subst ee
  subst e1
  subst e0
  obtain ⟨rfl, k0⟩ := D.own_num.1 h0
  obtain ⟨B1, d1, rfl, k1⟩ := D.own_sl.1 h1
  exact ⟨B1, d1, (by simp), ⟨k0, k1.keep fun x hx => ⟨b0 x ((a1 x hx).1), rfl⟩⟩⟩

/-- the marked data -/
def GFun.mark (t : GFun) (k : Nat) : GFun := ⟨(((k : Nat) : Int)), (markL GOp.mark GOp.cnt t.list (k + 1))⟩
/-- how many marks -/
def GFun.cnt (t : GFun) : Nat := 1 + cntL GOp.cnt t.list
/-- the same, but for its own numbers and texts -/
def GFun.mark0 (t : GFun) (k : Nat) : GFun := ⟨t.free, (markL GOp.mark GOp.cnt t.list (k))⟩
def GFun.cnt0 (t : GFun) : Nat := cntL GOp.cnt t.list
theorem GFun.cnt_eq (t : GFun) : t.cnt = 1 + cntL GOp.cnt t.list := by
  simp only [GFun.cnt]
theorem GFun.mark_free (t : GFun) (k : Nat) : (t.mark k).free = (((k : Nat) : Int)) := by
  rfl
theorem GFun.mark_list (t : GFun) (k : Nat) : (t.mark k).list = (markL GOp.mark GOp.cnt t.list (k + 1)) := by
  rfl
theorem GFun.mark_cells (t : GFun) (K : Nat) (A1 : Option Addr) (c1 : Nat) (v0 : Int) (e0 : v0 = ((K : Nat) : Int)) : ([.int .i64 v0, .slice A1 t.list.length c1] : List Value) = [.int .i64 (t.mark K).free, .slice A1 (t.mark K).list.length c1] := by
  subst e0
  simp only [GFun.mark_free, GFun.mark_list, markL_length]
  try (simp only [Nat.add_assoc, Nat.add_comm, Nat.add_left_comm])

theorem GFun.Ow_mark {w : World} {S : Nat → Prop} {t : GFun} {K : Nat} {A1 : Option Addr} {c1 : Nat} (hK : K + t.cnt ≤ 4611686018427387904)  (o1 : Osl w S 3 A1 c1 ((markL GOp.mark GOp.cnt t.list (K + 1)).map GOp.toD)) : GFun.Ow w S A1 c1 (t.mark K) := by
  rw [GFun.cnt_eq] at hK
  unfold GFun.Ow
  exact ⟨(by simp only [GFun.mark_free, GFun.mark_list]; exact wfNat _ (by first | omega | omega)), (by simp only [GFun.mark_free, GFun.mark_list]; first | exact o1 | (rw [show K + 1 = K + 1 from by first | omega | omega]; exact o1))⟩

theorem GFun.cnt_bulk (t : GFun) : t.cnt ≤ 16 * (1 + t.bulk) := by
  have hb := t.bulk_eq
  have := cntL_le GOp.cnt GOp.bulk t.list (fun x _ => GOp.cnt_bulk x)
  rw [GFun.cnt_eq]; omega
theorem GFun.cnts_bulk (l : List GFun) : cntL GFun.cnt l ≤ 16 * bulkL GFun.bulk l := cntL_le _ _ l fun x _ => GFun.cnt_bulk x
theorem GFun.cnt0_le (t : GFun) : t.cnt0 ≤ t.cnt := by
  rw [GFun.cnt_eq]; simp only [GFun.cnt0]; omega
set_option maxRecDepth 20000 in
theorem markFunS (l : List GFun) (A : Option Addr) (c k : Nat) (x : Int) (S : Nat → Prop) (w : World) (hx : x = k) (h0 : 0 < k) (hk : k + cntL GFun.cnt l ≤ 4611686018427387904) (hS : ∀ b, S b → b < w.heap.size) (hs : Osl w S 2 A c (l.map GFun.toD)) :
    Calls Try.prog 32 #[.slice A l.length c, .int .i64 x] w fun e w' => e = .returned (.int .i64 ((k + cntL GFun.cnt l : Nat) : Int)) ∧ Osl w' S 2 A c ((markL GFun.mark GFun.cnt l k).map GFun.toD) ∧ Touch S w w' := by
  subst hx
  have hlen : l.length ≤ 9223372036854775807 := by simpa using hs.sl.len
  have HS := Lib.hid hS
  have S0 := Lib.hid hs
  clear hs hS
  go_enter Try.func32, Try.ntmps32
  go_wp2_with fail
  go_loopw [1, 5] (fun v i wr => ∃ (j : Nat), j ≤ l.length ∧ i = .int .i64 j ∧ v = .int .i64 ((k + cntL GFun.cnt (l.take j) : Nat) : Int) ∧ Hid (Osl wr S 2 A c ((markTo GFun.mark GFun.cnt l k j).map GFun.toD)) ∧ Hid (Touch S w wr)) (fun _ i _ => l.length - (intOf i).toNat)
  case atStart => exact ⟨0, by omega, by go_num, by simp [cntL], Lib.hid (by rw [markTo_zero]; exact S0.out), Lib.hid (Touch.refl _ _)⟩
  case round =>
    obtain ⟨j, hj, rfl, ev, HO, HT⟩ := hrel
    obtain ⟨K, hK⟩ : ∃ K, K = k + cntL GFun.cnt (l.take j) := ⟨_, rfl⟩
    rw [← hK] at ev
    subst ev
    by_cases hlt : j < l.length
    · obtain ⟨b, T, cs, rfl, hSb, hTb, hf0, hTS, hcl, hc, hd, hput⟩ := HO.out.focus j (by rw [List.length_map, markTo_length _ _ _ _ _ hj]; exact hlt)
      rw [List.getElem_map, markTo_get _ _ _ _ _ hlt] at hd
      obtain ⟨A1, c1, rfl, how⟩ := GFun.own_inv hd
      have x0 : wr.cell? ⟨b, j * 2, none⟩ = some (.int .i64 l[j].free) := by simpa using hc 0 _ rfl
      have x1 : wr.cell? ⟨b, j * 2 + 1, none⟩ = some (.slice A1 l[j].list.length c1) := by simpa using hc 1 _ rfl
      have hKk : 0 < K := by omega
      have hKb : K + GFun.cnt l[j] ≤ 4611686018427387904 := by have := cntL_take_le GFun.cnt l j hlt; omega
      have HKB := Lib.hid hKb
      rw [GFun.cnt_eq] at hKb
      have HK := Lib.hid hK
      have hbl : b < wr.heap.size := Nat.lt_of_lt_of_le (HS.out b hSb) HT.out.size
      have M0 := Lib.hid (MSt.start (w := w) (wr := wr) (S := S) (T := T) (b := b) (lo := j * 2) (hi := j * 2 + 2) hf0 HT.out)
      obtain ⟨-, o1⟩ := how
      have O1_0 := Lib.hid o1
      clear o1
      have HPUT := Lib.hid hput
      clear hc hd hcl hput hK
      have OW1 := Lib.hid (Osl.set (o := j * 2) (O1_0.out) hTb (.int .i64 ((K : Int))))
      have LT1 := Lib.hid (show ∀ q, T q → q < (wr.setCell ⟨b, j * 2, none⟩ (.int .i64 ((K : Int)))).heap.size from (fun q hq => Nat.lt_of_lt_of_le (HS.out q (hTS q ((fun _ h => h) q hq))) (Nat.le_trans (((M0.out).set hSb (j * 2) (by omega) (by omega) (.int .i64 ((K : Int))))).touch.size (Nat.le_refl _))))
      go_wp2_with fail
      refine (markOpS' l[j].list A1 c1 (K + 1) _ T _ (by omega) (by omega) (by omega) LT1.out OW1.out).mono ?_
      rintro e w1 ⟨rfl, ho1, ht1⟩
      have Q1 := Lib.hid ho1
      clear ho1
      have x0_1 : w1.cell? ⟨b, j * 2, none⟩ = some (.int .i64 ((K : Int))) := (World.cell?_of_block (ht1.block b (Nat.lt_of_lt_of_le hbl (((M0.out).set hSb (j * 2) (by omega) (by omega) (.int .i64 ((K : Int))))).size) hTb)).trans (World.cell?_setCell_same _ _ _ x0)
      have x1_1 : w1.cell? ⟨b, j * 2 + 1, none⟩ = some (.slice A1 l[j].list.length c1) := (World.cell?_of_block (ht1.block b (Nat.lt_of_lt_of_le hbl (((M0.out).set hSb (j * 2) (by omega) (by omega) (.int .i64 ((K : Int))))).size) hTb)).trans ((cell_ne (by omega)).trans x1)
      have M1 := Lib.hid (MSt.mark (((M0.out).set hSb (j * 2) (by omega) (by omega) (.int .i64 ((K : Int))))) ht1 (fun _ h => h) hTS hTb hbl HS.out)
      have hf1 := M1.out.fr
      clear x0 x1 hf0 ht1
      obtain ⟨K1, hK1⟩ : ∃ K1 : Nat, K1 = K + 1 + cntL GOp.cnt l[j].list := ⟨_, rfl⟩
      rw [← hK1]
      have HM := Lib.hid (M1.out)
      have HOW := Lib.hid (GFun.Ow_mark (w := w1) (S := T) (t := l[j]) (K := K) HKB.out Q1.out)
      have HC := Lib.hid (GFun.mark_cells l[j] K A1 c1 ((K : Int)) (by omega))
      have HP := Lib.hid (HPUT.out w1 (GFun.mark l[j] K).toD [.int .i64 ((K : Int)), .slice A1 l[j].list.length c1] (HM.out.blk2 HS.out HT.out.size) HM.out.out HM.out.fr rfl
        (fun q v hv => by
          match q, hv with
          | 0, hv =>
            obtain rfl := Option.some.inj hv
            exact x0_1
          | 1, hv =>
            obtain rfl := Option.some.inj hv
            exact x1_1
          | q + 2, hv => cases hv)
        (by rw [HC.out]; exact GFun.own_mk HOW.out))
      have HTF := Lib.hid HM.out.touch
      have hKe := HK.out
      clear HK HOW HC HPUT
      go_wp2_with fail
      go_roundw
      case rel => exact ⟨j + 1, by omega, by go_num, by have := cntL_take_succ GFun.cnt l j hlt; have := GFun.cnt_eq l[j]; congr 1; omega, Lib.hid (by have e := markTo_set GFun.mark GFun.cnt l k j hlt; rw [← hKe] at e; rw [← e, List.map_set]; exact HP.out), HTF⟩
      case measure => simp [intOf]; omega
    · have hjl : j = l.length := by omega
      have Hj := Lib.hid hjl
      have HK := Lib.hid hK
      clear hjl hK
      go_wp2_with fail
      go_ret
      exact ⟨ret_int (by rw [HK.out, Hj.out, List.take_length]), by have := HO.out; rw [Hj.out, markTo_all] at this; exact this, HT.out⟩

theorem markFunS' (l : List GFun) (A : Option Addr) (c k : Nat) (x : Int) (S : Nat → Prop) (w : World) (hx : x = k) (h0 : 0 < k) (hk : k + cntL GFun.cnt l ≤ 4611686018427387904) (hS : ∀ b, S b → b < w.heap.size) (hs : Osl w S 2 A c (l.map GFun.toD)) :
    Calls Try.prog 32 #[.slice A l.length c, .int .i64 x] w fun e w' => e = .returned (.int .i64 ((k + cntL GFun.cnt l : Nat) : Int)) ∧ Osl w' S 2 A c ((markL GFun.mark GFun.cnt l k).map GFun.toD) ∧ Touch S w w' :=
  markFunS l A c k x S w hx h0 hk hS hs





end Go.Proofs.Ytjcgfbjdailgoaa
