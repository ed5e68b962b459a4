/- Marks on what is owned: the Go struct Op. Conditions: none but a bound on the numbers. -/
import Derived.Test.YtjcgfbjdailgoaaGOp
import Derived.Test.YtjcgfbjdailgoaaInt
import Derived.Deep.RegionHeld3
namespace Go.Proofs.Ytjcgfbjdailgoaa
open Go.RowKit
set_option linter.unusedVariables false
set_option linter.unusedSimpArgs false
set_option maxHeartbeats 1000000

theorem GOp.own_inv {w : World} {S : Nat → Prop} {t : GOp} {cs : List Value} (h : t.toD.own w S cs) : cs = [.int .i64 t.code, .int .i64 t.n, .int .i64 t.m] ∧ GOp.Ow w S t := by
  unfold GOp.toD at h
  rw [D.own_agg] at h
  simp only [D.ownF] at h
  obtain ⟨U0, V0, x0, r0, a0, b0, e0, h0, U1, V1, x1, r1, a1, b1, e1, h1, U2, V2, x2, r2, a2, b2, e2, h2, ee⟩ := h
  subst ee
  subst e2
  subst e1
  subst e0
  obtain ⟨rfl, k0⟩ := D.own_num.1 h0
  obtain ⟨rfl, k1⟩ := D.own_num.1 h1
  obtain ⟨rfl, k2⟩ := D.own_num.1 h2
  exact ⟨(by simp), ⟨k0, k1, k2⟩⟩

/-- the marked data -/
def GOp.mark (t : GOp) (k : Nat) : GOp := ⟨(((k : Nat) : Int)), (((k + 1 : Nat) : Int)), (((k + 2 : Nat) : Int))⟩
/-- how many marks -/
def GOp.cnt (t : GOp) : Nat := 3
/-- the same, but for its own numbers and texts -/
def GOp.mark0 (t : GOp) (k : Nat) : GOp := ⟨t.code, t.n, t.m⟩
def GOp.cnt0 (t : GOp) : Nat := 0
theorem GOp.cnt_eq (t : GOp) : t.cnt = 3 := by
  simp only [GOp.cnt]
theorem GOp.mark_code (t : GOp) (k : Nat) : (t.mark k).code = (((k : Nat) : Int)) := by
  rfl
theorem GOp.mark_n (t : GOp) (k : Nat) : (t.mark k).n = (((k + 1 : Nat) : Int)) := by
  rfl
theorem GOp.mark_m (t : GOp) (k : Nat) : (t.mark k).m = (((k + 2 : Nat) : Int)) := by
  rfl
theorem GOp.mark_cells (t : GOp) (K : Nat)  (v0 : Int) (v1 : Int) (v2 : Int) (e0 : v0 = ((K : Nat) : Int)) (e1 : v1 = ((K + 1 : Nat) : Int)) (e2 : v2 = ((K + 2 : Nat) : Int)) : ([.int .i64 v0, .int .i64 v1, .int .i64 v2] : List Value) = [.int .i64 (t.mark K).code, .int .i64 (t.mark K).n, .int .i64 (t.mark K).m] := by
  subst e0
  subst e1
  subst e2
  simp only [GOp.mark_code, GOp.mark_n, GOp.mark_m, markL_length]
  try (simp only [Nat.add_assoc, Nat.add_comm, Nat.add_left_comm])

theorem GOp.Ow_mark {w : World} {S : Nat → Prop} {t : GOp} {K : Nat} (hK : K + t.cnt ≤ 4611686018427387904) : GOp.Ow w S (t.mark K) := by
  rw [GOp.cnt_eq] at hK
  unfold GOp.Ow
  exact ⟨(by simp only [GOp.mark_code, GOp.mark_n, GOp.mark_m]; exact wfNat _ (by first | omega | omega)), (by simp only [GOp.mark_code, GOp.mark_n, GOp.mark_m]; exact wfNat _ (by first | omega | omega)), (by simp only [GOp.mark_code, GOp.mark_n, GOp.mark_m]; exact wfNat _ (by first | omega | omega))⟩

theorem GOp.cnt_bulk (t : GOp) : t.cnt ≤ 16 * (1 + t.bulk) := by
  have hb := t.bulk_eq
  rw [GOp.cnt_eq]; omega
theorem GOp.cnts_bulk (l : List GOp) : cntL GOp.cnt l ≤ 16 * bulkL GOp.bulk l := cntL_le _ _ l fun x _ => GOp.cnt_bulk x
set_option maxRecDepth 20000 in
theorem markOpS (l : List GOp) (A : Option Addr) (c k : Nat) (x : Int) (S : Nat → Prop) (w : World) (hx : x = k) (h0 : 0 < k) (hk : k + cntL GOp.cnt l ≤ 4611686018427387904) (hS : ∀ b, S b → b < w.heap.size) (hs : Osl w S 3 A c (l.map GOp.toD)) :
    Calls Try.prog 105 #[.slice A l.length c, .int .i64 x] w fun e w' => e = .returned (.int .i64 ((k + cntL GOp.cnt l : Nat) : Int)) ∧ Osl w' S 3 A c ((markL GOp.mark GOp.cnt l k).map GOp.toD) ∧ Touch S w w' := by
  subst hx
  have hlen : l.length ≤ 9223372036854775807 := by simpa using hs.sl.len
  have HS := Lib.hid hS
  have S0 := Lib.hid hs
  clear hs hS
  go_enter Try.func105, Try.ntmps105
  go_wp2_with fail
  go_loopw [1, 5] (fun v i wr => ∃ (j : Nat), j ≤ l.length ∧ i = .int .i64 j ∧ v = .int .i64 ((k + cntL GOp.cnt (l.take j) : Nat) : Int) ∧ Hid (Osl wr S 3 A c ((markTo GOp.mark GOp.cnt l k j).map GOp.toD)) ∧ Hid (Touch S w wr)) (fun _ i _ => l.length - (intOf i).toNat)
  case atStart => exact ⟨0, by omega, by go_num, by simp [cntL], Lib.hid (by rw [markTo_zero]; exact S0.out), Lib.hid (Touch.refl _ _)⟩
  case round =>
    obtain ⟨j, hj, rfl, ev, HO, HT⟩ := hrel
    obtain ⟨K, hK⟩ : ∃ K, K = k + cntL GOp.cnt (l.take j) := ⟨_, rfl⟩
    rw [← hK] at ev
    subst ev
    by_cases hlt : j < l.length
    · obtain ⟨b, T, cs, rfl, hSb, hTb, hf0, hTS, hcl, hc, hd, hput⟩ := HO.out.focus j (by rw [List.length_map, markTo_length _ _ _ _ _ hj]; exact hlt)
      rw [List.getElem_map, markTo_get _ _ _ _ _ hlt] at hd
      obtain ⟨rfl, how⟩ := GOp.own_inv hd
      have x0 : wr.cell? ⟨b, j * 3, none⟩ = some (.int .i64 l[j].code) := by simpa using hc 0 _ rfl
      have x1 : wr.cell? ⟨b, j * 3 + 1, none⟩ = some (.int .i64 l[j].n) := by simpa using hc 1 _ rfl
      have x2 : wr.cell? ⟨b, j * 3 + 2, none⟩ = some (.int .i64 l[j].m) := by simpa using hc 2 _ rfl
      have hKk : 0 < K := by omega
      have hKb : K + GOp.cnt l[j] ≤ 4611686018427387904 := by have := cntL_take_le GOp.cnt l j hlt; omega
      have HKB := Lib.hid hKb
      rw [GOp.cnt_eq] at hKb
      have HK := Lib.hid hK
      have hbl : b < wr.heap.size := Nat.lt_of_lt_of_le (HS.out b hSb) HT.out.size
      have M0 := Lib.hid (MSt.start (w := w) (wr := wr) (S := S) (T := T) (b := b) (lo := j * 3) (hi := j * 3 + 3) hf0 HT.out)
      have HPUT := Lib.hid hput
      clear hc hd hcl hput hK
      have HM := Lib.hid (((((((M0.out).set hSb (j * 3) (by omega) (by omega) (.int .i64 ((K : Int))))).set hSb (j * 3 + 1) (by omega) (by omega) (.int .i64 ((K : Int) + 1)))).set hSb (j * 3 + 2) (by omega) (by omega) (.int .i64 ((K : Int) + 1 + 1))))
      have HOW := Lib.hid (GOp.Ow_mark (w := (((((wr.setCell ⟨b, j * 3, none⟩ (.int .i64 ((K : Int))))).setCell ⟨b, j * 3 + 1, none⟩ (.int .i64 ((K : Int) + 1)))).setCell ⟨b, j * 3 + 2, none⟩ (.int .i64 ((K : Int) + 1 + 1)))) (S := T) (t := l[j]) (K := K) HKB.out )
      have HC := Lib.hid (GOp.mark_cells l[j] K  ((K : Int)) ((K : Int) + 1) ((K : Int) + 1 + 1) (by omega) (by omega) (by omega))
      have HP := Lib.hid (HPUT.out (((((wr.setCell ⟨b, j * 3, none⟩ (.int .i64 ((K : Int))))).setCell ⟨b, j * 3 + 1, none⟩ (.int .i64 ((K : Int) + 1)))).setCell ⟨b, j * 3 + 2, none⟩ (.int .i64 ((K : Int) + 1 + 1))) (GOp.mark l[j] K).toD [.int .i64 ((K : Int)), .int .i64 ((K : Int) + 1), .int .i64 ((K : Int) + 1 + 1)] (HM.out.blk2 HS.out HT.out.size) HM.out.out HM.out.fr rfl
        (fun q v hv => by
          match q, hv with
          | 0, hv =>
            obtain rfl := Option.some.inj hv
            exact ((cell_ne (by omega)).trans ((cell_ne (by omega)).trans (World.cell?_setCell_same _ _ _ x0)))
          | 1, hv =>
            obtain rfl := Option.some.inj hv
            exact ((cell_ne (by omega)).trans (World.cell?_setCell_same _ _ _ ((cell_ne (by omega)).trans x1)))
          | 2, hv =>
            obtain rfl := Option.some.inj hv
            exact (World.cell?_setCell_same _ _ _ ((cell_ne (by omega)).trans ((cell_ne (by omega)).trans x2)))
          | q + 3, hv => cases hv)
        (by rw [HC.out]; exact GOp.own_mk HOW.out))
      have HTF := Lib.hid HM.out.touch
      clear HOW HC HPUT
      go_wp2_with fail
      have hKe := HK.out
      clear HK
      go_roundw
      case rel => exact ⟨j + 1, by omega, by go_num, by have := cntL_take_succ GOp.cnt l j hlt; have := GOp.cnt_eq l[j]; congr 1; omega, Lib.hid (by have e := markTo_set GOp.mark GOp.cnt l k j hlt; rw [← hKe] at e; rw [← e, List.map_set]; exact HP.out), HTF⟩
      case measure => simp [intOf]; omega
    · have hjl : j = l.length := by omega
      have Hj := Lib.hid hjl
      have HK := Lib.hid hK
      clear hjl hK
      go_wp2_with fail
      go_ret
      exact ⟨ret_int (by rw [HK.out, Hj.out, List.take_length]), by have := HO.out; rw [Hj.out, markTo_all] at this; exact this, HT.out⟩

theorem markOpS' (l : List GOp) (A : Option Addr) (c k : Nat) (x : Int) (S : Nat → Prop) (w : World) (hx : x = k) (h0 : 0 < k) (hk : k + cntL GOp.cnt l ≤ 4611686018427387904) (hS : ∀ b, S b → b < w.heap.size) (hs : Osl w S 3 A c (l.map GOp.toD)) :
    Calls Try.prog 105 #[.slice A l.length c, .int .i64 x] w fun e w' => e = .returned (.int .i64 ((k + cntL GOp.cnt l : Nat) : Int)) ∧ Osl w' S 3 A c ((markL GOp.mark GOp.cnt l k).map GOp.toD) ∧ Touch S w w' :=
  markOpS l A c k x S w hx h0 hk hS hs



end Go.Proofs.Ytjcgfbjdailgoaa
