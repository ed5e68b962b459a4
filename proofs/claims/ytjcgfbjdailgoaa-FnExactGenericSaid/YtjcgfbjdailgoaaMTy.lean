/- Marks on what is owned: the Go struct Ty. Conditions: none but a bound on the numbers. -/
import Derived.Test.YtjcgfbjdailgoaaGTy
import Derived.Test.YtjcgfbjdailgoaaInt
import Derived.Deep.RegionHeld3
namespace Go.Proofs.Ytjcgfbjdailgoaa
open Go.RowKit
set_option linter.unusedVariables false
set_option linter.unusedSimpArgs false
set_option maxHeartbeats 1000000

theorem GTy.own_inv {w : World} {S : Nat → Prop} {t : GTy} {cs : List Value} (h : t.toD.own w S cs) : ∃ A1 c1, cs = [.int .i64 t.op, .int .i64 t.n, .string t.s, .slice A1 t.kids.length c1] ∧ GTy.Ow w S A1 c1 t := by
  cases t with
  | mk op n s kids =>
  simp only [GTy.toD, GTy.toDs_map] at h
  rw [D.own_agg] at h
  simp only [D.ownF] at h
  obtain ⟨U0, V0, x0, r0, a0, b0, e0, h0, U1, V1, x1, r1, a1, b1, e1, h1, U2, V2, x2, r2, a2, b2, e2, h2, U3, V3, x3, r3, a3, b3, e3, h3, ee⟩ := h
  subst ee
  subst e3
  subst e2
  subst e1
  subst e0
  obtain ⟨rfl, k0⟩ := D.own_num.1 h0
  obtain ⟨rfl, k1⟩ := D.own_num.1 h1
  obtain ⟨rfl, k2⟩ := D.own_str.1 h2
  obtain ⟨B1, d1, rfl, k3⟩ := D.own_sl.1 h3
  exact ⟨B1, d1, (by simp [GTy.op, GTy.n, GTy.s, GTy.kids]), ⟨k0, k1, k2, k3.keep fun x hx => ⟨b0 x (b1 x (b2 x ((a3 x hx).1))), rfl⟩⟩⟩

mutual
/-- the marked tree -/
def GTy.mark : GTy → Nat → GTy | .mk op n s kids, k => .mk (((k : Nat) : Int)) (((k + 1 : Nat) : Int)) (markT (k + 2)) (GTy.marks kids (k + 3))
def GTy.marks : List GTy → Nat → List GTy | [], _ => [] | t :: r, k => t.mark k :: GTy.marks r (k + t.cnt)
/-- how many marks -/
def GTy.cnt : GTy → Nat | .mk op n s kids => 3 + GTy.cnts kids
def GTy.cnts : List GTy → Nat | [] => 0 | t :: r => t.cnt + GTy.cnts r
end
theorem GTy.marks_eq : ∀ (l : List GTy) (k : Nat), GTy.marks l k = markL GTy.mark GTy.cnt l k
  | [], _ => by simp only [GTy.marks, markL]
  | t :: r, k => by simp only [GTy.marks, markL, GTy.marks_eq r]
theorem GTy.cnts_eq : ∀ (l : List GTy), GTy.cnts l = cntL GTy.cnt l
  | [] => by simp only [GTy.cnts, cntL]
  | t :: r => by simp only [GTy.cnts, cntL, GTy.cnts_eq r]
/-- the same, but for its own numbers and texts -/
def GTy.mark0 (t : GTy) (k : Nat) : GTy := .mk t.op t.n t.s (markL GTy.mark GTy.cnt t.kids (k))
def GTy.cnt0 (t : GTy) : Nat := cntL GTy.cnt t.kids
theorem GTy.cnt_eq (t : GTy) : t.cnt = 3 + cntL GTy.cnt t.kids := by
  cases t; simp only [GTy.cnt, GTy.op, GTy.n, GTy.s, GTy.kids, GTy.cnts_eq]
theorem GTy.mark_op (t : GTy) (k : Nat) : (t.mark k).op = (((k : Nat) : Int)) := by
  cases t; simp only [GTy.mark, GTy.marks_eq, GTy.op, GTy.n, GTy.s, GTy.kids]
theorem GTy.mark_n (t : GTy) (k : Nat) : (t.mark k).n = (((k + 1 : Nat) : Int)) := by
  cases t; simp only [GTy.mark, GTy.marks_eq, GTy.op, GTy.n, GTy.s, GTy.kids]
theorem GTy.mark_s (t : GTy) (k : Nat) : (t.mark k).s = (markT (k + 2)) := by
  cases t; simp only [GTy.mark, GTy.marks_eq, GTy.op, GTy.n, GTy.s, GTy.kids]
theorem GTy.mark_kids (t : GTy) (k : Nat) : (t.mark k).kids = (markL GTy.mark GTy.cnt t.kids (k + 3)) := by
  cases t; simp only [GTy.mark, GTy.marks_eq, GTy.op, GTy.n, GTy.s, GTy.kids]
theorem GTy.mark_cells (t : GTy) (K : Nat) (A1 : Option Addr) (c1 : Nat) (v0 : Int) (v1 : Int) (e0 : v0 = ((K : Nat) : Int)) (e1 : v1 = ((K + 1 : Nat) : Int)) : ([.int .i64 v0, .int .i64 v1, .string (markT (K + 2)), .slice A1 t.kids.length c1] : List Value) = [.int .i64 (t.mark K).op, .int .i64 (t.mark K).n, .string (t.mark K).s, .slice A1 (t.mark K).kids.length c1] := by
  subst e0
  subst e1
  simp only [GTy.mark_op, GTy.mark_n, GTy.mark_s, GTy.mark_kids, markL_length]
  try (simp only [Nat.add_assoc, Nat.add_comm, Nat.add_left_comm])

theorem GTy.Ow_mark {w : World} {S : Nat → Prop} {t : GTy} {K : Nat} {A1 : Option Addr} {c1 : Nat} (hK : K + t.cnt ≤ 4611686018427387904)  (o1 : Osl w S 4 A1 c1 ((markL GTy.mark GTy.cnt t.kids (K + 3)).map GTy.toD)) : GTy.Ow w S A1 c1 (t.mark K) := by
  rw [GTy.cnt_eq] at hK
  unfold GTy.Ow
  exact ⟨(by simp only [GTy.mark_op, GTy.mark_n, GTy.mark_s, GTy.mark_kids]; exact wfNat _ (by first | omega | omega)), (by simp only [GTy.mark_op, GTy.mark_n, GTy.mark_s, GTy.mark_kids]; exact wfNat _ (by first | omega | omega)), (by simp only [GTy.mark_op, GTy.mark_n, GTy.mark_s, GTy.mark_kids]; have := markT_size (K + 2) (by first | omega | omega); unfold maxLen; omega), (by simp only [GTy.mark_op, GTy.mark_n, GTy.mark_s, GTy.mark_kids]; first | exact o1 | (rw [show K + 3 = K + 3 from by first | omega | omega]; exact o1))⟩

theorem GTy.cnt_bulk : ∀ t : GTy, t.cnt ≤ 16 * (1 + t.bulk) := by
  have H : ∀ kk : Nat, ∀ t : GTy, t.bulk < kk → t.cnt ≤ 16 * (1 + t.bulk) := by
    intro kk; induction kk with
    | zero => intro t h; omega
    | succ kk ih =>
      intro t h
      have hb := t.bulk_eq
      have := cntL_le GTy.cnt GTy.bulk t.kids (fun x hx => ih x (by have := bulkL_mem GTy.bulk t.kids x hx; omega))
      rw [GTy.cnt_eq]; omega
  exact fun t => H (t.bulk + 1) t (by omega)
theorem GTy.cnts_bulk (l : List GTy) : cntL GTy.cnt l ≤ 16 * bulkL GTy.bulk l := cntL_le _ _ l fun x _ => GTy.cnt_bulk x
theorem GTy.cnt0_le (t : GTy) : t.cnt0 ≤ t.cnt := by
  rw [GTy.cnt_eq]; simp only [GTy.cnt0]; omega
set_option maxRecDepth 20000 in
theorem markTyS (kk : Nat) : ∀ (l : List GTy) (A : Option Addr) (c k : Nat) (x : Int) (S : Nat → Prop) (w : World), bulkL GTy.bulk l < kk → x = k → 0 < k → k + cntL GTy.cnt l ≤ 4611686018427387904 → (∀ b, S b → b < w.heap.size) → Osl w S 4 A c (l.map GTy.toD) →
    Calls Try.prog 91 #[.slice A l.length c, .int .i64 x] w fun e w' => e = .returned (.int .i64 ((k + cntL GTy.cnt l : Nat) : Int)) ∧ Osl w' S 4 A c ((markL GTy.mark GTy.cnt l k).map GTy.toD) ∧ Touch S w w' := by
  induction kk with
  | zero => intro l A c k x S w h; omega
  | succ kk ih =>
    intro l A c k x S w hkk hx h0 hk hS hs
    have HB := Lib.hid (fun (j : Nat) (h : j < l.length) => (show bulkL GTy.bulk (l[j]).kids < kk by have := bulkL_mem GTy.bulk l _ (List.getElem_mem h); have := (l[j]).bulk_eq; omega))
    clear hkk
    subst hx
    have hlen : l.length ≤ 9223372036854775807 := by simpa using hs.sl.len
    have HS := Lib.hid hS
    have S0 := Lib.hid hs
    clear hs hS
    go_enter Try.func91, Try.ntmps91
    go_wp2_with fail
    go_loopw [1, 5] (fun v i wr => ∃ (j : Nat), j ≤ l.length ∧ i = .int .i64 j ∧ v = .int .i64 ((k + cntL GTy.cnt (l.take j) : Nat) : Int) ∧ Hid (Osl wr S 4 A c ((markTo GTy.mark GTy.cnt l k j).map GTy.toD)) ∧ Hid (Touch S w wr)) (fun _ i _ => l.length - (intOf i).toNat)
    case atStart => exact ⟨0, by omega, by go_num, by simp [cntL], Lib.hid (by rw [markTo_zero]; exact S0.out), Lib.hid (Touch.refl _ _)⟩
    case round =>
      obtain ⟨j, hj, rfl, ev, HO, HT⟩ := hrel
      obtain ⟨K, hK⟩ : ∃ K, K = k + cntL GTy.cnt (l.take j) := ⟨_, rfl⟩
      rw [← hK] at ev
      subst ev
      by_cases hlt : j < l.length
      · obtain ⟨b, T, cs, rfl, hSb, hTb, hf0, hTS, hcl, hc, hd, hput⟩ := HO.out.focus j (by rw [List.length_map, markTo_length _ _ _ _ _ hj]; exact hlt)
        rw [List.getElem_map, markTo_get _ _ _ _ _ hlt] at hd
        obtain ⟨A1, c1, rfl, how⟩ := GTy.own_inv hd
        have x0 : wr.cell? ⟨b, j * 4, none⟩ = some (.int .i64 l[j].op) := by simpa using hc 0 _ rfl
        have x1 : wr.cell? ⟨b, j * 4 + 1, none⟩ = some (.int .i64 l[j].n) := by simpa using hc 1 _ rfl
        have x2 : wr.cell? ⟨b, j * 4 + 2, none⟩ = some (.string l[j].s) := by simpa using hc 2 _ rfl
        have x3 : wr.cell? ⟨b, j * 4 + 3, none⟩ = some (.slice A1 l[j].kids.length c1) := by simpa using hc 3 _ rfl
        have hKk : 0 < K := by omega
        have hKb : K + GTy.cnt l[j] ≤ 4611686018427387904 := by have := cntL_take_le GTy.cnt l j hlt; omega
        have HKB := Lib.hid hKb
        rw [GTy.cnt_eq] at hKb
        have HK := Lib.hid hK
        have hbl : b < wr.heap.size := Nat.lt_of_lt_of_le (HS.out b hSb) HT.out.size
        have M0 := Lib.hid (MSt.start (w := w) (wr := wr) (S := S) (T := T) (b := b) (lo := j * 4) (hi := j * 4 + 4) hf0 HT.out)
        obtain ⟨-, -, -, o1⟩ := how
        have O1_0 := Lib.hid o1
        clear o1
        have HPUT := Lib.hid hput
        clear hc hd hcl hput hK
        go_wp2_with fail
        refine (markTextI _ (K + 2) (by omega) _ (by omega) (by omega)).mono ?_
        rintro e w1 ⟨rfl, hb1⟩
        have x0_1 : w1.cell? ⟨b, j * 4, none⟩ = some (.int .i64 ((K : Int))) := (hb1.cell (p := ⟨b, j * 4, none⟩) (Nat.lt_of_lt_of_le hbl (((((M0.out).set hSb (j * 4) (by omega) (by omega) (.int .i64 ((K : Int))))).set hSb (j * 4 + 1) (by omega) (by omega) (.int .i64 ((K : Int) + 1)))).size)).trans ((cell_ne (by omega)).trans (World.cell?_setCell_same _ _ _ x0))
        have x1_1 : w1.cell? ⟨b, j * 4 + 1, none⟩ = some (.int .i64 ((K : Int) + 1)) := (hb1.cell (p := ⟨b, j * 4 + 1, none⟩) (Nat.lt_of_lt_of_le hbl (((((M0.out).set hSb (j * 4) (by omega) (by omega) (.int .i64 ((K : Int))))).set hSb (j * 4 + 1) (by omega) (by omega) (.int .i64 ((K : Int) + 1)))).size)).trans (World.cell?_setCell_same _ _ _ ((cell_ne (by omega)).trans x1))
        have x2_1 : w1.cell? ⟨b, j * 4 + 2, none⟩ = some (.string l[j].s) := (hb1.cell (p := ⟨b, j * 4 + 2, none⟩) (Nat.lt_of_lt_of_le hbl (((((M0.out).set hSb (j * 4) (by omega) (by omega) (.int .i64 ((K : Int))))).set hSb (j * 4 + 1) (by omega) (by omega) (.int .i64 ((K : Int) + 1)))).size)).trans ((cell_ne (by omega)).trans ((cell_ne (by omega)).trans x2))
        have x3_1 : w1.cell? ⟨b, j * 4 + 3, none⟩ = some (.slice A1 l[j].kids.length c1) := (hb1.cell (p := ⟨b, j * 4 + 3, none⟩) (Nat.lt_of_lt_of_le hbl (((((M0.out).set hSb (j * 4) (by omega) (by omega) (.int .i64 ((K : Int))))).set hSb (j * 4 + 1) (by omega) (by omega) (.int .i64 ((K : Int) + 1)))).size)).trans ((cell_ne (by omega)).trans ((cell_ne (by omega)).trans x3))
        have M1 := Lib.hid (MSt.below (((((M0.out).set hSb (j * 4) (by omega) (by omega) (.int .i64 ((K : Int))))).set hSb (j * 4 + 1) (by omega) (by omega) (.int .i64 ((K : Int) + 1)))) hb1 hbl HS.out)
        have hf1 := M1.out.fr
        have O1_1 := Lib.hid (Osl.belowS ((Osl.set (o := j * 4 + 1) ((Osl.set (o := j * 4) (O1_0.out) hTb (.int .i64 ((K : Int))))) hTb (.int .i64 ((K : Int) + 1)))) hb1 (fun q hq => Nat.lt_of_lt_of_le (HS.out q (hTS q ((fun _ h => h) q hq))) (((((M0.out).set hSb (j * 4) (by omega) (by omega) (.int .i64 ((K : Int))))).set hSb (j * 4 + 1) (by omega) (by omega) (.int .i64 ((K : Int) + 1)))).touch.size))
        clear x0 x1 x2 x3 hf0 hb1
        have OW2 := Lib.hid (Osl.set (o := j * 4 + 2) (O1_1.out) hTb (.string (markT (K + 2))))
        have LT2 := Lib.hid (show ∀ q, T q → q < (w1.setCell ⟨b, j * 4 + 2, none⟩ (.string (markT (K + 2)))).heap.size from (fun q hq => Nat.lt_of_lt_of_le (HS.out q (hTS q ((fun _ h => h) q hq))) (Nat.le_trans (((M1.out).set hSb (j * 4 + 2) (by omega) (by omega) (.string (markT (K + 2))))).touch.size (Nat.le_refl _))))
        go_wp2_with fail
        refine (ih l[j].kids A1 c1 (K + 3) _ T _ (HB.out j hlt) (by omega) (by omega) (by omega) LT2.out OW2.out).mono ?_
        rintro e w2 ⟨rfl, ho2, ht2⟩
        have Q2 := Lib.hid ho2
        clear ho2
        have x0_2 : w2.cell? ⟨b, j * 4, none⟩ = some (.int .i64 ((K : Int))) := (World.cell?_of_block (ht2.block b (Nat.lt_of_lt_of_le hbl (((M1.out).set hSb (j * 4 + 2) (by omega) (by omega) (.string (markT (K + 2))))).size) hTb)).trans ((cell_ne (by omega)).trans x0_1)
        have x1_2 : w2.cell? ⟨b, j * 4 + 1, none⟩ = some (.int .i64 ((K : Int) + 1)) := (World.cell?_of_block (ht2.block b (Nat.lt_of_lt_of_le hbl (((M1.out).set hSb (j * 4 + 2) (by omega) (by omega) (.string (markT (K + 2))))).size) hTb)).trans ((cell_ne (by omega)).trans x1_1)
        have x2_2 : w2.cell? ⟨b, j * 4 + 2, none⟩ = some (.string (markT (K + 2))) := (World.cell?_of_block (ht2.block b (Nat.lt_of_lt_of_le hbl (((M1.out).set hSb (j * 4 + 2) (by omega) (by omega) (.string (markT (K + 2))))).size) hTb)).trans (World.cell?_setCell_same _ _ _ x2_1)
        have x3_2 : w2.cell? ⟨b, j * 4 + 3, none⟩ = some (.slice A1 l[j].kids.length c1) := (World.cell?_of_block (ht2.block b (Nat.lt_of_lt_of_le hbl (((M1.out).set hSb (j * 4 + 2) (by omega) (by omega) (.string (markT (K + 2))))).size) hTb)).trans ((cell_ne (by omega)).trans x3_1)
        have M2 := Lib.hid (MSt.mark (((M1.out).set hSb (j * 4 + 2) (by omega) (by omega) (.string (markT (K + 2))))) ht2 (fun _ h => h) hTS hTb hbl HS.out)
        have hf2 := M2.out.fr
        clear x0_1 x1_1 x2_1 x3_1 hf1 ht2
        obtain ⟨K2, hK2⟩ : ∃ K2 : Nat, K2 = K + 3 + cntL GTy.cnt l[j].kids := ⟨_, rfl⟩
        rw [← hK2]
        have HM := Lib.hid (M2.out)
        have HOW := Lib.hid (GTy.Ow_mark (w := w2) (S := T) (t := l[j]) (K := K) HKB.out Q2.out)
        have HC := Lib.hid (GTy.mark_cells l[j] K A1 c1 ((K : Int)) ((K : Int) + 1) (by omega) (by omega))
        have HP := Lib.hid (HPUT.out w2 (GTy.mark l[j] K).toD [.int .i64 ((K : Int)), .int .i64 ((K : Int) + 1), .string (markT (K + 2)), .slice A1 l[j].kids.length c1] (HM.out.blk2 HS.out HT.out.size) HM.out.out HM.out.fr rfl
          (fun q v hv => by
            match q, hv with
            | 0, hv =>
              obtain rfl := Option.some.inj hv
              exact x0_2
            | 1, hv =>
              obtain rfl := Option.some.inj hv
              exact x1_2
            | 2, hv =>
              obtain rfl := Option.some.inj hv
              exact x2_2
            | 3, hv =>
              obtain rfl := Option.some.inj hv
              exact x3_2
            | q + 4, hv => cases hv)
          (by rw [HC.out]; exact GTy.own_mk HOW.out))
        have HTF := Lib.hid HM.out.touch
        have hKe := HK.out
        clear HK HOW HC HPUT
        go_wp2_with fail
        go_roundw
        case rel => exact ⟨j + 1, by omega, by go_num, by have := cntL_take_succ GTy.cnt l j hlt; have := GTy.cnt_eq l[j]; congr 1; omega, Lib.hid (by have e := markTo_set GTy.mark GTy.cnt l k j hlt; rw [← hKe] at e; rw [← e, List.map_set]; exact HP.out), HTF⟩
        case measure => simp [intOf]; omega
      · have hjl : j = l.length := by omega
        have Hj := Lib.hid hjl
        have HK := Lib.hid hK
        clear hjl hK
        go_wp2_with fail
        go_ret
        exact ⟨ret_int (by rw [HK.out, Hj.out, List.take_length]), by have := HO.out; rw [Hj.out, markTo_all] at this; exact this, HT.out⟩

theorem markTyS' (l : List GTy) (A : Option Addr) (c k : Nat) (x : Int) (S : Nat → Prop) (w : World) (hx : x = k) (h0 : 0 < k) (hk : k + cntL GTy.cnt l ≤ 4611686018427387904) (hS : ∀ b, S b → b < w.heap.size) (hs : Osl w S 4 A c (l.map GTy.toD)) :
    Calls Try.prog 91 #[.slice A l.length c, .int .i64 x] w fun e w' => e = .returned (.int .i64 ((k + cntL GTy.cnt l : Nat) : Int)) ∧ Osl w' S 4 A c ((markL GTy.mark GTy.cnt l k).map GTy.toD) ∧ Touch S w w' :=
  markTyS (bulkL GTy.bulk l + 1) l A c k x S w (by omega) hx h0 hk hS hs



theorem markTy0 (t : GTy) (A1 : Option Addr) (c1 : Nat) (k : Nat) (x : Int) (S : Nat → Prop) (w : World) (hx : x = k) (h0 : 0 < k) (hk : k + t.cnt0 ≤ 4611686018427387904) (hS : ∀ b, S b → b < w.heap.size) (how : GTy.Ow w S A1 c1 t) :
    Calls Try.prog 48 #[.agg #[.int .i64 t.op, .int .i64 t.n, .string t.s, .slice A1 t.kids.length c1], .int .i64 x] w fun e w' => e = .returned (.int .i64 ((k + t.cnt0 : Nat) : Int)) ∧ GTy.Ow w' S A1 c1 (t.mark0 k) ∧ Touch S w w' := by
  subst hx
  unfold GTy.cnt0 at hk
  obtain ⟨h1, h2, h3, o_kids⟩ := how
  have HS := Lib.hid hS
  have T0 := Lib.hid (Below.touch (S := S) (show Below w.heap.size w (w.alloc (.cells #[.int .i64 t.op, .int .i64 t.n, .string t.s, .slice A1 t.kids.length c1] 36)) from (Below.refl _ _).alloc (Nat.le_refl _) _) hS)
  have R0 := Lib.hid (Row.new w 36 #[.int .i64 t.op, .int .i64 t.n, .string t.s, .slice A1 t.kids.length c1])
  have O_kids_0 := Lib.hid (o_kids.keep (S' := S) (w' := w.alloc (.cells #[.int .i64 t.op, .int .i64 t.n, .string t.s, .slice A1 t.kids.length c1] 36)) fun q hq => ⟨hq, Below.heap_alloc _ _ _ (hS q hq)⟩)
  clear hS o_kids
  go_enter Try.func48, Try.ntmps48
  go_wp2_with fail
  refine (markTyS' t.kids A1 c1 (k) _ S _ (by omega) (by omega) (by omega) (fun q hq => Nat.lt_of_lt_of_le (HS.out q hq) T0.out.size) O_kids_0.out).mono ?_
  rintro e w1 ⟨rfl, ho1, ht1⟩
  have O_kids_1 := Lib.hid ho1
  have R1 := Lib.hid (show Row w1 w.heap.size 36 #[.int .i64 t.op, .int .i64 t.n, .string t.s, .slice A1 t.kids.length c1] from (ht1.block w.heap.size R0.out.lt (fun e => Nat.lt_irrefl _ (HS.out _ e))).trans R0.out)
  have T1 := Lib.hid (T0.out.trans (ht1.mono (fun q hq => hq) (fun q hq => Nat.lt_of_lt_of_le (HS.out q hq) T0.out.size)))
  have hc1 := fun i => R1.out.cell i
  clear ho1 ht1
  go_wp2_with fail
  go_ret
  exact ⟨ret_int (by unfold GTy.cnt0; omega), ⟨h1, h2, h3, O_kids_1.out⟩, T1.out⟩


end Go.Proofs.Ytjcgfbjdailgoaa
