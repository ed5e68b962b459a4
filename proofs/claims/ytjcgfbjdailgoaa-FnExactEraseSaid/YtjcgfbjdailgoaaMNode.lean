/- Marks on what is owned: the Go struct Node. Conditions: none but a bound on the numbers. -/
import Derived.Test.YtjcgfbjdailgoaaGNode
import Derived.Test.YtjcgfbjdailgoaaInt
import Derived.Deep.RegionHeld3
namespace Go.Proofs.Ytjcgfbjdailgoaa
open Go.RowKit
set_option linter.unusedVariables false
set_option linter.unusedSimpArgs false
set_option maxHeartbeats 1000000

theorem GNode.own_inv {w : World} {S : Nat → Prop} {t : GNode} {cs : List Value} (h : t.toD.own w S cs) : ∃ A1 c1, cs = [.int .i64 t.op, .int .i64 t.n, .string t.s, .string t.t, .slice A1 t.kids.length c1] ∧ GNode.Ow w S A1 c1 t := by
  cases t with
  | mk op n s t kids =>
  simp only [GNode.toD, GNode.toDs_map] at h
  rw [D.own_agg] at h
  simp only [D.ownF] at h
  obtain ⟨U0, V0, x0, r0, a0, b0, e0, h0, U1, V1, x1, r1, a1, b1, e1, h1, U2, V2, x2, r2, a2, b2, e2, h2, U3, V3, x3, r3, a3, b3, e3, h3, U4, V4, x4, r4, a4, b4, e4, h4, ee⟩ := h
  subst ee
  subst e4
  subst e3
  subst e2
  subst e1
  subst e0
  obtain ⟨rfl, k0⟩ := D.own_num.1 h0
  obtain ⟨rfl, k1⟩ := D.own_num.1 h1
  obtain ⟨rfl, k2⟩ := D.own_str.1 h2
  obtain ⟨rfl, k3⟩ := D.own_str.1 h3
  obtain ⟨B1, d1, rfl, k4⟩ := D.own_sl.1 h4
  exact ⟨B1, d1, (by simp [GNode.op, GNode.n, GNode.s, GNode.t, GNode.kids]), ⟨k0, k1, k2, k3, k4.keep fun x hx => ⟨b0 x (b1 x (b2 x (b3 x ((a4 x hx).1)))), rfl⟩⟩⟩

mutual
/-- the marked tree -/
def GNode.mark : GNode → Nat → GNode | .mk op n s t kids, k => .mk (((k : Nat) : Int)) (((k + 1 : Nat) : Int)) (markT (k + 2)) (markT (k + 3)) (GNode.marks kids (k + 4))
def GNode.marks : List GNode → Nat → List GNode | [], _ => [] | t :: r, k => t.mark k :: GNode.marks r (k + t.cnt)
/-- how many marks -/
def GNode.cnt : GNode → Nat | .mk op n s t kids => 4 + GNode.cnts kids
def GNode.cnts : List GNode → Nat | [] => 0 | t :: r => t.cnt + GNode.cnts r
end
theorem GNode.marks_eq : ∀ (l : List GNode) (k : Nat), GNode.marks l k = markL GNode.mark GNode.cnt l k
  | [], _ => by simp only [GNode.marks, markL]
  | t :: r, k => by simp only [GNode.marks, markL, GNode.marks_eq r]
theorem GNode.cnts_eq : ∀ (l : List GNode), GNode.cnts l = cntL GNode.cnt l
  | [] => by simp only [GNode.cnts, cntL]
  | t :: r => by simp only [GNode.cnts, cntL, GNode.cnts_eq r]
/-- the same, but for its own numbers and texts -/
def GNode.mark0 (t : GNode) (k : Nat) : GNode := .mk t.op t.n t.s t.t (markL GNode.mark GNode.cnt t.kids (k))
def GNode.cnt0 (t : GNode) : Nat := cntL GNode.cnt t.kids
theorem GNode.cnt_eq (t : GNode) : t.cnt = 4 + cntL GNode.cnt t.kids := by
  cases t; simp only [GNode.cnt, GNode.op, GNode.n, GNode.s, GNode.t, GNode.kids, GNode.cnts_eq]
theorem GNode.mark_op (t : GNode) (k : Nat) : (t.mark k).op = (((k : Nat) : Int)) := by
  cases t; simp only [GNode.mark, GNode.marks_eq, GNode.op, GNode.n, GNode.s, GNode.t, GNode.kids]
theorem GNode.mark_n (t : GNode) (k : Nat) : (t.mark k).n = (((k + 1 : Nat) : Int)) := by
  cases t; simp only [GNode.mark, GNode.marks_eq, GNode.op, GNode.n, GNode.s, GNode.t, GNode.kids]
theorem GNode.mark_s (t : GNode) (k : Nat) : (t.mark k).s = (markT (k + 2)) := by
  cases t; simp only [GNode.mark, GNode.marks_eq, GNode.op, GNode.n, GNode.s, GNode.t, GNode.kids]
theorem GNode.mark_t (t : GNode) (k : Nat) : (t.mark k).t = (markT (k + 3)) := by
  cases t; simp only [GNode.mark, GNode.marks_eq, GNode.op, GNode.n, GNode.s, GNode.t, GNode.kids]
theorem GNode.mark_kids (t : GNode) (k : Nat) : (t.mark k).kids = (markL GNode.mark GNode.cnt t.kids (k + 4)) := by
  cases t; simp only [GNode.mark, GNode.marks_eq, GNode.op, GNode.n, GNode.s, GNode.t, GNode.kids]
theorem GNode.mark_cells (t : GNode) (K : Nat) (A1 : Option Addr) (c1 : Nat) (v0 : Int) (v1 : Int) (e0 : v0 = ((K : Nat) : Int)) (e1 : v1 = ((K + 1 : Nat) : Int)) : ([.int .i64 v0, .int .i64 v1, .string (markT (K + 2)), .string (markT (K + 3)), .slice A1 t.kids.length c1] : List Value) = [.int .i64 (t.mark K).op, .int .i64 (t.mark K).n, .string (t.mark K).s, .string (t.mark K).t, .slice A1 (t.mark K).kids.length c1] := by
  subst e0
  subst e1
  simp only [GNode.mark_op, GNode.mark_n, GNode.mark_s, GNode.mark_t, GNode.mark_kids, markL_length]
  try (simp only [Nat.add_assoc, Nat.add_comm, Nat.add_left_comm])

theorem GNode.Ow_mark {w : World} {S : Nat → Prop} {t : GNode} {K : Nat} {A1 : Option Addr} {c1 : Nat} (hK : K + t.cnt ≤ 4611686018427387904)  (o1 : Osl w S 5 A1 c1 ((markL GNode.mark GNode.cnt t.kids (K + 4)).map GNode.toD)) : GNode.Ow w S A1 c1 (t.mark K) := by
  rw [GNode.cnt_eq] at hK
  unfold GNode.Ow
  exact ⟨(by simp only [GNode.mark_op, GNode.mark_n, GNode.mark_s, GNode.mark_t, GNode.mark_kids]; exact wfNat _ (by first | omega | omega)), (by simp only [GNode.mark_op, GNode.mark_n, GNode.mark_s, GNode.mark_t, GNode.mark_kids]; exact wfNat _ (by first | omega | omega)), (by simp only [GNode.mark_op, GNode.mark_n, GNode.mark_s, GNode.mark_t, GNode.mark_kids]; have := markT_size (K + 2) (by first | omega | omega); unfold maxLen; omega), (by simp only [GNode.mark_op, GNode.mark_n, GNode.mark_s, GNode.mark_t, GNode.mark_kids]; have := markT_size (K + 3) (by first | omega | omega); unfold maxLen; omega), (by simp only [GNode.mark_op, GNode.mark_n, GNode.mark_s, GNode.mark_t, GNode.mark_kids]; first | exact o1 | (rw [show K + 4 = K + 4 from by first | omega | omega]; exact o1))⟩

theorem GNode.cnt_bulk : ∀ t : GNode, t.cnt ≤ 16 * (1 + t.bulk) := by
  have H : ∀ kk : Nat, ∀ t : GNode, t.bulk < kk → t.cnt ≤ 16 * (1 + t.bulk) := by
    intro kk; induction kk with
    | zero => intro t h; omega
    | succ kk ih =>
      intro t h
      have hb := t.bulk_eq
      have := cntL_le GNode.cnt GNode.bulk t.kids (fun x hx => ih x (by have := bulkL_mem GNode.bulk t.kids x hx; omega))
      rw [GNode.cnt_eq]; omega
  exact fun t => H (t.bulk + 1) t (by omega)
theorem GNode.cnts_bulk (l : List GNode) : cntL GNode.cnt l ≤ 16 * bulkL GNode.bulk l := cntL_le _ _ l fun x _ => GNode.cnt_bulk x
theorem GNode.cnt0_le (t : GNode) : t.cnt0 ≤ t.cnt := by
  rw [GNode.cnt_eq]; simp only [GNode.cnt0]; omega
set_option maxRecDepth 20000 in
theorem markNodeS (kk : Nat) : ∀ (l : List GNode) (A : Option Addr) (c k : Nat) (x : Int) (S : Nat → Prop) (w : World), bulkL GNode.bulk l < kk → x = k → 0 < k → k + cntL GNode.cnt l ≤ 4611686018427387904 → (∀ b, S b → b < w.heap.size) → Osl w S 5 A c (l.map GNode.toD) →
    Calls Try.prog 80 #[.slice A l.length c, .int .i64 x] w fun e w' => e = .returned (.int .i64 ((k + cntL GNode.cnt l : Nat) : Int)) ∧ Osl w' S 5 A c ((markL GNode.mark GNode.cnt l k).map GNode.toD) ∧ Touch S w w' := by
  induction kk with
  | zero => intro l A c k x S w h; omega
  | succ kk ih =>
    intro l A c k x S w hkk hx h0 hk hS hs
    have HB := Lib.hid (fun (j : Nat) (h : j < l.length) => (show bulkL GNode.bulk (l[j]).kids < kk by have := bulkL_mem GNode.bulk l _ (List.getElem_mem h); have := (l[j]).bulk_eq; omega))
    clear hkk
    subst hx
    have hlen : l.length ≤ 9223372036854775807 := by simpa using hs.sl.len
    have HS := Lib.hid hS
    have S0 := Lib.hid hs
    clear hs hS
    go_enter Try.func80, Try.ntmps80
    go_wp2_with fail
    go_loopw [1, 5] (fun v i wr => ∃ (j : Nat), j ≤ l.length ∧ i = .int .i64 j ∧ v = .int .i64 ((k + cntL GNode.cnt (l.take j) : Nat) : Int) ∧ Hid (Osl wr S 5 A c ((markTo GNode.mark GNode.cnt l k j).map GNode.toD)) ∧ Hid (Touch S w wr)) (fun _ i _ => l.length - (intOf i).toNat)
    case atStart => exact ⟨0, by omega, by go_num, by simp [cntL], Lib.hid (by rw [markTo_zero]; exact S0.out), Lib.hid (Touch.refl _ _)⟩
    case round =>
      obtain ⟨j, hj, rfl, ev, HO, HT⟩ := hrel
      obtain ⟨K, hK⟩ : ∃ K, K = k + cntL GNode.cnt (l.take j) := ⟨_, rfl⟩
      rw [← hK] at ev
      subst ev
      by_cases hlt : j < l.length
      · obtain ⟨b, T, cs, rfl, hSb, hTb, hf0, hTS, hcl, hc, hd, hput⟩ := HO.out.focus j (by rw [List.length_map, markTo_length _ _ _ _ _ hj]; exact hlt)
        rw [List.getElem_map, markTo_get _ _ _ _ _ hlt] at hd
        obtain ⟨A1, c1, rfl, how⟩ := GNode.own_inv hd
        have x0 : wr.cell? ⟨b, j * 5, none⟩ = some (.int .i64 l[j].op) := by simpa using hc 0 _ rfl
        have x1 : wr.cell? ⟨b, j * 5 + 1, none⟩ = some (.int .i64 l[j].n) := by simpa using hc 1 _ rfl
        have x2 : wr.cell? ⟨b, j * 5 + 2, none⟩ = some (.string l[j].s) := by simpa using hc 2 _ rfl
        have x3 : wr.cell? ⟨b, j * 5 + 3, none⟩ = some (.string l[j].t) := by simpa using hc 3 _ rfl
        have x4 : wr.cell? ⟨b, j * 5 + 4, none⟩ = some (.slice A1 l[j].kids.length c1) := by simpa using hc 4 _ rfl
        have hKk : 0 < K := by omega
        have hKb : K + GNode.cnt l[j] ≤ 4611686018427387904 := by have := cntL_take_le GNode.cnt l j hlt; omega
        have HKB := Lib.hid hKb
        rw [GNode.cnt_eq] at hKb
        have HK := Lib.hid hK
        have hbl : b < wr.heap.size := Nat.lt_of_lt_of_le (HS.out b hSb) HT.out.size
        have M0 := Lib.hid (MSt.start (w := w) (wr := wr) (S := S) (T := T) (b := b) (lo := j * 5) (hi := j * 5 + 5) hf0 HT.out)
        obtain ⟨-, -, -, -, o1⟩ := how
        have O1_0 := Lib.hid o1
        clear o1
        have HPUT := Lib.hid hput
        clear hc hd hcl hput hK
        go_wp2_with fail
        refine (markTextI _ (K + 2) (by omega) _ (by omega) (by omega)).mono ?_
        rintro e w1 ⟨rfl, hb1⟩
        have x0_1 : w1.cell? ⟨b, j * 5, none⟩ = some (.int .i64 ((K : Int))) := (hb1.cell (p := ⟨b, j * 5, none⟩) (Nat.lt_of_lt_of_le hbl (((((M0.out).set hSb (j * 5) (by omega) (by omega) (.int .i64 ((K : Int))))).set hSb (j * 5 + 1) (by omega) (by omega) (.int .i64 ((K : Int) + 1)))).size)).trans ((cell_ne (by omega)).trans (World.cell?_setCell_same _ _ _ x0))
        have x1_1 : w1.cell? ⟨b, j * 5 + 1, none⟩ = some (.int .i64 ((K : Int) + 1)) := (hb1.cell (p := ⟨b, j * 5 + 1, none⟩) (Nat.lt_of_lt_of_le hbl (((((M0.out).set hSb (j * 5) (by omega) (by omega) (.int .i64 ((K : Int))))).set hSb (j * 5 + 1) (by omega) (by omega) (.int .i64 ((K : Int) + 1)))).size)).trans (World.cell?_setCell_same _ _ _ ((cell_ne (by omega)).trans x1))
        have x2_1 : w1.cell? ⟨b, j * 5 + 2, none⟩ = some (.string l[j].s) := (hb1.cell (p := ⟨b, j * 5 + 2, none⟩) (Nat.lt_of_lt_of_le hbl (((((M0.out).set hSb (j * 5) (by omega) (by omega) (.int .i64 ((K : Int))))).set hSb (j * 5 + 1) (by omega) (by omega) (.int .i64 ((K : Int) + 1)))).size)).trans ((cell_ne (by omega)).trans ((cell_ne (by omega)).trans x2))
        have x3_1 : w1.cell? ⟨b, j * 5 + 3, none⟩ = some (.string l[j].t) := (hb1.cell (p := ⟨b, j * 5 + 3, none⟩) (Nat.lt_of_lt_of_le hbl (((((M0.out).set hSb (j * 5) (by omega) (by omega) (.int .i64 ((K : Int))))).set hSb (j * 5 + 1) (by omega) (by omega) (.int .i64 ((K : Int) + 1)))).size)).trans ((cell_ne (by omega)).trans ((cell_ne (by omega)).trans x3))
        have x4_1 : w1.cell? ⟨b, j * 5 + 4, none⟩ = some (.slice A1 l[j].kids.length c1) := (hb1.cell (p := ⟨b, j * 5 + 4, none⟩) (Nat.lt_of_lt_of_le hbl (((((M0.out).set hSb (j * 5) (by omega) (by omega) (.int .i64 ((K : Int))))).set hSb (j * 5 + 1) (by omega) (by omega) (.int .i64 ((K : Int) + 1)))).size)).trans ((cell_ne (by omega)).trans ((cell_ne (by omega)).trans x4))
        have M1 := Lib.hid (MSt.below (((((M0.out).set hSb (j * 5) (by omega) (by omega) (.int .i64 ((K : Int))))).set hSb (j * 5 + 1) (by omega) (by omega) (.int .i64 ((K : Int) + 1)))) hb1 hbl HS.out)
        have hf1 := M1.out.fr
        have O1_1 := Lib.hid (Osl.belowS ((Osl.set (o := j * 5 + 1) ((Osl.set (o := j * 5) (O1_0.out) hTb (.int .i64 ((K : Int))))) hTb (.int .i64 ((K : Int) + 1)))) hb1 (fun q hq => Nat.lt_of_lt_of_le (HS.out q (hTS q ((fun _ h => h) q hq))) (((((M0.out).set hSb (j * 5) (by omega) (by omega) (.int .i64 ((K : Int))))).set hSb (j * 5 + 1) (by omega) (by omega) (.int .i64 ((K : Int) + 1)))).touch.size))
        clear x0 x1 x2 x3 x4 hf0 hb1
        go_wp2_with fail
        refine (markTextI _ (K + 3) (by omega) _ (by omega) (by omega)).mono ?_
        rintro e w2 ⟨rfl, hb2⟩
        have x0_2 : w2.cell? ⟨b, j * 5, none⟩ = some (.int .i64 ((K : Int))) := (hb2.cell (p := ⟨b, j * 5, none⟩) (Nat.lt_of_lt_of_le hbl (((M1.out).set hSb (j * 5 + 2) (by omega) (by omega) (.string (markT (K + 2))))).size)).trans ((cell_ne (by omega)).trans x0_1)
        have x1_2 : w2.cell? ⟨b, j * 5 + 1, none⟩ = some (.int .i64 ((K : Int) + 1)) := (hb2.cell (p := ⟨b, j * 5 + 1, none⟩) (Nat.lt_of_lt_of_le hbl (((M1.out).set hSb (j * 5 + 2) (by omega) (by omega) (.string (markT (K + 2))))).size)).trans ((cell_ne (by omega)).trans x1_1)
        have x2_2 : w2.cell? ⟨b, j * 5 + 2, none⟩ = some (.string (markT (K + 2))) := (hb2.cell (p := ⟨b, j * 5 + 2, none⟩) (Nat.lt_of_lt_of_le hbl (((M1.out).set hSb (j * 5 + 2) (by omega) (by omega) (.string (markT (K + 2))))).size)).trans (World.cell?_setCell_same _ _ _ x2_1)
        have x3_2 : w2.cell? ⟨b, j * 5 + 3, none⟩ = some (.string l[j].t) := (hb2.cell (p := ⟨b, j * 5 + 3, none⟩) (Nat.lt_of_lt_of_le hbl (((M1.out).set hSb (j * 5 + 2) (by omega) (by omega) (.string (markT (K + 2))))).size)).trans ((cell_ne (by omega)).trans x3_1)
        have x4_2 : w2.cell? ⟨b, j * 5 + 4, none⟩ = some (.slice A1 l[j].kids.length c1) := (hb2.cell (p := ⟨b, j * 5 + 4, none⟩) (Nat.lt_of_lt_of_le hbl (((M1.out).set hSb (j * 5 + 2) (by omega) (by omega) (.string (markT (K + 2))))).size)).trans ((cell_ne (by omega)).trans x4_1)
        have M2 := Lib.hid (MSt.below (((M1.out).set hSb (j * 5 + 2) (by omega) (by omega) (.string (markT (K + 2))))) hb2 hbl HS.out)
        have hf2 := M2.out.fr
        have O1_2 := Lib.hid (Osl.belowS ((Osl.set (o := j * 5 + 2) (O1_1.out) hTb (.string (markT (K + 2))))) hb2 (fun q hq => Nat.lt_of_lt_of_le (HS.out q (hTS q ((fun _ h => h) q hq))) (((M1.out).set hSb (j * 5 + 2) (by omega) (by omega) (.string (markT (K + 2))))).touch.size))
        clear x0_1 x1_1 x2_1 x3_1 x4_1 hf1 hb2
        have OW3 := Lib.hid (Osl.set (o := j * 5 + 3) (O1_2.out) hTb (.string (markT (K + 3))))
        have LT3 := Lib.hid (show ∀ q, T q → q < (w2.setCell ⟨b, j * 5 + 3, none⟩ (.string (markT (K + 3)))).heap.size from (fun q hq => Nat.lt_of_lt_of_le (HS.out q (hTS q ((fun _ h => h) q hq))) (Nat.le_trans (((M2.out).set hSb (j * 5 + 3) (by omega) (by omega) (.string (markT (K + 3))))).touch.size (Nat.le_refl _))))
        go_wp2_with fail
        refine (ih l[j].kids A1 c1 (K + 4) _ T _ (HB.out j hlt) (by omega) (by omega) (by omega) LT3.out OW3.out).mono ?_
        rintro e w3 ⟨rfl, ho3, ht3⟩
        have Q3 := Lib.hid ho3
        clear ho3
        have x0_3 : w3.cell? ⟨b, j * 5, none⟩ = some (.int .i64 ((K : Int))) := (World.cell?_of_block (ht3.block b (Nat.lt_of_lt_of_le hbl (((M2.out).set hSb (j * 5 + 3) (by omega) (by omega) (.string (markT (K + 3))))).size) hTb)).trans ((cell_ne (by omega)).trans x0_2)
        have x1_3 : w3.cell? ⟨b, j * 5 + 1, none⟩ = some (.int .i64 ((K : Int) + 1)) := (World.cell?_of_block (ht3.block b (Nat.lt_of_lt_of_le hbl (((M2.out).set hSb (j * 5 + 3) (by omega) (by omega) (.string (markT (K + 3))))).size) hTb)).trans ((cell_ne (by omega)).trans x1_2)
        have x2_3 : w3.cell? ⟨b, j * 5 + 2, none⟩ = some (.string (markT (K + 2))) := (World.cell?_of_block (ht3.block b (Nat.lt_of_lt_of_le hbl (((M2.out).set hSb (j * 5 + 3) (by omega) (by omega) (.string (markT (K + 3))))).size) hTb)).trans ((cell_ne (by omega)).trans x2_2)
        have x3_3 : w3.cell? ⟨b, j * 5 + 3, none⟩ = some (.string (markT (K + 3))) := (World.cell?_of_block (ht3.block b (Nat.lt_of_lt_of_le hbl (((M2.out).set hSb (j * 5 + 3) (by omega) (by omega) (.string (markT (K + 3))))).size) hTb)).trans (World.cell?_setCell_same _ _ _ x3_2)
        have x4_3 : w3.cell? ⟨b, j * 5 + 4, none⟩ = some (.slice A1 l[j].kids.length c1) := (World.cell?_of_block (ht3.block b (Nat.lt_of_lt_of_le hbl (((M2.out).set hSb (j * 5 + 3) (by omega) (by omega) (.string (markT (K + 3))))).size) hTb)).trans ((cell_ne (by omega)).trans x4_2)
        have M3 := Lib.hid (MSt.mark (((M2.out).set hSb (j * 5 + 3) (by omega) (by omega) (.string (markT (K + 3))))) ht3 (fun _ h => h) hTS hTb hbl HS.out)
        have hf3 := M3.out.fr
        clear x0_2 x1_2 x2_2 x3_2 x4_2 hf2 ht3
        obtain ⟨K3, hK3⟩ : ∃ K3 : Nat, K3 = K + 4 + cntL GNode.cnt l[j].kids := ⟨_, rfl⟩
        rw [← hK3]
        have HM := Lib.hid (M3.out)
        have HOW := Lib.hid (GNode.Ow_mark (w := w3) (S := T) (t := l[j]) (K := K) HKB.out Q3.out)
        have HC := Lib.hid (GNode.mark_cells l[j] K A1 c1 ((K : Int)) ((K : Int) + 1) (by omega) (by omega))
        have HP := Lib.hid (HPUT.out w3 (GNode.mark l[j] K).toD [.int .i64 ((K : Int)), .int .i64 ((K : Int) + 1), .string (markT (K + 2)), .string (markT (K + 3)), .slice A1 l[j].kids.length c1] (HM.out.blk2 HS.out HT.out.size) HM.out.out HM.out.fr rfl
          (fun q v hv => by
            match q, hv with
            | 0, hv =>
              obtain rfl := Option.some.inj hv
              exact x0_3
            | 1, hv =>
              obtain rfl := Option.some.inj hv
              exact x1_3
            | 2, hv =>
              obtain rfl := Option.some.inj hv
              exact x2_3
            | 3, hv =>
              obtain rfl := Option.some.inj hv
              exact x3_3
            | 4, hv =>
              obtain rfl := Option.some.inj hv
              exact x4_3
            | q + 5, hv => cases hv)
          (by rw [HC.out]; exact GNode.own_mk HOW.out))
        have HTF := Lib.hid HM.out.touch
        have hKe := HK.out
        clear HK HOW HC HPUT
        go_wp2_with fail
        go_roundw
        case rel => exact ⟨j + 1, by omega, by go_num, by have := cntL_take_succ GNode.cnt l j hlt; have := GNode.cnt_eq l[j]; congr 1; omega, Lib.hid (by have e := markTo_set GNode.mark GNode.cnt l k j hlt; rw [← hKe] at e; rw [← e, List.map_set]; exact HP.out), HTF⟩
        case measure => simp [intOf]; omega
      · have hjl : j = l.length := by omega
        have Hj := Lib.hid hjl
        have HK := Lib.hid hK
        clear hjl hK
        go_wp2_with fail
        go_ret
        exact ⟨ret_int (by rw [HK.out, Hj.out, List.take_length]), by have := HO.out; rw [Hj.out, markTo_all] at this; exact this, HT.out⟩

theorem markNodeS' (l : List GNode) (A : Option Addr) (c k : Nat) (x : Int) (S : Nat → Prop) (w : World) (hx : x = k) (h0 : 0 < k) (hk : k + cntL GNode.cnt l ≤ 4611686018427387904) (hS : ∀ b, S b → b < w.heap.size) (hs : Osl w S 5 A c (l.map GNode.toD)) :
    Calls Try.prog 80 #[.slice A l.length c, .int .i64 x] w fun e w' => e = .returned (.int .i64 ((k + cntL GNode.cnt l : Nat) : Int)) ∧ Osl w' S 5 A c ((markL GNode.mark GNode.cnt l k).map GNode.toD) ∧ Touch S w w' :=
  markNodeS (bulkL GNode.bulk l + 1) l A c k x S w (by omega) hx h0 hk hS hs

set_option maxRecDepth 20000 in
theorem heldNodeS (kk : Nat) : ∀ (l : List GNode) (A : Option Addr) (c k : Nat) (x : Int) (w : World), bulkL GNode.bulk l < kk → x = k → 0 < k → k + cntL GNode.cnt l ≤ 4611686018427387904 → Sl w (Lt w.heap.size) 5 A c ((markL GNode.mark GNode.cnt l k).map GNode.toD) →
    Calls Try.prog 93 #[.slice A l.length c, .int .i64 x] w fun e w' => e = .returned (.int .i64 ((k + cntL GNode.cnt l : Nat) : Int)) ∧ Below w.heap.size w w' := by
  induction kk with
  | zero => intro l A c k x w h; omega
  | succ kk ih =>
    intro l A c k x w hkk hx h0 hk hs
    have HB := Lib.hid (fun (j : Nat) (h : j < l.length) => (show bulkL GNode.bulk (l[j]).kids < kk by have := bulkL_mem GNode.bulk l _ (List.getElem_mem h); have := (l[j]).bulk_eq; omega))
    clear hkk
    subst hx
    have hlen : l.length ≤ 9223372036854775807 := by have := hs.len; simpa [markL_length] using this
    have S0 := Lib.hid hs
    clear hs
    go_enter Try.func93, Try.ntmps93
    go_wp2_with fail
    go_loopw [1, 5] (fun v i wr => ∃ (j : Nat), j ≤ l.length ∧ i = .int .i64 j ∧ v = .int .i64 ((k + cntL GNode.cnt (l.take j) : Nat) : Int) ∧ Below w.heap.size w wr) (fun _ i _ => l.length - (intOf i).toNat)
    case atStart => exact ⟨0, by omega, by go_num, by simp [cntL], Below.refl _ _⟩
    case round =>
      obtain ⟨j, hj, rfl, ev, hbl⟩ := hrel
      have hsz := hbl.size
      obtain ⟨K, hK⟩ : ∃ K, K = k + cntL GNode.cnt (l.take j) := ⟨_, rfl⟩
      rw [← hK] at ev
      subst ev
      by_cases hlt : j < l.length
      · obtain ⟨b, off, A1, c1, rfl, hSb, y0, y1, y2, y3, y4, hat⟩ := GNode.elem (S0.out.below hbl (Nat.le_refl _)) j (by rw [markL_length]; exact hlt)
        have hm := markL_get GNode.mark GNode.cnt l k j hlt
        rw [← hK] at hm
        rw [hm] at y0 y1 y2 y3 y4 hat
        simp only [GNode.mark_op, GNode.mark_n, GNode.mark_s, GNode.mark_t, GNode.mark_kids, markL_length] at y0 y1 y2 y3 y4
        have hKb : K + GNode.cnt l[j] ≤ 4611686018427387904 := by have := cntL_take_le GNode.cnt l j hlt; omega
        have hKk : 0 < K := by omega
        rw [GNode.cnt_eq] at hKb
        have HK := Lib.hid hK
        have HAT := Lib.hid hat
        have hSb2 : b < wr.heap.size := Nat.lt_of_lt_of_le hSb hsz
        obtain ⟨K1, hK1⟩ : ∃ K1 : Nat, K1 = K + 4 + cntL GNode.cnt l[j].kids := ⟨_, rfl⟩
        have x0 : wr.cell? ⟨b, off + j * 5, none⟩ = some (.int .i64 ((K : Int))) := by first | exact y0 | (rw [y0]; congr 2; omega) | (rw [y0]; congr 2; omega) | (rw [y0]; congr 2; congr 1; omega) | (rw [y0]; congr 2; congr 1; omega) | (rw [y0]; congr 3; omega)
        have x1 : wr.cell? ⟨b, off + j * 5 + 1, none⟩ = some (.int .i64 ((K : Int) + 1)) := by first | exact y1 | (rw [y1]; congr 2; omega) | (rw [y1]; congr 2; omega) | (rw [y1]; congr 2; congr 1; omega) | (rw [y1]; congr 2; congr 1; omega) | (rw [y1]; congr 3; omega)
        have x2 : wr.cell? ⟨b, off + j * 5 + 2, none⟩ = some (.string (markT (K + 2))) := by first | exact y2 | (rw [y2]; congr 2; omega) | (rw [y2]; congr 2; omega) | (rw [y2]; congr 2; congr 1; omega) | (rw [y2]; congr 2; congr 1; omega) | (rw [y2]; congr 3; omega)
        have x3 : wr.cell? ⟨b, off + j * 5 + 3, none⟩ = some (.string (markT (K + 3))) := by first | exact y3 | (rw [y3]; congr 2; omega) | (rw [y3]; congr 2; omega) | (rw [y3]; congr 2; congr 1; omega) | (rw [y3]; congr 2; congr 1; omega) | (rw [y3]; congr 3; omega)
        have x4 : wr.cell? ⟨b, off + j * 5 + 4, none⟩ = some (.slice A1 l[j].kids.length c1) := y4
        clear y0 y1 y2 y3 y4 hm hat hK
        have B0 := Lib.hid hbl
        go_wp2_with fail
        have z1 : wr.drew.cell? ⟨b, off + j * 5 + 2, none⟩ = some (.string (markT (K + 2))) := x2
        go_region_held3 (fun w' => w'.cell? ⟨b, off + j * 5 + 2, none⟩ = some (.string (markT (K + 2)))) (first | exact z1 | exact zz1)
          (first
          | (go_at_call 156
             refine (markTextI _ (K + 2) (by omega) _ (by omega) (by omega)).mono ?_
             rintro e w1 ⟨rfl, hb1⟩
             have B1 := Lib.hid ((Below.drew B0.out).trans (hb1.mono B0.out.size))
             have zz1 := (hb1.cell (p := ⟨b, off + j * 5 + 2, none⟩) (Nat.lt_of_lt_of_le hSb B0.out.size)).trans z1))
        have x0_1 : w1.cell? ⟨b, off + j * 5, none⟩ = some (.int .i64 ((K : Int))) := (hb1.cell (p := ⟨b, off + j * 5, none⟩) (Nat.lt_of_lt_of_le hSb B0.out.size)).trans x0
        have x1_1 : w1.cell? ⟨b, off + j * 5 + 1, none⟩ = some (.int .i64 ((K : Int) + 1)) := (hb1.cell (p := ⟨b, off + j * 5 + 1, none⟩) (Nat.lt_of_lt_of_le hSb B0.out.size)).trans x1
        have x2_1 : w1.cell? ⟨b, off + j * 5 + 2, none⟩ = some (.string (markT (K + 2))) := (hb1.cell (p := ⟨b, off + j * 5 + 2, none⟩) (Nat.lt_of_lt_of_le hSb B0.out.size)).trans x2
        have x3_1 : w1.cell? ⟨b, off + j * 5 + 3, none⟩ = some (.string (markT (K + 3))) := (hb1.cell (p := ⟨b, off + j * 5 + 3, none⟩) (Nat.lt_of_lt_of_le hSb B0.out.size)).trans x3
        have x4_1 : w1.cell? ⟨b, off + j * 5 + 4, none⟩ = some (.slice A1 l[j].kids.length c1) := (hb1.cell (p := ⟨b, off + j * 5 + 4, none⟩) (Nat.lt_of_lt_of_le hSb B0.out.size)).trans x4
        clear x0 x1 x2 x3 x4 z1 zz1 hb1
        go_wp2_with fail
        have z2 : w1.drew.cell? ⟨b, off + j * 5 + 3, none⟩ = some (.string (markT (K + 3))) := x3_1
        go_region_held3 (fun w' => w'.cell? ⟨b, off + j * 5 + 3, none⟩ = some (.string (markT (K + 3)))) (first | exact z2 | exact zz2)
          (first
          | (go_at_call 156
             refine (markTextI _ (K + 3) (by omega) _ (by omega) (by omega)).mono ?_
             rintro e w2 ⟨rfl, hb2⟩
             have B2 := Lib.hid ((Below.drew B1.out).trans (hb2.mono B1.out.size))
             have zz2 := (hb2.cell (p := ⟨b, off + j * 5 + 3, none⟩) (Nat.lt_of_lt_of_le hSb B1.out.size)).trans z2))
        have x0_2 : w2.cell? ⟨b, off + j * 5, none⟩ = some (.int .i64 ((K : Int))) := (hb2.cell (p := ⟨b, off + j * 5, none⟩) (Nat.lt_of_lt_of_le hSb B1.out.size)).trans x0_1
        have x1_2 : w2.cell? ⟨b, off + j * 5 + 1, none⟩ = some (.int .i64 ((K : Int) + 1)) := (hb2.cell (p := ⟨b, off + j * 5 + 1, none⟩) (Nat.lt_of_lt_of_le hSb B1.out.size)).trans x1_1
        have x2_2 : w2.cell? ⟨b, off + j * 5 + 2, none⟩ = some (.string (markT (K + 2))) := (hb2.cell (p := ⟨b, off + j * 5 + 2, none⟩) (Nat.lt_of_lt_of_le hSb B1.out.size)).trans x2_1
        have x3_2 : w2.cell? ⟨b, off + j * 5 + 3, none⟩ = some (.string (markT (K + 3))) := (hb2.cell (p := ⟨b, off + j * 5 + 3, none⟩) (Nat.lt_of_lt_of_le hSb B1.out.size)).trans x3_1
        have x4_2 : w2.cell? ⟨b, off + j * 5 + 4, none⟩ = some (.slice A1 l[j].kids.length c1) := (hb2.cell (p := ⟨b, off + j * 5 + 4, none⟩) (Nat.lt_of_lt_of_le hSb B1.out.size)).trans x4_1
        clear x0_1 x1_1 x2_1 x3_1 x4_1 z2 zz2 hb2
        go_wp2_with fail
        have SL3 : Sl w2 (Lt w2.heap.size) 5 A1 c1 ((markL GNode.mark GNode.cnt l[j].kids (K + 4)).map GNode.toD) := by
          have h := HAT.out.keep (S' := Lt w2.heap.size) (w' := w2) (fun q hq => ⟨Nat.lt_of_lt_of_le hq B2.out.size, (B2.out.block q hq).trans (hbl.block q hq).symm⟩)
          obtain ⟨-, -, -, -, o1⟩ := h
          simp only [GNode.mark_op, GNode.mark_n, GNode.mark_s, GNode.mark_t, GNode.mark_kids] at o1
          first | exact o1 | (rw [show K + 4 = K + 4 from by first | omega | (simp only [Nat.add_assoc]; omega)] at o1; exact o1)
        refine (ih l[j].kids A1 c1 (K + 4) _ _ (HB.out j hlt) (by omega) (by omega) (by omega) SL3).mono ?_
        rintro e w3 ⟨rfl, hb3⟩
        rw [← hK1]
        have B3 := Lib.hid (B2.out.trans (hb3.mono B2.out.size))
        have x0_3 : w3.cell? ⟨b, off + j * 5, none⟩ = some (.int .i64 ((K : Int))) := (hb3.cell (p := ⟨b, off + j * 5, none⟩) (Nat.lt_of_lt_of_le hSb B2.out.size)).trans x0_2
        have x1_3 : w3.cell? ⟨b, off + j * 5 + 1, none⟩ = some (.int .i64 ((K : Int) + 1)) := (hb3.cell (p := ⟨b, off + j * 5 + 1, none⟩) (Nat.lt_of_lt_of_le hSb B2.out.size)).trans x1_2
        have x2_3 : w3.cell? ⟨b, off + j * 5 + 2, none⟩ = some (.string (markT (K + 2))) := (hb3.cell (p := ⟨b, off + j * 5 + 2, none⟩) (Nat.lt_of_lt_of_le hSb B2.out.size)).trans x2_2
        have x3_3 : w3.cell? ⟨b, off + j * 5 + 3, none⟩ = some (.string (markT (K + 3))) := (hb3.cell (p := ⟨b, off + j * 5 + 3, none⟩) (Nat.lt_of_lt_of_le hSb B2.out.size)).trans x3_2
        have x4_3 : w3.cell? ⟨b, off + j * 5 + 4, none⟩ = some (.slice A1 l[j].kids.length c1) := (hb3.cell (p := ⟨b, off + j * 5 + 4, none⟩) (Nat.lt_of_lt_of_le hSb B2.out.size)).trans x4_2
        clear x0_2 x1_2 x2_2 x3_2 x4_2 hb3 SL3
        have hKe := HK.out
        clear HK
        go_wp2_with fail
        go_roundw
        case rel => exact ⟨j + 1, by omega, by go_num, by have := cntL_take_succ GNode.cnt l j hlt; have := GNode.cnt_eq l[j]; congr 1; omega, B3.out⟩
        case measure => simp [intOf]; omega
      · have hjl : j = l.length := by omega
        have Hj := Lib.hid hjl
        have HK := Lib.hid hK
        clear hjl hK
        go_wp2_with fail
        go_ret
        exact ⟨ret_int (by rw [HK.out, Hj.out, List.take_length]), hbl⟩

theorem heldNodeS' (l : List GNode) (A : Option Addr) (c k : Nat) (x : Int) (w : World) (hx : x = k) (h0 : 0 < k) (hk : k + cntL GNode.cnt l ≤ 4611686018427387904) (hs : Sl w (Lt w.heap.size) 5 A c ((markL GNode.mark GNode.cnt l k).map GNode.toD)) :
    Calls Try.prog 93 #[.slice A l.length c, .int .i64 x] w fun e w' => e = .returned (.int .i64 ((k + cntL GNode.cnt l : Nat) : Int)) ∧ Below w.heap.size w w' :=
  heldNodeS (bulkL GNode.bulk l + 1) l A c k x w (by omega) hx h0 hk hs

theorem markNode0 (t : GNode) (A1 : Option Addr) (c1 : Nat) (k : Nat) (x : Int) (S : Nat → Prop) (w : World) (hx : x = k) (h0 : 0 < k) (hk : k + t.cnt0 ≤ 4611686018427387904) (hS : ∀ b, S b → b < w.heap.size) (how : GNode.Ow w S A1 c1 t) :
    Calls Try.prog 22 #[.agg #[.int .i64 t.op, .int .i64 t.n, .string t.s, .string t.t, .slice A1 t.kids.length c1], .int .i64 x] w fun e w' => e = .returned (.int .i64 ((k + t.cnt0 : Nat) : Int)) ∧ GNode.Ow w' S A1 c1 (t.mark0 k) ∧ Touch S w w' := by
  subst hx
  unfold GNode.cnt0 at hk
  obtain ⟨h1, h2, h3, h4, o_kids⟩ := how
  have HS := Lib.hid hS
  have T0 := Lib.hid (Below.touch (S := S) (show Below w.heap.size w (w.alloc (.cells #[.int .i64 t.op, .int .i64 t.n, .string t.s, .string t.t, .slice A1 t.kids.length c1] 32)) from (Below.refl _ _).alloc (Nat.le_refl _) _) hS)
  have R0 := Lib.hid (Row.new w 32 #[.int .i64 t.op, .int .i64 t.n, .string t.s, .string t.t, .slice A1 t.kids.length c1])
  have O_kids_0 := Lib.hid (o_kids.keep (S' := S) (w' := w.alloc (.cells #[.int .i64 t.op, .int .i64 t.n, .string t.s, .string t.t, .slice A1 t.kids.length c1] 32)) fun q hq => ⟨hq, Below.heap_alloc _ _ _ (hS q hq)⟩)
  clear hS o_kids
  go_enter Try.func22, Try.ntmps22
  go_wp2_with fail
  refine (markNodeS' t.kids A1 c1 (k) _ S _ (by omega) (by omega) (by omega) (fun q hq => Nat.lt_of_lt_of_le (HS.out q hq) T0.out.size) O_kids_0.out).mono ?_
  rintro e w1 ⟨rfl, ho1, ht1⟩
  have O_kids_1 := Lib.hid ho1
  have R1 := Lib.hid (show Row w1 w.heap.size 32 #[.int .i64 t.op, .int .i64 t.n, .string t.s, .string t.t, .slice A1 t.kids.length c1] from (ht1.block w.heap.size R0.out.lt (fun e => Nat.lt_irrefl _ (HS.out _ e))).trans R0.out)
  have T1 := Lib.hid (T0.out.trans (ht1.mono (fun q hq => hq) (fun q hq => Nat.lt_of_lt_of_le (HS.out q hq) T0.out.size)))
  have hc1 := fun i => R1.out.cell i
  clear ho1 ht1
  go_wp2_with fail
  go_ret
  exact ⟨ret_int (by unfold GNode.cnt0; omega), ⟨h1, h2, h3, h4, O_kids_1.out⟩, T1.out⟩

theorem heldNode0 (t : GNode) (A1 : Option Addr) (c1 : Nat) (k : Nat) (x : Int) (w : World) (hx : x = k) (h0 : 0 < k) (hk : k + t.cnt0 ≤ 4611686018427387904) (hat : GNode.At w (Lt w.heap.size) A1 c1 (t.mark0 k)) :
    Calls Try.prog 23 #[.agg #[.int .i64 t.op, .int .i64 t.n, .string t.s, .string t.t, .slice A1 t.kids.length c1], .int .i64 x] w fun e w' => e = .returned (.int .i64 ((k + t.cnt0 : Nat) : Int)) ∧ Below w.heap.size w w' := by
  subst hx
  unfold GNode.cnt0 at hk
  have E0 := Lib.hid (show Below w.heap.size w (w.alloc (.cells #[.int .i64 t.op, .int .i64 t.n, .string t.s, .string t.t, .slice A1 t.kids.length c1] 32)) from (Below.refl _ _).alloc (Nat.le_refl _) _)
  have R0 := Lib.hid (Row.new w 32 #[.int .i64 t.op, .int .i64 t.n, .string t.s, .string t.t, .slice A1 t.kids.length c1])
  have HAT := Lib.hid hat
  clear hat
  go_enter Try.func23, Try.ntmps23
  go_wp2_with fail
  obtain ⟨-, -, -, -, q_kids⟩ := HAT.out.below E0.out E0.out.size
  refine (heldNodeS' t.kids A1 c1 (k) _ _ (by omega) (by omega) (by omega) q_kids).mono ?_
  rintro e w1 ⟨rfl, hb1⟩
  clear q_kids
  have E1 := Lib.hid (E0.out.trans (hb1.mono E0.out.size))
  have R1 := Lib.hid (R0.out.below hb1 R0.out.lt)
  have hc1 := fun i => R1.out.cell i
  clear hb1
  go_wp2_with fail
  go_ret
  exact ⟨ret_int (by unfold GNode.cnt0; omega), E1.out⟩

end Go.Proofs.Ytjcgfbjdailgoaa
