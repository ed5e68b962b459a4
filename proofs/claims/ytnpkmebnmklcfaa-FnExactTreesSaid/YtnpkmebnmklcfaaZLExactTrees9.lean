/- Texts of the claim LExactTrees in one: MData MNode AInt ATree MTree. Conditions: none but bounds on sizes. -/
import Derived.Test.YtnpkmebnmklcfaaZLExactTrees1
import Derived.Deep.RegionHeld3
import Derived.Test.YtnpkmebnmklcfaaZLExactTrees8
import Derived.Test.YtnpkmebnmklcfaaZLExactTrees0
import Derived.Test.YtnpkmebnmklcfaaRows
import Derived.Lib.Hide
import Derived.StillTailTactics
/- Marks on what is owned: the Go struct Data. Conditions: none but a bound on the numbers. -/
namespace Go.Proofs.Ytnpkmebnmklcfaa
open Go.RowKit
set_option linter.unusedVariables false
set_option linter.unusedSimpArgs false
set_option maxHeartbeats 1000000

theorem GData.own_inv {w : World} {S : Nat → Prop} {t : GData} {cs : List Value} (h : t.toD.own w S cs) : ∃ A1 c1, cs = [.string t.name, .int .i64 t.vars, .slice A1 t.cons.length c1] ∧ GData.Ow w S A1 c1 t := by
  unfold GData.toD at h
  rw [D.own_agg] at h
  simp only [D.ownF] at h
  obtain ⟨U0, V0, x0, r0, a0, b0, e0, h0, U1, V1, x1, r1, a1, b1, e1, h1, U2, V2, x2, r2, a2, b2, e2, h2, ee⟩ := h
  subst ee
  subst e2
  subst e1
  subst e0
  obtain ⟨rfl, k0⟩ := D.own_str.1 h0
  obtain ⟨rfl, k1⟩ := D.own_num.1 h1
  obtain ⟨B1, d1, rfl, k2⟩ := D.own_sl.1 h2
  exact ⟨B1, d1, (by simp), ⟨k0, k1, k2.keep fun x hx => ⟨b0 x (b1 x ((a2 x hx).1)), rfl⟩⟩⟩

/-- the marked data -/
def GData.mark (t : GData) (k : Nat) : GData := ⟨(markT (k)), (((k + 1 : Nat) : Int)), (markL GCon.mark GCon.cnt t.cons (k + 2))⟩
/-- how many marks -/
def GData.cnt (t : GData) : Nat := 2 + cntL GCon.cnt t.cons
/-- the same, but for its own numbers and texts -/
def GData.mark0 (t : GData) (k : Nat) : GData := ⟨t.name, t.vars, (markL GCon.mark GCon.cnt t.cons (k))⟩
def GData.cnt0 (t : GData) : Nat := cntL GCon.cnt t.cons
theorem GData.cnt_eq (t : GData) : t.cnt = 2 + cntL GCon.cnt t.cons := by
  simp only [GData.cnt]
theorem GData.mark_name (t : GData) (k : Nat) : (t.mark k).name = (markT (k)) := by
  rfl
theorem GData.mark_vars (t : GData) (k : Nat) : (t.mark k).vars = (((k + 1 : Nat) : Int)) := by
  rfl
theorem GData.mark_cons (t : GData) (k : Nat) : (t.mark k).cons = (markL GCon.mark GCon.cnt t.cons (k + 2)) := by
  rfl
theorem GData.mark_cells (t : GData) (K : Nat) (A1 : Option Addr) (c1 : Nat) (v1 : Int) (e1 : v1 = ((K + 1 : Nat) : Int)) : ([.string (markT (K)), .int .i64 v1, .slice A1 t.cons.length c1] : List Value) = [.string (t.mark K).name, .int .i64 (t.mark K).vars, .slice A1 (t.mark K).cons.length c1] := by
  subst e1
  simp only [GData.mark_name, GData.mark_vars, GData.mark_cons, markL_length]
  try (simp only [Nat.add_assoc, Nat.add_comm, Nat.add_left_comm])

theorem GData.Ow_mark {w : World} {S : Nat → Prop} {t : GData} {K : Nat} {A1 : Option Addr} {c1 : Nat} (hK : K + t.cnt ≤ 4611686018427387904)  (o1 : Osl w S 2 A1 c1 ((markL GCon.mark GCon.cnt t.cons (K + 2)).map GCon.toD)) : GData.Ow w S A1 c1 (t.mark K) := by
  rw [GData.cnt_eq] at hK
  unfold GData.Ow
  exact ⟨(by simp only [GData.mark_name, GData.mark_vars, GData.mark_cons]; have := markT_size (K) (by first | omega | omega); unfold maxLen; omega), (by simp only [GData.mark_name, GData.mark_vars, GData.mark_cons]; exact wfNat _ (by first | omega | omega)), (by simp only [GData.mark_name, GData.mark_vars, GData.mark_cons]; first | exact o1 | (rw [show K + 2 = K + 2 from by first | omega | omega]; exact o1))⟩

theorem GData.cnt_bulk (t : GData) : t.cnt ≤ 16 * (1 + t.bulk) := by
  have hb := t.bulk_eq
  have := cntL_le GCon.cnt GCon.bulk t.cons (fun x _ => GCon.cnt_bulk x)
  rw [GData.cnt_eq]; omega
theorem GData.cnts_bulk (l : List GData) : cntL GData.cnt l ≤ 16 * bulkL GData.bulk l := cntL_le _ _ l fun x _ => GData.cnt_bulk x
theorem GData.cnt0_le (t : GData) : t.cnt0 ≤ t.cnt := by
  rw [GData.cnt_eq]; simp only [GData.cnt0]; omega
set_option maxRecDepth 20000 in
theorem markDataS (l : List GData) (A : Option Addr) (c k : Nat) (x : Int) (S : Nat → Prop) (w : World) (hx : x = k) (h0 : 0 < k) (hk : k + cntL GData.cnt l ≤ 4611686018427387904) (hS : ∀ b, S b → b < w.heap.size) (hs : Osl w S 3 A c (l.map GData.toD)) :
    Calls Try.prog 13 #[.slice A l.length c, .int .i64 x] w fun e w' => e = .returned (.int .i64 ((k + cntL GData.cnt l : Nat) : Int)) ∧ Osl w' S 3 A c ((markL GData.mark GData.cnt l k).map GData.toD) ∧ Touch S w w' := by
  subst hx
  have hlen : l.length ≤ 9223372036854775807 := by simpa using hs.sl.len
  have HS := Lib.hid hS
  have S0 := Lib.hid hs
  clear hs hS
  go_enter Try.func13, Try.ntmps13
  go_wp2_with fail
  go_loopw [1, 5] (fun v i wr => ∃ (j : Nat), j ≤ l.length ∧ i = .int .i64 j ∧ v = .int .i64 ((k + cntL GData.cnt (l.take j) : Nat) : Int) ∧ Hid (Osl wr S 3 A c ((markTo GData.mark GData.cnt l k j).map GData.toD)) ∧ Hid (Touch S w wr)) (fun _ i _ => l.length - (intOf i).toNat)
  case atStart => exact ⟨0, by omega, by go_num, by simp [cntL], Lib.hid (by rw [markTo_zero]; exact S0.out), Lib.hid (Touch.refl _ _)⟩
  case round =>
    obtain ⟨j, hj, rfl, ev, HO, HT⟩ := hrel
    obtain ⟨K, hK⟩ : ∃ K, K = k + cntL GData.cnt (l.take j) := ⟨_, rfl⟩
    rw [← hK] at ev
    subst ev
    by_cases hlt : j < l.length
    · obtain ⟨b, T, cs, rfl, hSb, hTb, hf0, hTS, hcl, hc, hd, hput⟩ := HO.out.focus j (by rw [List.length_map, markTo_length _ _ _ _ _ hj]; exact hlt)
      rw [List.getElem_map, markTo_get _ _ _ _ _ hlt] at hd
      obtain ⟨A1, c1, rfl, how⟩ := GData.own_inv hd
      have x0 : wr.cell? ⟨b, j * 3, none⟩ = some (.string l[j].name) := by simpa using hc 0 _ rfl
      have x1 : wr.cell? ⟨b, j * 3 + 1, none⟩ = some (.int .i64 l[j].vars) := by simpa using hc 1 _ rfl
      have x2 : wr.cell? ⟨b, j * 3 + 2, none⟩ = some (.slice A1 l[j].cons.length c1) := by simpa using hc 2 _ rfl
      have hKk : 0 < K := by omega
      have hKb : K + GData.cnt l[j] ≤ 4611686018427387904 := by have := cntL_take_le GData.cnt l j hlt; omega
      have HKB := Lib.hid hKb
      rw [GData.cnt_eq] at hKb
      have HK := Lib.hid hK
      have hbl : b < wr.heap.size := Nat.lt_of_lt_of_le (HS.out b hSb) HT.out.size
      have M0 := Lib.hid (MSt.start (w := w) (wr := wr) (S := S) (T := T) (b := b) (lo := j * 3) (hi := j * 3 + 3) hf0 HT.out)
      obtain ⟨-, -, o1⟩ := how
      have O1_0 := Lib.hid o1
      clear o1
      have HPUT := Lib.hid hput
      clear hc hd hcl hput hK
      go_wp2_with fail
      refine (markTextI _ (K) (by omega) _ (by omega) (by omega)).mono ?_
      rintro e w1 ⟨rfl, hb1⟩
      have x0_1 : w1.cell? ⟨b, j * 3, none⟩ = some (.string l[j].name) := (hb1.cell (p := ⟨b, j * 3, none⟩) (Nat.lt_of_lt_of_le hbl (M0.out).size)).trans x0
      have x1_1 : w1.cell? ⟨b, j * 3 + 1, none⟩ = some (.int .i64 l[j].vars) := (hb1.cell (p := ⟨b, j * 3 + 1, none⟩) (Nat.lt_of_lt_of_le hbl (M0.out).size)).trans x1
      have x2_1 : w1.cell? ⟨b, j * 3 + 2, none⟩ = some (.slice A1 l[j].cons.length c1) := (hb1.cell (p := ⟨b, j * 3 + 2, none⟩) (Nat.lt_of_lt_of_le hbl (M0.out).size)).trans x2
      have M1 := Lib.hid (MSt.below (M0.out) hb1 hbl HS.out)
      have hf1 := M1.out.fr
      have O1_1 := Lib.hid (Osl.belowS (O1_0.out) hb1 (fun q hq => Nat.lt_of_lt_of_le (HS.out q (hTS q ((fun _ h => h) q hq))) (M0.out).touch.size))
      clear x0 x1 x2 hf0 hb1
      have OW2 := Lib.hid (Osl.set (o := j * 3 + 1) ((Osl.set (o := j * 3) (O1_1.out) hTb (.string (markT (K))))) hTb (.int .i64 ((K : Int) + 1)))
      have LT2 := Lib.hid (show ∀ q, T q → q < (((w1.setCell ⟨b, j * 3, none⟩ (.string (markT (K))))).setCell ⟨b, j * 3 + 1, none⟩ (.int .i64 ((K : Int) + 1))).heap.size from (fun q hq => Nat.lt_of_lt_of_le (HS.out q (hTS q ((fun _ h => h) q hq))) (Nat.le_trans (((((M1.out).set hSb (j * 3) (by omega) (by omega) (.string (markT (K))))).set hSb (j * 3 + 1) (by omega) (by omega) (.int .i64 ((K : Int) + 1)))).touch.size (Nat.le_refl _))))
      go_wp2_with fail
      refine (markConS' l[j].cons A1 c1 (K + 2) _ T _ (by omega) (by omega) (by omega) LT2.out OW2.out).mono ?_
      rintro e w2 ⟨rfl, ho2, ht2⟩
      have Q2 := Lib.hid ho2
      clear ho2
      have x0_2 : w2.cell? ⟨b, j * 3, none⟩ = some (.string (markT (K))) := (World.cell?_of_block (ht2.block b (Nat.lt_of_lt_of_le hbl (((((M1.out).set hSb (j * 3) (by omega) (by omega) (.string (markT (K))))).set hSb (j * 3 + 1) (by omega) (by omega) (.int .i64 ((K : Int) + 1)))).size) hTb)).trans ((cell_ne (by omega)).trans (World.cell?_setCell_same _ _ _ x0_1))
      have x1_2 : w2.cell? ⟨b, j * 3 + 1, none⟩ = some (.int .i64 ((K : Int) + 1)) := (World.cell?_of_block (ht2.block b (Nat.lt_of_lt_of_le hbl (((((M1.out).set hSb (j * 3) (by omega) (by omega) (.string (markT (K))))).set hSb (j * 3 + 1) (by omega) (by omega) (.int .i64 ((K : Int) + 1)))).size) hTb)).trans (World.cell?_setCell_same _ _ _ ((cell_ne (by omega)).trans x1_1))
      have x2_2 : w2.cell? ⟨b, j * 3 + 2, none⟩ = some (.slice A1 l[j].cons.length c1) := (World.cell?_of_block (ht2.block b (Nat.lt_of_lt_of_le hbl (((((M1.out).set hSb (j * 3) (by omega) (by omega) (.string (markT (K))))).set hSb (j * 3 + 1) (by omega) (by omega) (.int .i64 ((K : Int) + 1)))).size) hTb)).trans ((cell_ne (by omega)).trans ((cell_ne (by omega)).trans x2_1))
      have M2 := Lib.hid (MSt.mark (((((M1.out).set hSb (j * 3) (by omega) (by omega) (.string (markT (K))))).set hSb (j * 3 + 1) (by omega) (by omega) (.int .i64 ((K : Int) + 1)))) ht2 (fun _ h => h) hTS hTb hbl HS.out)
      have hf2 := M2.out.fr
      clear x0_1 x1_1 x2_1 hf1 ht2
      obtain ⟨K2, hK2⟩ : ∃ K2 : Nat, K2 = K + 2 + cntL GCon.cnt l[j].cons := ⟨_, rfl⟩
      rw [← hK2]
      have HM := Lib.hid (M2.out)
      have HOW := Lib.hid (GData.Ow_mark (w := w2) (S := T) (t := l[j]) (K := K) HKB.out Q2.out)
      have HC := Lib.hid (GData.mark_cells l[j] K A1 c1 ((K : Int) + 1) (by omega))
      have HP := Lib.hid (HPUT.out w2 (GData.mark l[j] K).toD [.string (markT (K)), .int .i64 ((K : Int) + 1), .slice A1 l[j].cons.length c1] (HM.out.blk2 HS.out HT.out.size) HM.out.out HM.out.fr rfl
        (fun q v hv => by
          match q, hv with
          | 0, hv =>
            obtain rfl := Option.some.inj hv
            exact x0_2
          | 1, hv =>
            obtain rfl := Option.some.inj hv
            exact x1_2
          | 2, hv =>
            obtain rfl := Option.some.inj hv
            exact x2_2
          | q + 3, hv => cases hv)
        (by rw [HC.out]; exact GData.own_mk HOW.out))
      have HTF := Lib.hid HM.out.touch
      have hKe := HK.out
      clear HK HOW HC HPUT
      go_wp2_with fail
      go_roundw
      case rel => exact ⟨j + 1, by omega, by go_num, by have := cntL_take_succ GData.cnt l j hlt; have := GData.cnt_eq l[j]; congr 1; omega, Lib.hid (by have e := markTo_set GData.mark GData.cnt l k j hlt; rw [← hKe] at e; rw [← e, List.map_set]; exact HP.out), HTF⟩
      case measure => simp [intOf]; omega
    · have hjl : j = l.length := by omega
      have Hj := Lib.hid hjl
      have HK := Lib.hid hK
      clear hjl hK
      go_wp2_with fail
      go_ret
      exact ⟨ret_int (by rw [HK.out, Hj.out, List.take_length]), by have := HO.out; rw [Hj.out, markTo_all] at this; exact this, HT.out⟩

theorem markDataS' (l : List GData) (A : Option Addr) (c k : Nat) (x : Int) (S : Nat → Prop) (w : World) (hx : x = k) (h0 : 0 < k) (hk : k + cntL GData.cnt l ≤ 4611686018427387904) (hS : ∀ b, S b → b < w.heap.size) (hs : Osl w S 3 A c (l.map GData.toD)) :
    Calls Try.prog 13 #[.slice A l.length c, .int .i64 x] w fun e w' => e = .returned (.int .i64 ((k + cntL GData.cnt l : Nat) : Int)) ∧ Osl w' S 3 A c ((markL GData.mark GData.cnt l k).map GData.toD) ∧ Touch S w w' :=
  markDataS l A c k x S w hx h0 hk hS hs





end Go.Proofs.Ytnpkmebnmklcfaa

/- Marks on what is owned: the Go struct Node. Conditions: none but a bound on the numbers. -/
namespace Go.Proofs.Ytnpkmebnmklcfaa
open Go.RowKit
set_option linter.unusedVariables false
set_option linter.unusedSimpArgs false
set_option maxHeartbeats 1000000

theorem GNode.own_inv {w : World} {S : Nat → Prop} {t : GNode} {cs : List Value} (h : t.toD.own w S cs) : ∃ A1 c1, cs = [.int .i64 t.op, .int .i64 t.n, .string t.s, .string t.t, .slice A1 t.kids.length c1] ∧ GNode.Ow w S A1 c1 t := by
  cases t with
  | mk op n s t kids =>
  simp only [GNode.toD, GNode.toDs_map] at h
  rw [D.own_agg] at h
  simp only [D.ownF] at h
  obtain ⟨U0, V0, x0, r0, a0, b0, e0, h0, U1, V1, x1, r1, a1, b1, e1, h1, U2, V2, x2, r2, a2, b2, e2, h2, U3, V3, x3, r3, a3, b3, e3, h3, U4, V4, x4, r4, a4, b4, e4, h4, ee⟩ := h
  subst ee
  subst e4
  subst e3
  subst e2
  subst e1
  subst e0
  obtain ⟨rfl, k0⟩ := D.own_num.1 h0
  obtain ⟨rfl, k1⟩ := D.own_num.1 h1
  obtain ⟨rfl, k2⟩ := D.own_str.1 h2
  obtain ⟨rfl, k3⟩ := D.own_str.1 h3
  obtain ⟨B1, d1, rfl, k4⟩ := D.own_sl.1 h4
  exact ⟨B1, d1, (by simp [GNode.op, GNode.n, GNode.s, GNode.t, GNode.kids]), ⟨k0, k1, k2, k3, k4.keep fun x hx => ⟨b0 x (b1 x (b2 x (b3 x ((a4 x hx).1)))), rfl⟩⟩⟩

mutual
/-- the marked tree -/
def GNode.mark : GNode → Nat → GNode | .mk op n s t kids, k => .mk (((k : Nat) : Int)) (((k + 1 : Nat) : Int)) (markT (k + 2)) (markT (k + 3)) (GNode.marks kids (k + 4))
def GNode.marks : List GNode → Nat → List GNode | [], _ => [] | t :: r, k => t.mark k :: GNode.marks r (k + t.cnt)
/-- how many marks -/
def GNode.cnt : GNode → Nat | .mk op n s t kids => 4 + GNode.cnts kids
def GNode.cnts : List GNode → Nat | [] => 0 | t :: r => t.cnt + GNode.cnts r
end
theorem GNode.marks_eq : ∀ (l : List GNode) (k : Nat), GNode.marks l k = markL GNode.mark GNode.cnt l k
  | [], _ => by simp only [GNode.marks, markL]
  | t :: r, k => by simp only [GNode.marks, markL, GNode.marks_eq r]
theorem GNode.cnts_eq : ∀ (l : List GNode), GNode.cnts l = cntL GNode.cnt l
  | [] => by simp only [GNode.cnts, cntL]
  | t :: r => by simp only [GNode.cnts, cntL, GNode.cnts_eq r]
/-- the same, but for its own numbers and texts -/
def GNode.mark0 (t : GNode) (k : Nat) : GNode := .mk t.op t.n t.s t.t (markL GNode.mark GNode.cnt t.kids (k))
def GNode.cnt0 (t : GNode) : Nat := cntL GNode.cnt t.kids
theorem GNode.cnt_eq (t : GNode) : t.cnt = 4 + cntL GNode.cnt t.kids := by
  cases t; simp only [GNode.cnt, GNode.op, GNode.n, GNode.s, GNode.t, GNode.kids, GNode.cnts_eq]
theorem GNode.mark_op (t : GNode) (k : Nat) : (t.mark k).op = (((k : Nat) : Int)) := by
  cases t; simp only [GNode.mark, GNode.marks_eq, GNode.op, GNode.n, GNode.s, GNode.t, GNode.kids]
theorem GNode.mark_n (t : GNode) (k : Nat) : (t.mark k).n = (((k + 1 : Nat) : Int)) := by
  cases t; simp only [GNode.mark, GNode.marks_eq, GNode.op, GNode.n, GNode.s, GNode.t, GNode.kids]
theorem GNode.mark_s (t : GNode) (k : Nat) : (t.mark k).s = (markT (k + 2)) := by
  cases t; simp only [GNode.mark, GNode.marks_eq, GNode.op, GNode.n, GNode.s, GNode.t, GNode.kids]
theorem GNode.mark_t (t : GNode) (k : Nat) : (t.mark k).t = (markT (k + 3)) := by
  cases t; simp only [GNode.mark, GNode.marks_eq, GNode.op, GNode.n, GNode.s, GNode.t, GNode.kids]
theorem GNode.mark_kids (t : GNode) (k : Nat) : (t.mark k).kids = (markL GNode.mark GNode.cnt t.kids (k + 4)) := by
  cases t; simp only [GNode.mark, GNode.marks_eq, GNode.op, GNode.n, GNode.s, GNode.t, GNode.kids]
theorem GNode.mark_cells (t : GNode) (K : Nat) (A1 : Option Addr) (c1 : Nat) (v0 : Int) (v1 : Int) (e0 : v0 = ((K : Nat) : Int)) (e1 : v1 = ((K + 1 : Nat) : Int)) : ([.int .i64 v0, .int .i64 v1, .string (markT (K + 2)), .string (markT (K + 3)), .slice A1 t.kids.length c1] : List Value) = [.int .i64 (t.mark K).op, .int .i64 (t.mark K).n, .string (t.mark K).s, .string (t.mark K).t, .slice A1 (t.mark K).kids.length c1] := by
  subst e0
  subst e1
  simp only [GNode.mark_op, GNode.mark_n, GNode.mark_s, GNode.mark_t, GNode.mark_kids, markL_length]
  try (simp only [Nat.add_assoc, Nat.add_comm, Nat.add_left_comm])

theorem GNode.Ow_mark {w : World} {S : Nat → Prop} {t : GNode} {K : Nat} {A1 : Option Addr} {c1 : Nat} (hK : K + t.cnt ≤ 4611686018427387904)  (o1 : Osl w S 5 A1 c1 ((markL GNode.mark GNode.cnt t.kids (K + 4)).map GNode.toD)) : GNode.Ow w S A1 c1 (t.mark K) := by
  rw [GNode.cnt_eq] at hK
  unfold GNode.Ow
  exact ⟨(by simp only [GNode.mark_op, GNode.mark_n, GNode.mark_s, GNode.mark_t, GNode.mark_kids]; exact wfNat _ (by first | omega | omega)), (by simp only [GNode.mark_op, GNode.mark_n, GNode.mark_s, GNode.mark_t, GNode.mark_kids]; exact wfNat _ (by first | omega | omega)), (by simp only [GNode.mark_op, GNode.mark_n, GNode.mark_s, GNode.mark_t, GNode.mark_kids]; have := markT_size (K + 2) (by first | omega | omega); unfold maxLen; omega), (by simp only [GNode.mark_op, GNode.mark_n, GNode.mark_s, GNode.mark_t, GNode.mark_kids]; have := markT_size (K + 3) (by first | omega | omega); unfold maxLen; omega), (by simp only [GNode.mark_op, GNode.mark_n, GNode.mark_s, GNode.mark_t, GNode.mark_kids]; first | exact o1 | (rw [show K + 4 = K + 4 from by first | omega | omega]; exact o1))⟩

theorem GNode.cnt_bulk : ∀ t : GNode, t.cnt ≤ 16 * (1 + t.bulk) := by
  have H : ∀ kk : Nat, ∀ t : GNode, t.bulk < kk → t.cnt ≤ 16 * (1 + t.bulk) := by
    intro kk; induction kk with
    | zero => intro t h; omega
    | succ kk ih =>
      intro t h
      have hb := t.bulk_eq
      have := cntL_le GNode.cnt GNode.bulk t.kids (fun x hx => ih x (by have := bulkL_mem GNode.bulk t.kids x hx; omega))
      rw [GNode.cnt_eq]; omega
  exact fun t => H (t.bulk + 1) t (by omega)
theorem GNode.cnts_bulk (l : List GNode) : cntL GNode.cnt l ≤ 16 * bulkL GNode.bulk l := cntL_le _ _ l fun x _ => GNode.cnt_bulk x
theorem GNode.cnt0_le (t : GNode) : t.cnt0 ≤ t.cnt := by
  rw [GNode.cnt_eq]; simp only [GNode.cnt0]; omega
set_option maxRecDepth 20000 in
theorem markNodeS (kk : Nat) : ∀ (l : List GNode) (A : Option Addr) (c k : Nat) (x : Int) (S : Nat → Prop) (w : World), bulkL GNode.bulk l < kk → x = k → 0 < k → k + cntL GNode.cnt l ≤ 4611686018427387904 → (∀ b, S b → b < w.heap.size) → Osl w S 5 A c (l.map GNode.toD) →
    Calls Try.prog 14 #[.slice A l.length c, .int .i64 x] w fun e w' => e = .returned (.int .i64 ((k + cntL GNode.cnt l : Nat) : Int)) ∧ Osl w' S 5 A c ((markL GNode.mark GNode.cnt l k).map GNode.toD) ∧ Touch S w w' := by
  induction kk with
  | zero => intro l A c k x S w h; omega
  | succ kk ih =>
    intro l A c k x S w hkk hx h0 hk hS hs
    have HB := Lib.hid (fun (j : Nat) (h : j < l.length) => (show bulkL GNode.bulk (l[j]).kids < kk by have := bulkL_mem GNode.bulk l _ (List.getElem_mem h); have := (l[j]).bulk_eq; omega))
    clear hkk
    subst hx
    have hlen : l.length ≤ 9223372036854775807 := by simpa using hs.sl.len
    have HS := Lib.hid hS
    have S0 := Lib.hid hs
    clear hs hS
    go_enter Try.func14, Try.ntmps14
    go_wp2_with fail
    go_loopw [1, 5] (fun v i wr => ∃ (j : Nat), j ≤ l.length ∧ i = .int .i64 j ∧ v = .int .i64 ((k + cntL GNode.cnt (l.take j) : Nat) : Int) ∧ Hid (Osl wr S 5 A c ((markTo GNode.mark GNode.cnt l k j).map GNode.toD)) ∧ Hid (Touch S w wr)) (fun _ i _ => l.length - (intOf i).toNat)
    case atStart => exact ⟨0, by omega, by go_num, by simp [cntL], Lib.hid (by rw [markTo_zero]; exact S0.out), Lib.hid (Touch.refl _ _)⟩
    case round =>
      obtain ⟨j, hj, rfl, ev, HO, HT⟩ := hrel
      obtain ⟨K, hK⟩ : ∃ K, K = k + cntL GNode.cnt (l.take j) := ⟨_, rfl⟩
      rw [← hK] at ev
      subst ev
      by_cases hlt : j < l.length
      · obtain ⟨b, T, cs, rfl, hSb, hTb, hf0, hTS, hcl, hc, hd, hput⟩ := HO.out.focus j (by rw [List.length_map, markTo_length _ _ _ _ _ hj]; exact hlt)
        rw [List.getElem_map, markTo_get _ _ _ _ _ hlt] at hd
        obtain ⟨A1, c1, rfl, how⟩ := GNode.own_inv hd
        have x0 : wr.cell? ⟨b, j * 5, none⟩ = some (.int .i64 l[j].op) := by simpa using hc 0 _ rfl
        have x1 : wr.cell? ⟨b, j * 5 + 1, none⟩ = some (.int .i64 l[j].n) := by simpa using hc 1 _ rfl
        have x2 : wr.cell? ⟨b, j * 5 + 2, none⟩ = some (.string l[j].s) := by simpa using hc 2 _ rfl
        have x3 : wr.cell? ⟨b, j * 5 + 3, none⟩ = some (.string l[j].t) := by simpa using hc 3 _ rfl
        have x4 : wr.cell? ⟨b, j * 5 + 4, none⟩ = some (.slice A1 l[j].kids.length c1) := by simpa using hc 4 _ rfl
        have hKk : 0 < K := by omega
        have hKb : K + GNode.cnt l[j] ≤ 4611686018427387904 := by have := cntL_take_le GNode.cnt l j hlt; omega
        have HKB := Lib.hid hKb
        rw [GNode.cnt_eq] at hKb
        have HK := Lib.hid hK
        have hbl : b < wr.heap.size := Nat.lt_of_lt_of_le (HS.out b hSb) HT.out.size
        have M0 := Lib.hid (MSt.start (w := w) (wr := wr) (S := S) (T := T) (b := b) (lo := j * 5) (hi := j * 5 + 5) hf0 HT.out)
        obtain ⟨-, -, -, -, o1⟩ := how
        have O1_0 := Lib.hid o1
        clear o1
        have HPUT := Lib.hid hput
        clear hc hd hcl hput hK
        go_wp2_with fail
        refine (markTextI _ (K + 2) (by omega) _ (by omega) (by omega)).mono ?_
        rintro e w1 ⟨rfl, hb1⟩
        have x0_1 : w1.cell? ⟨b, j * 5, none⟩ = some (.int .i64 ((K : Int))) := (hb1.cell (p := ⟨b, j * 5, none⟩) (Nat.lt_of_lt_of_le hbl (((((M0.out).set hSb (j * 5) (by omega) (by omega) (.int .i64 ((K : Int))))).set hSb (j * 5 + 1) (by omega) (by omega) (.int .i64 ((K : Int) + 1)))).size)).trans ((cell_ne (by omega)).trans (World.cell?_setCell_same _ _ _ x0))
        have x1_1 : w1.cell? ⟨b, j * 5 + 1, none⟩ = some (.int .i64 ((K : Int) + 1)) := (hb1.cell (p := ⟨b, j * 5 + 1, none⟩) (Nat.lt_of_lt_of_le hbl (((((M0.out).set hSb (j * 5) (by omega) (by omega) (.int .i64 ((K : Int))))).set hSb (j * 5 + 1) (by omega) (by omega) (.int .i64 ((K : Int) + 1)))).size)).trans (World.cell?_setCell_same _ _ _ ((cell_ne (by omega)).trans x1))
        have x2_1 : w1.cell? ⟨b, j * 5 + 2, none⟩ = some (.string l[j].s) := (hb1.cell (p := ⟨b, j * 5 + 2, none⟩) (Nat.lt_of_lt_of_le hbl (((((M0.out).set hSb (j * 5) (by omega) (by omega) (.int .i64 ((K : Int))))).set hSb (j * 5 + 1) (by omega) (by omega) (.int .i64 ((K : Int) + 1)))).size)).trans ((cell_ne (by omega)).trans ((cell_ne (by omega)).trans x2))
        have x3_1 : w1.cell? ⟨b, j * 5 + 3, none⟩ = some (.string l[j].t) := (hb1.cell (p := ⟨b, j * 5 + 3, none⟩) (Nat.lt_of_lt_of_le hbl (((((M0.out).set hSb (j * 5) (by omega) (by omega) (.int .i64 ((K : Int))))).set hSb (j * 5 + 1) (by omega) (by omega) (.int .i64 ((K : Int) + 1)))).size)).trans ((cell_ne (by omega)).trans ((cell_ne (by omega)).trans x3))
        have x4_1 : w1.cell? ⟨b, j * 5 + 4, none⟩ = some (.slice A1 l[j].kids.length c1) := (hb1.cell (p := ⟨b, j * 5 + 4, none⟩) (Nat.lt_of_lt_of_le hbl (((((M0.out).set hSb (j * 5) (by omega) (by omega) (.int .i64 ((K : Int))))).set hSb (j * 5 + 1) (by omega) (by omega) (.int .i64 ((K : Int) + 1)))).size)).trans ((cell_ne (by omega)).trans ((cell_ne (by omega)).trans x4))
        have M1 := Lib.hid (MSt.below (((((M0.out).set hSb (j * 5) (by omega) (by omega) (.int .i64 ((K : Int))))).set hSb (j * 5 + 1) (by omega) (by omega) (.int .i64 ((K : Int) + 1)))) hb1 hbl HS.out)
        have hf1 := M1.out.fr
        have O1_1 := Lib.hid (Osl.belowS ((Osl.set (o := j * 5 + 1) ((Osl.set (o := j * 5) (O1_0.out) hTb (.int .i64 ((K : Int))))) hTb (.int .i64 ((K : Int) + 1)))) hb1 (fun q hq => Nat.lt_of_lt_of_le (HS.out q (hTS q ((fun _ h => h) q hq))) (((((M0.out).set hSb (j * 5) (by omega) (by omega) (.int .i64 ((K : Int))))).set hSb (j * 5 + 1) (by omega) (by omega) (.int .i64 ((K : Int) + 1)))).touch.size))
        clear x0 x1 x2 x3 x4 hf0 hb1
        go_wp2_with fail
        refine (markTextI _ (K + 3) (by omega) _ (by omega) (by omega)).mono ?_
        rintro e w2 ⟨rfl, hb2⟩
        have x0_2 : w2.cell? ⟨b, j * 5, none⟩ = some (.int .i64 ((K : Int))) := (hb2.cell (p := ⟨b, j * 5, none⟩) (Nat.lt_of_lt_of_le hbl (((M1.out).set hSb (j * 5 + 2) (by omega) (by omega) (.string (markT (K + 2))))).size)).trans ((cell_ne (by omega)).trans x0_1)
        have x1_2 : w2.cell? ⟨b, j * 5 + 1, none⟩ = some (.int .i64 ((K : Int) + 1)) := (hb2.cell (p := ⟨b, j * 5 + 1, none⟩) (Nat.lt_of_lt_of_le hbl (((M1.out).set hSb (j * 5 + 2) (by omega) (by omega) (.string (markT (K + 2))))).size)).trans ((cell_ne (by omega)).trans x1_1)
        have x2_2 : w2.cell? ⟨b, j * 5 + 2, none⟩ = some (.string (markT (K + 2))) := (hb2.cell (p := ⟨b, j * 5 + 2, none⟩) (Nat.lt_of_lt_of_le hbl (((M1.out).set hSb (j * 5 + 2) (by omega) (by omega) (.string (markT (K + 2))))).size)).trans (World.cell?_setCell_same _ _ _ x2_1)
        have x3_2 : w2.cell? ⟨b, j * 5 + 3, none⟩ = some (.string l[j].t) := (hb2.cell (p := ⟨b, j * 5 + 3, none⟩) (Nat.lt_of_lt_of_le hbl (((M1.out).set hSb (j * 5 + 2) (by omega) (by omega) (.string (markT (K + 2))))).size)).trans ((cell_ne (by omega)).trans x3_1)
        have x4_2 : w2.cell? ⟨b, j * 5 + 4, none⟩ = some (.slice A1 l[j].kids.length c1) := (hb2.cell (p := ⟨b, j * 5 + 4, none⟩) (Nat.lt_of_lt_of_le hbl (((M1.out).set hSb (j * 5 + 2) (by omega) (by omega) (.string (markT (K + 2))))).size)).trans ((cell_ne (by omega)).trans x4_1)
        have M2 := Lib.hid (MSt.below (((M1.out).set hSb (j * 5 + 2) (by omega) (by omega) (.string (markT (K + 2))))) hb2 hbl HS.out)
        have hf2 := M2.out.fr
        have O1_2 := Lib.hid (Osl.belowS ((Osl.set (o := j * 5 + 2) (O1_1.out) hTb (.string (markT (K + 2))))) hb2 (fun q hq => Nat.lt_of_lt_of_le (HS.out q (hTS q ((fun _ h => h) q hq))) (((M1.out).set hSb (j * 5 + 2) (by omega) (by omega) (.string (markT (K + 2))))).touch.size))
        clear x0_1 x1_1 x2_1 x3_1 x4_1 hf1 hb2
        have OW3 := Lib.hid (Osl.set (o := j * 5 + 3) (O1_2.out) hTb (.string (markT (K + 3))))
        have LT3 := Lib.hid (show ∀ q, T q → q < (w2.setCell ⟨b, j * 5 + 3, none⟩ (.string (markT (K + 3)))).heap.size from (fun q hq => Nat.lt_of_lt_of_le (HS.out q (hTS q ((fun _ h => h) q hq))) (Nat.le_trans (((M2.out).set hSb (j * 5 + 3) (by omega) (by omega) (.string (markT (K + 3))))).touch.size (Nat.le_refl _))))
        go_wp2_with fail
        refine (ih l[j].kids A1 c1 (K + 4) _ T _ (HB.out j hlt) (by omega) (by omega) (by omega) LT3.out OW3.out).mono ?_
        rintro e w3 ⟨rfl, ho3, ht3⟩
        have Q3 := Lib.hid ho3
        clear ho3
        have x0_3 : w3.cell? ⟨b, j * 5, none⟩ = some (.int .i64 ((K : Int))) := (World.cell?_of_block (ht3.block b (Nat.lt_of_lt_of_le hbl (((M2.out).set hSb (j * 5 + 3) (by omega) (by omega) (.string (markT (K + 3))))).size) hTb)).trans ((cell_ne (by omega)).trans x0_2)
        have x1_3 : w3.cell? ⟨b, j * 5 + 1, none⟩ = some (.int .i64 ((K : Int) + 1)) := (World.cell?_of_block (ht3.block b (Nat.lt_of_lt_of_le hbl (((M2.out).set hSb (j * 5 + 3) (by omega) (by omega) (.string (markT (K + 3))))).size) hTb)).trans ((cell_ne (by omega)).trans x1_2)
        have x2_3 : w3.cell? ⟨b, j * 5 + 2, none⟩ = some (.string (markT (K + 2))) := (World.cell?_of_block (ht3.block b (Nat.lt_of_lt_of_le hbl (((M2.out).set hSb (j * 5 + 3) (by omega) (by omega) (.string (markT (K + 3))))).size) hTb)).trans ((cell_ne (by omega)).trans x2_2)
        have x3_3 : w3.cell? ⟨b, j * 5 + 3, none⟩ = some (.string (markT (K + 3))) := (World.cell?_of_block (ht3.block b (Nat.lt_of_lt_of_le hbl (((M2.out).set hSb (j * 5 + 3) (by omega) (by omega) (.string (markT (K + 3))))).size) hTb)).trans (World.cell?_setCell_same _ _ _ x3_2)
        have x4_3 : w3.cell? ⟨b, j * 5 + 4, none⟩ = some (.slice A1 l[j].kids.length c1) := (World.cell?_of_block (ht3.block b (Nat.lt_of_lt_of_le hbl (((M2.out).set hSb (j * 5 + 3) (by omega) (by omega) (.string (markT (K + 3))))).size) hTb)).trans ((cell_ne (by omega)).trans x4_2)
        have M3 := Lib.hid (MSt.mark (((M2.out).set hSb (j * 5 + 3) (by omega) (by omega) (.string (markT (K + 3))))) ht3 (fun _ h => h) hTS hTb hbl HS.out)
        have hf3 := M3.out.fr
        clear x0_2 x1_2 x2_2 x3_2 x4_2 hf2 ht3
        obtain ⟨K3, hK3⟩ : ∃ K3 : Nat, K3 = K + 4 + cntL GNode.cnt l[j].kids := ⟨_, rfl⟩
        rw [← hK3]
        have HM := Lib.hid (M3.out)
        have HOW := Lib.hid (GNode.Ow_mark (w := w3) (S := T) (t := l[j]) (K := K) HKB.out Q3.out)
        have HC := Lib.hid (GNode.mark_cells l[j] K A1 c1 ((K : Int)) ((K : Int) + 1) (by omega) (by omega))
        have HP := Lib.hid (HPUT.out w3 (GNode.mark l[j] K).toD [.int .i64 ((K : Int)), .int .i64 ((K : Int) + 1), .string (markT (K + 2)), .string (markT (K + 3)), .slice A1 l[j].kids.length c1] (HM.out.blk2 HS.out HT.out.size) HM.out.out HM.out.fr rfl
          (fun q v hv => by
            match q, hv with
            | 0, hv =>
              obtain rfl := Option.some.inj hv
              exact x0_3
            | 1, hv =>
              obtain rfl := Option.some.inj hv
              exact x1_3
            | 2, hv =>
              obtain rfl := Option.some.inj hv
              exact x2_3
            | 3, hv =>
              obtain rfl := Option.some.inj hv
              exact x3_3
            | 4, hv =>
              obtain rfl := Option.some.inj hv
              exact x4_3
            | q + 5, hv => cases hv)
          (by rw [HC.out]; exact GNode.own_mk HOW.out))
        have HTF := Lib.hid HM.out.touch
        have hKe := HK.out
        clear HK HOW HC HPUT
        go_wp2_with fail
        go_roundw
        case rel => exact ⟨j + 1, by omega, by go_num, by have := cntL_take_succ GNode.cnt l j hlt; have := GNode.cnt_eq l[j]; congr 1; omega, Lib.hid (by have e := markTo_set GNode.mark GNode.cnt l k j hlt; rw [← hKe] at e; rw [← e, List.map_set]; exact HP.out), HTF⟩
        case measure => simp [intOf]; omega
      · have hjl : j = l.length := by omega
        have Hj := Lib.hid hjl
        have HK := Lib.hid hK
        clear hjl hK
        go_wp2_with fail
        go_ret
        exact ⟨ret_int (by rw [HK.out, Hj.out, List.take_length]), by have := HO.out; rw [Hj.out, markTo_all] at this; exact this, HT.out⟩

theorem markNodeS' (l : List GNode) (A : Option Addr) (c k : Nat) (x : Int) (S : Nat → Prop) (w : World) (hx : x = k) (h0 : 0 < k) (hk : k + cntL GNode.cnt l ≤ 4611686018427387904) (hS : ∀ b, S b → b < w.heap.size) (hs : Osl w S 5 A c (l.map GNode.toD)) :
    Calls Try.prog 14 #[.slice A l.length c, .int .i64 x] w fun e w' => e = .returned (.int .i64 ((k + cntL GNode.cnt l : Nat) : Int)) ∧ Osl w' S 5 A c ((markL GNode.mark GNode.cnt l k).map GNode.toD) ∧ Touch S w w' :=
  markNodeS (bulkL GNode.bulk l + 1) l A c k x S w (by omega) hx h0 hk hS hs





end Go.Proofs.Ytnpkmebnmklcfaa

/- Slices of ints: how much they hold; equality. Conditions: none but bounds. -/
namespace Go.Proofs.Ytnpkmebnmklcfaa
open Go.RowKit
set_option linter.unusedVariables false


theorem eqIntS (l : List Int) (A B : Option Addr) (c d : Nat) (w : World) (hs : Sl w (Lt w.heap.size) 1 A c (l.map (D.num .i64))) (hs' : Sl w (Lt w.heap.size) 1 B d (l.map (D.num .i64))) :
    Calls Try.prog 29 #[.slice A l.length c, .slice B l.length d] w fun e w' => e = .returned (.bool true) ∧ Below w.heap.size w w' := eqIntS' l A B c d w hs hs'
end Go.Proofs.Ytnpkmebnmklcfaa

/- The laws' sz, to and eq functions at Tree. Conditions: what is counted is at most 1048576. -/
namespace Go.Proofs.Ytnpkmebnmklcfaa
open Go.RowKit
set_option linter.unusedVariables false
set_option linter.unusedSimpArgs false
set_option maxHeartbeats 400000





/-- what a to function gives back: a struct of the call's own -/
def ToTree (t : GTree) (w : World) (e : Ending) (w' : World) : Prop := ∃ A1 c1 A2 c2, e = .returned (.agg #[.int .i64 t.op, .int .i64 t.n, .slice A1 t.path.length c1, .string t.s, .slice A2 t.kids.length c2]) ∧ GTree.Ow w' (Btw w.heap.size w'.heap.size) A1 c1 A2 c2 t ∧ Below w.heap.size w w'
def ToTreeS (l : List GTree) (w : World) (e : Ending) (w' : World) : Prop := ∃ A1 c1, e = .returned (.slice A1 l.length c1) ∧ Osl w' (Btw w.heap.size w'.heap.size) 5 A1 c1 (l.map GTree.toD) ∧ Below w.heap.size w w'






set_option maxRecDepth 20000 in
theorem eqTreeS (l : List GTree) (A B : Option Addr) (c d : Nat) (w : World) (hs : Sl w (Lt w.heap.size) 5 A c (l.map GTree.toD)) (hs' : Sl w (Lt w.heap.size) 5 B d (l.map GTree.toD))
    (H : ∀ t, t ∈ l → ∀ (A1 : Option Addr) (c1 : Nat) (A2 : Option Addr) (c2 : Nat) (B1 : Option Addr) (d1 : Nat) (B2 : Option Addr) (d2 : Nat) (w : World), GTree.At w (Lt w.heap.size) A1 c1 A2 c2 t → GTree.At w (Lt w.heap.size) B1 d1 B2 d2 t →
      Calls Try.prog 10 #[.agg #[.int .i64 t.op, .int .i64 t.n, .slice A1 t.path.length c1, .string t.s, .slice A2 t.kids.length c2], .agg #[.int .i64 t.op, .int .i64 t.n, .slice B1 t.path.length d1, .string t.s, .slice B2 t.kids.length d2]] w fun e w' => e = .returned (.bool true) ∧ Below w.heap.size w w') :
    Calls Try.prog 30 #[.slice A l.length c, .slice B l.length d] w fun e w' => e = .returned (.bool true) ∧ Below w.heap.size w w' := by
  have hlen : l.length ≤ 9223372036854775807 := by simpa using hs.len
  have HH := Lib.hid H
  clear H
  go_enter Try.func30, Try.ntmps30
  go_wp2_with fail
  go_loopw [5] (fun i wr => ∃ (j : Nat), j ≤ l.length ∧ i = .int .i64 j ∧ Below w.heap.size w wr) (fun i _ => l.length - (intOf i).toNat)
  case atStart => exact ⟨0, by omega, by go_num, Below.refl _ _⟩
  case round =>
    obtain ⟨j, hj, rfl, hb⟩ := hrel
    have hsz := hb.size
    by_cases hlt : j < l.length
    · have hel := GTree.elem (hs.below hb (Nat.le_refl _)) j hlt
      obtain ⟨b, off, A1, c1, A2, c2, rfl, hSb, g0, g1, g2, g3, g4, hat⟩ := hel
      have hel := GTree.elem (hs'.below hb (Nat.le_refl _)) j hlt
      obtain ⟨b', off', B1, d1, B2, d2, rfl, hSb', g0', g1', g2', g3', g4', hat'⟩ := hel
      have hmem : l[j] ∈ l := List.getElem_mem hlt
      go_wp2_with fail
      refine wp_region_still_tail 8 (by kernel_rfl) (by kernel_rfl) ?_
      simp only [List.take_succ_cons, List.take_zero, List.drop_succ_cons, List.drop_zero]
      change wpStill _ _ wr.drew (fun a' => wpList _ _ _ _ a' wr.drew) _ _
      iterate 8 still_step
      refine wpStill_nil ?_
      go_wp2_with fail
      refine (HH.out _ hmem _ _ _ _ _ _ _ _ wr.drew (hat.keep fun b hb => ⟨Nat.lt_of_lt_of_le hb hsz, rfl⟩) (hat'.keep fun b hb => ⟨Nat.lt_of_lt_of_le hb hsz, rfl⟩)).mono ?_
      rintro e w1 ⟨rfl, hb1⟩
      go_wp2_with fail
      go_roundw
      case rel => exact ⟨j + 1, by omega, by go_num, hb.drew.trans (hb1.mono hsz)⟩
      case measure => simp [intOf]; omega
    · have hjl : j = l.length := by omega
      clear hjl
      go_wp2_with fail
      go_ret
      exact ⟨rfl, hb⟩

set_option maxRecDepth 20000 in
theorem eqTree (k : Nat) : ∀ (t : GTree) (A1 : Option Addr) (c1 : Nat) (A2 : Option Addr) (c2 : Nat) (B1 : Option Addr) (d1 : Nat) (B2 : Option Addr) (d2 : Nat) (w : World), t.bulk < k → GTree.At w (Lt w.heap.size) A1 c1 A2 c2 t → GTree.At w (Lt w.heap.size) B1 d1 B2 d2 t →
      Calls Try.prog 10 #[.agg #[.int .i64 t.op, .int .i64 t.n, .slice A1 t.path.length c1, .string t.s, .slice A2 t.kids.length c2], .agg #[.int .i64 t.op, .int .i64 t.n, .slice B1 t.path.length d1, .string t.s, .slice B2 t.kids.length d2]] w fun e w' => e = .returned (.bool true) ∧ Below w.heap.size w w' := by
  induction k with
  | zero => intro t A1 c1 A2 c2 B1 d1 B2 d2 w hk; omega
  | succ k ih =>
    intro t A1 c1 A2 c2 B1 d1 B2 d2 w hk hat hat2
    have hbe := t.bulk_eq
    have H3 := fun (w : World) hs hs' => eqTreeS t.kids A2 B2 c2 d2 w hs hs' (fun u hu A1 c1 A2 c2 B1 d1 B2 d2 w hat hat2 => ih u A1 c1 A2 c2 B1 d1 B2 d2 w (by have := bulkL_mem GTree.bulk t.kids u hu; omega) hat hat2)
    have HH := Lib.hid H3
    clear hbe H3 ih
    have hat' := Lib.hid hat
    have hat2' := Lib.hid hat2
    clear hat hat2
    have B0 : Below w.heap.size w ((w.alloc (.cells #[.int .i64 t.op, .int .i64 t.n, .slice A1 t.path.length c1, .string t.s, .slice A2 t.kids.length c2] 29)).alloc (.cells #[.int .i64 t.op, .int .i64 t.n, .slice B1 t.path.length d1, .string t.s, .slice B2 t.kids.length d2] 29)) := ((Below.refl _ _).alloc (Nat.le_refl _) _).alloc (by simp) _
    have ra0 := Lib.hid ((Row.new w 29 #[.int .i64 t.op, .int .i64 t.n, .slice A1 t.path.length c1, .string t.s, .slice A2 t.kids.length c2]).alloc (.cells #[.int .i64 t.op, .int .i64 t.n, .slice B1 t.path.length d1, .string t.s, .slice B2 t.kids.length d2] 29))
    have rb0 := Lib.hid (Row.new' (w.alloc (.cells #[.int .i64 t.op, .int .i64 t.n, .slice A1 t.path.length c1, .string t.s, .slice A2 t.kids.length c2] 29)) 29 #[.int .i64 t.op, .int .i64 t.n, .slice B1 t.path.length d1, .string t.s, .slice B2 t.kids.length d2] (g := w.heap.size + 1) (by simp))
    go_enter Try.func10, Try.ntmps10
    go_wp2_with fail
    obtain ⟨-, -, q2, -, -⟩ := hat'.out.below B0 B0.size
    obtain ⟨-, -, p2, -, -⟩ := hat2'.out.below B0 B0.size
    refine (eqIntS t.path A1 B1 c1 d1 _ q2 p2).mono ?_
    rintro e w1 ⟨rfl, hb1⟩
    have B1 := B0.trans (hb1.mono B0.size)
    have ra1 := Lib.hid (ra0.out.below hb1 ra0.out.lt)
    have rb1 := Lib.hid (rb0.out.below hb1 rb0.out.lt)
    have ha1 := fun i => ra1.out.cell i
    have hq1 := fun i => rb1.out.cell i
    go_wp2_with fail
    obtain ⟨-, -, -, -, q4⟩ := hat'.out.below B1 B1.size
    obtain ⟨-, -, -, -, p4⟩ := hat2'.out.below B1 B1.size
    refine (HH.out _ q4 p4).mono ?_
    rintro e w2 ⟨rfl, hb2⟩
    have B2 := B1.trans (hb2.mono B1.size)
    go_wp2_with fail
    go_ret
    exact ⟨rfl, B2⟩

theorem eqTree' (t : GTree) (A1 : Option Addr) (c1 : Nat) (A2 : Option Addr) (c2 : Nat) (B1 : Option Addr) (d1 : Nat) (B2 : Option Addr) (d2 : Nat) (w : World) (hat : GTree.At w (Lt w.heap.size) A1 c1 A2 c2 t) (hat2 : GTree.At w (Lt w.heap.size) B1 d1 B2 d2 t) :
      Calls Try.prog 10 #[.agg #[.int .i64 t.op, .int .i64 t.n, .slice A1 t.path.length c1, .string t.s, .slice A2 t.kids.length c2], .agg #[.int .i64 t.op, .int .i64 t.n, .slice B1 t.path.length d1, .string t.s, .slice B2 t.kids.length d2]] w fun e w' => e = .returned (.bool true) ∧ Below w.heap.size w w' :=
  eqTree (t.bulk + 1) t A1 c1 A2 c2 B1 d1 B2 d2 w (by omega) hat hat2

theorem eqTreeS' (l : List GTree) (A B : Option Addr) (c d : Nat) (w : World) (hs : Sl w (Lt w.heap.size) 5 A c (l.map GTree.toD)) (hs' : Sl w (Lt w.heap.size) 5 B d (l.map GTree.toD)) :
    Calls Try.prog 30 #[.slice A l.length c, .slice B l.length d] w fun e w' => e = .returned (.bool true) ∧ Below w.heap.size w w' :=
  eqTreeS l A B c d w hs hs' (fun u _ A1 c1 A2 c2 B1 d1 B2 d2 w hat hat2 => eqTree' u A1 c1 A2 c2 B1 d1 B2 d2 w hat hat2)

end Go.Proofs.Ytnpkmebnmklcfaa

/- Marks on what is owned: the Go struct Tree. Conditions: none but a bound on the numbers. -/
namespace Go.Proofs.Ytnpkmebnmklcfaa
open Go.RowKit
set_option linter.unusedVariables false
set_option linter.unusedSimpArgs false
set_option maxHeartbeats 1000000

theorem GTree.own_inv {w : World} {S : Nat → Prop} {t : GTree} {cs : List Value} (h : t.toD.own w S cs) : ∃ A1 c1 A2 c2, cs = [.int .i64 t.op, .int .i64 t.n, .slice A1 t.path.length c1, .string t.s, .slice A2 t.kids.length c2] ∧ GTree.Ow w S A1 c1 A2 c2 t := by
  cases t with
  | mk op n path s kids =>
  simp only [GTree.toD, GTree.toDs_map] at h
  rw [D.own_agg] at h
  simp only [D.ownF] at h
  obtain ⟨U0, V0, x0, r0, a0, b0, e0, h0, U1, V1, x1, r1, a1, b1, e1, h1, U2, V2, x2, r2, a2, b2, e2, h2, U3, V3, x3, r3, a3, b3, e3, h3, U4, V4, x4, r4, a4, b4, e4, h4, ee⟩ := h
  subst ee
  subst e4
  subst e3
  subst e2
  subst e1
  subst e0
  obtain ⟨rfl, k0⟩ := D.own_num.1 h0
  obtain ⟨rfl, k1⟩ := D.own_num.1 h1
  obtain ⟨B1, d1, rfl, k2⟩ := D.own_sl.1 h2
  obtain ⟨rfl, k3⟩ := D.own_str.1 h3
  obtain ⟨B2, d2, rfl, k4⟩ := D.own_sl.1 h4
  exact ⟨B1, d1, B2, d2, (by simp [GTree.op, GTree.n, GTree.path, GTree.s, GTree.kids]), ⟨U2, U4, fun x hx => b0 x (b1 x ((a2 x hx).1)), fun x hx => b0 x (b1 x (b2 x (b3 x ((a4 x hx).1)))), fun x hx hy => (a2 x hx).2 (b3 x ((a4 x hy).1)), k0, k1, k2, k3, k4⟩⟩

mutual
/-- the marked tree -/
def GTree.mark : GTree → Nat → GTree | .mk op n path s kids, k => .mk (((k : Nat) : Int)) (((k + 1 : Nat) : Int)) (markL mkI cnI path (k + 2)) (markT (k + 2 + cntL cnI path)) (GTree.marks kids (k + 3 + cntL cnI path))
def GTree.marks : List GTree → Nat → List GTree | [], _ => [] | t :: r, k => t.mark k :: GTree.marks r (k + t.cnt)
/-- how many marks -/
def GTree.cnt : GTree → Nat | .mk op n path s kids => 3 + cntL cnI path + GTree.cnts kids
def GTree.cnts : List GTree → Nat | [] => 0 | t :: r => t.cnt + GTree.cnts r
end
theorem GTree.marks_eq : ∀ (l : List GTree) (k : Nat), GTree.marks l k = markL GTree.mark GTree.cnt l k
  | [], _ => by simp only [GTree.marks, markL]
  | t :: r, k => by simp only [GTree.marks, markL, GTree.marks_eq r]
theorem GTree.cnts_eq : ∀ (l : List GTree), GTree.cnts l = cntL GTree.cnt l
  | [] => by simp only [GTree.cnts, cntL]
  | t :: r => by simp only [GTree.cnts, cntL, GTree.cnts_eq r]
/-- the same, but for its own numbers and texts -/
def GTree.mark0 (t : GTree) (k : Nat) : GTree := .mk t.op t.n (markL mkI cnI t.path (k)) t.s (markL GTree.mark GTree.cnt t.kids (k + cntL cnI t.path))
def GTree.cnt0 (t : GTree) : Nat := cntL cnI t.path + cntL GTree.cnt t.kids
theorem GTree.cnt_eq (t : GTree) : t.cnt = 3 + cntL cnI t.path + cntL GTree.cnt t.kids := by
  cases t; simp only [GTree.cnt, GTree.op, GTree.n, GTree.path, GTree.s, GTree.kids, GTree.cnts_eq]
theorem GTree.mark_op (t : GTree) (k : Nat) : (t.mark k).op = (((k : Nat) : Int)) := by
  cases t; simp only [GTree.mark, GTree.marks_eq, GTree.op, GTree.n, GTree.path, GTree.s, GTree.kids]
theorem GTree.mark_n (t : GTree) (k : Nat) : (t.mark k).n = (((k + 1 : Nat) : Int)) := by
  cases t; simp only [GTree.mark, GTree.marks_eq, GTree.op, GTree.n, GTree.path, GTree.s, GTree.kids]
theorem GTree.mark_path (t : GTree) (k : Nat) : (t.mark k).path = (markL mkI cnI t.path (k + 2)) := by
  cases t; simp only [GTree.mark, GTree.marks_eq, GTree.op, GTree.n, GTree.path, GTree.s, GTree.kids]
theorem GTree.mark_s (t : GTree) (k : Nat) : (t.mark k).s = (markT (k + 2 + cntL cnI t.path)) := by
  cases t; simp only [GTree.mark, GTree.marks_eq, GTree.op, GTree.n, GTree.path, GTree.s, GTree.kids]
theorem GTree.mark_kids (t : GTree) (k : Nat) : (t.mark k).kids = (markL GTree.mark GTree.cnt t.kids (k + 3 + cntL cnI t.path)) := by
  cases t; simp only [GTree.mark, GTree.marks_eq, GTree.op, GTree.n, GTree.path, GTree.s, GTree.kids]
theorem GTree.mark_cells (t : GTree) (K : Nat) (A1 : Option Addr) (c1 : Nat) (A2 : Option Addr) (c2 : Nat) (v0 : Int) (v1 : Int) (e0 : v0 = ((K : Nat) : Int)) (e1 : v1 = ((K + 1 : Nat) : Int)) : ([.int .i64 v0, .int .i64 v1, .slice A1 t.path.length c1, .string (markT (K + 2 + cntL cnI t.path)), .slice A2 t.kids.length c2] : List Value) = [.int .i64 (t.mark K).op, .int .i64 (t.mark K).n, .slice A1 (t.mark K).path.length c1, .string (t.mark K).s, .slice A2 (t.mark K).kids.length c2] := by
  subst e0
  subst e1
  simp only [GTree.mark_op, GTree.mark_n, GTree.mark_path, GTree.mark_s, GTree.mark_kids, markL_length]
  try (simp only [Nat.add_assoc, Nat.add_comm, Nat.add_left_comm])

theorem GTree.Ow_mark {w : World} {S S1 S2 : Nat → Prop} {t : GTree} {K : Nat} {A1 : Option Addr} {c1 : Nat} {A2 : Option Addr} {c2 : Nat} (hK : K + t.cnt ≤ 4611686018427387904) (g1 : ∀ x, S1 x → S x) (g2 : ∀ x, S2 x → S x) (d12 : ∀ x, S1 x → ¬ S2 x) (o1 : Osl w S1 1 A1 c1 ((markL mkI cnI t.path (K + 2)).map (D.num .i64))) (o2 : Osl w S2 5 A2 c2 ((markL GTree.mark GTree.cnt t.kids (K + 3 + cntL cnI t.path)).map GTree.toD)) : GTree.Ow w S A1 c1 A2 c2 (t.mark K) := by
  rw [GTree.cnt_eq] at hK
  unfold GTree.Ow
  exact ⟨S1, S2, g1, g2, d12, (by simp only [GTree.mark_op, GTree.mark_n, GTree.mark_path, GTree.mark_s, GTree.mark_kids]; exact wfNat _ (by first | omega | omega)), (by simp only [GTree.mark_op, GTree.mark_n, GTree.mark_path, GTree.mark_s, GTree.mark_kids]; exact wfNat _ (by first | omega | omega)), (by simp only [GTree.mark_op, GTree.mark_n, GTree.mark_path, GTree.mark_s, GTree.mark_kids]; first | exact o1 | (rw [show K + 2 = K + 2 from by first | omega | omega]; exact o1)), (by simp only [GTree.mark_op, GTree.mark_n, GTree.mark_path, GTree.mark_s, GTree.mark_kids]; have := markT_size (K + 2 + cntL cnI t.path) (by first | omega | omega); unfold maxLen; omega), (by simp only [GTree.mark_op, GTree.mark_n, GTree.mark_path, GTree.mark_s, GTree.mark_kids]; first | exact o2 | (rw [show K + 3 + cntL cnI t.path = K + 3 + cntL cnI t.path from by first | omega | omega]; exact o2))⟩

theorem GTree.cnt_bulk : ∀ t : GTree, t.cnt ≤ 16 * (1 + t.bulk) := by
  have H : ∀ kk : Nat, ∀ t : GTree, t.bulk < kk → t.cnt ≤ 16 * (1 + t.bulk) := by
    intro kk; induction kk with
    | zero => intro t h; omega
    | succ kk ih =>
      intro t h
      have hb := t.bulk_eq
      have := cntL_int t.path
      have := cntL_le GTree.cnt GTree.bulk t.kids (fun x hx => ih x (by have := bulkL_mem GTree.bulk t.kids x hx; omega))
      rw [GTree.cnt_eq]; omega
  exact fun t => H (t.bulk + 1) t (by omega)
theorem GTree.cnts_bulk (l : List GTree) : cntL GTree.cnt l ≤ 16 * bulkL GTree.bulk l := cntL_le _ _ l fun x _ => GTree.cnt_bulk x
theorem GTree.cnt0_le (t : GTree) : t.cnt0 ≤ t.cnt := by
  rw [GTree.cnt_eq]; simp only [GTree.cnt0]; omega
set_option maxRecDepth 20000 in
theorem markTreeS (kk : Nat) : ∀ (l : List GTree) (A : Option Addr) (c k : Nat) (x : Int) (S : Nat → Prop) (w : World), bulkL GTree.bulk l < kk → x = k → 0 < k → k + cntL GTree.cnt l ≤ 4611686018427387904 → (∀ b, S b → b < w.heap.size) → Osl w S 5 A c (l.map GTree.toD) →
    Calls Try.prog 36 #[.slice A l.length c, .int .i64 x] w fun e w' => e = .returned (.int .i64 ((k + cntL GTree.cnt l : Nat) : Int)) ∧ Osl w' S 5 A c ((markL GTree.mark GTree.cnt l k).map GTree.toD) ∧ Touch S w w' := by
  induction kk with
  | zero => intro l A c k x S w h; omega
  | succ kk ih =>
    intro l A c k x S w hkk hx h0 hk hS hs
    have HB := Lib.hid (fun (j : Nat) (h : j < l.length) => (show bulkL GTree.bulk (l[j]).kids < kk by have := bulkL_mem GTree.bulk l _ (List.getElem_mem h); have := (l[j]).bulk_eq; omega))
    clear hkk
    subst hx
    have hlen : l.length ≤ 9223372036854775807 := by simpa using hs.sl.len
    have HS := Lib.hid hS
    have S0 := Lib.hid hs
    clear hs hS
    go_enter Try.func36, Try.ntmps36
    go_wp2_with fail
    go_loopw [1, 5] (fun v i wr => ∃ (j : Nat), j ≤ l.length ∧ i = .int .i64 j ∧ v = .int .i64 ((k + cntL GTree.cnt (l.take j) : Nat) : Int) ∧ Hid (Osl wr S 5 A c ((markTo GTree.mark GTree.cnt l k j).map GTree.toD)) ∧ Hid (Touch S w wr)) (fun _ i _ => l.length - (intOf i).toNat)
    case atStart => exact ⟨0, by omega, by go_num, by simp [cntL], Lib.hid (by rw [markTo_zero]; exact S0.out), Lib.hid (Touch.refl _ _)⟩
    case round =>
      obtain ⟨j, hj, rfl, ev, HO, HT⟩ := hrel
      obtain ⟨K, hK⟩ : ∃ K, K = k + cntL GTree.cnt (l.take j) := ⟨_, rfl⟩
      rw [← hK] at ev
      subst ev
      by_cases hlt : j < l.length
      · obtain ⟨b, T, cs, rfl, hSb, hTb, hf0, hTS, hcl, hc, hd, hput⟩ := HO.out.focus j (by rw [List.length_map, markTo_length _ _ _ _ _ hj]; exact hlt)
        rw [List.getElem_map, markTo_get _ _ _ _ _ hlt] at hd
        obtain ⟨A1, c1, A2, c2, rfl, how⟩ := GTree.own_inv hd
        have x0 : wr.cell? ⟨b, j * 5, none⟩ = some (.int .i64 l[j].op) := by simpa using hc 0 _ rfl
        have x1 : wr.cell? ⟨b, j * 5 + 1, none⟩ = some (.int .i64 l[j].n) := by simpa using hc 1 _ rfl
        have x2 : wr.cell? ⟨b, j * 5 + 2, none⟩ = some (.slice A1 l[j].path.length c1) := by simpa using hc 2 _ rfl
        have x3 : wr.cell? ⟨b, j * 5 + 3, none⟩ = some (.string l[j].s) := by simpa using hc 3 _ rfl
        have x4 : wr.cell? ⟨b, j * 5 + 4, none⟩ = some (.slice A2 l[j].kids.length c2) := by simpa using hc 4 _ rfl
        have hKk : 0 < K := by omega
        have hKb : K + GTree.cnt l[j] ≤ 4611686018427387904 := by have := cntL_take_le GTree.cnt l j hlt; omega
        have HKB := Lib.hid hKb
        rw [GTree.cnt_eq] at hKb
        have HK := Lib.hid hK
        have hbl : b < wr.heap.size := Nat.lt_of_lt_of_le (HS.out b hSb) HT.out.size
        have M0 := Lib.hid (MSt.start (w := w) (wr := wr) (S := S) (T := T) (b := b) (lo := j * 5) (hi := j * 5 + 5) hf0 HT.out)
        obtain ⟨S1, S2, g1, g2, d12, -, -, o1, -, o2⟩ := how
        have O1_0 := Lib.hid o1
        have O2_0 := Lib.hid o2
        clear o1 o2
        have HPUT := Lib.hid hput
        clear hc hd hcl hput hK
        have OW1 := Lib.hid (Osl.set (o := j * 5 + 1) ((Osl.set (o := j * 5) (O1_0.out) (fun e => hTb (g1 b e)) (.int .i64 ((K : Int))))) (fun e => hTb (g1 b e)) (.int .i64 ((K : Int) + 1)))
        have LT1 := Lib.hid (show ∀ q, S1 q → q < (((wr.setCell ⟨b, j * 5, none⟩ (.int .i64 ((K : Int))))).setCell ⟨b, j * 5 + 1, none⟩ (.int .i64 ((K : Int) + 1))).heap.size from (fun q hq => Nat.lt_of_lt_of_le (HS.out q (hTS q (g1 q hq))) (Nat.le_trans (((((M0.out).set hSb (j * 5) (by omega) (by omega) (.int .i64 ((K : Int))))).set hSb (j * 5 + 1) (by omega) (by omega) (.int .i64 ((K : Int) + 1)))).touch.size (Nat.le_refl _))))
        go_wp2_with fail
        refine (markIntSI l[j].path A1 c1 (K + 2) _ S1 _ (by omega) (by omega) OW1.out).mono ?_
        rintro e w1 ⟨rfl, ho1, ht1⟩
        have Q1 := Lib.hid ho1
        clear ho1
        have x0_1 : w1.cell? ⟨b, j * 5, none⟩ = some (.int .i64 ((K : Int))) := (World.cell?_of_block (ht1.block b (Nat.lt_of_lt_of_le hbl (((((M0.out).set hSb (j * 5) (by omega) (by omega) (.int .i64 ((K : Int))))).set hSb (j * 5 + 1) (by omega) (by omega) (.int .i64 ((K : Int) + 1)))).size) (fun e => hTb (g1 b e)))).trans ((cell_ne (by omega)).trans (World.cell?_setCell_same _ _ _ x0))
        have x1_1 : w1.cell? ⟨b, j * 5 + 1, none⟩ = some (.int .i64 ((K : Int) + 1)) := (World.cell?_of_block (ht1.block b (Nat.lt_of_lt_of_le hbl (((((M0.out).set hSb (j * 5) (by omega) (by omega) (.int .i64 ((K : Int))))).set hSb (j * 5 + 1) (by omega) (by omega) (.int .i64 ((K : Int) + 1)))).size) (fun e => hTb (g1 b e)))).trans (World.cell?_setCell_same _ _ _ ((cell_ne (by omega)).trans x1))
        have x2_1 : w1.cell? ⟨b, j * 5 + 2, none⟩ = some (.slice A1 l[j].path.length c1) := (World.cell?_of_block (ht1.block b (Nat.lt_of_lt_of_le hbl (((((M0.out).set hSb (j * 5) (by omega) (by omega) (.int .i64 ((K : Int))))).set hSb (j * 5 + 1) (by omega) (by omega) (.int .i64 ((K : Int) + 1)))).size) (fun e => hTb (g1 b e)))).trans ((cell_ne (by omega)).trans ((cell_ne (by omega)).trans x2))
        have x3_1 : w1.cell? ⟨b, j * 5 + 3, none⟩ = some (.string l[j].s) := (World.cell?_of_block (ht1.block b (Nat.lt_of_lt_of_le hbl (((((M0.out).set hSb (j * 5) (by omega) (by omega) (.int .i64 ((K : Int))))).set hSb (j * 5 + 1) (by omega) (by omega) (.int .i64 ((K : Int) + 1)))).size) (fun e => hTb (g1 b e)))).trans ((cell_ne (by omega)).trans ((cell_ne (by omega)).trans x3))
        have x4_1 : w1.cell? ⟨b, j * 5 + 4, none⟩ = some (.slice A2 l[j].kids.length c2) := (World.cell?_of_block (ht1.block b (Nat.lt_of_lt_of_le hbl (((((M0.out).set hSb (j * 5) (by omega) (by omega) (.int .i64 ((K : Int))))).set hSb (j * 5 + 1) (by omega) (by omega) (.int .i64 ((K : Int) + 1)))).size) (fun e => hTb (g1 b e)))).trans ((cell_ne (by omega)).trans ((cell_ne (by omega)).trans x4))
        have M1 := Lib.hid (MSt.mark (((((M0.out).set hSb (j * 5) (by omega) (by omega) (.int .i64 ((K : Int))))).set hSb (j * 5 + 1) (by omega) (by omega) (.int .i64 ((K : Int) + 1)))) ht1 g1 hTS hTb hbl HS.out)
        have hf1 := M1.out.fr
        have O2_1 := Lib.hid (Osl.touched ((Osl.set (o := j * 5 + 1) ((Osl.set (o := j * 5) (O2_0.out) (fun e => hTb (g2 b e)) (.int .i64 ((K : Int))))) (fun e => hTb (g2 b e)) (.int .i64 ((K : Int) + 1)))) ht1 (fun x h1 h2 => d12 x h2 h1) (fun q hq => Nat.lt_of_lt_of_le (HS.out q (hTS q (g2 q hq))) (((((M0.out).set hSb (j * 5) (by omega) (by omega) (.int .i64 ((K : Int))))).set hSb (j * 5 + 1) (by omega) (by omega) (.int .i64 ((K : Int) + 1)))).touch.size))
        clear x0 x1 x2 x3 x4 hf0 ht1
        obtain ⟨K1, hK1⟩ : ∃ K1 : Nat, K1 = K + 2 + cntL cnI l[j].path := ⟨_, rfl⟩
        rw [← hK1]
        go_wp2_with fail
        refine (markTextI _ (K + 2 + cntL cnI l[j].path) (by omega) _ (by omega) (by omega)).mono ?_
        rintro e w2 ⟨rfl, hb2⟩
        have x0_2 : w2.cell? ⟨b, j * 5, none⟩ = some (.int .i64 ((K : Int))) := (hb2.cell (p := ⟨b, j * 5, none⟩) (Nat.lt_of_lt_of_le hbl (M1.out).size)).trans x0_1
        have x1_2 : w2.cell? ⟨b, j * 5 + 1, none⟩ = some (.int .i64 ((K : Int) + 1)) := (hb2.cell (p := ⟨b, j * 5 + 1, none⟩) (Nat.lt_of_lt_of_le hbl (M1.out).size)).trans x1_1
        have x2_2 : w2.cell? ⟨b, j * 5 + 2, none⟩ = some (.slice A1 l[j].path.length c1) := (hb2.cell (p := ⟨b, j * 5 + 2, none⟩) (Nat.lt_of_lt_of_le hbl (M1.out).size)).trans x2_1
        have x3_2 : w2.cell? ⟨b, j * 5 + 3, none⟩ = some (.string l[j].s) := (hb2.cell (p := ⟨b, j * 5 + 3, none⟩) (Nat.lt_of_lt_of_le hbl (M1.out).size)).trans x3_1
        have x4_2 : w2.cell? ⟨b, j * 5 + 4, none⟩ = some (.slice A2 l[j].kids.length c2) := (hb2.cell (p := ⟨b, j * 5 + 4, none⟩) (Nat.lt_of_lt_of_le hbl (M1.out).size)).trans x4_1
        have M2 := Lib.hid (MSt.below (M1.out) hb2 hbl HS.out)
        have hf2 := M2.out.fr
        have O1_2 := Lib.hid (Osl.belowS (Q1.out) hb2 (fun q hq => Nat.lt_of_lt_of_le (HS.out q (hTS q (g1 q hq))) (M1.out).touch.size))
        have O2_2 := Lib.hid (Osl.belowS (O2_1.out) hb2 (fun q hq => Nat.lt_of_lt_of_le (HS.out q (hTS q (g2 q hq))) (M1.out).touch.size))
        clear x0_1 x1_1 x2_1 x3_1 x4_1 hf1 hb2
        have OW3 := Lib.hid (Osl.set (o := j * 5 + 3) (O2_2.out) (fun e => hTb (g2 b e)) (.string (markT (K + 2 + cntL cnI l[j].path))))
        have LT3 := Lib.hid (show ∀ q, S2 q → q < (w2.setCell ⟨b, j * 5 + 3, none⟩ (.string (markT (K + 2 + cntL cnI l[j].path)))).heap.size from (fun q hq => Nat.lt_of_lt_of_le (HS.out q (hTS q (g2 q hq))) (Nat.le_trans (((M2.out).set hSb (j * 5 + 3) (by omega) (by omega) (.string (markT (K + 2 + cntL cnI l[j].path))))).touch.size (Nat.le_refl _))))
        go_wp2_with fail
        refine (ih l[j].kids A2 c2 (K + 3 + cntL cnI l[j].path) _ S2 _ (HB.out j hlt) (by omega) (by omega) (by omega) LT3.out OW3.out).mono ?_
        rintro e w3 ⟨rfl, ho3, ht3⟩
        have Q3 := Lib.hid ho3
        clear ho3
        have x0_3 : w3.cell? ⟨b, j * 5, none⟩ = some (.int .i64 ((K : Int))) := (World.cell?_of_block (ht3.block b (Nat.lt_of_lt_of_le hbl (((M2.out).set hSb (j * 5 + 3) (by omega) (by omega) (.string (markT (K + 2 + cntL cnI l[j].path))))).size) (fun e => hTb (g2 b e)))).trans ((cell_ne (by omega)).trans x0_2)
        have x1_3 : w3.cell? ⟨b, j * 5 + 1, none⟩ = some (.int .i64 ((K : Int) + 1)) := (World.cell?_of_block (ht3.block b (Nat.lt_of_lt_of_le hbl (((M2.out).set hSb (j * 5 + 3) (by omega) (by omega) (.string (markT (K + 2 + cntL cnI l[j].path))))).size) (fun e => hTb (g2 b e)))).trans ((cell_ne (by omega)).trans x1_2)
        have x2_3 : w3.cell? ⟨b, j * 5 + 2, none⟩ = some (.slice A1 l[j].path.length c1) := (World.cell?_of_block (ht3.block b (Nat.lt_of_lt_of_le hbl (((M2.out).set hSb (j * 5 + 3) (by omega) (by omega) (.string (markT (K + 2 + cntL cnI l[j].path))))).size) (fun e => hTb (g2 b e)))).trans ((cell_ne (by omega)).trans x2_2)
        have x3_3 : w3.cell? ⟨b, j * 5 + 3, none⟩ = some (.string (markT (K + 2 + cntL cnI l[j].path))) := (World.cell?_of_block (ht3.block b (Nat.lt_of_lt_of_le hbl (((M2.out).set hSb (j * 5 + 3) (by omega) (by omega) (.string (markT (K + 2 + cntL cnI l[j].path))))).size) (fun e => hTb (g2 b e)))).trans (World.cell?_setCell_same _ _ _ x3_2)
        have x4_3 : w3.cell? ⟨b, j * 5 + 4, none⟩ = some (.slice A2 l[j].kids.length c2) := (World.cell?_of_block (ht3.block b (Nat.lt_of_lt_of_le hbl (((M2.out).set hSb (j * 5 + 3) (by omega) (by omega) (.string (markT (K + 2 + cntL cnI l[j].path))))).size) (fun e => hTb (g2 b e)))).trans ((cell_ne (by omega)).trans x4_2)
        have M3 := Lib.hid (MSt.mark (((M2.out).set hSb (j * 5 + 3) (by omega) (by omega) (.string (markT (K + 2 + cntL cnI l[j].path))))) ht3 g2 hTS hTb hbl HS.out)
        have hf3 := M3.out.fr
        have O1_3 := Lib.hid (Osl.touched ((Osl.set (o := j * 5 + 3) (O1_2.out) (fun e => hTb (g1 b e)) (.string (markT (K + 2 + cntL cnI l[j].path))))) ht3 d12 (fun q hq => Nat.lt_of_lt_of_le (HS.out q (hTS q (g1 q hq))) (((M2.out).set hSb (j * 5 + 3) (by omega) (by omega) (.string (markT (K + 2 + cntL cnI l[j].path))))).touch.size))
        clear x0_2 x1_2 x2_2 x3_2 x4_2 hf2 ht3
        obtain ⟨K3, hK3⟩ : ∃ K3 : Nat, K3 = K + 3 + cntL cnI l[j].path + cntL GTree.cnt l[j].kids := ⟨_, rfl⟩
        rw [← hK3]
        have HM := Lib.hid (M3.out)
        have HOW := Lib.hid (GTree.Ow_mark (w := w3) (S := T) (t := l[j]) (K := K) HKB.out g1 g2 d12 O1_3.out Q3.out)
        have HC := Lib.hid (GTree.mark_cells l[j] K A1 c1 A2 c2 ((K : Int)) ((K : Int) + 1) (by omega) (by omega))
        have HP := Lib.hid (HPUT.out w3 (GTree.mark l[j] K).toD [.int .i64 ((K : Int)), .int .i64 ((K : Int) + 1), .slice A1 l[j].path.length c1, .string (markT (K + 2 + cntL cnI l[j].path)), .slice A2 l[j].kids.length c2] (HM.out.blk2 HS.out HT.out.size) HM.out.out HM.out.fr rfl
          (fun q v hv => by
            match q, hv with
            | 0, hv =>
              obtain rfl := Option.some.inj hv
              exact x0_3
            | 1, hv =>
              obtain rfl := Option.some.inj hv
              exact x1_3
            | 2, hv =>
              obtain rfl := Option.some.inj hv
              exact x2_3
            | 3, hv =>
              obtain rfl := Option.some.inj hv
              exact x3_3
            | 4, hv =>
              obtain rfl := Option.some.inj hv
              exact x4_3
            | q + 5, hv => cases hv)
          (by rw [HC.out]; exact GTree.own_mk HOW.out))
        have HTF := Lib.hid HM.out.touch
        have hKe := HK.out
        clear HK HOW HC HPUT
        go_wp2_with fail
        go_roundw
        case rel => exact ⟨j + 1, by omega, by go_num, by have := cntL_take_succ GTree.cnt l j hlt; have := GTree.cnt_eq l[j]; congr 1; omega, Lib.hid (by have e := markTo_set GTree.mark GTree.cnt l k j hlt; rw [← hKe] at e; rw [← e, List.map_set]; exact HP.out), HTF⟩
        case measure => simp [intOf]; omega
      · have hjl : j = l.length := by omega
        have Hj := Lib.hid hjl
        have HK := Lib.hid hK
        clear hjl hK
        go_wp2_with fail
        go_ret
        exact ⟨ret_int (by rw [HK.out, Hj.out, List.take_length]), by have := HO.out; rw [Hj.out, markTo_all] at this; exact this, HT.out⟩

theorem markTreeS' (l : List GTree) (A : Option Addr) (c k : Nat) (x : Int) (S : Nat → Prop) (w : World) (hx : x = k) (h0 : 0 < k) (hk : k + cntL GTree.cnt l ≤ 4611686018427387904) (hS : ∀ b, S b → b < w.heap.size) (hs : Osl w S 5 A c (l.map GTree.toD)) :
    Calls Try.prog 36 #[.slice A l.length c, .int .i64 x] w fun e w' => e = .returned (.int .i64 ((k + cntL GTree.cnt l : Nat) : Int)) ∧ Osl w' S 5 A c ((markL GTree.mark GTree.cnt l k).map GTree.toD) ∧ Touch S w w' :=
  markTreeS (bulkL GTree.bulk l + 1) l A c k x S w (by omega) hx h0 hk hS hs

set_option maxRecDepth 20000 in
theorem heldTreeS (kk : Nat) : ∀ (l : List GTree) (A : Option Addr) (c k : Nat) (x : Int) (w : World), bulkL GTree.bulk l < kk → x = k → 0 < k → k + cntL GTree.cnt l ≤ 4611686018427387904 → Sl w (Lt w.heap.size) 5 A c ((markL GTree.mark GTree.cnt l k).map GTree.toD) →
    Calls Try.prog 38 #[.slice A l.length c, .int .i64 x] w fun e w' => e = .returned (.int .i64 ((k + cntL GTree.cnt l : Nat) : Int)) ∧ Below w.heap.size w w' := by
  induction kk with
  | zero => intro l A c k x w h; omega
  | succ kk ih =>
    intro l A c k x w hkk hx h0 hk hs
    have HB := Lib.hid (fun (j : Nat) (h : j < l.length) => (show bulkL GTree.bulk (l[j]).kids < kk by have := bulkL_mem GTree.bulk l _ (List.getElem_mem h); have := (l[j]).bulk_eq; omega))
    clear hkk
    subst hx
    have hlen : l.length ≤ 9223372036854775807 := by have := hs.len; simpa [markL_length] using this
    have S0 := Lib.hid hs
    clear hs
    go_enter Try.func38, Try.ntmps38
    go_wp2_with fail
    go_loopw [1, 5] (fun v i wr => ∃ (j : Nat), j ≤ l.length ∧ i = .int .i64 j ∧ v = .int .i64 ((k + cntL GTree.cnt (l.take j) : Nat) : Int) ∧ Below w.heap.size w wr) (fun _ i _ => l.length - (intOf i).toNat)
    case atStart => exact ⟨0, by omega, by go_num, by simp [cntL], Below.refl _ _⟩
    case round =>
      obtain ⟨j, hj, rfl, ev, hbl⟩ := hrel
      have hsz := hbl.size
      obtain ⟨K, hK⟩ : ∃ K, K = k + cntL GTree.cnt (l.take j) := ⟨_, rfl⟩
      rw [← hK] at ev
      subst ev
      by_cases hlt : j < l.length
      · obtain ⟨b, off, A1, c1, A2, c2, rfl, hSb, y0, y1, y2, y3, y4, hat⟩ := GTree.elem (S0.out.below hbl (Nat.le_refl _)) j (by rw [markL_length]; exact hlt)
        have hm := markL_get GTree.mark GTree.cnt l k j hlt
        rw [← hK] at hm
        rw [hm] at y0 y1 y2 y3 y4 hat
        simp only [GTree.mark_op, GTree.mark_n, GTree.mark_path, GTree.mark_s, GTree.mark_kids, markL_length] at y0 y1 y2 y3 y4
        have hKb : K + GTree.cnt l[j] ≤ 4611686018427387904 := by have := cntL_take_le GTree.cnt l j hlt; omega
        have hKk : 0 < K := by omega
        rw [GTree.cnt_eq] at hKb
        have HK := Lib.hid hK
        have HAT := Lib.hid hat
        have hSb2 : b < wr.heap.size := Nat.lt_of_lt_of_le hSb hsz
        obtain ⟨K1, hK1⟩ : ∃ K1 : Nat, K1 = K + 2 + cntL cnI l[j].path := ⟨_, rfl⟩
        obtain ⟨K2, hK2⟩ : ∃ K2 : Nat, K2 = K + 3 + cntL cnI l[j].path + cntL GTree.cnt l[j].kids := ⟨_, rfl⟩
        have x0 : wr.cell? ⟨b, off + j * 5, none⟩ = some (.int .i64 ((K : Int))) := by first | exact y0 | (rw [y0]; congr 2; omega) | (rw [y0]; congr 2; omega) | (rw [y0]; congr 2; congr 1; omega) | (rw [y0]; congr 2; congr 1; omega) | (rw [y0]; congr 3; omega)
        have x1 : wr.cell? ⟨b, off + j * 5 + 1, none⟩ = some (.int .i64 ((K : Int) + 1)) := by first | exact y1 | (rw [y1]; congr 2; omega) | (rw [y1]; congr 2; omega) | (rw [y1]; congr 2; congr 1; omega) | (rw [y1]; congr 2; congr 1; omega) | (rw [y1]; congr 3; omega)
        have x2 : wr.cell? ⟨b, off + j * 5 + 2, none⟩ = some (.slice A1 l[j].path.length c1) := y2
        have x3 : wr.cell? ⟨b, off + j * 5 + 3, none⟩ = some (.string (markT (K + 2 + cntL cnI l[j].path))) := by first | exact y3 | (rw [y3]; congr 2; omega) | (rw [y3]; congr 2; omega) | (rw [y3]; congr 2; congr 1; omega) | (rw [y3]; congr 2; congr 1; omega) | (rw [y3]; congr 3; omega)
        have x4 : wr.cell? ⟨b, off + j * 5 + 4, none⟩ = some (.slice A2 l[j].kids.length c2) := y4
        clear y0 y1 y2 y3 y4 hm hat hK
        have B0 := Lib.hid hbl
        go_wp2_with fail
        have SL1 : Sl wr (Lt wr.heap.size) 1 A1 c1 ((markL mkI cnI l[j].path (K + 2)).map (D.num .i64)) := by
          have h := HAT.out.keep (S' := Lt wr.heap.size) (w' := wr) (fun q hq => ⟨Nat.lt_of_lt_of_le hq B0.out.size, (B0.out.block q hq).trans (hbl.block q hq).symm⟩)
          obtain ⟨-, -, o1, -, o2⟩ := h
          simp only [GTree.mark_op, GTree.mark_n, GTree.mark_path, GTree.mark_s, GTree.mark_kids] at o1
          first | exact o1 | (rw [show K + 2 = K + 2 from by first | omega | (simp only [Nat.add_assoc]; omega)] at o1; exact o1)
        refine (heldIntSI l[j].path A1 c1 (K + 2) _ _ (by omega) (by omega) SL1).mono ?_
        rintro e w1 ⟨rfl, hb1⟩
        rw [← hK1]
        have B1 := Lib.hid (B0.out.trans (hb1.mono B0.out.size))
        have x0_1 : w1.cell? ⟨b, off + j * 5, none⟩ = some (.int .i64 ((K : Int))) := (hb1.cell (p := ⟨b, off + j * 5, none⟩) (Nat.lt_of_lt_of_le hSb B0.out.size)).trans x0
        have x1_1 : w1.cell? ⟨b, off + j * 5 + 1, none⟩ = some (.int .i64 ((K : Int) + 1)) := (hb1.cell (p := ⟨b, off + j * 5 + 1, none⟩) (Nat.lt_of_lt_of_le hSb B0.out.size)).trans x1
        have x2_1 : w1.cell? ⟨b, off + j * 5 + 2, none⟩ = some (.slice A1 l[j].path.length c1) := (hb1.cell (p := ⟨b, off + j * 5 + 2, none⟩) (Nat.lt_of_lt_of_le hSb B0.out.size)).trans x2
        have x3_1 : w1.cell? ⟨b, off + j * 5 + 3, none⟩ = some (.string (markT (K + 2 + cntL cnI l[j].path))) := (hb1.cell (p := ⟨b, off + j * 5 + 3, none⟩) (Nat.lt_of_lt_of_le hSb B0.out.size)).trans x3
        have x4_1 : w1.cell? ⟨b, off + j * 5 + 4, none⟩ = some (.slice A2 l[j].kids.length c2) := (hb1.cell (p := ⟨b, off + j * 5 + 4, none⟩) (Nat.lt_of_lt_of_le hSb B0.out.size)).trans x4
        clear x0 x1 x2 x3 x4 hb1 SL1
        go_wp2_with fail
        have z2 : w1.drew.cell? ⟨b, off + j * 5 + 3, none⟩ = some (.string (markT (K + 2 + cntL cnI l[j].path))) := x3_1
        go_region_held3 (fun w' => w'.cell? ⟨b, off + j * 5 + 3, none⟩ = some (.string (markT (K + 2 + cntL cnI l[j].path)))) (first | exact z2 | exact zz2)
          (first
          | (go_at_call 33
             refine (markTextI _ (K + 2 + cntL cnI l[j].path) (by omega) _ (by omega) (by omega)).mono ?_
             rintro e w2 ⟨rfl, hb2⟩
             have B2 := Lib.hid ((Below.drew B1.out).trans (hb2.mono B1.out.size))
             have zz2 := (hb2.cell (p := ⟨b, off + j * 5 + 3, none⟩) (Nat.lt_of_lt_of_le hSb B1.out.size)).trans z2))
        have x0_2 : w2.cell? ⟨b, off + j * 5, none⟩ = some (.int .i64 ((K : Int))) := (hb2.cell (p := ⟨b, off + j * 5, none⟩) (Nat.lt_of_lt_of_le hSb B1.out.size)).trans x0_1
        have x1_2 : w2.cell? ⟨b, off + j * 5 + 1, none⟩ = some (.int .i64 ((K : Int) + 1)) := (hb2.cell (p := ⟨b, off + j * 5 + 1, none⟩) (Nat.lt_of_lt_of_le hSb B1.out.size)).trans x1_1
        have x2_2 : w2.cell? ⟨b, off + j * 5 + 2, none⟩ = some (.slice A1 l[j].path.length c1) := (hb2.cell (p := ⟨b, off + j * 5 + 2, none⟩) (Nat.lt_of_lt_of_le hSb B1.out.size)).trans x2_1
        have x3_2 : w2.cell? ⟨b, off + j * 5 + 3, none⟩ = some (.string (markT (K + 2 + cntL cnI l[j].path))) := (hb2.cell (p := ⟨b, off + j * 5 + 3, none⟩) (Nat.lt_of_lt_of_le hSb B1.out.size)).trans x3_1
        have x4_2 : w2.cell? ⟨b, off + j * 5 + 4, none⟩ = some (.slice A2 l[j].kids.length c2) := (hb2.cell (p := ⟨b, off + j * 5 + 4, none⟩) (Nat.lt_of_lt_of_le hSb B1.out.size)).trans x4_1
        clear x0_1 x1_1 x2_1 x3_1 x4_1 z2 zz2 hb2
        go_wp2_with fail
        have SL3 : Sl w2 (Lt w2.heap.size) 5 A2 c2 ((markL GTree.mark GTree.cnt l[j].kids (K + 3 + cntL cnI l[j].path)).map GTree.toD) := by
          have h := HAT.out.keep (S' := Lt w2.heap.size) (w' := w2) (fun q hq => ⟨Nat.lt_of_lt_of_le hq B2.out.size, (B2.out.block q hq).trans (hbl.block q hq).symm⟩)
          obtain ⟨-, -, o1, -, o2⟩ := h
          simp only [GTree.mark_op, GTree.mark_n, GTree.mark_path, GTree.mark_s, GTree.mark_kids] at o2
          first | exact o2 | (rw [show K + 3 + cntL cnI l[j].path = K + 3 + cntL cnI l[j].path from by first | omega | (simp only [Nat.add_assoc]; omega)] at o2; exact o2)
        refine (ih l[j].kids A2 c2 (K + 3 + cntL cnI l[j].path) _ _ (HB.out j hlt) (by omega) (by omega) (by omega) SL3).mono ?_
        rintro e w3 ⟨rfl, hb3⟩
        rw [← hK2]
        have B3 := Lib.hid (B2.out.trans (hb3.mono B2.out.size))
        have x0_3 : w3.cell? ⟨b, off + j * 5, none⟩ = some (.int .i64 ((K : Int))) := (hb3.cell (p := ⟨b, off + j * 5, none⟩) (Nat.lt_of_lt_of_le hSb B2.out.size)).trans x0_2
        have x1_3 : w3.cell? ⟨b, off + j * 5 + 1, none⟩ = some (.int .i64 ((K : Int) + 1)) := (hb3.cell (p := ⟨b, off + j * 5 + 1, none⟩) (Nat.lt_of_lt_of_le hSb B2.out.size)).trans x1_2
        have x2_3 : w3.cell? ⟨b, off + j * 5 + 2, none⟩ = some (.slice A1 l[j].path.length c1) := (hb3.cell (p := ⟨b, off + j * 5 + 2, none⟩) (Nat.lt_of_lt_of_le hSb B2.out.size)).trans x2_2
        have x3_3 : w3.cell? ⟨b, off + j * 5 + 3, none⟩ = some (.string (markT (K + 2 + cntL cnI l[j].path))) := (hb3.cell (p := ⟨b, off + j * 5 + 3, none⟩) (Nat.lt_of_lt_of_le hSb B2.out.size)).trans x3_2
        have x4_3 : w3.cell? ⟨b, off + j * 5 + 4, none⟩ = some (.slice A2 l[j].kids.length c2) := (hb3.cell (p := ⟨b, off + j * 5 + 4, none⟩) (Nat.lt_of_lt_of_le hSb B2.out.size)).trans x4_2
        clear x0_2 x1_2 x2_2 x3_2 x4_2 hb3 SL3
        have hKe := HK.out
        clear HK
        go_wp2_with fail
        go_roundw
        case rel => exact ⟨j + 1, by omega, by go_num, by have := cntL_take_succ GTree.cnt l j hlt; have := GTree.cnt_eq l[j]; congr 1; omega, B3.out⟩
        case measure => simp [intOf]; omega
      · have hjl : j = l.length := by omega
        have Hj := Lib.hid hjl
        have HK := Lib.hid hK
        clear hjl hK
        go_wp2_with fail
        go_ret
        exact ⟨ret_int (by rw [HK.out, Hj.out, List.take_length]), hbl⟩

theorem heldTreeS' (l : List GTree) (A : Option Addr) (c k : Nat) (x : Int) (w : World) (hx : x = k) (h0 : 0 < k) (hk : k + cntL GTree.cnt l ≤ 4611686018427387904) (hs : Sl w (Lt w.heap.size) 5 A c ((markL GTree.mark GTree.cnt l k).map GTree.toD)) :
    Calls Try.prog 38 #[.slice A l.length c, .int .i64 x] w fun e w' => e = .returned (.int .i64 ((k + cntL GTree.cnt l : Nat) : Int)) ∧ Below w.heap.size w w' :=
  heldTreeS (bulkL GTree.bulk l + 1) l A c k x w (by omega) hx h0 hk hs

theorem markTree0 (t : GTree) (A1 : Option Addr) (c1 : Nat) (A2 : Option Addr) (c2 : Nat) (k : Nat) (x : Int) (S : Nat → Prop) (w : World) (hx : x = k) (h0 : 0 < k) (hk : k + t.cnt0 ≤ 4611686018427387904) (hS : ∀ b, S b → b < w.heap.size) (how : GTree.Ow w S A1 c1 A2 c2 t) :
    Calls Try.prog 15 #[.agg #[.int .i64 t.op, .int .i64 t.n, .slice A1 t.path.length c1, .string t.s, .slice A2 t.kids.length c2], .int .i64 x] w fun e w' => e = .returned (.int .i64 ((k + t.cnt0 : Nat) : Int)) ∧ GTree.Ow w' S A1 c1 A2 c2 (t.mark0 k) ∧ Touch S w w' := by
  subst hx
  unfold GTree.cnt0 at hk
  obtain ⟨S1, S2, g1, g2, d12, h1, h2, o_path, h3, o_kids⟩ := how
  have HS := Lib.hid hS
  have T0 := Lib.hid (Below.touch (S := S) (show Below w.heap.size w (w.alloc (.cells #[.int .i64 t.op, .int .i64 t.n, .slice A1 t.path.length c1, .string t.s, .slice A2 t.kids.length c2] 29)) from (Below.refl _ _).alloc (Nat.le_refl _) _) hS)
  have R0 := Lib.hid (Row.new w 29 #[.int .i64 t.op, .int .i64 t.n, .slice A1 t.path.length c1, .string t.s, .slice A2 t.kids.length c2])
  have O_path_0 := Lib.hid (o_path.keep (S' := S1) (w' := w.alloc (.cells #[.int .i64 t.op, .int .i64 t.n, .slice A1 t.path.length c1, .string t.s, .slice A2 t.kids.length c2] 29)) fun q hq => ⟨hq, Below.heap_alloc _ _ _ (hS q (g1 q hq))⟩)
  have O_kids_0 := Lib.hid (o_kids.keep (S' := S2) (w' := w.alloc (.cells #[.int .i64 t.op, .int .i64 t.n, .slice A1 t.path.length c1, .string t.s, .slice A2 t.kids.length c2] 29)) fun q hq => ⟨hq, Below.heap_alloc _ _ _ (hS q (g2 q hq))⟩)
  clear hS o_path o_kids
  go_enter Try.func15, Try.ntmps15
  go_wp2_with fail
  refine (markIntSI t.path A1 c1 (k) _ S1 _ (by omega) (by omega) O_path_0.out).mono ?_
  rintro e w1 ⟨rfl, ho1, ht1⟩
  have O_path_1 := Lib.hid ho1
  have O_kids_1 := Lib.hid (O_kids_0.out.keep (S' := S2) (w' := w1) fun q hq => ⟨hq, ht1.block q (Nat.lt_of_lt_of_le (HS.out q (g2 q hq)) T0.out.size) ((fun x h1 h2 => d12 x h2 h1) q hq)⟩)
  have R1 := Lib.hid (show Row w1 w.heap.size 29 #[.int .i64 t.op, .int .i64 t.n, .slice A1 t.path.length c1, .string t.s, .slice A2 t.kids.length c2] from (ht1.block w.heap.size R0.out.lt (fun e => Nat.lt_irrefl _ (HS.out _ (g1 _ e)))).trans R0.out)
  have T1 := Lib.hid (T0.out.trans (ht1.mono (fun q hq => (g1 _ hq)) (fun q hq => Nat.lt_of_lt_of_le (HS.out q hq) T0.out.size)))
  have hc1 := fun i => R1.out.cell i
  clear ho1 ht1
  obtain ⟨K1, hK1⟩ : ∃ K1 : Nat, K1 = k + cntL cnI t.path := ⟨_, rfl⟩
  first | rw [← hK1] | rw [Nat.add_assoc, ← Nat.add_assoc, ← hK1]
  go_wp2_with fail
  refine (markTreeS' t.kids A2 c2 (k + cntL cnI t.path) _ S2 _ (by omega) (by omega) (by omega) (fun q hq => Nat.lt_of_lt_of_le (HS.out q (g2 _ hq)) T1.out.size) O_kids_1.out).mono ?_
  rintro e w2 ⟨rfl, ho2, ht2⟩
  have O_kids_2 := Lib.hid ho2
  have O_path_2 := Lib.hid (O_path_1.out.keep (S' := S1) (w' := w2) fun q hq => ⟨hq, ht2.block q (Nat.lt_of_lt_of_le (HS.out q (g1 q hq)) T1.out.size) (d12 q hq)⟩)
  have R2 := Lib.hid (show Row w2 w.heap.size 29 #[.int .i64 t.op, .int .i64 t.n, .slice A1 t.path.length c1, .string t.s, .slice A2 t.kids.length c2] from (ht2.block w.heap.size R1.out.lt (fun e => Nat.lt_irrefl _ (HS.out _ (g2 _ e)))).trans R1.out)
  have T2 := Lib.hid (T1.out.trans (ht2.mono (fun q hq => (g2 _ hq)) (fun q hq => Nat.lt_of_lt_of_le (HS.out q hq) T1.out.size)))
  have hc2 := fun i => R2.out.cell i
  clear ho2 ht2 hc1
  go_wp2_with fail
  go_ret
  exact ⟨ret_int (by unfold GTree.cnt0; omega), ⟨S1, S2, g1, g2, d12, h1, h2, O_path_2.out, h3, O_kids_2.out⟩, T2.out⟩

theorem heldTree0 (t : GTree) (A1 : Option Addr) (c1 : Nat) (A2 : Option Addr) (c2 : Nat) (k : Nat) (x : Int) (w : World) (hx : x = k) (h0 : 0 < k) (hk : k + t.cnt0 ≤ 4611686018427387904) (hat : GTree.At w (Lt w.heap.size) A1 c1 A2 c2 (t.mark0 k)) :
    Calls Try.prog 16 #[.agg #[.int .i64 t.op, .int .i64 t.n, .slice A1 t.path.length c1, .string t.s, .slice A2 t.kids.length c2], .int .i64 x] w fun e w' => e = .returned (.int .i64 ((k + t.cnt0 : Nat) : Int)) ∧ Below w.heap.size w w' := by
  subst hx
  unfold GTree.cnt0 at hk
  have E0 := Lib.hid (show Below w.heap.size w (w.alloc (.cells #[.int .i64 t.op, .int .i64 t.n, .slice A1 t.path.length c1, .string t.s, .slice A2 t.kids.length c2] 29)) from (Below.refl _ _).alloc (Nat.le_refl _) _)
  have R0 := Lib.hid (Row.new w 29 #[.int .i64 t.op, .int .i64 t.n, .slice A1 t.path.length c1, .string t.s, .slice A2 t.kids.length c2])
  have HAT := Lib.hid hat
  clear hat
  go_enter Try.func16, Try.ntmps16
  go_wp2_with fail
  obtain ⟨-, -, q_path, -, -⟩ := HAT.out.below E0.out E0.out.size
  refine (heldIntSI t.path A1 c1 (k) _ _ (by omega) (by omega) q_path).mono ?_
  rintro e w1 ⟨rfl, hb1⟩
  clear q_path
  have E1 := Lib.hid (E0.out.trans (hb1.mono E0.out.size))
  have R1 := Lib.hid (R0.out.below hb1 R0.out.lt)
  have hc1 := fun i => R1.out.cell i
  clear hb1
  obtain ⟨K1, hK1⟩ : ∃ K1 : Nat, K1 = k + cntL cnI t.path := ⟨_, rfl⟩
  first | rw [← hK1] | rw [Nat.add_assoc, ← Nat.add_assoc, ← hK1]
  go_wp2_with fail
  obtain ⟨-, -, -, -, q_kids⟩ := HAT.out.below E1.out E1.out.size
  refine (heldTreeS' t.kids A2 c2 (k + cntL cnI t.path) _ _ (by omega) (by omega) (by omega) q_kids).mono ?_
  rintro e w2 ⟨rfl, hb2⟩
  clear q_kids
  have E2 := Lib.hid (E1.out.trans (hb2.mono E1.out.size))
  have R2 := Lib.hid (R1.out.below hb2 R1.out.lt)
  have hc2 := fun i => R2.out.cell i
  clear hb2 hc1
  go_wp2_with fail
  go_ret
  exact ⟨ret_int (by unfold GTree.cnt0; omega), E2.out⟩

end Go.Proofs.Ytnpkmebnmklcfaa
