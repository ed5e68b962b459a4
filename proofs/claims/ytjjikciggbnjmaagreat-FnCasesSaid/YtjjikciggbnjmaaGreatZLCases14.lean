/- Texts of the claim LCases in one: TrK TiL Trees Fits AValue CValue At RunTree TreeSize FTree FInt. Conditions: none but bounds on sizes. -/
import Derived.Test.YtjjikciggbnjmaaGreatZLCases13
import Derived.Test.YtjjikciggbnjmaaGreatRows
import Derived.Test.YtjjikciggbnjmaaGreatZLCases0
import Derived.Test.YtjjikciggbnjmaaGreatZLCases2
import Derived.Test.YtjjikciggbnjmaaGreatZLCases3
import Derived.Lib.Hide
import Derived.StillTailTactics
import Derived.OwnWalk
import Derived.Deep.RegionLaw
import Derived.Test.YtjjikciggbnjmaaGreatZLCases10
import Derived.Deep.LoopGhost
import Derived.Test.YtjjikciggbnjmaaGreatZLCases7
namespace Go.Proofs.YtjjikciggbnjmaaGreat
set_option maxRecDepth 20000
set_option linter.unusedVariables false
set_option linter.unusedSimpArgs false
open Go.RowKit
set_option maxHeartbeats 2000000
def rowA (i : Nat) (p : GNode) : GTrow := ⟨(i : Int), bareA [⟨[], p⟩]⟩
def rowsA : Nat → List GNode → List GTrow
 | _, [] => []
 | i, p :: r => rowA i p :: rowsA (i + 1) r
theorem rowsA_len : ∀ (i : Nat) (l : List GNode), (rowsA i l).length = l.length
 | _, [] => rfl
 | i, p :: r => by simp only [rowsA, List.length_cons, rowsA_len (i + 1) r]
theorem rowsA_snoc (x : GNode) : ∀ (i : Nat) (l : List GNode), rowsA i (l ++ [x]) = rowsA i l ++ [rowA (i + l.length) x]
 | i, [] => rfl
 | i, p :: r => by
  simp only [List.cons_append, rowsA, rowsA_snoc x (i + 1) r, List.length_cons]
  rw [show i + 1 + r.length = i + (r.length + 1) by omega]
theorem rowsA_take (l : List GNode) (j : Nat) (h : j < l.length) : rowsA 0 (l.take (j + 1)) = rowsA 0 (l.take j) ++ [rowA j l[j]] := by
 rw [take_snoc' l j h, rowsA_snoc, List.length_take, Nat.min_eq_left (by omega), Nat.zero_add]
theorem rowsA_ok : ∀ (i : Nat) (l : List GNode), (∀ p ∈ l, p.bulk + 1 ≤ 1048576) → RowsOk 0 (rowsA i l)
 | _, [], _ => fun r hr => by simp [rowsA] at hr
 | i, p :: rest, h => fun r hr => by
  simp only [rowsA] at hr
  rcases List.mem_cons.1 hr with rfl | hr
  ·
   have hp := h p (List.mem_cons_self ..)
   refine ⟨?_, fun x hx => ?_⟩
   · have h1 := asksM_bare [⟨[], p⟩]
     have h2 : asksM [⟨[], p⟩] = 1 + p.bulk := by simp [asksM_cons, asksM_nil]
     show asksM (bareA [⟨[], p⟩]) ≤ 1048576
     omega
   · have hx2 : x ∈ bareA [⟨[], p⟩] := hx
     unfold bareA at hx2
     obtain ⟨h1, h2⟩ := List.mem_filter.1 hx2
     obtain rfl := List.mem_singleton.1 h1
     exact ⟨by simpa using h2, by simp⟩
  · exact rowsA_ok (i + 1) rest (fun q hq => h q (List.mem_cons_of_mem _ hq)) r hr
def treesV (ds : List GData) (l : List GNode) : GTree × Bool :=
 if l.all (conOk ds) = true then (if (growV 301 0 (rowsA 0 l)).2 ≤ 300 then ((growV 301 0 (rowsA 0 l)).1, true) else (zeroT, false)) else (zeroT, false)
def ToTreeB (r : GTree × Bool) (w : World) (e : Ending) (w' : World) : Prop := ∃ A1 c1 A2 c2, e = .returned (.tuple #[.agg #[.int .i64 r.1.op, .int .i64 r.1.n, .slice A1 r.1.path.length c1, .string r.1.s, .slice A2 r.1.kids.length c2], .bool r.2]) ∧ GTree.Ow w' (Btw w.heap.size w'.heap.size) A1 c1 A2 c2 r.1 ∧ Below w.heap.size w w'
theorem treeBad {r : GTree × Bool} {w w' : World} (hr : r = (zeroT, false)) (hb : Below w.heap.size w w') : ToTreeB r w (.returned (.tuple #[.agg #[.int .i64 0, .int .i64 0, .slice none 0 0, .string ⟨#[]⟩, .slice none 0 0], .bool false])) w' := by
 subst hr
 exact ⟨none, 0, none, 0, rfl, owLeaf (by decide) (by decide), hb⟩
theorem specTrees (ds : List GData) (alts : List GNode) (A : Option Addr) (c : Nat) (B : Option Addr) (d : Nat) (w : World) (hl : alts.length ≤ 1048576) (hbk : ∀ p ∈ alts.map patOf, p.bulk + 1 ≤ 1048576) (hs : Sl w (Lt w.heap.size) 3 A c (ds.map GData.toD)) (hs2 : Sl w (Lt w.heap.size) 5 B d (alts.map GNode.toD)) :
 Calls Tryz.prog 7 #[.slice A ds.length c, .slice B alts.length d] w (ToTreeB (treesV ds (alts.map patOf)) w) := by
 have HD := LH hs
 obtain ⟨w0, e0⟩ : ∃ w0, w0 = (w.alloc (.cells #[.int .i64 0, .int .i64 0, .slice none 0 0, .string ⟨#[]⟩, .slice none 0 0] 34)).alloc (.cells #[] 66) := ⟨_, rfl⟩
 have E0 := LH (show Below w.heap.size w w0 by rw [e0]; exact ((Below.refl _ _).alloc (Nat.le_refl _) _).alloc (by simp) _)
 have RZ0 := LH (show Row w0 w.heap.size 34 #[.int .i64 0, .int .i64 0, .slice none 0 0, .string ⟨#[]⟩, .slice none 0 0] by rw [e0]; exact (Row.new' _ _ _ rfl).alloc _)
 have RR0 := LH (show Row w0 (w.heap.size + 1) 66 #[] by rw [e0]; exact Row.new' _ _ _ (by simp))
 have hz0 : w.heap.size + 2 = w0.heap.size := by rw [e0]; simp
 have hrr := specRowsS (fun b => b < w.heap.size) alts B d w0 hl (fun b hb => by omega) (hs2.keep fun q hq => ⟨hq, E0.out.block q hq⟩)
 obtain ⟨l, hll⟩ : ∃ l, alts.map patOf = l := ⟨_, rfl⟩
 have hln : alts.length = l.length := by rw [← hll]; simp
 rw [show rowsOf patOf alts = l.map (fun p => [p]) by rw [← hll]; unfold rowsOf; simp] at hrr
 rw [hll] at hbk ⊢
 have HRR := LH hrr
 have HBK := LH hbk
 have hl2 : l.length ≤ 1048576 := by omega
 have HOKR := LH (rowsA_ok 0 l hbk)
 clear hs hs2 hrr hbk hll hln
 go_enter Tryz.func7, Tryz.ntmps7
 refine wp_hide (fun BP hBP => ?_)
 have HBP := LH hBP
 clear hBP
 go_wp2_with fail
 rw [← e0]
 clear e0
 refine HRR.out.mono ?_
 rintro e w1 ⟨P, cp, rfl, hsp, hb1⟩
 have HP := LH hsp
 have B1 := LH hb1
 have hz1 := hb1.size
 have G1 := LH (show Grx AnyB w1 (w.heap.size + 1) 66 2 (.slice (some ⟨w.heap.size + 1, 0, none⟩) 0 0) 0 [] from Grx.made (RR0.out.below hb1 RR0.out.lt) (Nat.le_refl _))
 have RZ1 := LH (RZ0.out.below hb1 RZ0.out.lt)
 have BW1 := LH (E0.out.trans (hb1.mono E0.out.size))
 have HO1 := LH (fun g (hg : (Value.slice (some ⟨w.heap.size + 1, 0, none⟩) 0 0).ownBlock = some g) => show g = w.heap.size + 1 ∨ w1.heap.size ≤ g from .inl (by simpa [Value.ownBlock] using hg.symm))
 clear hsp hb1 HRR RR0 RZ0
 simp only [List.length_map]
 go_wp2_with fail
 go_loopw [6, 8] (fun v i wr => ∃ (j : Nat) (A' : Option Addr) (c' : Nat), j ≤ l.length ∧ i = .int .i64 j ∧ v = .slice A' j c' ∧ Hid (Grx AnyB wr (w.heap.size + 1) 66 2 (.slice A' j c') j ((rowsA 0 (l.take j)).map GTrow.toD)) ∧ Hid (conOkL ds (l.take j) = true) ∧ Hid (∀ g, (Value.slice A' j c').ownBlock = some g → g = w.heap.size + 1 ∨ w1.heap.size ≤ g) ∧ Hid (Bx (w.heap.size + 1) w1 wr)) (fun _ i _ => l.length - (intOf i).toNat)
 case atStart => exact ⟨0, _, _, by omega, by go_num, rfl, G1, LH rfl, HO1, LH (Bx.refl _ _)⟩
 case round =>
  clear G1 HO1
  obtain ⟨j, A', c', hj, rfl, rfl, HG, HL, HO, HX⟩ := hrel
  have hsz := HX.out.size
  have BW := LH (BW1.out.trans (HX.out.below (B := w.heap.size) (by omega) (by omega)))
  have RZ := LH (HX.out.row RZ1.out (by omega))
  by_cases hlt : j < l.length
  ·
   obtain ⟨b, off, A2, c2, rfl, hSb, g0, hrow⟩ := rowD_elem (HP.out.keep (w' := wr) (S' := fun q => q < w1.heap.size ∧ q ≠ w.heap.size + 1) fun q hq => ⟨⟨hq.2, by rcases hq.1 with h | h <;> omega⟩, HX.out.block q hq.2 (by rcases hq.1 with h | h <;> omega)⟩) j (by simpa using hlt)
   simp only [List.getElem_map, List.length_cons, List.length_nil, Nat.zero_add] at g0 hrow
   obtain ⟨b3, off3, A3, c3, rfl, hSb3, q0, q1, q2, q3, q4, hat⟩ := GNode.elem (l := [l[j]]) hrow 0 (by simp)
   simp only [Nat.zero_mul, Nat.add_zero, List.getElem_cons_zero] at q0 q1 q2 q3 q4 hat
   have hbl := Nat.lt_of_lt_of_le hSb.1 hsz
   have hbl3 := Nat.lt_of_lt_of_le hSb3.1 hsz
   have dl : decide ((j : Int) < (l.length : Int)) = true := decide_eq_true (by omega)
   have HT := LH (rowsA_take l j hlt)
   have HTC := LH (conOkL_take (ds := ds) hlt)
   have HM := LH (List.getElem_mem hlt)
   obtain ⟨p, hp⟩ : ∃ p, l[j] = p := ⟨_, rfl⟩
   rw [hp] at q0 q1 q2 q3 q4 hat HT HTC HM
   have HAT := LH hat
   have HC := LH (specCons ds A c (p.bulk + 1) p A3 c3 wr (by omega) (HD.out.below BW.out BW.out.size) (hat.keep fun q hq => ⟨Nat.lt_of_lt_of_le hq.1 hsz, rfl⟩))
   have HOW := LH (fun g (hg : (Value.slice A' j c').ownBlock = some g) => HG.out.own g hg)
   clear hat hrow hp
   go_wp2_with fail
   refine HC.out.mono ?_
   rintro e w2 ⟨rfl, hb2⟩
   have E2 := LH hb2
   have hz2 := hb2.size
   have m := (E2.out.cell (p := ⟨b, off + j, none⟩) hbl).trans g0
   have m0 := (E2.out.cell (p := ⟨b3, off3, none⟩) hbl3).trans q0
   have m1 := (E2.out.cell (p := ⟨b3, off3 + 1, none⟩) hbl3).trans q1
   have m2 := (E2.out.cell (p := ⟨b3, off3 + 2, none⟩) hbl3).trans q2
   have m3 := (E2.out.cell (p := ⟨b3, off3 + 3, none⟩) hbl3).trans q3
   have m4 := (E2.out.cell (p := ⟨b3, off3 + 4, none⟩) hbl3).trans q4
   clear hb2 g0 q0 q1 q2 q3 q4 HC
   cases hc : conOk ds p
   ·
    have HV := LH (show treesV ds l = (zeroT, false) by
      unfold treesV
      rw [if_neg]
      intro h
      rw [List.all_eq_true] at h
      rw [h p HM.out] at hc
      cases hc)
    have RZ2 := LH (RZ.out.below E2.out RZ.out.lt)
    have hcz := fun i => RZ2.out.cell i
    have hfz := fun i => RZ2.out.frozen i
    have BF := LH (BW.out.trans (E2.out.mono BW.out.size))
    clear hc m m0 m1 m2 m3 m4
    go_wp2_with fail
    obtain ⟨wf, ef⟩ : ∃ wf, wf = ((((w2.setCell ⟨w.heap.size, 0, none⟩ (.int .i64 0)).setCell ⟨w.heap.size, 1, none⟩ (.int .i64 0)).setCell ⟨w.heap.size, 2, none⟩ (.slice none 0 0)).setCell ⟨w.heap.size, 3, none⟩ (.string ⟨#[]⟩)).setCell ⟨w.heap.size, 4, none⟩ (.slice none 0 0) := ⟨_, rfl⟩
    rw [← ef]
    have RF := LH (show Row wf w.heap.size 34 #[.int .i64 0, .int .i64 0, .slice none 0 0, .string ⟨#[]⟩, .slice none 0 0] by rw [ef]; exact ((((RZ2.out.set 0 _).set 1 _).set 2 _).set 3 _).set 4 _)
    have BF2 := LH (show Below w.heap.size w wf by rw [ef]; exact ((((BF.out.setCell (p := ⟨w.heap.size, 0, none⟩) (Nat.le_refl _) _).setCell (p := ⟨w.heap.size, 1, none⟩) (Nat.le_refl _) _).setCell (p := ⟨w.heap.size, 2, none⟩) (Nat.le_refl _) _).setCell (p := ⟨w.heap.size, 3, none⟩) (Nat.le_refl _) _).setCell (p := ⟨w.heap.size, 4, none⟩) (Nat.le_refl _) _)
    have hcf := fun i => RF.out.cell i
    clear hcz hfz ef
    show BP _ _
    rw [HBP.out]
    exact bodyPost_ret (v := .tuple #[.agg #[.int .i64 0, .int .i64 0, .slice none 0 0, .string ⟨#[]⟩, .slice none 0 0], .bool false]) (by simp [results, Tryz.results7, go_sem, hcf]) rfl (treeBad HV.out BF2.out)
   ·
    have HL2 := LH (show conOkL ds (l.take (j + 1)) = true by rw [HTC.out, HL.out, hc]; rfl)
    obtain ⟨w3, e3⟩ : ∃ w3, w3 = w2.alloc (.cells #[.slice none 0 0, .int .i64 p.op, .int .i64 p.n, .string p.s, .string p.t, .slice A3 p.kids.length c3] 69) := ⟨_, rfl⟩
    have E3 := LH (show Below w2.heap.size w2 w3 by rw [e3]; exact (Below.refl _ _).alloc (Nat.le_refl _) _)
    have hz3 : w2.heap.size < w3.heap.size := by rw [e3]; simp
    have T3 := LH (show Sl w3 (fun q => (Value.slice A' j c').ownBlock ≠ some q ∧ q < w3.heap.size) 6 (some ⟨w2.heap.size, 0, none⟩) 1 ([(⟨[], p⟩ : GAsk)].map GAsk.toD) from
      slOne (T := 69) (cs := [.slice none 0 0, .int .i64 p.op, .int .i64 p.n, .string p.s, .string p.t, .slice A3 p.kids.length c3]) (by rw [e3]; exact Row.new _ _ _) (GAsk.rd_mk (t := ⟨[], p⟩) (A1 := none) (c1 := 0) ⟨Sl.nil (Nat.zero_le _), HAT.out.keep fun q hq => ⟨⟨fun e => by have h1 := HO.out _ e; have h2 := hq.1; have h3 := hq.2; omega, by have := hq.1; omega⟩, (E3.out.block q (by have := hq.1; omega)).trans (E2.out.block q (by have := hq.1; omega))⟩⟩) rfl ⟨fun e => by have := (HOW.out _ e).2; omega, hz3⟩)
    obtain ⟨L, hL⟩ : ∃ L, bareA [⟨[], p⟩] = L := ⟨_, rfl⟩
    have hbb := specBareS (fun q => (Value.slice A' j c').ownBlock ≠ some q ∧ q < w3.heap.size) ⟨(j : Int), [⟨[], p⟩]⟩ (some ⟨w2.heap.size, 0, none⟩) 1 w3 (by simp) (fun q hq => hq.2) T3.out
    have HBB := LH (show Calls Tryz.prog 22 #[.agg #[.int .i64 (j : Int), .slice (some ⟨w2.heap.size, 0, none⟩) 1 1]] w3 (ToRowS (fun q => (Value.slice A' j c').ownBlock ≠ some q ∧ q < w3.heap.size) ⟨(j : Int), L⟩ w3) by rw [← hL]; exact hbb)
    have HLR := LH (show rowA j p = ⟨(j : Int), L⟩ by unfold rowA; rw [hL])
    clear hc hL hbb
    go_wp2_with fail
    rw [← e3]
    clear e3
    refine HBB.out.mono ?_
    rintro e w4 ⟨A5, c5, rfl, hs5, hb4⟩
    have E4 := LH ((E2.out.trans (E3.out.mono hz2)).trans (hb4.mono (by omega)))
    have hz4 := hb4.size
    obtain ⟨w5, e5⟩ : ∃ w5, w5 = w4.alloc (.cells #[.int .i64 (j : Int), .slice A5 L.length c5] 66) := ⟨_, rfl⟩
    have E5 := LH (show Below wr.heap.size wr w5 by rw [e5]; exact E4.out.alloc E4.out.size _)
    have hz5 : w4.heap.size < w5.heap.size := by rw [e5]; simp
    have G5 := LH (HG.out.below E5.out)
    have hj3 : (Lit.int .i64 (j : Int)).wf = true := wf_i64 (by omega) (by omega)
    have T5 := LH (show Sl w5 (fun q => q < w5.heap.size ∧ (Value.slice A' j c').ownBlock ≠ some q ∧ AnyB q) 2 (some ⟨w4.heap.size, 0, none⟩) 1 [(⟨(j : Int), L⟩ : GTrow).toD] from
      slOne (T := 66) (cs := [.int .i64 (j : Int), .slice A5 L.length c5]) (by rw [e5]; exact Row.new _ _ _) (GTrow.rd_mk (t := ⟨(j : Int), L⟩) ⟨hj3, hs5.keep fun q hq => ⟨⟨by have := hq.2; omega, fun e => by rcases hq.1 with h | h; exact h.1 e; have := (HOW.out _ e).2; omega, trivial⟩, by rw [e5]; exact Below.heap_alloc _ _ _ hq.2⟩⟩) rfl ⟨hz5, fun e => by have := (HOW.out _ e).2; omega, trivial⟩)
    have hs1 : w.heap.size + 1 ≤ w5.heap.size := by omega
    clear hs5 hb4 m m0 m1 m2 m3 m4 hj3
    go_wp2_with (first
      | (at_builtin
         rw [← e5]
         refine wpList_append_X w5 rfl (.tmp 30) (.tmp 42) 61 rfl 66 zTrow 2 32 Tryz.underlying61 (by kernel_rfl) rfl (by omega) (w.heap.size + 1) (.slice A' j c') j _ G5.out (some ⟨w4.heap.size, 0, none⟩) 1 1 _ rfl T5.out hs1 (by unfold maxLen; omega) (by omega) rfl rfl ?_
         intro A6 c6 w6 G6 hGr6
         have G6h := LH G6
         have HX6 := LH (HX.out.trans ((Bx.of_below E5.out (Nat.le_refl _)).trans (Bx.refl _ _)))
         have HX7 := LH (show Bx (w.heap.size + 1) w1 w6 from ⟨hGr6.grow.os.trans HX6.out.os, hGr6.grow.tape.trans HX6.out.tape, hGr6.grow.output.trans HX6.out.output, Nat.le_trans HX6.out.size hGr6.size, fun q hq hq2 => (hGr6.grow.block q (Nat.lt_of_lt_of_le hq HX6.out.size) fun e => by have := HO.out q e.symm; omega).trans (HX6.out.block q hq hq2)⟩)
         have HO6 := LH (fun g (hg : (Value.slice A6 (j + 1) c6).ownBlock = some g) => show g = w.heap.size + 1 ∨ w1.heap.size ≤ g from by
           rcases hGr6.own with h1 | ⟨g2, h1, h2⟩
           · exact HO.out g (h1.symm.trans hg)
           · rw [h1] at hg; cases hg; exact .inr (by omega))
         clear G6 hGr6))
    go_roundw
    case rel => exact ⟨j + 1, A6, c6, by omega, by go_num, rfl, LH (by rw [HT.out, HLR.out, List.map_append]; exact G6h.out), HL2, HO6, HX7⟩
    case measure => simp [intOf]; omega
  ·
   obtain rfl : j = l.length := by omega
   have dl : decide ((l.length : Int) < (l.length : Int)) = false := decide_eq_false (by omega)
   have hG := HG.out
   rw [List.take_length] at hG
   have hL := HL.out
   rw [List.take_length, conOkL_all] at hL
   obtain ⟨A5, c5, e5, hs5⟩ := hG.slX
   obtain ⟨rfl, rfl⟩ : A' = A5 ∧ c' = c5 := by simpa using e5
   obtain ⟨wg, eg⟩ : ∃ wg, wg = wr.alloc (.cells #[.slice A ds.length c, .int .i64 0, .bool true] 72) := ⟨_, rfl⟩
   have EG := LH (show Below wr.heap.size wr wg by rw [eg]; exact (Below.refl _ _).alloc (Nat.le_refl _) _)
   have hzg : wr.heap.size + 1 = wg.heap.size := by rw [eg]; simp
   have hmm := specMade wr.heap.size (.slice A ds.length c) 301 (by omega) 0 (rowsA 0 l) A' c' wg (by omega) (by omega) HOKR.out (by rw [rowsA_len]; exact hl2) (by rw [eg]; exact Row.new _ _ _) (hs5.keep fun q hq => ⟨⟨by have h1 : q < wr.heap.size := hq; omega, by have h1 : q < wr.heap.size := hq; omega⟩, EG.out.block q hq⟩)
   rw [rowsA_len] at hmm
   obtain ⟨p, hp⟩ : ∃ p, growV 301 0 (rowsA 0 l) = p := ⟨_, rfl⟩
   rw [hp] at hmm
   have HMM := LH hmm
   have HVT := LH (show treesV ds l = (if p.2 ≤ 300 then (p.1, true) else (zeroT, false)) by unfold treesV; rw [if_pos hL, hp])
   clear hmm hs5 hG hL e5 hp
   go_wp2_with fail
   rw [← eg]
   clear eg
   refine HMM.out.mono ?_
   rintro e w6 ⟨P1, pc1, P2, pc2, rfl, ho6, hg6, hx6⟩
   have O6 := LH ho6
   have X6 := LH hx6
   have hz6 := hx6.size
   have RZg := LH (RZ.out.below EG.out RZ.out.lt)
   have RZ6 := LH (hx6.row RZg.out (by have := RZ.out.lt; omega))
   have BG := LH (BW.out.trans (EG.out.mono BW.out.size))
   have hwz := BW.out.size
   have B6 := LH (BG.out.trans (hx6.below (B := w.heap.size) (by omega) (by omega)))
   obtain ⟨w7, e7⟩ : ∃ w7, w7 = w6.alloc (.cells #[.int .i64 p.1.op, .int .i64 p.1.n, .slice P1 p.1.path.length pc1, .string p.1.s, .slice P2 p.1.kids.length pc2] 34) := ⟨_, rfl⟩
   have E7 := LH (show Below w6.heap.size w6 w7 by rw [e7]; exact (Below.refl _ _).alloc (Nat.le_refl _) _)
   have hz7 : w6.heap.size < w7.heap.size := by rw [e7]; simp
   have RP7 := LH (show Row w7 w6.heap.size 34 #[.int .i64 p.1.op, .int .i64 p.1.n, .slice P1 p.1.path.length pc1, .string p.1.s, .slice P2 p.1.kids.length pc2] by rw [e7]; exact Row.new _ _ _)
   have RZ7 := LH (RZ6.out.below E7.out RZ6.out.lt)
   have B7 := LH (B6.out.trans (E7.out.mono (by omega)))
   have RG7 := LH (hg6.below E7.out hg6.lt)
   have O7 := LH (O6.out.keep (w' := w7) (S' := fun q => (w.heap.size < q ∧ q < w7.heap.size)) fun q hq => ⟨⟨by have := hq.1; omega, by have := hq.2; omega⟩, E7.out.block q hq.2⟩)
   clear ho6 hg6 hx6 HMM
   go_upto_region 11 with (fail)
   rw [← e7]
   clear e7
   have hcz := fun i => RZ7.out.cell i
   have hfz := fun i => RZ7.out.frozen i
   have hcp := fun i => RP7.out.cell i
   have hnp : w.heap.size ≠ w6.heap.size := by omega
   have hnp2 : w6.heap.size ≠ w.heap.size := by omega
   by_cases hok : p.2 ≤ 300
   ·
    have HV := LH (show treesV ds l = (p.1, true) by rw [HVT.out, if_pos hok])
    have RG8 := LH (show Row w7 wr.heap.size 72 #[.slice A ds.length c, .int .i64 p.2, .bool true] by have h := RG7.out; rw [decide_eq_true hok] at h; exact h)
    have hcg := fun i => RG8.out.cell i
    clear hok
    go_wp2_with fail
    obtain ⟨wf, ef⟩ : ∃ wf, wf = (((((w7).setCell ⟨w.heap.size, 0, none⟩ (.int .i64 p.1.op)).setCell ⟨w.heap.size, 1, none⟩ (.int .i64 p.1.n)).setCell ⟨w.heap.size, 2, none⟩ (.slice P1 p.1.path.length pc1)).setCell ⟨w.heap.size, 3, none⟩ (.string p.1.s)).setCell ⟨w.heap.size, 4, none⟩ (.slice P2 p.1.kids.length pc2) := ⟨_, rfl⟩
    rw [← ef]
    have RF := LH (show Row wf w.heap.size 34 #[.int .i64 p.1.op, .int .i64 p.1.n, .slice P1 p.1.path.length pc1, .string p.1.s, .slice P2 p.1.kids.length pc2] by rw [ef]; exact (((((RZ7.out).set 0 _).set 1 _).set 2 _).set 3 _).set 4 _)
    have BF := LH (show Below w.heap.size w wf by rw [ef]; exact (((((B7.out).setCell (p := ⟨w.heap.size, 0, none⟩) (Nat.le_refl _) _).setCell (p := ⟨w.heap.size, 1, none⟩) (Nat.le_refl _) _).setCell (p := ⟨w.heap.size, 2, none⟩) (Nat.le_refl _) _).setCell (p := ⟨w.heap.size, 3, none⟩) (Nat.le_refl _) _).setCell (p := ⟨w.heap.size, 4, none⟩) (Nat.le_refl _) _)
    have hcf := fun i => RF.out.cell i
    have QF := LH (fun q (hq : q ≠ w.heap.size) => show wf.heap[q]? = w7.heap[q]? from by
      rw [ef, Below.heap_setCell _ ⟨w.heap.size, 4, none⟩ _ q hq, Below.heap_setCell _ ⟨w.heap.size, 3, none⟩ _ q hq, Below.heap_setCell _ ⟨w.heap.size, 2, none⟩ _ q hq, Below.heap_setCell _ ⟨w.heap.size, 1, none⟩ _ q hq, Below.heap_setCell _ ⟨w.heap.size, 0, none⟩ _ q hq])
    have hzf : wf.heap.size = w7.heap.size := by rw [ef]; simp [World.setCell]
    have OF := LH (O7.out.keep (w' := wf) (S' := Btw w.heap.size wf.heap.size) fun q hq => ⟨⟨by have := hq.1; omega, by have := hq.2; omega⟩, QF.out q (by have := hq.1; omega)⟩)
    clear hcz hfz hcp hcg ef
    show BP _ _
    rw [HBP.out]
    exact bodyPost_ret (v := .tuple #[.agg #[.int .i64 p.1.op, .int .i64 p.1.n, .slice P1 p.1.path.length pc1, .string p.1.s, .slice P2 p.1.kids.length pc2], .bool true]) (by simp [results, Tryz.results7, go_sem, hcf]) rfl (by rw [HV.out]; exact ⟨P1, pc1, P2, pc2, rfl, OF.out, BF.out⟩)
   ·
    have HV := LH (show treesV ds l = (zeroT, false) by rw [HVT.out, if_neg hok])
    have RG8 := LH (show Row w7 wr.heap.size 72 #[.slice A ds.length c, .int .i64 p.2, .bool false] by have h := RG7.out; rw [decide_eq_false hok] at h; exact h)
    have hcg := fun i => RG8.out.cell i
    clear hok
    go_wp2_with fail
    obtain ⟨wf, ef⟩ : ∃ wf, wf = (((((w7).setCell ⟨w.heap.size, 0, none⟩ (.int .i64 0)).setCell ⟨w.heap.size, 1, none⟩ (.int .i64 0)).setCell ⟨w.heap.size, 2, none⟩ (.slice none 0 0)).setCell ⟨w.heap.size, 3, none⟩ (.string ⟨#[]⟩)).setCell ⟨w.heap.size, 4, none⟩ (.slice none 0 0) := ⟨_, rfl⟩
    rw [← ef]
    have RF := LH (show Row wf w.heap.size 34 #[.int .i64 0, .int .i64 0, .slice none 0 0, .string ⟨#[]⟩, .slice none 0 0] by rw [ef]; exact (((((RZ7.out).set 0 _).set 1 _).set 2 _).set 3 _).set 4 _)
    have BF := LH (show Below w.heap.size w wf by rw [ef]; exact (((((B7.out).setCell (p := ⟨w.heap.size, 0, none⟩) (Nat.le_refl _) _).setCell (p := ⟨w.heap.size, 1, none⟩) (Nat.le_refl _) _).setCell (p := ⟨w.heap.size, 2, none⟩) (Nat.le_refl _) _).setCell (p := ⟨w.heap.size, 3, none⟩) (Nat.le_refl _) _).setCell (p := ⟨w.heap.size, 4, none⟩) (Nat.le_refl _) _)
    have hcf := fun i => RF.out.cell i
    clear hcz hfz hcp hcg ef
    show BP _ _
    rw [HBP.out]
    exact bodyPost_ret (v := .tuple #[.agg #[.int .i64 0, .int .i64 0, .slice none 0 0, .string ⟨#[]⟩, .slice none 0 0], .bool false]) (by simp [results, Tryz.results7, go_sem, hcf]) rfl (treeBad HV.out BF.out)
theorem GP.one {X : Nat → Prop} {w w' : World} {p : GNode} {A3 : Option Addr} {c3 : Nat} {e : TypeId} (hw : w' = w.alloc (.cells #[.slice none 0 0, .int .i64 p.op, .int .i64 p.n, .string p.s, .string p.t, .slice A3 p.kids.length c3] e)) (hp : GNode.At w (fun b => b < w.heap.size ∧ X b) A3 c3 p) : GP X w' w.heap.size e w.heap.size 1 1 [⟨[], p⟩] := by
 subst hw
 refine ⟨Nat.le_refl _, Nat.le_refl _, by unfold maxLen; omega, rfl, _, Row.new _ _ _, rfl, fun i hi => ?_⟩
 obtain rfl : i = 0 := by simpa using hi
 refine ⟨[.slice none 0 0, .int .i64 p.op, .int .i64 p.n, .string p.s, .string p.t, .slice A3 p.kids.length c3], rfl, fun t v ht => ?_, ?_⟩
 · simpa using ht
 · exact GAsk.rd_mk (t := ⟨[], p⟩) (A1 := none) (c1 := 0) ⟨Sl.nil (Nat.zero_le _), hp.keep fun b hb => ⟨⟨by simp; have := hb.1; omega, by have := hb.1; omega, hb.2⟩, Below.heap_alloc _ _ _ hb.1⟩⟩
theorem implTrees (ds : List GData) (alts : List GNode) (A : Option Addr) (c : Nat) (B : Option Addr) (d : Nat) (w : World) (hl : alts.length ≤ 1048576) (hbk : ∀ p ∈ alts.map patI, p.bulk + 1 ≤ 1048576) (hs : Sl w (Lt w.heap.size) 3 A c (ds.map GData.toD)) (hs2 : Sl w (Lt w.heap.size) 5 B d (alts.map GNode.toD)) :
 Calls Tryz.prog 6 #[.slice A ds.length c, .slice B alts.length d] w (ToTreeB (treesV ds (alts.map patI)) w) := by
 have HD := LH hs
 have HS2 := LH hs2
 obtain ⟨w0, e0⟩ : ∃ w0, w0 = (w.alloc (.cells #[.int .i64 0, .int .i64 0, .slice none 0 0, .string ⟨#[]⟩, .slice none 0 0] 34)).alloc (.cells #[] 56) := ⟨_, rfl⟩
 have E0 := LH (show Below w.heap.size w w0 by rw [e0]; exact ((Below.refl _ _).alloc (Nat.le_refl _) _).alloc (by simp) _)
 have RZ0 := LH (show Row w0 w.heap.size 34 #[.int .i64 0, .int .i64 0, .slice none 0 0, .string ⟨#[]⟩, .slice none 0 0] by rw [e0]; exact (Row.new' _ _ _ rfl).alloc _)
 have G0 := LH (show Grx AnyB w0 (w.heap.size + 1) 56 2 (.slice (some ⟨w.heap.size + 1, 0, none⟩) 0 0) 0 [] from Grx.made (by rw [e0]; exact Row.new' _ _ _ (by simp)) (Nat.le_refl _))
 have hz0 : w.heap.size + 1 ≤ w0.heap.size := by rw [e0]; simp
 obtain ⟨l, hll⟩ : ∃ l, alts.map patI = l := ⟨_, rfl⟩
 have hln : alts.length = l.length := by rw [← hll]; simp
 have HLJ := LH (fun (j : Nat) (h1 : j < l.length) (h2 : j < alts.length) => show l[j] = patI alts[j] by simp [← hll])
 rw [hll] at hbk ⊢
 have HBK := LH hbk
 have HLN := LH hln
 have hl2 : l.length ≤ 1048576 := by omega
 have HOKR := LH (rowsA_ok 0 l hbk)
 have hln1 : l.length ≤ alts.length := by omega
 have hln2 : alts.length ≤ l.length := by omega
 clear hs hs2 hbk hll hln
 go_enter Tryz.func6, Tryz.ntmps6
 refine wp_hide (fun BP hBP => ?_)
 have HBP := LH hBP
 clear hBP
 go_wp2_with fail
 rw [← e0]
 clear e0
 go_loopw [6, 15] (fun v i wr => ∃ (j : Nat) (A' : Option Addr) (c' : Nat), j ≤ l.length ∧ i = .int .i64 j ∧ v = .slice A' j c' ∧ Hid (Grx AnyB wr (w.heap.size + 1) 56 2 (.slice A' j c') j ((rowsA 0 (l.take j)).map GTrow.toD)) ∧ Hid (conOkL ds (l.take j) = true) ∧ Hid (Row wr w.heap.size 34 #[.int .i64 0, .int .i64 0, .slice none 0 0, .string ⟨#[]⟩, .slice none 0 0]) ∧ w.heap.size + 1 ≤ wr.heap.size ∧ Hid (Below w.heap.size w wr)) (fun _ i _ => l.length - (intOf i).toNat)
 case atStart => exact ⟨0, _, _, by omega, by go_num, rfl, G0, LH rfl, RZ0, hz0, E0⟩
 case round =>
  clear G0 RZ0 E0 hz0
  obtain ⟨j, A', c', hj, rfl, rfl, HG, HL, RZ, hz, BW⟩ := hrel
  have hsz := BW.out.size
  have HOW := LH (fun g (hg : (Value.slice A' j c').ownBlock = some g) => HG.out.own g hg)
  by_cases hlt : j < l.length
  ·
   have dl : decide ((j : Int) < (alts.length : Int)) = true := decide_eq_true (by omega)
   have hlt2 : j < alts.length := by omega
   obtain ⟨b, off, A2, c2, rfl, hSb, q0, q1, q2, q3, q4, hat⟩ := GNode.elem (HS2.out.keep (w' := wr) (S' := Lt w.heap.size) fun q hq => ⟨hq, BW.out.block q hq⟩) j hlt2
   have hbl := Nat.lt_of_lt_of_le hSb hsz
   obtain ⟨a, ha⟩ : ∃ a, alts[j] = a := ⟨_, rfl⟩
   obtain ⟨p, hp⟩ : ∃ p, patI a = p := ⟨_, rfl⟩
   have hpl : l[j] = p := by rw [HLJ.out j hlt hlt2, ha, hp]
   have HT := LH (rowsA_take l j hlt)
   have HTC := LH (conOkL_take (ds := ds) hlt)
   have HM := LH (List.getElem_mem hlt)
   rw [hpl] at HT HTC HM
   rw [ha] at q0 q1 q2 q3 q4 hat
   have HAT := LH hat
   obtain ⟨w2, e2⟩ : ∃ w2, w2 = wr.alloc (.cells #[.int .i64 a.op, .int .i64 a.n, .string a.s, .string a.t, .slice A2 a.kids.length c2] 39) := ⟨_, rfl⟩
   have E2 := LH (show Below wr.heap.size wr w2 by rw [e2]; exact (Below.refl _ _).alloc (Nat.le_refl _) _)
   have hz2 : wr.heap.size < w2.heap.size := by rw [e2]; simp
   have RA2 := LH (show Row w2 wr.heap.size 39 #[.int .i64 a.op, .int .i64 a.n, .string a.s, .string a.t, .slice A2 a.kids.length c2] by rw [e2]; exact Row.new _ _ _)
   have hpp := implPatternOf (fun q => q < w.heap.size) a A2 c2 w2 (fun q hq => by omega) (hat.keep fun q hq => ⟨hq, E2.out.block q (by have h1 : q < w.heap.size := hq; omega)⟩)
   rw [hp] at hpp
   have HPP := LH hpp
   clear hpp hat ha hp hpl
   go_upto_region 5 with (fail)
   rw [← e2]
   clear e2 q0 q1 q2 q3 q4
   have hca := fun i => RA2.out.cell i
   go_wp2_with fail
   refine HPP.out.mono ?_
   rintro e w3 ⟨A3, c3, rfl, hat3, hb3⟩
   have HAT3 := LH hat3
   have E3 := LH (E2.out.trans (hb3.mono E2.out.size))
   have hz3 := hb3.size
   obtain ⟨w4, e4⟩ : ∃ w4, w4 = w3.alloc (.cells #[.int .i64 p.op, .int .i64 p.n, .string p.s, .string p.t, .slice A3 p.kids.length c3] 39) := ⟨_, rfl⟩
   have E4 := LH (show Below wr.heap.size wr w4 by rw [e4]; exact E3.out.alloc E3.out.size _)
   have hz4 : w3.heap.size < w4.heap.size := by rw [e4]; simp
   have RP4 := LH (show Row w4 w3.heap.size 39 #[.int .i64 p.op, .int .i64 p.n, .string p.s, .string p.t, .slice A3 p.kids.length c3] by rw [e4]; exact Row.new _ _ _)
   have HAT4 := LH (show GNode.At w4 (fun q => q < w.heap.size) A3 c3 p from hat3.keep fun q hq => ⟨hq, by rw [e4]; exact Below.heap_alloc _ _ _ (by have h1 : q < w.heap.size := hq; omega)⟩)
   have B4 := LH (BW.out.trans (E4.out.mono hsz))
   have HC := LH (implConsOk ds A c (p.bulk + 1) p A3 c3 w4 (by omega) (HD.out.below B4.out B4.out.size) (HAT4.out.keep fun q hq => ⟨(show q < w4.heap.size by have h1 : q < w.heap.size := hq; omega), rfl⟩))
   clear hat3 hb3 hca HPP
   go_upto_region 6 with (fail)
   rw [← e4]
   clear e4
   have hcp := fun i => RP4.out.cell i
   go_wp2_with fail
   refine HC.out.mono ?_
   rintro e w5 ⟨rfl, hb5⟩
   have E5 := LH (E4.out.trans (hb5.mono E4.out.size))
   have hz5 := hb5.size
   have RP5 := LH (RP4.out.below hb5 RP4.out.lt)
   have HAT5 := LH (HAT4.out.keep (w' := w5) (S' := fun q => q < w.heap.size) fun q hq => ⟨hq, hb5.block q (by have h1 : q < w.heap.size := hq; omega)⟩)
   clear hb5 hcp HC
   cases hc : conOk ds p
   ·
    have HV := LH (show treesV ds l = (zeroT, false) by
      unfold treesV
      rw [if_neg]
      intro h
      rw [List.all_eq_true] at h
      rw [h p HM.out] at hc
      cases hc)
    have RZ2 := LH (RZ.out.below E5.out RZ.out.lt)
    have hcz := fun i => RZ2.out.cell i
    have hfz := fun i => RZ2.out.frozen i
    have BF := LH (BW.out.trans (E5.out.mono hsz))
    clear hc
    go_wp2_with fail
    obtain ⟨wf, ef⟩ : ∃ wf, wf = ((((w5.setCell ⟨w.heap.size, 0, none⟩ (.int .i64 0)).setCell ⟨w.heap.size, 1, none⟩ (.int .i64 0)).setCell ⟨w.heap.size, 2, none⟩ (.slice none 0 0)).setCell ⟨w.heap.size, 3, none⟩ (.string ⟨#[]⟩)).setCell ⟨w.heap.size, 4, none⟩ (.slice none 0 0) := ⟨_, rfl⟩
    rw [← ef]
    have RF := LH (show Row wf w.heap.size 34 #[.int .i64 0, .int .i64 0, .slice none 0 0, .string ⟨#[]⟩, .slice none 0 0] by rw [ef]; exact ((((RZ2.out.set 0 _).set 1 _).set 2 _).set 3 _).set 4 _)
    have BF2 := LH (show Below w.heap.size w wf by rw [ef]; exact ((((BF.out.setCell (p := ⟨w.heap.size, 0, none⟩) (Nat.le_refl _) _).setCell (p := ⟨w.heap.size, 1, none⟩) (Nat.le_refl _) _).setCell (p := ⟨w.heap.size, 2, none⟩) (Nat.le_refl _) _).setCell (p := ⟨w.heap.size, 3, none⟩) (Nat.le_refl _) _).setCell (p := ⟨w.heap.size, 4, none⟩) (Nat.le_refl _) _)
    have hcf := fun i => RF.out.cell i
    clear hcz hfz ef
    show BP _ _
    rw [HBP.out]
    exact bodyPost_ret (v := .tuple #[.agg #[.int .i64 0, .int .i64 0, .slice none 0 0, .string ⟨#[]⟩, .slice none 0 0], .bool false]) (by simp [results, Tryz.results6, go_sem, hcf]) rfl (treeBad HV.out BF2.out)
   ·
    have HL2 := LH (show conOkL ds (l.take (j + 1)) = true by rw [HTC.out, HL.out, hc]; rfl)
    obtain ⟨w6, e6⟩ : ∃ w6, w6 = w5.alloc (.cells #[.slice none 0 0, .int .i64 p.op, .int .i64 p.n, .string p.s, .string p.t, .slice A3 p.kids.length c3] 54) := ⟨_, rfl⟩
    have E6 := LH (show Below wr.heap.size wr w6 by rw [e6]; exact E5.out.alloc E5.out.size _)
    have hz6 : w5.heap.size < w6.heap.size := by rw [e6]; simp
    have G6 := LH (GP.grx (GP.one (X := fun q => (Value.slice A' j c').ownBlock ≠ some q) e6 (HAT5.out.keep fun q hq => ⟨⟨(by have h1 : q < w.heap.size := hq; omega), fun e => by have := (HOW.out _ e).1; have h1 : q < w.heap.size := hq; omega⟩, rfl⟩)))
    obtain ⟨L, hL⟩ : ∃ L, bareA [⟨[], p⟩] = L := ⟨_, rfl⟩
    have hlast := implLasting (fun q => (Value.slice A' j c').ownBlock ≠ some q) w5.heap.size [⟨[], p⟩] (some ⟨w5.heap.size, 0, none⟩) 1 w6 (by simp) G6.out
    rw [hL] at hlast
    have HLS := LH (show Calls Tryz.prog 18 #[.slice (some ⟨w5.heap.size, 0, none⟩) 1 1] w6 fun e w' => e = .returned (.slice (some ⟨w5.heap.size, 0, none⟩) L.length 1) ∧ Grx (fun q => (Value.slice A' j c').ownBlock ≠ some q) w' w5.heap.size 54 6 (.slice (some ⟨w5.heap.size, 0, none⟩) L.length 1) L.length (L.map GAsk.toD) ∧ Gr w6 w' (.slice (some ⟨w5.heap.size, 0, none⟩) 1 1) (.slice (some ⟨w5.heap.size, 0, none⟩) L.length 1) from hlast)
    have HLR := LH (show rowA j p = ⟨(j : Int), L⟩ by unfold rowA; rw [hL])
    have hcp := fun i => RP5.out.cell i
    clear hc hL hlast
    go_wp2_with fail
    rw [← e6]
    clear e6
    refine HLS.out.mono ?_
    rintro e w7 ⟨rfl, g7, r7⟩
    have E7 := LH (E6.out.trans (r7.below (B := wr.heap.size) (by omega) (fun g hg => by have := own_ge hg; omega)))
    have hz7 := r7.size
    obtain ⟨A5, c5, e5, hs5⟩ := g7.slY (Y := fun q => (Value.slice A' j c').ownBlock ≠ some q) (fun _ h => h) (fun q h e => by have := (HOW.out _ e).2; omega)
    obtain ⟨rfl, rfl⟩ : some ⟨w5.heap.size, 0, none⟩ = A5 ∧ 1 = c5 := by simpa using e5
    have HS7 := LH hs5
    obtain ⟨w8, e8⟩ : ∃ w8, w8 = w7.alloc (.cells #[.int .i64 (j : Int), .slice (some ⟨w5.heap.size, 0, none⟩) L.length 1] 56) := ⟨_, rfl⟩
    have E8 := LH (show Below wr.heap.size wr w8 by rw [e8]; exact E7.out.alloc E7.out.size _)
    have hz8 : w7.heap.size < w8.heap.size := by rw [e8]; simp
    have G8 := LH (HG.out.below E8.out)
    have hj3 : (Lit.int .i64 (j : Int)).wf = true := wf_i64 (by omega) (by omega)
    have T8 := LH (show Sl w8 (fun q => q < w8.heap.size ∧ (Value.slice A' j c').ownBlock ≠ some q ∧ AnyB q) 2 (some ⟨w7.heap.size, 0, none⟩) 1 [(⟨(j : Int), L⟩ : GTrow).toD] from
      slOne (T := 56) (cs := [.int .i64 (j : Int), .slice (some ⟨w5.heap.size, 0, none⟩) L.length 1]) (by rw [e8]; exact Row.new _ _ _) (GTrow.rd_mk (t := ⟨(j : Int), L⟩) ⟨hj3, HS7.out.keep fun q hq => ⟨⟨by have := hq.2; omega, hq.1, trivial⟩, by rw [e8]; exact Below.heap_alloc _ _ _ hq.2⟩⟩) rfl ⟨hz8, fun e => by have := (HOW.out _ e).2; omega, trivial⟩)
    have hs1 : w.heap.size + 1 ≤ w8.heap.size := by omega
    clear g7 r7 hs5 e5 hj3 hcp
    go_wp2_with (first
      | (at_builtin
         rw [← e8]
         refine wpList_append_X w8 rfl (.tmp 27) (.tmp 34) 48 rfl 56 zTrow 2 32 Tryz.underlying48 (by kernel_rfl) rfl (by omega) (w.heap.size + 1) (.slice A' j c') j _ G8.out (some ⟨w7.heap.size, 0, none⟩) 1 1 _ rfl T8.out hs1 (by unfold maxLen; omega) (by omega) rfl rfl ?_
         intro A9 c9 w9 G9 hGr9
         have G9h := LH G9
         have Z9 := LH (Nat.le_trans hs1 hGr9.size)
         have RZ9 := LH (hGr9.row (RZ.out.below E8.out RZ.out.lt) (fun e => by have := (HOW.out _ e).1; omega))
         have B9 := LH ((BW.out.trans (E8.out.mono hsz)).trans (hGr9.below (B := w.heap.size) (by omega) (fun g hg => by have := (HOW.out g hg).1; omega)))
         clear G9 hGr9))
    go_roundw
    case rel => exact ⟨j + 1, A9, c9, by omega, by go_num, rfl, LH (by rw [HT.out, HLR.out, List.map_append]; exact G9h.out), HL2, RZ9, Z9.out, B9⟩
    case measure => simp [intOf]; omega
  ·
   obtain rfl : j = l.length := by omega
   have dl : decide ((l.length : Int) < (alts.length : Int)) = false := decide_eq_false (by omega)
   have hG := HG.out
   rw [List.take_length] at hG
   have hL := HL.out
   rw [List.take_length, conOkL_all] at hL
   obtain ⟨A5, c5, e5, hs5⟩ := hG.slX
   obtain ⟨rfl, rfl⟩ : A' = A5 ∧ c' = c5 := by simpa using e5
   obtain ⟨wg, eg⟩ : ∃ wg, wg = wr.alloc (.cells #[.int .i64 0] 59) := ⟨_, rfl⟩
   have EG := LH (show Below wr.heap.size wr wg by rw [eg]; exact (Below.refl _ _).alloc (Nat.le_refl _) _)
   have hzg : wr.heap.size + 1 = wg.heap.size := by rw [eg]; simp
   have hmm := growTr wr.heap.size 301 (by omega) 0 (rowsA 0 l) A' c' wg (by omega) (by omega) HOKR.out (by rw [rowsA_len]; exact hl2) (by rw [eg]; exact Row.new _ _ _) (hs5.keep fun q hq => ⟨⟨by have h1 : q < wr.heap.size := hq; omega, by have h1 : q < wr.heap.size := hq; omega⟩, EG.out.block q hq⟩)
   rw [rowsA_len] at hmm
   obtain ⟨p, hp⟩ : ∃ p, growV 301 0 (rowsA 0 l) = p := ⟨_, rfl⟩
   rw [hp] at hmm
   have HMM := LH hmm
   have HVT := LH (show treesV ds l = (if p.2 ≤ 300 then (p.1, true) else (zeroT, false)) by unfold treesV; rw [if_pos hL, hp])
   clear hmm hs5 hG hL e5 hp
   go_wp2_with fail
   rw [← eg]
   clear eg
   refine HMM.out.mono ?_
   rintro e w6 ⟨P1, pc1, P2, pc2, rfl, ho6, hg6, hx6⟩
   have O6 := LH ho6
   have X6 := LH hx6
   have hz6 := hx6.size
   have RZg := LH (RZ.out.below EG.out RZ.out.lt)
   have RZ6 := LH (hx6.row RZg.out (by have := RZ.out.lt; omega))
   have BG := LH (BW.out.trans (EG.out.mono BW.out.size))
   have hwz := BW.out.size
   have B6 := LH (BG.out.trans (hx6.below (B := w.heap.size) (by omega) (by omega)))
   obtain ⟨w7, e7⟩ : ∃ w7, w7 = w6.alloc (.cells #[.int .i64 p.1.op, .int .i64 p.1.n, .slice P1 p.1.path.length pc1, .string p.1.s, .slice P2 p.1.kids.length pc2] 34) := ⟨_, rfl⟩
   have E7 := LH (show Below w6.heap.size w6 w7 by rw [e7]; exact (Below.refl _ _).alloc (Nat.le_refl _) _)
   have hz7 : w6.heap.size < w7.heap.size := by rw [e7]; simp
   have RP7 := LH (show Row w7 w6.heap.size 34 #[.int .i64 p.1.op, .int .i64 p.1.n, .slice P1 p.1.path.length pc1, .string p.1.s, .slice P2 p.1.kids.length pc2] by rw [e7]; exact Row.new _ _ _)
   have RZ7 := LH (RZ6.out.below E7.out RZ6.out.lt)
   have B7 := LH (B6.out.trans (E7.out.mono (by omega)))
   have RG7 := LH (hg6.below E7.out hg6.lt)
   have O7 := LH (O6.out.keep (w' := w7) (S' := fun q => (w.heap.size < q ∧ q < w7.heap.size)) fun q hq => ⟨⟨by have := hq.1; omega, by have := hq.2; omega⟩, E7.out.block q hq.2⟩)
   clear ho6 hg6 hx6 HMM
   go_upto_region 12 with (fail)
   rw [← e7]
   clear e7
   have hcz := fun i => RZ7.out.cell i
   have hfz := fun i => RZ7.out.frozen i
   have hcp := fun i => RP7.out.cell i
   have hnp : w.heap.size ≠ w6.heap.size := by omega
   have hnp2 : w6.heap.size ≠ w.heap.size := by omega
   by_cases hok : p.2 ≤ 300
   ·
    have HV := LH (show treesV ds l = (p.1, true) by rw [HVT.out, if_pos hok])
    have dcp : decide ((300 : Int) < (p.2 : Int)) = false := decide_eq_false (by omega)
    have hcg := fun i => RG7.out.cell i
    clear hok
    go_wp2_with fail
    obtain ⟨wf, ef⟩ : ∃ wf, wf = (((((w7).setCell ⟨w.heap.size, 0, none⟩ (.int .i64 p.1.op)).setCell ⟨w.heap.size, 1, none⟩ (.int .i64 p.1.n)).setCell ⟨w.heap.size, 2, none⟩ (.slice P1 p.1.path.length pc1)).setCell ⟨w.heap.size, 3, none⟩ (.string p.1.s)).setCell ⟨w.heap.size, 4, none⟩ (.slice P2 p.1.kids.length pc2) := ⟨_, rfl⟩
    rw [← ef]
    have RF := LH (show Row wf w.heap.size 34 #[.int .i64 p.1.op, .int .i64 p.1.n, .slice P1 p.1.path.length pc1, .string p.1.s, .slice P2 p.1.kids.length pc2] by rw [ef]; exact (((((RZ7.out).set 0 _).set 1 _).set 2 _).set 3 _).set 4 _)
    have BF := LH (show Below w.heap.size w wf by rw [ef]; exact (((((B7.out).setCell (p := ⟨w.heap.size, 0, none⟩) (Nat.le_refl _) _).setCell (p := ⟨w.heap.size, 1, none⟩) (Nat.le_refl _) _).setCell (p := ⟨w.heap.size, 2, none⟩) (Nat.le_refl _) _).setCell (p := ⟨w.heap.size, 3, none⟩) (Nat.le_refl _) _).setCell (p := ⟨w.heap.size, 4, none⟩) (Nat.le_refl _) _)
    have hcf := fun i => RF.out.cell i
    have QF := LH (fun q (hq : q ≠ w.heap.size) => show wf.heap[q]? = w7.heap[q]? from by
      rw [ef, Below.heap_setCell _ ⟨w.heap.size, 4, none⟩ _ q hq, Below.heap_setCell _ ⟨w.heap.size, 3, none⟩ _ q hq, Below.heap_setCell _ ⟨w.heap.size, 2, none⟩ _ q hq, Below.heap_setCell _ ⟨w.heap.size, 1, none⟩ _ q hq, Below.heap_setCell _ ⟨w.heap.size, 0, none⟩ _ q hq])
    have hzf : wf.heap.size = w7.heap.size := by rw [ef]; simp [World.setCell]
    have OF := LH (O7.out.keep (w' := wf) (S' := Btw w.heap.size wf.heap.size) fun q hq => ⟨⟨by have := hq.1; omega, by have := hq.2; omega⟩, QF.out q (by have := hq.1; omega)⟩)
    clear hcz hfz hcp hcg ef
    show BP _ _
    rw [HBP.out]
    exact bodyPost_ret (v := .tuple #[.agg #[.int .i64 p.1.op, .int .i64 p.1.n, .slice P1 p.1.path.length pc1, .string p.1.s, .slice P2 p.1.kids.length pc2], .bool true]) (by simp [results, Tryz.results6, go_sem, hcf]) rfl (by rw [HV.out]; exact ⟨P1, pc1, P2, pc2, rfl, OF.out, BF.out⟩)
   ·
    have HV := LH (show treesV ds l = (zeroT, false) by rw [HVT.out, if_neg hok])
    have dcp : decide ((300 : Int) < (p.2 : Int)) = true := decide_eq_true (by omega)
    have hcg := fun i => RG7.out.cell i
    clear hok
    go_wp2_with fail
    obtain ⟨wf, ef⟩ : ∃ wf, wf = (((((w7).setCell ⟨w.heap.size, 0, none⟩ (.int .i64 0)).setCell ⟨w.heap.size, 1, none⟩ (.int .i64 0)).setCell ⟨w.heap.size, 2, none⟩ (.slice none 0 0)).setCell ⟨w.heap.size, 3, none⟩ (.string ⟨#[]⟩)).setCell ⟨w.heap.size, 4, none⟩ (.slice none 0 0) := ⟨_, rfl⟩
    rw [← ef]
    have RF := LH (show Row wf w.heap.size 34 #[.int .i64 0, .int .i64 0, .slice none 0 0, .string ⟨#[]⟩, .slice none 0 0] by rw [ef]; exact (((((RZ7.out).set 0 _).set 1 _).set 2 _).set 3 _).set 4 _)
    have BF := LH (show Below w.heap.size w wf by rw [ef]; exact (((((B7.out).setCell (p := ⟨w.heap.size, 0, none⟩) (Nat.le_refl _) _).setCell (p := ⟨w.heap.size, 1, none⟩) (Nat.le_refl _) _).setCell (p := ⟨w.heap.size, 2, none⟩) (Nat.le_refl _) _).setCell (p := ⟨w.heap.size, 3, none⟩) (Nat.le_refl _) _).setCell (p := ⟨w.heap.size, 4, none⟩) (Nat.le_refl _) _)
    have hcf := fun i => RF.out.cell i
    clear hcz hfz hcp hcg ef
    show BP _ _
    rw [HBP.out]
    exact bodyPost_ret (v := .tuple #[.agg #[.int .i64 0, .int .i64 0, .slice none 0 0, .string ⟨#[]⟩, .slice none 0 0], .bool false]) (by simp [results, Tryz.results6, go_sem, hcf]) rfl (treeBad HV.out BF.out)
set_option maxHeartbeats 1000000
theorem rowsA_cong : ∀ (i : Nat) (alts : List GNode), rowsA i (alts.map patI) = rowsA i (alts.map patOf)
 | _, [] => rfl
 | i, a :: r => by
  simp only [List.map_cons, rowsA, rowsA_cong (i + 1) r]
  congr 1
  cases hk : a.kids with
  | nil => rw [patI_nil hk, patOf_nil hk]; rfl
  | cons k t => rw [patI_cons hk, patOf_cons hk]
theorem conOk_cong (ds : List GData) : ∀ (alts : List GNode), (alts.map patI).all (conOk ds) = (alts.map patOf).all (conOk ds)
 | [] => rfl
 | a :: r => by
  simp only [List.map_cons, List.all_cons, conOk_cong ds r]
  congr 1
  cases hk : a.kids with
  | nil => rw [patI_nil hk, patOf_nil hk]; rfl
  | cons k t => rw [patI_cons hk, patOf_cons hk]
theorem treesV_cong (ds : List GData) (alts : List GNode) : treesV ds (alts.map patI) = treesV ds (alts.map patOf) := by
 unfold treesV
 rw [conOk_cong, rowsA_cong]
theorem patOf_bulk {a : GNode} {alts : List GNode} (h : a ∈ alts) (hm : bulkL GNode.bulk alts ≤ 1048576) : (patOf a).bulk + 1 ≤ 1048576 := by
 have h1 := bulkL_mem GNode.bulk alts a h
 have h2 := GNode.bulk_eq a
 cases hk : a.kids with
 | nil => rw [patOf_nil hk]; decide
 | cons k t =>
  rw [patOf_cons hk]
  have h3 := bulkL_mem GNode.bulk a.kids k (by rw [hk]; exact List.mem_cons_self ..)
  omega
theorem patI_bulk {a : GNode} {alts : List GNode} (h : a ∈ alts) (hm : bulkL GNode.bulk alts ≤ 1048576) : (patI a).bulk + 1 ≤ 1048576 := by
 have h1 := bulkL_mem GNode.bulk alts a h
 have h2 := GNode.bulk_eq a
 cases hk : a.kids with
 | nil => rw [patI_nil hk]; decide
 | cons k t =>
  rw [patI_cons hk]
  have h3 := bulkL_mem GNode.bulk a.kids k (by rw [hk]; exact List.mem_cons_self ..)
  omega
theorem growV_bulk : ∀ (k many : Nat) (rows : List GTrow), RowsOk many rows → (growV k many rows).1.bulk + 1 ≤ ((growV k many rows).2 - many) * 2097152
 | 0, many, rows, _ => by
  show (zeroT).bulk + 1 ≤ (many + 1 - many) * 2097152
  rw [show many + 1 - many = 1 by omega]; decide
 | k + 1, many, rows, hok => by
  by_cases h : 300 < many + 1
  · rw [growV_over h]
    show (zeroT).bulk + 1 ≤ (many + 1 - many) * 2097152
    rw [show many + 1 - many = 1 by omega]; decide
  ·
   by_cases hr : 0 < rows.length
   ·
    by_cases ha : 0 < rows[0].asks.length
    ·
     rw [growV_ask h hr ha]
     have hap := ((hok _ (List.getElem_mem hr)).2 _ (List.getElem_mem ha)).2
     have hm1 := (hok _ (List.getElem_mem hr)).1
     have hm2 := asksM_mem (List.getElem_mem ha)
     obtain ⟨a, hea⟩ : ∃ a, rows[0].asks[0] = a := ⟨_, rfl⟩
     rw [hea] at hap hm2 ⊢
     have hs := GNode.bulk_eq a.pat
     have i1 := growV_bulk k (many + 1) (yesR a rows) (hok.yes a hap)
     have l1 := growV_less k (many + 1) (yesR a rows)
     obtain ⟨p, hp⟩ : ∃ p, growV k (many + 1) (yesR a rows) = p := ⟨_, rfl⟩
     rw [hp] at i1 l1 ⊢
     have i2 := growV_bulk k p.2 (noR a rows) ((hok.no a).mono (by omega))
     have l2 := growV_less k p.2 (noR a rows)
     obtain ⟨q, hq⟩ : ∃ q, growV k p.2 (noR a rows) = q := ⟨_, rfl⟩
     rw [hq] at i2 l2 ⊢
     show (askT a [p.1, q.1]).bulk + 1 ≤ (q.2 - many) * 2097152
     have hsz : (askS a).size ≤ 1048576 := by
      unfold askS
      split
      · omega
      · decide
     have hb : (askT a [p.1, q.1]).bulk = a.path.length + (askS a).size + (1 + p.1.bulk + (1 + q.1.bulk)) := by
      rw [askT_eq, GTree.bulk_eq]
      simp [GTree.path, GTree.s, GTree.kids, bulkL]
     rw [hb]
     have e : q.2 - many = 1 + (p.2 - (many + 1)) + (q.2 - p.2) := by omega
     rw [e, Nat.add_mul, Nat.add_mul]
     omega
    · rw [growV_done h hr (by omega)]
      show 0 + 0 + 0 + 1 ≤ (many + 1 - many) * 2097152
      rw [show many + 1 - many = 1 by omega]; decide
   · rw [growV_none h (by omega)]
     show 0 + 0 + 0 + 1 ≤ (many + 1 - many) * 2097152
     rw [show many + 1 - many = 1 by omega]; decide
theorem treesV_bulk (ds : List GData) (alts : List GNode) (hm : bulkL GNode.bulk alts ≤ 1048576) : (treesV ds (alts.map patOf)).1.bulk ≤ 1262485504 := by
 have hok := rowsA_ok 0 (alts.map patOf) (fun p hp => by obtain ⟨a, ha, rfl⟩ := List.mem_map.1 hp; exact patOf_bulk ha hm)
 have h1 := growV_bulk 301 0 _ hok
 have h2 := growV_le 301 0 (rowsA 0 (alts.map patOf))
 unfold treesV
 split
 · split
   · show (growV 301 0 (rowsA 0 (alts.map patOf))).1.bulk ≤ _
     omega
   · show (zeroT).bulk ≤ _
     decide
 · show (zeroT).bulk ≤ _
   decide
theorem specTreesL (ds : List GData) (A : Option Addr) (c : Nat) (alts : List GNode) (B : Option Addr) (d : Nat) (w : World) (hm : bulkL GNode.bulk alts ≤ 1048576) (hs : Sl w (Lt w.heap.size) 3 A c (ds.map GData.toD)) (hs2 : Sl w (Lt w.heap.size) 5 B d (alts.map GNode.toD)) :
 Calls Tryz.prog 7 #[.slice A ds.length c, .slice B alts.length d] w (ToTreeB (treesV ds (alts.map patOf)) w) :=
 specTrees ds alts A c B d w (Nat.le_trans (bulkL_len GNode.bulk alts) hm) (fun p hp => by obtain ⟨a, ha, rfl⟩ := List.mem_map.1 hp; exact patOf_bulk ha hm) hs hs2
theorem implTreesL (ds : List GData) (A : Option Addr) (c : Nat) (alts : List GNode) (B : Option Addr) (d : Nat) (w : World) (hm : bulkL GNode.bulk alts ≤ 1048576) (hs : Sl w (Lt w.heap.size) 3 A c (ds.map GData.toD)) (hs2 : Sl w (Lt w.heap.size) 5 B d (alts.map GNode.toD)) :
 Calls Tryz.prog 6 #[.slice A ds.length c, .slice B alts.length d] w (ToTreeB (treesV ds (alts.map patOf)) w) := by
 rw [← treesV_cong]
 exact implTrees ds alts A c B d w (Nat.le_trans (bulkL_len GNode.bulk alts) hm) (fun p hp => by obtain ⟨a, ha, rfl⟩ := List.mem_map.1 hp; exact patI_bulk ha hm) hs hs2
mutual
def fitsB : GNode → GValue → Bool
 | .mk op n s _ kids, .mk kind n2 s2 kids2 => if op = 17 ∨ op = 18 then true else if op = 19 then kind == 1 && n2 == n else if op = 20 then (kind == 2 && s2.toList == s.toList) && fitsL kids kids2 else false
def fitsL : List GNode → List GValue → Bool
 | [], [] => true
 | a :: r, b :: r2 => fitsB a b && fitsL r r2
 | [], _ :: _ => false
 | _ :: _, [] => false
end
theorem fitsB_eq (p : GNode) (v : GValue) : fitsB p v = if p.op = 17 ∨ p.op = 18 then true else if p.op = 19 then v.kind == 1 && v.n == p.n else if p.op = 20 then (v.kind == 2 && v.s.toList == p.s.toList) && fitsL p.kids v.kids else false := by
 cases p; cases v; simp only [fitsB, GNode.op, GNode.n, GNode.s, GNode.kids, GValue.kind, GValue.n, GValue.s, GValue.kids]; rfl
theorem fitsL_len : ∀ {l : List GNode} {l2 : List GValue}, l.length ≠ l2.length → fitsL l l2 = false
 | [], [], h => by simp at h
 | [], _ :: _, _ => by simp [fitsL]
 | _ :: _, [], _ => by simp [fitsL]
 | a :: r, b :: r2, h => by
  simp only [fitsL]
  rw [fitsL_len (l := r) (l2 := r2) (by simpa using h)]
  simp
theorem fitsL_false : ∀ {l : List GNode} {l2 : List GValue} (i : Nat) (h1 : i < l.length) (h2 : i < l2.length), fitsB l[i] l2[i] = false → fitsL l l2 = false
 | [], _, i, h1, _, _ => by simp at h1
 | _ :: _, [], i, _, h2, _ => by simp at h2
 | a :: r, b :: r2, 0, _, _, h => by simp only [fitsL]; simp only [List.getElem_cons_zero] at h; rw [h]; rfl
 | a :: r, b :: r2, i + 1, h1, h2, h => by
  simp only [fitsL]
  rw [fitsL_false (l := r) (l2 := r2) i (by simpa using h1) (by simpa using h2) (by simpa using h)]
  simp
theorem fitsL_true : ∀ {l : List GNode} {l2 : List GValue}, l.length = l2.length → (∀ i (h1 : i < l.length) (h2 : i < l2.length), fitsB l[i] l2[i] = true) → fitsL l l2 = true
 | [], [], _, _ => by simp [fitsL]
 | [], _ :: _, h, _ => by simp at h
 | _ :: _, [], h, _ => by simp at h
 | a :: r, b :: r2, h, hi => by
  simp only [fitsL]
  rw [fitsL_true (l := r) (l2 := r2) (by simpa using h) (fun i h1 h2 => hi (i + 1) (by simpa using h1) (by simpa using h2))]
  have := hi 0 (by simp) (by simp)
  simp only [List.getElem_cons_zero] at this
  rw [this]; rfl
theorem implFits (k : Nat) : ∀ (p : GNode) (v : GValue) (A1 : Option Addr) (c1 : Nat) (B1 : Option Addr) (d1 : Nat) (w : World), p.bulk < k → GNode.At w (Lt w.heap.size) A1 c1 p → GValue.At w (Lt w.heap.size) B1 d1 v →
 Calls Tryz.prog 8 #[.agg #[.int .i64 p.op, .int .i64 p.n, .string p.s, .string p.t, .slice A1 p.kids.length c1], .agg #[.int .i64 v.kind, .int .i64 v.n, .string v.s, .slice B1 v.kids.length d1]] w fun e w' => e = .returned (.bool (fitsB p v)) ∧ Below w.heap.size w w' := by
 induction k with
 | zero => intro p v A1 c1 B1 d1 w h; omega
 | succ k ih =>
  intro p v A1 c1 B1 d1 w hk ha hb
  obtain ⟨-, -, -, -, hs⟩ := id ha
  obtain ⟨-, -, -, hs2⟩ := id hb
  have hlen : p.kids.length ≤ 9223372036854775807 := by simpa using hs.len
  have hlen2 : v.kids.length ≤ 9223372036854775807 := by simpa using hs2.len
  have hse := LH (fitsB_eq p v)
  have hbe := p.bulk_eq
  have E : Below w.heap.size w ((w.alloc (.cells #[.int .i64 p.op, .int .i64 p.n, .string p.s, .string p.t, .slice A1 p.kids.length c1] 39)).alloc (.cells #[.int .i64 v.kind, .int .i64 v.n, .string v.s, .slice B1 v.kids.length d1] 28)) := ((Below.refl _ _).alloc (Nat.le_refl _) _).alloc (by simp) _
  cases o1 : (p.op == 17)
  rotate_left
  · have x1 := LH (beq_iff_eq.1 o1)
    go_enter Tryz.func8, Tryz.ntmps8
    go_wp2_with fail
    go_ret
    exact ⟨ret_bool (by rw [hse.out]; rw [if_pos (.inl x1.out)]), E⟩
  cases o2 : (p.op == 18)
  rotate_left
  · have x2 := LH (beq_iff_eq.1 o2)
    go_enter Tryz.func8, Tryz.ntmps8
    go_wp2_with fail
    go_ret
    exact ⟨ret_bool (by rw [hse.out]; rw [if_pos (.inr x2.out)]), E⟩
  have x1 := LH (show ¬ (p.op = 17 ∨ p.op = 18) from by simp only [beq_eq_false_iff_ne, ne_eq] at o1 o2; omega)
  cases o3 : (p.op == 19)
  rotate_left
  ·
   have x3 := LH (beq_iff_eq.1 o3)
   cases y1 : (v.kind == 1)
   · skip
     go_enter Tryz.func8, Tryz.ntmps8
     go_wp2_with fail
     go_ret
     exact ⟨ret_bool (by rw [hse.out]; rw [if_neg x1.out, if_pos x3.out, y1]; rfl), E⟩
   ·
    cases y2 : (v.n == p.n)
    · skip
      go_enter Tryz.func8, Tryz.ntmps8
      go_wp2_with fail
      go_ret
      exact ⟨ret_bool (by rw [hse.out]; rw [if_neg x1.out, if_pos x3.out, y1, y2]; rfl), E⟩
    · skip
      go_enter Tryz.func8, Tryz.ntmps8
      go_wp2_with fail
      go_ret
      exact ⟨ret_bool (by rw [hse.out]; rw [if_neg x1.out, if_pos x3.out, y1, y2]; rfl), E⟩
  have x3 := LH (show ¬ (p.op = 19) from by simpa using o3)
  cases o4 : (p.op == 20)
  · have x4 := LH (show ¬ (p.op = 20) from by simpa using o4)
    go_enter Tryz.func8, Tryz.ntmps8
    go_wp2_with fail
    go_ret
    exact ⟨ret_bool (by rw [hse.out]; rw [if_neg x1.out, if_neg x3.out, if_neg x4.out]), E⟩
  have x4 := LH (beq_iff_eq.1 o4)
  cases y1 : (v.kind == 2)
  · have z1 : (v.kind != 2) = true := by rw [bne, y1]; rfl
    go_enter Tryz.func8, Tryz.ntmps8
    go_wp2_with fail
    go_ret
    exact ⟨ret_bool (by rw [hse.out]; rw [if_neg x1.out, if_neg x3.out, if_pos x4.out, y1]; rfl), E⟩
  have z1 : (v.kind != 2) = false := by rw [bne, y1]; rfl
  cases y2 : (v.s.toList == p.s.toList)
  · have z2 : (v.s.toList != p.s.toList) = true := by rw [bne, y2]; rfl
    go_enter Tryz.func8, Tryz.ntmps8
    go_wp2_with fail
    go_ret
    exact ⟨ret_bool (by rw [hse.out]; rw [if_neg x1.out, if_neg x3.out, if_pos x4.out, y1, y2]; rfl), E⟩
  have z2 : (v.s.toList != p.s.toList) = false := by rw [bne, y2]; rfl
  by_cases hl : p.kids.length = v.kids.length
  rotate_left
  ·
   have e1 : (v.kids.length != p.kids.length) = true := by rw [bne_iff_ne]; omega
   have e2 : ((v.kids.length : Int) != (p.kids.length : Int)) = true := by rw [bne_iff_ne]; omega
   have hr := LH (fitsL_len hl)
   clear hl
   go_enter Tryz.func8, Tryz.ntmps8
   go_wp2_with fail
   go_ret
   exact ⟨ret_bool (by rw [hse.out]; rw [if_neg x1.out, if_neg x3.out, if_pos x4.out, y1, y2, hr.out]; rfl), E⟩
  have e1 : (v.kids.length != p.kids.length) = false := by rw [bne_eq_false_iff_eq]; omega
  have e2 : ((v.kids.length : Int) != (p.kids.length : Int)) = false := by rw [bne_eq_false_iff_eq]; omega
  have Hl := LH hl
  have hle : p.kids.length ≤ v.kids.length := by omega
  have hle2 : v.kids.length ≤ p.kids.length := by omega
  clear hl
  have Ra := LH ((Row.new w 39 #[.int .i64 p.op, .int .i64 p.n, .string p.s, .string p.t, .slice A1 p.kids.length c1]).alloc (.cells #[.int .i64 v.kind, .int .i64 v.n, .string v.s, .slice B1 v.kids.length d1] 28))
  have Rb := LH (Row.new' (w.alloc (.cells #[.int .i64 p.op, .int .i64 p.n, .string p.s, .string p.t, .slice A1 p.kids.length c1] 39)) 28 #[.int .i64 v.kind, .int .i64 v.n, .string v.s, .slice B1 v.kids.length d1] (g := w.heap.size + 1) (by simp))
  go_enter Tryz.func8, Tryz.ntmps8
  go_wp2_with fail
  go_loopw [48] (fun i wr => ∃ j : Nat, j ≤ p.kids.length ∧ i = .int .i64 j ∧ (∀ i (h1 : i < p.kids.length) (h2 : i < v.kids.length), i < j → fitsB p.kids[i] v.kids[i] = true) ∧ Below w.heap.size w wr ∧ Row wr w.heap.size 39 #[.int .i64 p.op, .int .i64 p.n, .string p.s, .string p.t, .slice A1 p.kids.length c1] ∧ Row wr (w.heap.size + 1) 28 #[.int .i64 v.kind, .int .i64 v.n, .string v.s, .slice B1 v.kids.length d1]) (fun i _ => p.kids.length - (intOf i).toNat)
  case atStart => exact ⟨0, by omega, by go_num, fun i _ _ h => by omega, E, Ra.out, Rb.out⟩
  case round =>
   clear Ra Rb E
   obtain ⟨j, hj, rfl, hall, hbl, ra, rb⟩ := hrel
   have Hall := LH hall
   clear hall
   have hsz := hbl.size
   have hca := fun i => ra.cell i
   have hcb := fun i => rb.cell i
   have hla := ra.lt
   have hlb := rb.lt
   by_cases hlt : j < p.kids.length
   ·
    have hlt2 : j < v.kids.length := by omega
    have htr := GNode.elem (hs.below hbl (Nat.le_refl _)) j hlt
    obtain ⟨bk, off, A2, c2, rfl, hSb, q0, q1, q2, q3, q4, hat⟩ := htr
    have htr := GValue.elem (hs2.below hbl (Nat.le_refl _)) j hlt2
    obtain ⟨bk', off', B2, d2, rfl, hSb', q0', q1', q2', q3', hat'⟩ := htr
    have hmem : p.kids[j] ∈ p.kids := List.getElem_mem hlt
    have hlt3 : (p.kids[j]).bulk < k := by have := bulkL_mem GNode.bulk p.kids _ hmem; omega
    have hb1' : bk < wr.heap.size := Nat.lt_of_lt_of_le hSb hsz
    have hb2' : bk' < wr.heap.size := Nat.lt_of_lt_of_le hSb' hsz
    have E2 : Below wr.heap.size wr (wr.alloc (.cells #[.int .i64 p.kids[j].op, .int .i64 p.kids[j].n, .string p.kids[j].s, .string p.kids[j].t, .slice A2 p.kids[j].kids.length c2] 39)) := (Below.refl _ _).alloc (Nat.le_refl _) _
    have hat1 := hat.below (B' := (wr.alloc (.cells #[.int .i64 p.kids[j].op, .int .i64 p.kids[j].n, .string p.kids[j].s, .string p.kids[j].t, .slice A2 p.kids[j].kids.length c2] 39)).heap.size) (E2.mono hsz) (by simp; omega)
    have hat1' := hat'.below (B' := (wr.alloc (.cells #[.int .i64 p.kids[j].op, .int .i64 p.kids[j].n, .string p.kids[j].s, .string p.kids[j].t, .slice A2 p.kids[j].kids.length c2] 39)).heap.size) (E2.mono hsz) (by simp; omega)
    have rn := Row.new wr 39 #[.int .i64 p.kids[j].op, .int .i64 p.kids[j].n, .string p.kids[j].s, .string p.kids[j].t, .slice A2 p.kids[j].kids.length c2]
    have ra0 := ra.alloc (.cells #[.int .i64 p.kids[j].op, .int .i64 p.kids[j].n, .string p.kids[j].s, .string p.kids[j].t, .slice A2 p.kids[j].kids.length c2] 39)
    have rb0 := rb.alloc (.cells #[.int .i64 p.kids[j].op, .int .i64 p.kids[j].n, .string p.kids[j].s, .string p.kids[j].t, .slice A2 p.kids[j].kids.length c2] 39)
    have B3 := hbl.trans (E2.mono hsz)
    go_wp2_with fail
    have q0x := hat1'
    generalize hwx : (wr.alloc (.cells #[.int .i64 p.kids[j].op, .int .i64 p.kids[j].n, .string p.kids[j].s, .string p.kids[j].t, .slice A2 p.kids[j].kids.length c2] 39)) = wx at *
    have hrn := fun i => rn.cell i
    have hra := fun i => ra0.cell i
    have hrb := fun i => rb0.cell i
    have p0' := (World.cell?_of_block (a := ⟨bk', off' + j * 4, none⟩) (E2.block bk' hb2')).trans q0'
    have p1' := (World.cell?_of_block (a := ⟨bk', off' + j * 4 + 1, none⟩) (E2.block bk' hb2')).trans q1'
    have p2' := (World.cell?_of_block (a := ⟨bk', off' + j * 4 + 2, none⟩) (E2.block bk' hb2')).trans q2'
    have p3' := (World.cell?_of_block (a := ⟨bk', off' + j * 4 + 3, none⟩) (E2.block bk' hb2')).trans q3'
    have Rn := LH rn
    have Ra := LH ra0
    have Rb := LH rb0
    clear hwx rn ra0 rb0 ra rb q0x hca hcb q0 q1 q2 q3 q4 q0' q1' q2' q3'
    refine wp_region_still_tail 6 (by kernel_rfl) (by kernel_rfl) ?_
    simp only [List.take_succ_cons, List.take_zero, List.drop_succ_cons, List.drop_zero]
    change wpStill _ _ wx.drew (fun a' => wpList _ _ _ _ a' wx.drew) _ _
    iterate 6 still_step
    refine wpStill_nil ?_
    go_wp2_with fail
    refine (ih _ _ _ _ _ _ wx.drew hlt3 (hat1.keep fun b hb => ⟨hb, rfl⟩) (hat1'.keep fun b hb => ⟨hb, rfl⟩)).mono ?_
    rintro e w1 ⟨rfl, hb1⟩
    have BB := B3.drew.trans (hb1.mono B3.size)
    have ra1 := LH (Row.below (w := wx.drew) Ra.out hb1 Ra.out.lt)
    have rb1 := LH (Row.below (w := wx.drew) Rb.out hb1 Rb.out.lt)
    cases he : fitsB p.kids[j] v.kids[j]
    · have hr := LH (fitsL_false j hlt hlt2 he)
      go_wp2_with fail
      go_ret
      exact ⟨ret_bool (by rw [hse.out, if_neg x1.out, if_neg x3.out, if_pos x4.out, y1, y2, hr.out]; rfl), BB⟩
    ·
     have he2 := LH he
     clear he
     go_wp2_with fail
     go_roundw
     case rel => exact ⟨j + 1, by omega, by go_num, fun i h1 h2 hi => by
       rcases Nat.lt_or_ge i j with h | h
       · exact Hall.out i h1 h2 h
       · obtain rfl : i = j := by omega
         exact he2.out, BB, ra1.out, rb1.out⟩
     case measure => simp [intOf]; omega
   · have hjl : j = p.kids.length := by omega
     have Hj := LH hjl
     clear hjl
     go_wp2_with fail
     go_ret
     exact ⟨ret_bool (by rw [hse.out, if_neg x1.out, if_neg x3.out, if_pos x4.out, y1, y2, fitsL_true Hl.out (fun i h1 h2 => Hall.out i h1 h2 (by rw [Hj.out]; exact h1))]; rfl), hbl⟩
set_option maxHeartbeats 400000
def ToValue (t : GValue) (w : World) (e : Ending) (w' : World) : Prop := ∃ A1 c1, e = .returned (.agg #[.int .i64 t.kind, .int .i64 t.n, .string t.s, .slice A1 t.kids.length c1]) ∧ GValue.Ow w' (Btw w.heap.size w'.heap.size) A1 c1 t ∧ Below w.heap.size w w'
def zValue : Value := .agg #[.int .i64 0, .int .i64 0, .string ⟨#[]⟩, .slice none 0 0]
set_option maxHeartbeats 1000000
theorem implCopyValue (k : Nat) : ∀ (t : GValue) (A1 : Option Addr) (c1 : Nat) (w : World), t.bulk < k → t.bulk ≤ 1048576 → GValue.At w (Lt w.heap.size) A1 c1 t →
 Calls Tryz.prog 43 #[.agg #[.int .i64 t.kind, .int .i64 t.n, .string t.s, .slice A1 t.kids.length c1]] w (ToValue t w) := by
 induction k with
 | zero => intro t A1 c1 w hk; omega
 | succ k ih =>
  intro t A1 c1 w hk h1 hat
  have hbe := t.bulk_eq
  have hlen : t.kids.length ≤ 1048576 := by have := bulkL_len GValue.bulk t.kids; omega
  have HH := LH (fun (j : Nat) (h : j < t.kids.length) (A1 : Option Addr) (c1 : Nat) (w : World) => ih t.kids[j] A1 c1 w (by have := bulkL_mem GValue.bulk t.kids _ (List.getElem_mem h); omega) (by have := bulkL_mem GValue.bulk t.kids _ (List.getElem_mem h); omega))
  have T0 := LH hat
  clear ih hbe hk h1 hat
  obtain ⟨w0, e0⟩ : ∃ w0, w0 = ((w.alloc (.cells #[.int .i64 t.kind, .int .i64 t.n, .string t.s, .slice A1 t.kids.length c1] 28)).alloc (.cells #[.int .i64 0, .int .i64 0, .string ⟨#[]⟩, .slice none 0 0] 28)).alloc (.cells #[] 28) := ⟨_, rfl⟩
  have B0 : Below w.heap.size w w0 := by rw [e0]; exact (((Below.refl _ _).alloc (Nat.le_refl _) _).alloc (by simp) _).alloc (by simp; omega) _
  have S0 : w0.heap.size = w.heap.size + 3 := by rw [e0]; simp
  have Ra0 : Row w0 w.heap.size 28 #[.int .i64 t.kind, .int .i64 t.n, .string t.s, .slice A1 t.kids.length c1] := by rw [e0]; exact ((Row.new' _ _ _ rfl).alloc _).alloc _
  have Rz0 : Row w0 (w.heap.size + 1) 28 #[.int .i64 0, .int .i64 0, .string ⟨#[]⟩, .slice none 0 0] := by rw [e0]; exact (Row.new' _ _ _ (by simp)).alloc _
  have Re0 : Row w0 (w.heap.size + 1 + 1) 28 #[] := by rw [e0]; exact Row.new' _ _ _ (by simp)
  have G0 := LH (Gow.made (B := w.heap.size + 2) (m := w0.heap.size) (size := 4) Re0 (by omega) (by omega))
  have HB0 := LH B0
  have HRa0 := LH Ra0
  have HRz0 := LH Rz0
  clear B0 S0 Ra0 Rz0 Re0
  go_enter Tryz.func43, Tryz.ntmps43
  go_wp2_with fail
  rw [← e0]
  clear e0
  go_loopw [3, 10] (fun v i wr => ∃ (j : Nat) (A : Option Addr) (c : Nat), j ≤ t.kids.length ∧ i = .int .i64 j ∧ v = .slice A j c ∧ Hid (Gow wr (w.heap.size + 2) wr.heap.size 28 4 (.slice A j c) j ((t.kids.take j).map GValue.toD)) ∧ Hid (Row wr w.heap.size 28 #[.int .i64 t.kind, .int .i64 t.n, .string t.s, .slice A1 t.kids.length c1]) ∧ Hid (Row wr (w.heap.size + 1) 28 #[.int .i64 0, .int .i64 0, .string ⟨#[]⟩, .slice none 0 0]) ∧ Below w.heap.size w wr) (fun _ i _ => t.kids.length - (intOf i).toNat)
  case atStart => exact ⟨0, _, _, by omega, by go_num, rfl, G0, HRa0, HRz0, HB0.out⟩
  case round =>
   clear G0 HRa0 HRz0 HB0
   obtain ⟨j, A, c, hj, rfl, rfl, HG, HRa, HRz, hbl⟩ := hrel
   have hsz := hbl.size
   have hzl := HRz.out.lt
   by_cases hlt : j < t.kids.length
   ·
    obtain ⟨b, off, A2, c2, eA, hSb, g0, g1, g2, g3, hat⟩ := GValue.elem (T0.out.below hbl (Nat.le_refl _)).2.2.2 j hlt
    have eA' := LH eA
    have E1 := LH (show Below wr.heap.size wr (wr.alloc (.cells #[.int .i64 (t.kids[j]).kind, .int .i64 (t.kids[j]).n, .string (t.kids[j]).s, .slice A2 (t.kids[j]).kids.length c2] 28)) from (Below.refl _ _).alloc (Nat.le_refl _) _)
    have HA := LH (hat.keep (S' := Lt (wr.alloc (.cells #[.int .i64 (t.kids[j]).kind, .int .i64 (t.kids[j]).n, .string (t.kids[j]).s, .slice A2 (t.kids[j]).kids.length c2] 28)).heap.size) (w' := wr.alloc (.cells #[.int .i64 (t.kids[j]).kind, .int .i64 (t.kids[j]).n, .string (t.kids[j]).s, .slice A2 (t.kids[j]).kids.length c2] 28)) fun q hq => ⟨Nat.lt_of_lt_of_le hq (Nat.le_trans hsz E1.out.size), Below.heap_alloc _ _ _ (Nat.lt_of_lt_of_le hq hsz)⟩)
    clear hat
    subst eA
    go_wp2_with fail
    refine (HH.out j hlt A2 c2 _ HA.out).mono ?_
    rintro e w1 ⟨A3, c3, rfl, how, hb1⟩
    have B1 := LH (E1.out.trans (hb1.mono E1.out.size))
    have HG1 := HG.out.below B1.out (Nat.le_refl _)
    have how1 := GValue.own_mk (how.keep (S' := Btw wr.heap.size w1.heap.size) (w' := w1) fun q hq => ⟨⟨Nat.le_trans E1.out.size hq.1, hq.2⟩, rfl⟩)
    clear how hb1
    go_wp2_with (first | (at_builtin; refine wpList_append_D w1 rfl (.tmp 14) (.tmp 17) 26 rfl 28 zValue 4 56 Tryz.underlying26 (by kernel_rfl) rfl (by omega) (w.heap.size + 2) wr.heap.size _ j _ HG1 (t.kids[j]).toD [.int .i64 (t.kids[j]).kind, .int .i64 (t.kids[j]).n, .string (t.kids[j]).s, .slice A3 (t.kids[j]).kids.length c3] how1 (by omega) B1.out.size rfl (by simp [Value.oneCell']) (by omega) (by omega) 28 rfl w1.heap.size rfl rfl ?_; intro g cap w2 G2 Bq2 hs2 hg2 hgl2))
    go_roundw
    case rel =>
     have X2 := (Bq2.mono (show w.heap.size ≤ w.heap.size + 2 by omega))
     exact ⟨j + 1, _, _, by omega, by go_num, rfl, LH (by rw [take_snoc' t.kids j hlt, List.map_append]; exact G2), LH ((HRa.out.below B1.out (by omega)).below Bq2 (by omega)), LH ((HRz.out.below B1.out (by omega)).below Bq2 (by omega)), (hbl.trans (B1.out.mono hsz)).trans X2⟩
    case measure => simp [intOf]; omega
   ·
    have hjl : j = t.kids.length := by omega
    obtain ⟨A', c', eV, how⟩ := HG.out.osl
    obtain ⟨rfl, rfl⟩ : A = A' ∧ c = c' := by simpa using eV
    subst hjl
    rw [List.take_length] at how
    clear eV HG hlt hj
    obtain ⟨p0, p1, p2, -⟩ := T0.out
    have hca := fun i => HRa.out.cell i
    have hcz := fun i => HRz.out.cell i
    have hfa := fun i => HRa.out.frozen i
    have hfz := fun i => HRz.out.frozen i
    have B1 := setCells_below hbl w.heap.size 3 (Nat.le_refl _) [.slice A t.kids.length c]
    have BF := setCells_below B1 (w.heap.size + 1) 0 (by omega) [.int .i64 t.kind, .int .i64 t.n, .string t.s, .slice A t.kids.length c]
    have SF : (setCells (setCells wr w.heap.size 3 [.slice A t.kids.length c]) (w.heap.size + 1) 0 [.int .i64 t.kind, .int .i64 t.n, .string t.s, .slice A t.kids.length c]).heap.size = wr.heap.size := by rw [setCells_size, setCells_size]
    have how2 := how.keep (S' := Btw w.heap.size (setCells (setCells wr w.heap.size 3 [.slice A t.kids.length c]) (w.heap.size + 1) 0 [.int .i64 t.kind, .int .i64 t.n, .string t.s, .slice A t.kids.length c]).heap.size) (w' := setCells (setCells wr w.heap.size 3 [.slice A t.kids.length c]) (w.heap.size + 1) 0 [.int .i64 t.kind, .int .i64 t.n, .string t.s, .slice A t.kids.length c]) fun q hq => ⟨⟨by have := hq.1; omega, by rw [SF]; exact hq.2⟩, (setCells_block _ _ _ _ _ (by have := hq.1; omega)).trans (setCells_block _ _ _ _ _ (by have := hq.1; omega))⟩
    have HOW := LH how2
    have HBF := LH BF
    clear how how2 BF B1 SF
    go_wp2_with fail
    exact bodyPost_ret (v := .agg #[.int .i64 t.kind, .int .i64 t.n, .string t.s, .slice A t.kids.length c]) (by simp [results, Tryz.results43, go_sem, hca, hcz]) rfl ⟨A, c, rfl, ⟨p0, p1, p2, HOW.out⟩, HBF.out⟩
theorem implCopyValue' (t : GValue) (A1 : Option Addr) (c1 : Nat) (w : World) (h1 : t.bulk ≤ 1048576) (hat : GValue.At w (Lt w.heap.size) A1 c1 t) :
 Calls Tryz.prog 43 #[.agg #[.int .i64 t.kind, .int .i64 t.n, .string t.s, .slice A1 t.kids.length c1]] w (ToValue t w) := implCopyValue (t.bulk + 1) t A1 c1 w (by omega) h1 hat
def valAt : GValue → List Int → Option GValue
 | v, [] => some v
 | v, k :: r => if 0 ≤ k then (match v.kids[k.toNat]? with | some x => valAt x r | none => none) else none
def zeroV : GValue := .mk 0 0 ⟨#[]⟩ []
def atV (o : Option GValue) : GValue := match o with | some x => x | none => zeroV
def ToAt (o : Option GValue) (w : World) (e : Ending) (w' : World) : Prop := ∃ A1 c1, e = .returned (.tuple #[.agg #[.int .i64 (atV o).kind, .int .i64 (atV o).n, .string (atV o).s, .slice A1 (atV o).kids.length c1], .bool o.isSome]) ∧ GValue.Ow w' (Btw w.heap.size w'.heap.size) A1 c1 (atV o) ∧ Below w.heap.size w w'
theorem valAt_neg {v : GValue} {p : List Int} {j : Nat} (h : j < p.length) (hk : p[j] < 0) : valAt v (p.drop j) = none := by
 rw [List.drop_eq_getElem_cons h, valAt, if_neg (by omega)]
theorem valAt_over {v : GValue} {p : List Int} {j : Nat} (h : j < p.length) (hk : (v.kids.length : Int) ≤ p[j]) : valAt v (p.drop j) = none := by
 rw [List.drop_eq_getElem_cons h, valAt, if_pos (by omega), List.getElem?_eq_none (by omega)]
theorem valAt_in {v : GValue} {p : List Int} {j k : Nat} (h : j < p.length) (hp : p[j] = k) (hk : k < v.kids.length) : valAt v (p.drop j) = valAt v.kids[k] (p.drop (j + 1)) := by
 rw [List.drop_eq_getElem_cons h, valAt, if_pos (by omega), hp, Int.toNat_natCast, List.getElem?_eq_getElem hk]
theorem zeroV_ow (w : World) (S : Nat → Prop) : GValue.Ow w S none 0 zeroV :=
 ⟨wfNat 0 (by omega), wfNat 0 (by omega), Nat.zero_le _, Osl.nil (by unfold maxLen; omega)⟩
theorem implAt (v : GValue) (A1 : Option Addr) (c1 : Nat) (p : List Int) (P : Option Addr) (pc : Nat) (w : World) (hb : v.bulk ≤ 1048576) (hv : GValue.At w (Lt w.heap.size) A1 c1 v) (hp : Sl w (Lt w.heap.size) 1 P pc (p.map (D.num .i64))) :
 Calls Tryz.prog 24 #[.agg #[.int .i64 v.kind, .int .i64 v.n, .string v.s, .slice A1 v.kids.length c1], .slice P p.length pc] w (ToAt (valAt v p) w) := by
 have hlen : p.length ≤ 9223372036854775807 := by simpa using hp.len
 have V0 := LH hv
 have P0 := LH hp
 clear hv hp
 obtain ⟨w0, e0⟩ : ∃ w0, w0 = (w.alloc (.cells #[.int .i64 v.kind, .int .i64 v.n, .string v.s, .slice A1 v.kids.length c1] 28)).alloc (.cells #[.int .i64 0, .int .i64 0, .string ⟨#[]⟩, .slice none 0 0] 28) := ⟨_, rfl⟩
 have B0 := LH (show Below w.heap.size w w0 by rw [e0]; exact ((Below.refl _ _).alloc (Nat.le_refl _) _).alloc (by simp) _)
 have S0 : w.heap.size + 2 ≤ w0.heap.size := by rw [e0]; simp
 have Ra0 := LH (show Row w0 w.heap.size 28 #[.int .i64 v.kind, .int .i64 v.n, .string v.s, .slice A1 v.kids.length c1] by rw [e0]; exact (Row.new' _ _ _ rfl).alloc _)
 have Rz0 := LH (show Row w0 (w.heap.size + 1) 28 #[.int .i64 0, .int .i64 0, .string ⟨#[]⟩, .slice none 0 0] by rw [e0]; exact Row.new' _ _ _ (by simp))
 go_enter Tryz.func24, Tryz.ntmps24
 go_wp2_with fail
 rw [← e0]
 clear e0
 go_loopw [10] (fun i wr => ∃ (j : Nat) (x : GValue) (A2 : Option Addr) (c2 : Nat), j ≤ p.length ∧ i = .int .i64 j ∧ Hid (valAt v p = valAt x (p.drop j)) ∧ Hid (GValue.At w (Lt w.heap.size) A2 c2 x) ∧ x.bulk ≤ 1048576 ∧ Hid (Row wr w.heap.size 28 #[.int .i64 x.kind, .int .i64 x.n, .string x.s, .slice A2 x.kids.length c2]) ∧ Hid (Row wr (w.heap.size + 1) 28 #[.int .i64 0, .int .i64 0, .string ⟨#[]⟩, .slice none 0 0]) ∧ w.heap.size + 2 ≤ wr.heap.size ∧ Below w.heap.size w wr) (fun i _ => p.length - (intOf i).toNat)
 case atStart => exact ⟨0, v, A1, c1, by omega, by go_num, LH rfl, V0, hb, Ra0, Rz0, S0, B0.out⟩
 case round =>
  clear Ra0 Rz0 B0 S0
  obtain ⟨j, x, A2, c2, hj, rfl, HV, HX, hxb, HRa, HRz, hs2, hbl⟩ := hrel
  have hsz := hbl.size
  have hca := fun i => HRa.out.cell i
  have hfa := fun i => HRa.out.frozen i
  have hcz := fun i => HRz.out.cell i
  have hfz := fun i => HRz.out.frozen i
  have hxl : x.kids.length ≤ 9223372036854775807 := by simpa using HX.out.2.2.2.len
  by_cases hlt : j < p.length
  ·
   obtain ⟨b, off, rfl, hSb, g0, gw⟩ := int_elem (P0.out.below hbl (Nat.le_refl _)) j hlt
   have hw := int_wf gw
   clear gw
   by_cases hin : 0 ≤ p[j] ∧ p[j] ≤ (x.kids.length : Int) - 1
   rotate_left
   ·
    have HN := LH (HV.out.trans (show valAt x (p.drop j) = none by
      by_cases h : p[j] < 0
      · exact valAt_neg hlt h
      · exact valAt_over hlt (by omega)))
    have BF := LH (setCells_below hbl (w.heap.size + 1) 0 (by omega) [.int .i64 0, .int .i64 0, .string ⟨#[]⟩, .slice none 0 0])
    have HI := inB_false hin
    clear hin
    generalize p[j] = q at *
    go_wp2_with fail
    refine (implWithin _ _ _ _).mono ?_
    rintro e w2 ⟨rfl, rfl⟩
    rw [HI]
    go_wp2_with fail
    exact bodyPost_ret (v := .tuple #[.agg #[.int .i64 0, .int .i64 0, .string ⟨#[]⟩, .slice none 0 0], .bool false]) (by simp [results, Tryz.results24, go_sem, hcz]) rfl ⟨none, 0, by rw [HN.out]; rfl, by rw [HN.out]; exact zeroV_ow _ _, BF.out⟩
   ·
    obtain ⟨k, hk⟩ : ∃ k : Nat, p[j] = k := ⟨(p[j]).toNat, by omega⟩
    have hkl : k < x.kids.length := by omega
    have HN := LH (HV.out.trans (valAt_in hlt hk hkl))
    have HI := inB_true hin
    rw [hk] at g0 HI
    clear hin hk hw
    obtain ⟨b3, off3, A3, c3, rfl, hSb3, q0, q1, q2, q3, hat⟩ := GValue.elem (HX.out.below hbl (Nat.le_refl _)).2.2.2 k hkl
    have HA := LH (show GValue.At w (Lt w.heap.size) A3 c3 x.kids[k] from hat.keep fun q hq => ⟨hq, (hbl.block q hq).symm⟩)
    have hkb : (x.kids[k]).bulk ≤ 1048576 := by have := bulkL_mem GValue.bulk x.kids _ (List.getElem_mem hkl); have := x.bulk_eq; omega
    clear hat
    go_wp2_with fail
    refine (implWithin _ _ _ _).mono ?_
    rintro e w2 ⟨rfl, rfl⟩
    rw [HI]
    go_wp2_with fail
    go_roundw
    case rel =>
     have RA := (((HRa.out.set 0 (.int .i64 (x.kids[k]).kind)).set 1 (.int .i64 (x.kids[k]).n)).set 2 (.string (x.kids[k]).s)).set 3 (.slice A3 (x.kids[k]).kids.length c3)
     have RZ := (((HRz.out.far (p := ⟨w.heap.size, 0, none⟩) (by simp) (.int .i64 (x.kids[k]).kind)).far (p := ⟨w.heap.size, 1, none⟩) (by simp) (.int .i64 (x.kids[k]).n)).far (p := ⟨w.heap.size, 2, none⟩) (by simp) (.string (x.kids[k]).s)).far (p := ⟨w.heap.size, 3, none⟩) (by simp) (.slice A3 (x.kids[k]).kids.length c3)
     exact ⟨j + 1, x.kids[k], A3, c3, by omega, by go_num, HN, HA, hkb, LH RA, LH RZ, by simpa [World.setCell] using hs2, setCells_below hbl w.heap.size 0 (Nat.le_refl _) [.int .i64 (x.kids[k]).kind, .int .i64 (x.kids[k]).n, .string (x.kids[k]).s, .slice A3 (x.kids[k]).kids.length c3]⟩
    case measure => simp [intOf]; omega
  ·
   have hjl : j = p.length := by omega
   have HN := LH (show valAt v p = some x by rw [HV.out, hjl, List.drop_length]; rfl)
   clear hjl
   go_wp2_with fail
   refine (implCopyValue' x A2 c2 _ hxb (HX.out.below hbl hsz)).mono ?_
   rintro e w1 ⟨A3, c3, rfl, how, hb1⟩
   have Rz1 := LH (HRz.out.below hb1 (by omega))
   have hcz1 := fun i => Rz1.out.cell i
   have hfz1 := fun i => Rz1.out.frozen i
   have B1 := hbl.trans (hb1.mono hsz)
   have BF := LH (setCells_below B1 (w.heap.size + 1) 0 (by omega) [.int .i64 x.kind, .int .i64 x.n, .string x.s, .slice A3 x.kids.length c3])
   have SF : (setCells w1 (w.heap.size + 1) 0 [.int .i64 x.kind, .int .i64 x.n, .string x.s, .slice A3 x.kids.length c3]).heap.size = w1.heap.size := setCells_size _ _ _ _
   have HOW := LH (how.keep (S' := Btw w.heap.size (setCells w1 (w.heap.size + 1) 0 [.int .i64 x.kind, .int .i64 x.n, .string x.s, .slice A3 x.kids.length c3]).heap.size) (w' := setCells w1 (w.heap.size + 1) 0 [.int .i64 x.kind, .int .i64 x.n, .string x.s, .slice A3 x.kids.length c3]) fun q hq => ⟨⟨Nat.le_trans hsz hq.1, by rw [SF]; exact hq.2⟩, setCells_block _ _ _ _ _ (by have := hq.1; omega)⟩)
   clear hb1 B1 SF how hca hfa hcz hfz
   go_wp2_with fail
   exact bodyPost_ret (v := .tuple #[.agg #[.int .i64 x.kind, .int .i64 x.n, .string x.s, .slice A3 x.kids.length c3], .bool true]) (by simp [results, Tryz.results24, go_sem, hcz1]) rfl ⟨A3, c3, by rw [HN.out]; rfl, by rw [HN.out]; exact HOW.out, BF.out⟩
def hitB (t : GTree) (y : GValue) : Bool := if (t.op == 3) = true then (y.kind == 2) && (y.s.toList == t.s.toList) else (y.kind == 1) && (y.n == t.n)
def runF (v : GValue) : Nat → GTree → Int
 | 0, _ => -1
 | k + 1, t => if (t.op == 3) = true ∨ (t.op == 4) = true then (match valAt v t.path with
     | none => -1
     | some y => if t.kids.length = 2 then (match t.kids[if hitB t y = true then 0 else 1]? with | some u => runF v k u | none => -1) else -1)
  else if (t.op == 1) = true then t.n else -1
theorem runF_none {v : GValue} {k : Nat} {t : GTree} (h : (t.op == 3) = true ∨ (t.op == 4) = true) (e : valAt v t.path = none) : runF v (k + 1) t = -1 := by
 simp only [runF]; rw [if_pos h, e]
theorem runF_kids {v y : GValue} {k : Nat} {t : GTree} (h : (t.op == 3) = true ∨ (t.op == 4) = true) (e : valAt v t.path = some y) (hk : ¬ t.kids.length = 2) : runF v (k + 1) t = -1 := by
 simp only [runF]; rw [if_pos h, e]; simp only []; rw [if_neg hk]
theorem runF_step {v y : GValue} {k q : Nat} {t : GTree} (h : (t.op == 3) = true ∨ (t.op == 4) = true) (e : valAt v t.path = some y) (hk : t.kids.length = 2) (hq : (if hitB t y = true then 0 else 1) = q) (hql : q < t.kids.length) : runF v (k + 1) t = runF v k t.kids[q] := by
 simp only [runF]; rw [if_pos h, e]; simp only []; rw [if_pos hk, hq, List.getElem?_eq_getElem hql]
theorem runF_done {v : GValue} {k : Nat} {t : GTree} (h3 : (t.op == 3) = false) (h4 : (t.op == 4) = false) : runF v (k + 1) t = if (t.op == 1) = true then t.n else -1 := by
 simp only [runF]; rw [if_neg (by simp [h3, h4])]
theorem Row.five {w : World} {b : Nat} {T : TypeId} {c0 c1 c2 c3 c4 v0 v1 v2 v3 v4 : Value} (h : Row w b T #[c0, c1, c2, c3, c4]) : Row (((((w.setCell ⟨b, 0, none⟩ v0).setCell ⟨b, 1, none⟩ v1).setCell ⟨b, 2, none⟩ v2).setCell ⟨b, 3, none⟩ v3).setCell ⟨b, 4, none⟩ v4) b T #[v0, v1, v2, v3, v4] :=
 ((((h.set 0 v0).set 1 v1).set 2 v2).set 3 v3).set 4 v4
theorem Row.fiveFar {w : World} {b g : Nat} {T : TypeId} {cs : Array Value} {v0 v1 v2 v3 v4 : Value} (h : Row w g T cs) (hg : g ≠ b) : Row (((((w.setCell ⟨b, 0, none⟩ v0).setCell ⟨b, 1, none⟩ v1).setCell ⟨b, 2, none⟩ v2).setCell ⟨b, 3, none⟩ v3).setCell ⟨b, 4, none⟩ v4) g T cs :=
 ((((h.far hg v0).far hg v1).far hg v2).far hg v3).far hg v4
theorem below_five {B : Nat} {w w' : World} {b : Nat} {v0 v1 v2 v3 v4 : Value} (h : Below B w w') (hb : B ≤ b) : Below B w (((((w'.setCell ⟨b, 0, none⟩ v0).setCell ⟨b, 1, none⟩ v1).setCell ⟨b, 2, none⟩ v2).setCell ⟨b, 3, none⟩ v3).setCell ⟨b, 4, none⟩ v4) :=
 setCells_below h b 0 hb [v0, v1, v2, v3, v4]
theorem implRunTree (t : GTree) (T1 : Option Addr) (p1 : Nat) (T2 : Option Addr) (p2 : Nat) (v : GValue) (A1 : Option Addr) (c1 : Nat) (w : World) (hvb : v.bulk ≤ 1048576) (ht : GTree.At w (Lt w.heap.size) T1 p1 T2 p2 t) (hv : GValue.At w (Lt w.heap.size) A1 c1 v) :
 Calls Tryz.prog 9 #[.agg #[.int .i64 t.op, .int .i64 t.n, .slice T1 t.path.length p1, .string t.s, .slice T2 t.kids.length p2], .agg #[.int .i64 v.kind, .int .i64 v.n, .string v.s, .slice A1 v.kids.length c1]] w fun e w' => e = .returned (.int .i64 (runF v (t.bulk + 1) t)) ∧ Below w.heap.size w w' := by
 have T0 := LH ht
 have V0 := LH hv
 clear ht hv
 obtain ⟨w0, e0⟩ : ∃ w0, w0 = (w.alloc (.cells #[.int .i64 t.op, .int .i64 t.n, .slice T1 t.path.length p1, .string t.s, .slice T2 t.kids.length p2] 34)).alloc (.cells #[.int .i64 v.kind, .int .i64 v.n, .string v.s, .slice A1 v.kids.length c1] 28) := ⟨_, rfl⟩
 have B0 := LH (show Below w.heap.size w w0 by rw [e0]; exact ((Below.refl _ _).alloc (Nat.le_refl _) _).alloc (by simp) _)
 have S0 : w.heap.size + 2 ≤ w0.heap.size := by rw [e0]; simp
 have Ra0 := LH (show Row w0 w.heap.size 34 #[.int .i64 t.op, .int .i64 t.n, .slice T1 t.path.length p1, .string t.s, .slice T2 t.kids.length p2] by rw [e0]; exact (Row.new' _ _ _ rfl).alloc _)
 have Rv0 := LH (show Row w0 (w.heap.size + 1) 28 #[.int .i64 v.kind, .int .i64 v.n, .string v.s, .slice A1 v.kids.length c1] by rw [e0]; exact Row.new' _ _ _ (by simp))
 go_enter Tryz.func9, Tryz.ntmps9
 go_wp2_with fail
 rw [← e0]
 clear e0
 go_loopg [] (t.bulk + 1) (fun k wr => ∃ (x : GTree) (X1 : Option Addr) (x1 : Nat) (X2 : Option Addr) (x2 : Nat), Hid (runF v (t.bulk + 1) t = runF v k x) ∧ x.bulk < k ∧ Hid (GTree.At w (Lt w.heap.size) X1 x1 X2 x2 x) ∧ Hid (Row wr w.heap.size 34 #[.int .i64 x.op, .int .i64 x.n, .slice X1 x.path.length x1, .string x.s, .slice X2 x.kids.length x2]) ∧ Hid (Row wr (w.heap.size + 1) 28 #[.int .i64 v.kind, .int .i64 v.n, .string v.s, .slice A1 v.kids.length c1]) ∧ w.heap.size + 2 ≤ wr.heap.size ∧ Below w.heap.size w wr)
 case atStart => exact ⟨t, T1, p1, T2, p2, LH rfl, by omega, T0, Ra0, Rv0, S0, B0.out⟩
 case round =>
  clear Ra0 Rv0 S0 B0
  obtain ⟨x, X1, x1, X2, x2, HT, hxk, HX, HRa, HRv, hs2, hbl⟩ := hrel
  obtain ⟨k', rfl⟩ : ∃ k', gk = k' + 1 := ⟨gk - 1, by omega⟩
  have hsz := hbl.size
  have hca := fun i => HRa.out.cell i
  have hcv := fun i => HRv.out.cell i
  cases o3 : (x.op == 3)
  ·
   cases o4 : (x.op == 4)
   ·
    cases o1 : (x.op == 1)
    · have HN := LH (HT.out.trans ((runF_done o3 o4).trans (by rw [o1]; rfl : _ = -1)))
      go_wp2_with fail
      go_ret
      exact ⟨ret_int HN.out.symm, hbl⟩
    · have HN := LH (HT.out.trans ((runF_done o3 o4).trans (by rw [o1]; rfl : _ = x.n)))
      go_wp2_with fail
      go_ret
      exact ⟨ret_int HN.out.symm, hbl⟩
   ·
    skip
    have HO := LH (show (x.op == 3) = true ∨ (x.op == 4) = true from .inr o4)
    have hxl : x.kids.length ≤ 9223372036854775807 := by simpa using HX.out.2.2.2.2.len
    go_wp2_with fail
    refine (implAt v A1 c1 x.path X1 x1 _ hvb (V0.out.below hbl hsz) ((HX.out.2.2.1).below hbl hsz)).mono ?_
    rintro e w2 ⟨Y1, y1, rfl, how, hb2⟩
    have B2 := LH (hbl.trans (hb2.mono hsz))
    have Ra2 := LH (HRa.out.below hb2 HRa.out.lt)
    have Rv2 := LH (HRv.out.below hb2 HRv.out.lt)
    clear hca hcv how hb2
    have hca := fun i => Ra2.out.cell i
    have hfa := fun i => Ra2.out.frozen i
    have hla := Ra2.out.lt
    cases hva : valAt v x.path with
    | none =>
     have HN := LH (HT.out.trans (runF_none HO.out hva))
     have es : (none : Option GValue).isSome = false := rfl
     clear hva
     go_wp2_with fail
     go_ret
     exact ⟨ret_int HN.out.symm, B2.out.alloc B2.out.size _⟩
    | some y =>
     have ey : atV (some y) = y := rfl
     have es : (some y).isSome = true := rfl
     rw [ey, es]
     clear ey es
     by_cases hk : x.kids.length = 2
     rotate_left
     · have HN := LH (HT.out.trans (runF_kids HO.out hva hk))
       have hk2 : ((x.kids.length : Int) != 2) = true := by rw [bne_iff_ne]; omega
       clear hva hk
       go_wp2_with fail
       go_ret
       exact ⟨ret_int HN.out.symm, B2.out.alloc B2.out.size _⟩
     have hk2 : ((x.kids.length : Int) != 2) = false := by rw [bne_eq_false_iff_eq]; omega
     cases a : (y.kind == 1)
     ·
      have hh : (if hitB x y = true then 0 else 1) = 1 := by unfold hitB; simp [o3, a]
      have hql : 1 < x.kids.length := by omega
      have HN := LH (HT.out.trans (runF_step (k := k') HO.out hva hk hh hql))
      have hql2 : (1 : Int) < (x.kids.length : Int) := by omega
      have hkb : (x.kids[1]).bulk < k' := by have := bulkL_mem GTree.bulk x.kids _ (List.getElem_mem hql); have := x.bulk_eq; omega
      obtain ⟨b3, off3, Z1, z1, Z2, z2, eZ, hSb3, q0, q1, q2, q3, q4, hat⟩ := GTree.elem ((HX.out.2.2.2.2).below B2.out (Nat.le_refl _)) 1 hql
      have HA := LH (show GTree.At w (Lt w.heap.size) Z1 z1 Z2 z2 x.kids[1] from hat.keep fun q hq => ⟨hq, (B2.out.block q hq).symm⟩)
      have hb3 : b3 < w2.heap.size := Nat.lt_of_lt_of_le hSb3 B2.out.size
      clear hat hva hk hh
      subst eZ
      have r0 : w2.cell? ⟨b3, off3 + 5, none⟩ = some (.int .i64 (x.kids[1]).op) := q0
      have r1 : w2.cell? ⟨b3, off3 + 6, none⟩ = some (.int .i64 (x.kids[1]).n) := q1
      have r2 : w2.cell? ⟨b3, off3 + 7, none⟩ = some (.slice Z1 (x.kids[1]).path.length z1) := q2
      have r3 : w2.cell? ⟨b3, off3 + 8, none⟩ = some (.string (x.kids[1]).s) := q3
      have r4 : w2.cell? ⟨b3, off3 + 9, none⟩ = some (.slice Z2 (x.kids[1]).kids.length z2) := q4
      go_wp2_with fail
      go_roundg k'
      case measure => omega
      case rel =>
       exact ⟨x.kids[1], Z1, z1, Z2, z2, HN, hkb, HA, LH ((Row.five Ra2.out).alloc _), LH ((Row.fiveFar Rv2.out (by simp)).alloc _), by have := Rv2.out.lt; simp [World.setCell]; omega, (below_five B2.out (Nat.le_refl _)).alloc (below_five B2.out (Nat.le_refl _)).size _⟩
     ·
      cases b : (y.n == x.n)
      ·
       have hh : (if hitB x y = true then 0 else 1) = 1 := by unfold hitB; simp [o3, a, b]
       have hql : 1 < x.kids.length := by omega
       have HN := LH (HT.out.trans (runF_step (k := k') HO.out hva hk hh hql))
       have hql2 : (1 : Int) < (x.kids.length : Int) := by omega
       have hkb : (x.kids[1]).bulk < k' := by have := bulkL_mem GTree.bulk x.kids _ (List.getElem_mem hql); have := x.bulk_eq; omega
       obtain ⟨b3, off3, Z1, z1, Z2, z2, eZ, hSb3, q0, q1, q2, q3, q4, hat⟩ := GTree.elem ((HX.out.2.2.2.2).below B2.out (Nat.le_refl _)) 1 hql
       have HA := LH (show GTree.At w (Lt w.heap.size) Z1 z1 Z2 z2 x.kids[1] from hat.keep fun q hq => ⟨hq, (B2.out.block q hq).symm⟩)
       have hb3 : b3 < w2.heap.size := Nat.lt_of_lt_of_le hSb3 B2.out.size
       clear hat hva hk hh
       subst eZ
       have r0 : w2.cell? ⟨b3, off3 + 5, none⟩ = some (.int .i64 (x.kids[1]).op) := q0
       have r1 : w2.cell? ⟨b3, off3 + 6, none⟩ = some (.int .i64 (x.kids[1]).n) := q1
       have r2 : w2.cell? ⟨b3, off3 + 7, none⟩ = some (.slice Z1 (x.kids[1]).path.length z1) := q2
       have r3 : w2.cell? ⟨b3, off3 + 8, none⟩ = some (.string (x.kids[1]).s) := q3
       have r4 : w2.cell? ⟨b3, off3 + 9, none⟩ = some (.slice Z2 (x.kids[1]).kids.length z2) := q4
       go_wp2_with fail
       go_roundg k'
       case measure => omega
       case rel =>
        exact ⟨x.kids[1], Z1, z1, Z2, z2, HN, hkb, HA, LH ((Row.five Ra2.out).alloc _), LH ((Row.fiveFar Rv2.out (by simp)).alloc _), by have := Rv2.out.lt; simp [World.setCell]; omega, (below_five B2.out (Nat.le_refl _)).alloc (below_five B2.out (Nat.le_refl _)).size _⟩
      ·
       have hh : (if hitB x y = true then 0 else 1) = 0 := by unfold hitB; simp [o3, a, b]
       have hql : 0 < x.kids.length := by omega
       have HN := LH (HT.out.trans (runF_step (k := k') HO.out hva hk hh hql))
       have hql2 : (0 : Int) < (x.kids.length : Int) := by omega
       have hkb : (x.kids[0]).bulk < k' := by have := bulkL_mem GTree.bulk x.kids _ (List.getElem_mem hql); have := x.bulk_eq; omega
       obtain ⟨b3, off3, Z1, z1, Z2, z2, eZ, hSb3, q0, q1, q2, q3, q4, hat⟩ := GTree.elem ((HX.out.2.2.2.2).below B2.out (Nat.le_refl _)) 0 hql
       have HA := LH (show GTree.At w (Lt w.heap.size) Z1 z1 Z2 z2 x.kids[0] from hat.keep fun q hq => ⟨hq, (B2.out.block q hq).symm⟩)
       have hb3 : b3 < w2.heap.size := Nat.lt_of_lt_of_le hSb3 B2.out.size
       clear hat hva hk hh
       subst eZ
       have r0 : w2.cell? ⟨b3, off3, none⟩ = some (.int .i64 (x.kids[0]).op) := q0
       have r1 : w2.cell? ⟨b3, off3 + 1, none⟩ = some (.int .i64 (x.kids[0]).n) := q1
       have r2 : w2.cell? ⟨b3, off3 + 2, none⟩ = some (.slice Z1 (x.kids[0]).path.length z1) := q2
       have r3 : w2.cell? ⟨b3, off3 + 3, none⟩ = some (.string (x.kids[0]).s) := q3
       have r4 : w2.cell? ⟨b3, off3 + 4, none⟩ = some (.slice Z2 (x.kids[0]).kids.length z2) := q4
       go_wp2_with fail
       go_roundg k'
       case measure => omega
       case rel =>
        exact ⟨x.kids[0], Z1, z1, Z2, z2, HN, hkb, HA, LH ((Row.five Ra2.out).alloc _), LH ((Row.fiveFar Rv2.out (by simp)).alloc _), by have := Rv2.out.lt; simp [World.setCell]; omega, (below_five B2.out (Nat.le_refl _)).alloc (below_five B2.out (Nat.le_refl _)).size _⟩
  ·
   have o4 : (x.op == 4) = false := by rw [beq_eq_false_iff_ne]; have := eq_of_beq o3; omega
   have HO := LH (show (x.op == 3) = true ∨ (x.op == 4) = true from .inl o3)
   have hxl : x.kids.length ≤ 9223372036854775807 := by simpa using HX.out.2.2.2.2.len
   go_wp2_with fail
   refine (implAt v A1 c1 x.path X1 x1 _ hvb (V0.out.below hbl hsz) ((HX.out.2.2.1).below hbl hsz)).mono ?_
   rintro e w2 ⟨Y1, y1, rfl, how, hb2⟩
   have B2 := LH (hbl.trans (hb2.mono hsz))
   have Ra2 := LH (HRa.out.below hb2 HRa.out.lt)
   have Rv2 := LH (HRv.out.below hb2 HRv.out.lt)
   clear hca hcv how hb2
   have hca := fun i => Ra2.out.cell i
   have hfa := fun i => Ra2.out.frozen i
   have hla := Ra2.out.lt
   cases hva : valAt v x.path with
   | none =>
    have HN := LH (HT.out.trans (runF_none HO.out hva))
    have es : (none : Option GValue).isSome = false := rfl
    clear hva
    go_wp2_with fail
    go_ret
    exact ⟨ret_int HN.out.symm, B2.out.alloc B2.out.size _⟩
   | some y =>
    have ey : atV (some y) = y := rfl
    have es : (some y).isSome = true := rfl
    rw [ey, es]
    clear ey es
    by_cases hk : x.kids.length = 2
    rotate_left
    · have HN := LH (HT.out.trans (runF_kids HO.out hva hk))
      have hk2 : ((x.kids.length : Int) != 2) = true := by rw [bne_iff_ne]; omega
      clear hva hk
      go_wp2_with fail
      go_ret
      exact ⟨ret_int HN.out.symm, B2.out.alloc B2.out.size _⟩
    have hk2 : ((x.kids.length : Int) != 2) = false := by rw [bne_eq_false_iff_eq]; omega
    cases p1 : (y.kind == 1)
    ·
     skip
     cases a : (y.kind == 2)
     ·
      have hh : (if hitB x y = true then 0 else 1) = 1 := by unfold hitB; simp [o3, a]
      have hql : 1 < x.kids.length := by omega
      have HN := LH (HT.out.trans (runF_step (k := k') HO.out hva hk hh hql))
      have hql2 : (1 : Int) < (x.kids.length : Int) := by omega
      have hkb : (x.kids[1]).bulk < k' := by have := bulkL_mem GTree.bulk x.kids _ (List.getElem_mem hql); have := x.bulk_eq; omega
      obtain ⟨b3, off3, Z1, z1, Z2, z2, eZ, hSb3, q0, q1, q2, q3, q4, hat⟩ := GTree.elem ((HX.out.2.2.2.2).below B2.out (Nat.le_refl _)) 1 hql
      have HA := LH (show GTree.At w (Lt w.heap.size) Z1 z1 Z2 z2 x.kids[1] from hat.keep fun q hq => ⟨hq, (B2.out.block q hq).symm⟩)
      have hb3 : b3 < w2.heap.size := Nat.lt_of_lt_of_le hSb3 B2.out.size
      clear hat hva hk hh
      subst eZ
      have r0 : w2.cell? ⟨b3, off3 + 5, none⟩ = some (.int .i64 (x.kids[1]).op) := q0
      have r1 : w2.cell? ⟨b3, off3 + 6, none⟩ = some (.int .i64 (x.kids[1]).n) := q1
      have r2 : w2.cell? ⟨b3, off3 + 7, none⟩ = some (.slice Z1 (x.kids[1]).path.length z1) := q2
      have r3 : w2.cell? ⟨b3, off3 + 8, none⟩ = some (.string (x.kids[1]).s) := q3
      have r4 : w2.cell? ⟨b3, off3 + 9, none⟩ = some (.slice Z2 (x.kids[1]).kids.length z2) := q4
      go_wp2_with fail
      go_roundg k'
      case measure => omega
      case rel =>
       exact ⟨x.kids[1], Z1, z1, Z2, z2, HN, hkb, HA, LH ((Row.five Ra2.out).alloc _), LH ((Row.fiveFar Rv2.out (by simp)).alloc _), by have := Rv2.out.lt; simp [World.setCell]; omega, (below_five B2.out (Nat.le_refl _)).alloc (below_five B2.out (Nat.le_refl _)).size _⟩
     ·
      cases b : (y.s.toList == x.s.toList)
      ·
       have hh : (if hitB x y = true then 0 else 1) = 1 := by unfold hitB; simp [o3, a, b]
       have hql : 1 < x.kids.length := by omega
       have HN := LH (HT.out.trans (runF_step (k := k') HO.out hva hk hh hql))
       have hql2 : (1 : Int) < (x.kids.length : Int) := by omega
       have hkb : (x.kids[1]).bulk < k' := by have := bulkL_mem GTree.bulk x.kids _ (List.getElem_mem hql); have := x.bulk_eq; omega
       obtain ⟨b3, off3, Z1, z1, Z2, z2, eZ, hSb3, q0, q1, q2, q3, q4, hat⟩ := GTree.elem ((HX.out.2.2.2.2).below B2.out (Nat.le_refl _)) 1 hql
       have HA := LH (show GTree.At w (Lt w.heap.size) Z1 z1 Z2 z2 x.kids[1] from hat.keep fun q hq => ⟨hq, (B2.out.block q hq).symm⟩)
       have hb3 : b3 < w2.heap.size := Nat.lt_of_lt_of_le hSb3 B2.out.size
       clear hat hva hk hh
       subst eZ
       have r0 : w2.cell? ⟨b3, off3 + 5, none⟩ = some (.int .i64 (x.kids[1]).op) := q0
       have r1 : w2.cell? ⟨b3, off3 + 6, none⟩ = some (.int .i64 (x.kids[1]).n) := q1
       have r2 : w2.cell? ⟨b3, off3 + 7, none⟩ = some (.slice Z1 (x.kids[1]).path.length z1) := q2
       have r3 : w2.cell? ⟨b3, off3 + 8, none⟩ = some (.string (x.kids[1]).s) := q3
       have r4 : w2.cell? ⟨b3, off3 + 9, none⟩ = some (.slice Z2 (x.kids[1]).kids.length z2) := q4
       go_wp2_with fail
       go_roundg k'
       case measure => omega
       case rel =>
        exact ⟨x.kids[1], Z1, z1, Z2, z2, HN, hkb, HA, LH ((Row.five Ra2.out).alloc _), LH ((Row.fiveFar Rv2.out (by simp)).alloc _), by have := Rv2.out.lt; simp [World.setCell]; omega, (below_five B2.out (Nat.le_refl _)).alloc (below_five B2.out (Nat.le_refl _)).size _⟩
      ·
       have hh : (if hitB x y = true then 0 else 1) = 0 := by unfold hitB; simp [o3, a, b]
       have hql : 0 < x.kids.length := by omega
       have HN := LH (HT.out.trans (runF_step (k := k') HO.out hva hk hh hql))
       have hql2 : (0 : Int) < (x.kids.length : Int) := by omega
       have hkb : (x.kids[0]).bulk < k' := by have := bulkL_mem GTree.bulk x.kids _ (List.getElem_mem hql); have := x.bulk_eq; omega
       obtain ⟨b3, off3, Z1, z1, Z2, z2, eZ, hSb3, q0, q1, q2, q3, q4, hat⟩ := GTree.elem ((HX.out.2.2.2.2).below B2.out (Nat.le_refl _)) 0 hql
       have HA := LH (show GTree.At w (Lt w.heap.size) Z1 z1 Z2 z2 x.kids[0] from hat.keep fun q hq => ⟨hq, (B2.out.block q hq).symm⟩)
       have hb3 : b3 < w2.heap.size := Nat.lt_of_lt_of_le hSb3 B2.out.size
       clear hat hva hk hh
       subst eZ
       have r0 : w2.cell? ⟨b3, off3, none⟩ = some (.int .i64 (x.kids[0]).op) := q0
       have r1 : w2.cell? ⟨b3, off3 + 1, none⟩ = some (.int .i64 (x.kids[0]).n) := q1
       have r2 : w2.cell? ⟨b3, off3 + 2, none⟩ = some (.slice Z1 (x.kids[0]).path.length z1) := q2
       have r3 : w2.cell? ⟨b3, off3 + 3, none⟩ = some (.string (x.kids[0]).s) := q3
       have r4 : w2.cell? ⟨b3, off3 + 4, none⟩ = some (.slice Z2 (x.kids[0]).kids.length z2) := q4
       go_wp2_with fail
       go_roundg k'
       case measure => omega
       case rel =>
        exact ⟨x.kids[0], Z1, z1, Z2, z2, HN, hkb, HA, LH ((Row.five Ra2.out).alloc _), LH ((Row.fiveFar Rv2.out (by simp)).alloc _), by have := Rv2.out.lt; simp [World.setCell]; omega, (below_five B2.out (Nat.le_refl _)).alloc (below_five B2.out (Nat.le_refl _)).size _⟩
    ·
     cases p2 : (y.n == x.n)
     ·
      skip
      cases a : (y.kind == 2)
      ·
       have hh : (if hitB x y = true then 0 else 1) = 1 := by unfold hitB; simp [o3, a]
       have hql : 1 < x.kids.length := by omega
       have HN := LH (HT.out.trans (runF_step (k := k') HO.out hva hk hh hql))
       have hql2 : (1 : Int) < (x.kids.length : Int) := by omega
       have hkb : (x.kids[1]).bulk < k' := by have := bulkL_mem GTree.bulk x.kids _ (List.getElem_mem hql); have := x.bulk_eq; omega
       obtain ⟨b3, off3, Z1, z1, Z2, z2, eZ, hSb3, q0, q1, q2, q3, q4, hat⟩ := GTree.elem ((HX.out.2.2.2.2).below B2.out (Nat.le_refl _)) 1 hql
       have HA := LH (show GTree.At w (Lt w.heap.size) Z1 z1 Z2 z2 x.kids[1] from hat.keep fun q hq => ⟨hq, (B2.out.block q hq).symm⟩)
       have hb3 : b3 < w2.heap.size := Nat.lt_of_lt_of_le hSb3 B2.out.size
       clear hat hva hk hh
       subst eZ
       have r0 : w2.cell? ⟨b3, off3 + 5, none⟩ = some (.int .i64 (x.kids[1]).op) := q0
       have r1 : w2.cell? ⟨b3, off3 + 6, none⟩ = some (.int .i64 (x.kids[1]).n) := q1
       have r2 : w2.cell? ⟨b3, off3 + 7, none⟩ = some (.slice Z1 (x.kids[1]).path.length z1) := q2
       have r3 : w2.cell? ⟨b3, off3 + 8, none⟩ = some (.string (x.kids[1]).s) := q3
       have r4 : w2.cell? ⟨b3, off3 + 9, none⟩ = some (.slice Z2 (x.kids[1]).kids.length z2) := q4
       go_wp2_with fail
       go_roundg k'
       case measure => omega
       case rel =>
        exact ⟨x.kids[1], Z1, z1, Z2, z2, HN, hkb, HA, LH ((Row.five Ra2.out).alloc _), LH ((Row.fiveFar Rv2.out (by simp)).alloc _), by have := Rv2.out.lt; simp [World.setCell]; omega, (below_five B2.out (Nat.le_refl _)).alloc (below_five B2.out (Nat.le_refl _)).size _⟩
      ·
       cases b : (y.s.toList == x.s.toList)
       ·
        have hh : (if hitB x y = true then 0 else 1) = 1 := by unfold hitB; simp [o3, a, b]
        have hql : 1 < x.kids.length := by omega
        have HN := LH (HT.out.trans (runF_step (k := k') HO.out hva hk hh hql))
        have hql2 : (1 : Int) < (x.kids.length : Int) := by omega
        have hkb : (x.kids[1]).bulk < k' := by have := bulkL_mem GTree.bulk x.kids _ (List.getElem_mem hql); have := x.bulk_eq; omega
        obtain ⟨b3, off3, Z1, z1, Z2, z2, eZ, hSb3, q0, q1, q2, q3, q4, hat⟩ := GTree.elem ((HX.out.2.2.2.2).below B2.out (Nat.le_refl _)) 1 hql
        have HA := LH (show GTree.At w (Lt w.heap.size) Z1 z1 Z2 z2 x.kids[1] from hat.keep fun q hq => ⟨hq, (B2.out.block q hq).symm⟩)
        have hb3 : b3 < w2.heap.size := Nat.lt_of_lt_of_le hSb3 B2.out.size
        clear hat hva hk hh
        subst eZ
        have r0 : w2.cell? ⟨b3, off3 + 5, none⟩ = some (.int .i64 (x.kids[1]).op) := q0
        have r1 : w2.cell? ⟨b3, off3 + 6, none⟩ = some (.int .i64 (x.kids[1]).n) := q1
        have r2 : w2.cell? ⟨b3, off3 + 7, none⟩ = some (.slice Z1 (x.kids[1]).path.length z1) := q2
        have r3 : w2.cell? ⟨b3, off3 + 8, none⟩ = some (.string (x.kids[1]).s) := q3
        have r4 : w2.cell? ⟨b3, off3 + 9, none⟩ = some (.slice Z2 (x.kids[1]).kids.length z2) := q4
        go_wp2_with fail
        go_roundg k'
        case measure => omega
        case rel =>
         exact ⟨x.kids[1], Z1, z1, Z2, z2, HN, hkb, HA, LH ((Row.five Ra2.out).alloc _), LH ((Row.fiveFar Rv2.out (by simp)).alloc _), by have := Rv2.out.lt; simp [World.setCell]; omega, (below_five B2.out (Nat.le_refl _)).alloc (below_five B2.out (Nat.le_refl _)).size _⟩
       ·
        have hh : (if hitB x y = true then 0 else 1) = 0 := by unfold hitB; simp [o3, a, b]
        have hql : 0 < x.kids.length := by omega
        have HN := LH (HT.out.trans (runF_step (k := k') HO.out hva hk hh hql))
        have hql2 : (0 : Int) < (x.kids.length : Int) := by omega
        have hkb : (x.kids[0]).bulk < k' := by have := bulkL_mem GTree.bulk x.kids _ (List.getElem_mem hql); have := x.bulk_eq; omega
        obtain ⟨b3, off3, Z1, z1, Z2, z2, eZ, hSb3, q0, q1, q2, q3, q4, hat⟩ := GTree.elem ((HX.out.2.2.2.2).below B2.out (Nat.le_refl _)) 0 hql
        have HA := LH (show GTree.At w (Lt w.heap.size) Z1 z1 Z2 z2 x.kids[0] from hat.keep fun q hq => ⟨hq, (B2.out.block q hq).symm⟩)
        have hb3 : b3 < w2.heap.size := Nat.lt_of_lt_of_le hSb3 B2.out.size
        clear hat hva hk hh
        subst eZ
        have r0 : w2.cell? ⟨b3, off3, none⟩ = some (.int .i64 (x.kids[0]).op) := q0
        have r1 : w2.cell? ⟨b3, off3 + 1, none⟩ = some (.int .i64 (x.kids[0]).n) := q1
        have r2 : w2.cell? ⟨b3, off3 + 2, none⟩ = some (.slice Z1 (x.kids[0]).path.length z1) := q2
        have r3 : w2.cell? ⟨b3, off3 + 3, none⟩ = some (.string (x.kids[0]).s) := q3
        have r4 : w2.cell? ⟨b3, off3 + 4, none⟩ = some (.slice Z2 (x.kids[0]).kids.length z2) := q4
        go_wp2_with fail
        go_roundg k'
        case measure => omega
        case rel =>
         exact ⟨x.kids[0], Z1, z1, Z2, z2, HN, hkb, HA, LH ((Row.five Ra2.out).alloc _), LH ((Row.fiveFar Rv2.out (by simp)).alloc _), by have := Rv2.out.lt; simp [World.setCell]; omega, (below_five B2.out (Nat.le_refl _)).alloc (below_five B2.out (Nat.le_refl _)).size _⟩
     ·
      skip
      cases a : (y.kind == 2)
      ·
       have hh : (if hitB x y = true then 0 else 1) = 1 := by unfold hitB; simp [o3, a]
       have hql : 1 < x.kids.length := by omega
       have HN := LH (HT.out.trans (runF_step (k := k') HO.out hva hk hh hql))
       have hql2 : (1 : Int) < (x.kids.length : Int) := by omega
       have hkb : (x.kids[1]).bulk < k' := by have := bulkL_mem GTree.bulk x.kids _ (List.getElem_mem hql); have := x.bulk_eq; omega
       obtain ⟨b3, off3, Z1, z1, Z2, z2, eZ, hSb3, q0, q1, q2, q3, q4, hat⟩ := GTree.elem ((HX.out.2.2.2.2).below B2.out (Nat.le_refl _)) 1 hql
       have HA := LH (show GTree.At w (Lt w.heap.size) Z1 z1 Z2 z2 x.kids[1] from hat.keep fun q hq => ⟨hq, (B2.out.block q hq).symm⟩)
       have hb3 : b3 < w2.heap.size := Nat.lt_of_lt_of_le hSb3 B2.out.size
       clear hat hva hk hh
       subst eZ
       have r0 : w2.cell? ⟨b3, off3 + 5, none⟩ = some (.int .i64 (x.kids[1]).op) := q0
       have r1 : w2.cell? ⟨b3, off3 + 6, none⟩ = some (.int .i64 (x.kids[1]).n) := q1
       have r2 : w2.cell? ⟨b3, off3 + 7, none⟩ = some (.slice Z1 (x.kids[1]).path.length z1) := q2
       have r3 : w2.cell? ⟨b3, off3 + 8, none⟩ = some (.string (x.kids[1]).s) := q3
       have r4 : w2.cell? ⟨b3, off3 + 9, none⟩ = some (.slice Z2 (x.kids[1]).kids.length z2) := q4
       go_wp2_with fail
       go_roundg k'
       case measure => omega
       case rel =>
        exact ⟨x.kids[1], Z1, z1, Z2, z2, HN, hkb, HA, LH ((Row.five Ra2.out).alloc _), LH ((Row.fiveFar Rv2.out (by simp)).alloc _), by have := Rv2.out.lt; simp [World.setCell]; omega, (below_five B2.out (Nat.le_refl _)).alloc (below_five B2.out (Nat.le_refl _)).size _⟩
      ·
       cases b : (y.s.toList == x.s.toList)
       ·
        have hh : (if hitB x y = true then 0 else 1) = 1 := by unfold hitB; simp [o3, a, b]
        have hql : 1 < x.kids.length := by omega
        have HN := LH (HT.out.trans (runF_step (k := k') HO.out hva hk hh hql))
        have hql2 : (1 : Int) < (x.kids.length : Int) := by omega
        have hkb : (x.kids[1]).bulk < k' := by have := bulkL_mem GTree.bulk x.kids _ (List.getElem_mem hql); have := x.bulk_eq; omega
        obtain ⟨b3, off3, Z1, z1, Z2, z2, eZ, hSb3, q0, q1, q2, q3, q4, hat⟩ := GTree.elem ((HX.out.2.2.2.2).below B2.out (Nat.le_refl _)) 1 hql
        have HA := LH (show GTree.At w (Lt w.heap.size) Z1 z1 Z2 z2 x.kids[1] from hat.keep fun q hq => ⟨hq, (B2.out.block q hq).symm⟩)
        have hb3 : b3 < w2.heap.size := Nat.lt_of_lt_of_le hSb3 B2.out.size
        clear hat hva hk hh
        subst eZ
        have r0 : w2.cell? ⟨b3, off3 + 5, none⟩ = some (.int .i64 (x.kids[1]).op) := q0
        have r1 : w2.cell? ⟨b3, off3 + 6, none⟩ = some (.int .i64 (x.kids[1]).n) := q1
        have r2 : w2.cell? ⟨b3, off3 + 7, none⟩ = some (.slice Z1 (x.kids[1]).path.length z1) := q2
        have r3 : w2.cell? ⟨b3, off3 + 8, none⟩ = some (.string (x.kids[1]).s) := q3
        have r4 : w2.cell? ⟨b3, off3 + 9, none⟩ = some (.slice Z2 (x.kids[1]).kids.length z2) := q4
        go_wp2_with fail
        go_roundg k'
        case measure => omega
        case rel =>
         exact ⟨x.kids[1], Z1, z1, Z2, z2, HN, hkb, HA, LH ((Row.five Ra2.out).alloc _), LH ((Row.fiveFar Rv2.out (by simp)).alloc _), by have := Rv2.out.lt; simp [World.setCell]; omega, (below_five B2.out (Nat.le_refl _)).alloc (below_five B2.out (Nat.le_refl _)).size _⟩
       ·
        have hh : (if hitB x y = true then 0 else 1) = 0 := by unfold hitB; simp [o3, a, b]
        have hql : 0 < x.kids.length := by omega
        have HN := LH (HT.out.trans (runF_step (k := k') HO.out hva hk hh hql))
        have hql2 : (0 : Int) < (x.kids.length : Int) := by omega
        have hkb : (x.kids[0]).bulk < k' := by have := bulkL_mem GTree.bulk x.kids _ (List.getElem_mem hql); have := x.bulk_eq; omega
        obtain ⟨b3, off3, Z1, z1, Z2, z2, eZ, hSb3, q0, q1, q2, q3, q4, hat⟩ := GTree.elem ((HX.out.2.2.2.2).below B2.out (Nat.le_refl _)) 0 hql
        have HA := LH (show GTree.At w (Lt w.heap.size) Z1 z1 Z2 z2 x.kids[0] from hat.keep fun q hq => ⟨hq, (B2.out.block q hq).symm⟩)
        have hb3 : b3 < w2.heap.size := Nat.lt_of_lt_of_le hSb3 B2.out.size
        clear hat hva hk hh
        subst eZ
        have r0 : w2.cell? ⟨b3, off3, none⟩ = some (.int .i64 (x.kids[0]).op) := q0
        have r1 : w2.cell? ⟨b3, off3 + 1, none⟩ = some (.int .i64 (x.kids[0]).n) := q1
        have r2 : w2.cell? ⟨b3, off3 + 2, none⟩ = some (.slice Z1 (x.kids[0]).path.length z1) := q2
        have r3 : w2.cell? ⟨b3, off3 + 3, none⟩ = some (.string (x.kids[0]).s) := q3
        have r4 : w2.cell? ⟨b3, off3 + 4, none⟩ = some (.slice Z2 (x.kids[0]).kids.length z2) := q4
        go_wp2_with fail
        go_roundg k'
        case measure => omega
        case rel =>
         exact ⟨x.kids[0], Z1, z1, Z2, z2, HN, hkb, HA, LH ((Row.five Ra2.out).alloc _), LH ((Row.fiveFar Rv2.out (by simp)).alloc _), by have := Rv2.out.lt; simp [World.setCell]; omega, (below_five B2.out (Nat.le_refl _)).alloc (below_five B2.out (Nat.le_refl _)).size _⟩
set_option maxHeartbeats 400000
mutual
def GTree.nodes : GTree → Nat | .mk _ _ _ _ kids => 1 + GTree.nodesL kids
def GTree.nodesL : List GTree → Nat | [] => 0 | t :: r => t.nodes + GTree.nodesL r
end
theorem GTree.nodes_eq (t : GTree) : t.nodes = 1 + GTree.nodesL t.kids := by cases t; simp only [GTree.nodes, GTree.kids]
theorem GTree.nodesL_take (l : List GTree) (i : Nat) (h : i < l.length) : GTree.nodesL (l.take (i + 1)) = GTree.nodesL (l.take i) + (l[i]).nodes := by
 induction l generalizing i with
 | nil => simp at h
 | cons t r ih =>
  match i with
  | 0 => simp [GTree.nodesL]
  | i + 1 => simp only [List.take_succ_cons, GTree.nodesL, List.getElem_cons_succ]; rw [ih i (by simpa using h)]; omega
theorem GTree.nodesL_le (l : List GTree) (i : Nat) : GTree.nodesL (l.take i) ≤ GTree.nodesL l := by
 induction l generalizing i with
 | nil => simp
 | cons t r ih =>
  match i with
  | 0 => simp [GTree.nodesL]
  | i + 1 => simp only [List.take_succ_cons, GTree.nodesL]; have := ih i; omega
mutual
theorem GTree.nodes_bulk : ∀ t : GTree, t.nodes ≤ t.bulk + 1
 | .mk op n path s kids => by simp only [GTree.nodes, GTree.bulk]; have := GTree.nodesL_bulk kids; omega
theorem GTree.nodesL_bulk : ∀ l : List GTree, GTree.nodesL l ≤ GTree.bulks l
 | [] => by simp [GTree.nodesL]
 | t :: r => by simp only [GTree.nodesL, GTree.bulks]; have := GTree.nodes_bulk t; have := GTree.nodesL_bulk r; omega
end
theorem implTreeSize (k : Nat) : ∀ (t : GTree) (A1 : Option Addr) (c1 : Nat) (A2 : Option Addr) (c2 : Nat) (w : World), t.nodes ≤ k → t.nodes ≤ 4611686018427387904 → GTree.At w (Lt w.heap.size) A1 c1 A2 c2 t →
 Calls Tryz.prog 25 #[.agg #[.int .i64 t.op, .int .i64 t.n, .slice A1 t.path.length c1, .string t.s, .slice A2 t.kids.length c2]] w fun e w' => e = .returned (.int .i64 t.nodes) ∧ Below w.heap.size w w' := by
 induction k with
 | zero => intro t A1 c1 A2 c2 w h; rw [GTree.nodes_eq] at h; omega
 | succ k ih =>
  intro t A1 c1 A2 c2 w hk hb ht
  obtain ⟨-, -, -, -, hs⟩ := id ht
  have hlen : t.kids.length ≤ 9223372036854775807 := by simpa using hs.len
  go_enter Tryz.func25, Tryz.ntmps25
  go_wp2_with fail
  go_loopw [3, 9] (fun n i wr => ∃ j : Nat, j ≤ t.kids.length ∧ i = .int .i64 j ∧ n = .int .i64 (1 + GTree.nodesL (t.kids.take j)) ∧ Below w.heap.size w wr) (fun _ i _ => t.kids.length - (intOf i).toNat)
  case atStart => exact ⟨0, by omega, by go_num, by simp [GTree.nodesL], (Below.refl _ _).alloc (Nat.le_refl _) _⟩
  case round =>
   obtain ⟨j, hj, rfl, rfl, hbl⟩ := hrel
   have hsz := hbl.size
   by_cases hlt : j < t.kids.length
   ·
    have htr := GTree.elem (hs.below hbl (Nat.le_refl _)) j hlt
    obtain ⟨b, off, A'1, c'1, A'2, c'2, rfl, hSb, g0, g1, g2, g3, g4, hat⟩ := htr
    have hs1 := GTree.nodesL_take t.kids j hlt
    have hs2 := GTree.nodesL_le t.kids (j + 1)
    have hs3 := t.nodes_eq
    have Hs := LH hs1
    have hs4 : GTree.nodesL (t.kids.take j) + (t.kids[j]).nodes ≤ 4611686018427387904 := by omega
    have hs5 : (t.kids[j]).nodes ≤ k := by omega
    have hs6 : (t.kids[j]).nodes ≤ 4611686018427387904 := by omega
    clear hs1 hs2 hs3
    go_wp2_with fail
    refine (ih _ _ _ _ _ _ hs5 hs6 (hat.below ((Below.refl _ _).alloc (by omega) _) (by simp; omega))).mono ?_
    rintro e w1 ⟨rfl, hb1⟩
    go_wp2_with fail
    go_roundw
    case rel => exact ⟨j + 1, by omega, by go_num, by rw [Hs.out]; congr 1; omega, hbl.trans (((Below.refl _ _).alloc hsz _).trans (hb1.mono (by simp; omega)))⟩
    case measure => simp [intOf]; omega
   ·
    have hjl : j = t.kids.length := by omega
    have Hj := LH hjl
    clear hjl
    have hbd := t.nodes_eq
    have hbd2 := GTree.nodesL_le t.kids j
    have hbd3 : GTree.nodesL (t.kids.take j) ≤ 4611686018427387904 := by omega
    clear hbd hbd2
    go_wp2_with fail
    go_ret
    exact ⟨ret_int (by rw [t.nodes_eq, Hj.out, List.take_length]; simp), hbl⟩
theorem indexFuncTree (K : Nat) (hK : ∀ (args : Array Value) (w : World), (callFunc K args).run Tryz.prog w = .ok (.enter K args) w) (caps : Array Value) (p : GTree → Bool) (l : List GTree) (A : Option Addr) (c : Nat) (w : World) (hs : Sl w (Lt w.heap.size) 5 A c (l.map GTree.toD))
 (H : ∀ x, x ∈ l → ∀ (A1 : Option Addr) (c1 : Nat) (A2 : Option Addr) (c2 : Nat) (w2 : World), Below w.heap.size w w2 → GTree.At w2 (Lt w2.heap.size) A1 c1 A2 c2 x →
   Calls Tryz.prog K (#[.agg #[.int .i64 x.op, .int .i64 x.n, .slice A1 x.path.length c1, .string x.s, .slice A2 x.kids.length c2]] ++ caps) w2 fun e w' => e = .returned (.bool (p x)) ∧ Below w2.heap.size w2 w') :
 Calls Tryz.prog 72 #[.slice A l.length c, .func (.func K) #[] caps] w fun e w' => e = .returned (.int .i64 (idxI p l)) ∧ Below w.heap.size w w' := by
 have hlen : l.length ≤ 9223372036854775807 := by simpa using hs.len
 have HH := LH H
 clear H
 go_enter Tryz.func72, Tryz.ntmps72
 go_wp2_with fail
 go_loopw [8] (fun i wr => ∃ j : Nat, j ≤ l.length ∧ i = .int .i64 j ∧ noneTo p l j ∧ Below w.heap.size w wr) (fun i _ => l.length - (intOf i).toNat)
 case atStart => exact ⟨0, by omega, by go_num, noneTo_zero p l, Below.refl _ _⟩
 case round =>
  obtain ⟨j, hj, rfl, hno, hbl⟩ := hrel
  have Hno := LH hno
  clear hno
  have hsz := hbl.size
  by_cases hlt : j < l.length
  ·
   have htr := GTree.elem (hs.below hbl (Nat.le_refl _)) j hlt
   obtain ⟨b, off, A1, c1, A2, c2, rfl, hSb, g0, g1, g2, g3, g4, hat⟩ := htr
   have hmem : l[j] ∈ l := List.getElem_mem hlt
   go_wp2_with fail
   refine (HH.out _ hmem _ _ _ _ _ hbl (hat.below (Below.refl _ _) hsz)).mono ?_
   rintro e w1 ⟨rfl, hb1⟩
   cases he : p l[j]
   · have hn := LH (noneTo_succ Hno.out hlt he)
     go_wp2_with fail
     go_roundw
     case rel => exact ⟨j + 1, by omega, by go_num, hn.out, hbl.trans (hb1.mono hsz)⟩
     case measure => simp [intOf]; omega
   · have hn := LH (idxI_at Hno.out hlt he)
     go_wp2_with fail
     go_ret
     exact ⟨ret_int hn.out.symm, hbl.trans (hb1.mono hsz)⟩
  ·
   have hjl : j = l.length := by omega
   have Hj := LH hjl
   clear hjl
   go_wp2_with fail
   go_ret
   exact ⟨ret_int (idxI_none (by have := Hno.out; rw [Hj.out] at this; exact this)).symm, hbl⟩
theorem containsFuncTree (K : Nat) (hK : ∀ (args : Array Value) (w : World), (callFunc K args).run Tryz.prog w = .ok (.enter K args) w) (caps : Array Value) (p : GTree → Bool) (l : List GTree) (A : Option Addr) (c : Nat) (w : World) (hs : Sl w (Lt w.heap.size) 5 A c (l.map GTree.toD))
 (H : ∀ x, x ∈ l → ∀ (A1 : Option Addr) (c1 : Nat) (A2 : Option Addr) (c2 : Nat) (w2 : World), Below w.heap.size w w2 → GTree.At w2 (Lt w2.heap.size) A1 c1 A2 c2 x →
   Calls Tryz.prog K (#[.agg #[.int .i64 x.op, .int .i64 x.n, .slice A1 x.path.length c1, .string x.s, .slice A2 x.kids.length c2]] ++ caps) w2 fun e w' => e = .returned (.bool (p x)) ∧ Below w2.heap.size w2 w') :
 Calls Tryz.prog 48 #[.slice A l.length c, .func (.func K) #[] caps] w fun e w' => e = .returned (.bool (l.any p)) ∧ Below w.heap.size w w' := by
 have HH := LH H
 clear H
 go_enter Tryz.func48, Tryz.ntmps48
 go_wp2_with fail
 refine (indexFuncTree K hK caps p l A c w hs HH.out).mono ?_
 rintro e w1 ⟨rfl, hb1⟩
 cases ha : l.any p
 ·
  have hi := idxI_any_false ha
  rw [hi]
  have Ha := LH ha
  clear ha hi
  go_wp2_with fail
  go_ret
  exact ⟨ret_bool Ha.out.symm, hb1⟩
 ·
  have hi := idxI_any_true ha
  have Ha := LH ha
  clear ha
  generalize idxI p l = x at *
  go_wp2_with fail
  go_ret
  exact ⟨ret_bool Ha.out.symm, hb1⟩
theorem indexFuncint (K : Nat) (hK : ∀ (args : Array Value) (w : World), (callFunc K args).run Tryz.prog w = .ok (.enter K args) w) (caps : Array Value) (p : Int → Bool) (l : List Int) (A : Option Addr) (c : Nat) (w : World) (hs : Sl w (Lt w.heap.size) 1 A c (l.map (D.num .i64)))
 (H : ∀ x, x ∈ l → ∀ (w2 : World), Below w.heap.size w w2 → True →
   Calls Tryz.prog K (#[.int .i64 x] ++ caps) w2 fun e w' => e = .returned (.bool (p x)) ∧ Below w2.heap.size w2 w') :
 Calls Tryz.prog 71 #[.slice A l.length c, .func (.func K) #[] caps] w fun e w' => e = .returned (.int .i64 (idxI p l)) ∧ Below w.heap.size w w' := by
 have hlen : l.length ≤ 9223372036854775807 := by simpa using hs.len
 have HH := LH H
 clear H
 go_enter Tryz.func71, Tryz.ntmps71
 go_wp2_with fail
 go_loopw [8] (fun i wr => ∃ j : Nat, j ≤ l.length ∧ i = .int .i64 j ∧ noneTo p l j ∧ Below w.heap.size w wr) (fun i _ => l.length - (intOf i).toNat)
 case atStart => exact ⟨0, by omega, by go_num, noneTo_zero p l, Below.refl _ _⟩
 case round =>
  obtain ⟨j, hj, rfl, hno, hbl⟩ := hrel
  have Hno := LH hno
  clear hno
  have hsz := hbl.size
  by_cases hlt : j < l.length
  ·
   have htr := int_elem (hs.below hbl (Nat.le_refl _)) j hlt
   obtain ⟨b, off, rfl, hSb, g0, hat⟩ := htr
   have hmem : l[j] ∈ l := List.getElem_mem hlt
   go_wp2_with fail
   refine (HH.out _ hmem  _ hbl trivial).mono ?_
   rintro e w1 ⟨rfl, hb1⟩
   cases he : p l[j]
   · have hn := LH (noneTo_succ Hno.out hlt he)
     go_wp2_with fail
     go_roundw
     case rel => exact ⟨j + 1, by omega, by go_num, hn.out, hbl.trans (hb1.mono hsz)⟩
     case measure => simp [intOf]; omega
   · have hn := LH (idxI_at Hno.out hlt he)
     go_wp2_with fail
     go_ret
     exact ⟨ret_int hn.out.symm, hbl.trans (hb1.mono hsz)⟩
  ·
   have hjl : j = l.length := by omega
   have Hj := LH hjl
   clear hjl
   go_wp2_with fail
   go_ret
   exact ⟨ret_int (idxI_none (by have := Hno.out; rw [Hj.out] at this; exact this)).symm, hbl⟩
theorem containsFuncint (K : Nat) (hK : ∀ (args : Array Value) (w : World), (callFunc K args).run Tryz.prog w = .ok (.enter K args) w) (caps : Array Value) (p : Int → Bool) (l : List Int) (A : Option Addr) (c : Nat) (w : World) (hs : Sl w (Lt w.heap.size) 1 A c (l.map (D.num .i64)))
 (H : ∀ x, x ∈ l → ∀ (w2 : World), Below w.heap.size w w2 → True →
   Calls Tryz.prog K (#[.int .i64 x] ++ caps) w2 fun e w' => e = .returned (.bool (p x)) ∧ Below w2.heap.size w2 w') :
 Calls Tryz.prog 44 #[.slice A l.length c, .func (.func K) #[] caps] w fun e w' => e = .returned (.bool (l.any p)) ∧ Below w.heap.size w w' := by
 have HH := LH H
 clear H
 go_enter Tryz.func44, Tryz.ntmps44
 go_wp2_with fail
 refine (indexFuncint K hK caps p l A c w hs HH.out).mono ?_
 rintro e w1 ⟨rfl, hb1⟩
 cases ha : l.any p
 ·
  have hi := idxI_any_false ha
  rw [hi]
  have Ha := LH ha
  clear ha hi
  go_wp2_with fail
  go_ret
  exact ⟨ret_bool Ha.out.symm, hb1⟩
 ·
  have hi := idxI_any_true ha
  have Ha := LH ha
  clear ha
  generalize idxI p l = x at *
  go_wp2_with fail
  go_ret
  exact ⟨ret_bool Ha.out.symm, hb1⟩
end Go.Proofs.YtjjikciggbnjmaaGreat
