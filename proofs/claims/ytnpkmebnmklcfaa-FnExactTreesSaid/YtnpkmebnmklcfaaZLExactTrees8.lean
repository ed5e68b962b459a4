/- Texts of the claim LExactTrees in one: TiL Trees ATy ACon AData MTy MCon. Conditions: none but bounds on sizes. -/
import Derived.Test.YtnpkmebnmklcfaaZLExactTrees5
import Derived.Test.YtnpkmebnmklcfaaZLExactTrees7
import Derived.Test.YtnpkmebnmklcfaaRows
import Derived.Test.YtnpkmebnmklcfaaZLExactTrees1
import Derived.Lib.Hide
import Derived.StillTailTactics
import Derived.Deep.RegionHeld3
/- Trees of cases: the whole, in the program. Conditions: the sizes are bounded. -/
namespace Go.Proofs.Ytnpkmebnmklcfaa
open Go.RowKit
set_option linter.unusedVariables false
set_option linter.unusedSimpArgs false
set_option maxHeartbeats 2000000

/-- one ask in a row of one's own -/
theorem GP.one {X : Nat → Prop} {w w' : World} {p : GNode} {A3 : Option Addr} {c3 : Nat} {e : TypeId} (hw : w' = w.alloc (.cells #[.slice none 0 0, .int .i64 p.op, .int .i64 p.n, .string p.s, .string p.t, .slice A3 p.kids.length c3] e)) (hp : GNode.At w (fun b => b < w.heap.size ∧ X b) A3 c3 p) : GP X w' w.heap.size e w.heap.size 1 1 [⟨[], p⟩] := by
  subst hw
  refine ⟨Nat.le_refl _, Nat.le_refl _, by unfold maxLen; omega, rfl, _, Row.new _ _ _, rfl, fun i hi => ?_⟩
  obtain rfl : i = 0 := by simpa using hi
  refine ⟨[.slice none 0 0, .int .i64 p.op, .int .i64 p.n, .string p.s, .string p.t, .slice A3 p.kids.length c3], rfl, fun t v ht => ?_, ?_⟩
  · simpa using ht
  · exact GAsk.rd_mk (t := ⟨[], p⟩) (A1 := none) (c1 := 0) ⟨Sl.nil (Nat.zero_le _), hp.keep fun b hb => ⟨⟨by simp; have := hb.1; omega, by have := hb.1; omega, hb.2⟩, Below.heap_alloc _ _ _ hb.1⟩⟩

set_option maxRecDepth 20000 in
theorem implTrees (ds : List GData) (alts : List GNode) (A : Option Addr) (c : Nat) (B : Option Addr) (d : Nat) (w : World) (hl : alts.length ≤ 1048576) (hbk : ∀ p ∈ alts.map patI, p.bulk + 1 ≤ 1048576) (hs : Sl w (Lt w.heap.size) 3 A c (ds.map GData.toD)) (hs2 : Sl w (Lt w.heap.size) 5 B d (alts.map GNode.toD)) :
    Calls Try.prog 9 #[.slice A ds.length c, .slice B alts.length d] w (ToTreeB (treesV ds (alts.map patI)) w) := by
  have HD := Lib.hid hs
  have HS2 := Lib.hid hs2
  obtain ⟨w0, e0⟩ : ∃ w0, w0 = (w.alloc (.cells #[.int .i64 0, .int .i64 0, .slice none 0 0, .string ⟨#[]⟩, .slice none 0 0] 29)).alloc (.cells #[] 78) := ⟨_, rfl⟩
  have E0 := Lib.hid (show Below w.heap.size w w0 by rw [e0]; exact ((Below.refl _ _).alloc (Nat.le_refl _) _).alloc (by simp) _)
  have RZ0 := Lib.hid (show Row w0 w.heap.size 29 #[.int .i64 0, .int .i64 0, .slice none 0 0, .string ⟨#[]⟩, .slice none 0 0] by rw [e0]; exact (Row.new' _ _ _ rfl).alloc _)
  have G0 := Lib.hid (show Grx AnyB w0 (w.heap.size + 1) 78 2 (.slice (some ⟨w.heap.size + 1, 0, none⟩) 0 0) 0 [] from Grx.made (by rw [e0]; exact Row.new' _ _ _ (by simp)) (Nat.le_refl _))
  have hz0 : w.heap.size + 1 ≤ w0.heap.size := by rw [e0]; simp
  obtain ⟨l, hll⟩ : ∃ l, alts.map patI = l := ⟨_, rfl⟩
  have hln : alts.length = l.length := by rw [← hll]; simp
  have HLJ := Lib.hid (fun (j : Nat) (h1 : j < l.length) (h2 : j < alts.length) => show l[j] = patI alts[j] by simp [← hll])
  rw [hll] at hbk ⊢
  have HBK := Lib.hid hbk
  have HLN := Lib.hid hln
  have hl2 : l.length ≤ 1048576 := by omega
  have HOKR := Lib.hid (rowsA_ok 0 l hbk)
  have hln1 : l.length ≤ alts.length := by omega
  have hln2 : alts.length ≤ l.length := by omega
  clear hs hs2 hbk hll hln
  go_enter Try.func9, Try.ntmps9
  go_wp2_with fail
  rw [← e0]
  clear e0
  go_loopw [6, 15] (fun v i wr => ∃ (j : Nat) (A' : Option Addr) (c' : Nat), j ≤ l.length ∧ i = .int .i64 j ∧ v = .slice A' j c' ∧ Hid (Grx AnyB wr (w.heap.size + 1) 78 2 (.slice A' j c') j ((rowsA 0 (l.take j)).map GTrow.toD)) ∧ Hid (conOkL ds (l.take j) = true) ∧ Hid (Row wr w.heap.size 29 #[.int .i64 0, .int .i64 0, .slice none 0 0, .string ⟨#[]⟩, .slice none 0 0]) ∧ w.heap.size + 1 ≤ wr.heap.size ∧ Hid (Below w.heap.size w wr)) (fun _ i _ => l.length - (intOf i).toNat)
  case atStart => exact ⟨0, _, _, by omega, by go_num, rfl, G0, Lib.hid rfl, RZ0, hz0, E0⟩
  case round =>
    clear G0 RZ0 E0 hz0
    obtain ⟨j, A', c', hj, rfl, rfl, HG, HL, RZ, hz, BW⟩ := hrel
    have hsz := BW.out.size
    have HOW := Lib.hid (fun g (hg : (Value.slice A' j c').ownBlock = some g) => HG.out.own g hg)
    by_cases hlt : j < l.length
    · have dl : decide ((j : Int) < (alts.length : Int)) = true := decide_eq_true (by omega)
      have hlt2 : j < alts.length := by omega
      obtain ⟨b, off, A2, c2, rfl, hSb, q0, q1, q2, q3, q4, hat⟩ := GNode.elem (HS2.out.keep (w' := wr) (S' := Lt w.heap.size) fun q hq => ⟨hq, BW.out.block q hq⟩) j hlt2
      have hbl := Nat.lt_of_lt_of_le hSb hsz
      obtain ⟨a, ha⟩ : ∃ a, alts[j] = a := ⟨_, rfl⟩
      obtain ⟨p, hp⟩ : ∃ p, patI a = p := ⟨_, rfl⟩
      have hpl : l[j] = p := by rw [HLJ.out j hlt hlt2, ha, hp]
      have HT := Lib.hid (rowsA_take l j hlt)
      have HTC := Lib.hid (conOkL_take (ds := ds) hlt)
      have HM := Lib.hid (List.getElem_mem hlt)
      rw [hpl] at HT HTC HM
      rw [ha] at q0 q1 q2 q3 q4 hat
      have HAT := Lib.hid hat
      obtain ⟨w2, e2⟩ : ∃ w2, w2 = wr.alloc (.cells #[.int .i64 a.op, .int .i64 a.n, .string a.s, .string a.t, .slice A2 a.kids.length c2] 55) := ⟨_, rfl⟩
      have E2 := Lib.hid (show Below wr.heap.size wr w2 by rw [e2]; exact (Below.refl _ _).alloc (Nat.le_refl _) _)
      have hz2 : wr.heap.size < w2.heap.size := by rw [e2]; simp
      have RA2 := Lib.hid (show Row w2 wr.heap.size 55 #[.int .i64 a.op, .int .i64 a.n, .string a.s, .string a.t, .slice A2 a.kids.length c2] by rw [e2]; exact Row.new _ _ _)
      have hpp := implPatternOf (fun q => q < w.heap.size) a A2 c2 w2 (fun q hq => by omega) (hat.keep fun q hq => ⟨hq, E2.out.block q (by have h1 : q < w.heap.size := hq; omega)⟩)
      rw [hp] at hpp
      have HPP := Lib.hid hpp
      clear hpp hat ha hp hpl
      go_upto_region 5 with (fail)
      rw [← e2]
      clear e2 q0 q1 q2 q3 q4
      have hca := fun i => RA2.out.cell i
      go_wp2_with fail
      refine HPP.out.mono ?_
      rintro e w3 ⟨A3, c3, rfl, hat3, hb3⟩
      have HAT3 := Lib.hid hat3
      have E3 := Lib.hid (E2.out.trans (hb3.mono E2.out.size))
      have hz3 := hb3.size
      obtain ⟨w4, e4⟩ : ∃ w4, w4 = w3.alloc (.cells #[.int .i64 p.op, .int .i64 p.n, .string p.s, .string p.t, .slice A3 p.kids.length c3] 55) := ⟨_, rfl⟩
      have E4 := Lib.hid (show Below wr.heap.size wr w4 by rw [e4]; exact E3.out.alloc E3.out.size _)
      have hz4 : w3.heap.size < w4.heap.size := by rw [e4]; simp
      have RP4 := Lib.hid (show Row w4 w3.heap.size 55 #[.int .i64 p.op, .int .i64 p.n, .string p.s, .string p.t, .slice A3 p.kids.length c3] by rw [e4]; exact Row.new _ _ _)
      have HAT4 := Lib.hid (show GNode.At w4 (fun q => q < w.heap.size) A3 c3 p from hat3.keep fun q hq => ⟨hq, by rw [e4]; exact Below.heap_alloc _ _ _ (by have h1 : q < w.heap.size := hq; omega)⟩)
      have B4 := Lib.hid (BW.out.trans (E4.out.mono hsz))
      have HC := Lib.hid (implConsOk ds A c (p.bulk + 1) p A3 c3 w4 (by omega) (HD.out.below B4.out B4.out.size) (HAT4.out.keep fun q hq => ⟨(show q < w4.heap.size by have h1 : q < w.heap.size := hq; omega), rfl⟩))
      clear hat3 hb3 hca HPP
      go_upto_region 6 with (fail)
      rw [← e4]
      clear e4
      have hcp := fun i => RP4.out.cell i
      go_wp2_with fail
      refine HC.out.mono ?_
      rintro e w5 ⟨rfl, hb5⟩
      have E5 := Lib.hid (E4.out.trans (hb5.mono E4.out.size))
      have hz5 := hb5.size
      have RP5 := Lib.hid (RP4.out.below hb5 RP4.out.lt)
      have HAT5 := Lib.hid (HAT4.out.keep (w' := w5) (S' := fun q => q < w.heap.size) fun q hq => ⟨hq, hb5.block q (by have h1 : q < w.heap.size := hq; omega)⟩)
      clear hb5 hcp HC
      cases hc : conOk ds p
      · have HV := Lib.hid (show treesV ds l = (zeroT, false) by
          unfold treesV
          rw [if_neg]
          intro h
          rw [List.all_eq_true] at h
          rw [h p HM.out] at hc
          cases hc)
        have RZ2 := Lib.hid (RZ.out.below E5.out RZ.out.lt)
        have hcz := fun i => RZ2.out.cell i
        have hfz := fun i => RZ2.out.frozen i
        have BF := Lib.hid (BW.out.trans (E5.out.mono hsz))
        clear hc
        go_wp2_with fail
        obtain ⟨wf, ef⟩ : ∃ wf, wf = ((((w5.setCell ⟨w.heap.size, 0, none⟩ (.int .i64 0)).setCell ⟨w.heap.size, 1, none⟩ (.int .i64 0)).setCell ⟨w.heap.size, 2, none⟩ (.slice none 0 0)).setCell ⟨w.heap.size, 3, none⟩ (.string ⟨#[]⟩)).setCell ⟨w.heap.size, 4, none⟩ (.slice none 0 0) := ⟨_, rfl⟩
        rw [← ef]
        have RF := Lib.hid (show Row wf w.heap.size 29 #[.int .i64 0, .int .i64 0, .slice none 0 0, .string ⟨#[]⟩, .slice none 0 0] by rw [ef]; exact ((((RZ2.out.set 0 _).set 1 _).set 2 _).set 3 _).set 4 _)
        have BF2 := Lib.hid (show Below w.heap.size w wf by rw [ef]; exact ((((BF.out.setCell (p := ⟨w.heap.size, 0, none⟩) (Nat.le_refl _) _).setCell (p := ⟨w.heap.size, 1, none⟩) (Nat.le_refl _) _).setCell (p := ⟨w.heap.size, 2, none⟩) (Nat.le_refl _) _).setCell (p := ⟨w.heap.size, 3, none⟩) (Nat.le_refl _) _).setCell (p := ⟨w.heap.size, 4, none⟩) (Nat.le_refl _) _)
        have hcf := fun i => RF.out.cell i
        clear hcz hfz ef
        exact bodyPost_ret (v := .tuple #[.agg #[.int .i64 0, .int .i64 0, .slice none 0 0, .string ⟨#[]⟩, .slice none 0 0], .bool false]) (by simp [results, Try.results9, go_sem, hcf]) rfl (treeBad HV.out BF2.out)
      · have HL2 := Lib.hid (show conOkL ds (l.take (j + 1)) = true by rw [HTC.out, HL.out, hc]; rfl)
        obtain ⟨w6, e6⟩ : ∃ w6, w6 = w5.alloc (.cells #[.slice none 0 0, .int .i64 p.op, .int .i64 p.n, .string p.s, .string p.t, .slice A3 p.kids.length c3] 76) := ⟨_, rfl⟩
        have E6 := Lib.hid (show Below wr.heap.size wr w6 by rw [e6]; exact E5.out.alloc E5.out.size _)
        have hz6 : w5.heap.size < w6.heap.size := by rw [e6]; simp
        have G6 := Lib.hid (GP.grx (GP.one (X := fun q => (Value.slice A' j c').ownBlock ≠ some q) e6 (HAT5.out.keep fun q hq => ⟨⟨(by have h1 : q < w.heap.size := hq; omega), fun e => by have := (HOW.out _ e).1; have h1 : q < w.heap.size := hq; omega⟩, rfl⟩)))
        obtain ⟨L, hL⟩ : ∃ L, bareA [⟨[], p⟩] = L := ⟨_, rfl⟩
        have hlast := implLasting (fun q => (Value.slice A' j c').ownBlock ≠ some q) w5.heap.size [⟨[], p⟩] (some ⟨w5.heap.size, 0, none⟩) 1 w6 (by simp) G6.out
        rw [hL] at hlast
        have HLS := Lib.hid (show Calls Try.prog 27 #[.slice (some ⟨w5.heap.size, 0, none⟩) 1 1] w6 fun e w' => e = .returned (.slice (some ⟨w5.heap.size, 0, none⟩) L.length 1) ∧ Grx (fun q => (Value.slice A' j c').ownBlock ≠ some q) w' w5.heap.size 76 6 (.slice (some ⟨w5.heap.size, 0, none⟩) L.length 1) L.length (L.map GAsk.toD) ∧ Gr w6 w' (.slice (some ⟨w5.heap.size, 0, none⟩) 1 1) (.slice (some ⟨w5.heap.size, 0, none⟩) L.length 1) from hlast)
        have HLR := Lib.hid (show rowA j p = ⟨(j : Int), L⟩ by unfold rowA; rw [hL])
        have hcp := fun i => RP5.out.cell i
        clear hc hL hlast
        go_wp2_with fail
        rw [← e6]
        clear e6
        refine HLS.out.mono ?_
        rintro e w7 ⟨rfl, g7, r7⟩
        have E7 := Lib.hid (E6.out.trans (r7.below (B := wr.heap.size) (by omega) (fun g hg => by have := own_ge hg; omega)))
        have hz7 := r7.size
        obtain ⟨A5, c5, e5, hs5⟩ := g7.slY (Y := fun q => (Value.slice A' j c').ownBlock ≠ some q) (fun _ h => h) (fun q h e => by have := (HOW.out _ e).2; omega)
        obtain ⟨rfl, rfl⟩ : some ⟨w5.heap.size, 0, none⟩ = A5 ∧ 1 = c5 := by simpa using e5
        have HS7 := Lib.hid hs5
        obtain ⟨w8, e8⟩ : ∃ w8, w8 = w7.alloc (.cells #[.int .i64 (j : Int), .slice (some ⟨w5.heap.size, 0, none⟩) L.length 1] 78) := ⟨_, rfl⟩
        have E8 := Lib.hid (show Below wr.heap.size wr w8 by rw [e8]; exact E7.out.alloc E7.out.size _)
        have hz8 : w7.heap.size < w8.heap.size := by rw [e8]; simp
        have G8 := Lib.hid (HG.out.below E8.out)
        have hj3 : (Lit.int .i64 (j : Int)).wf = true := wf_i64 (by omega) (by omega)
        have T8 := Lib.hid (show Sl w8 (fun q => q < w8.heap.size ∧ (Value.slice A' j c').ownBlock ≠ some q ∧ AnyB q) 2 (some ⟨w7.heap.size, 0, none⟩) 1 [(⟨(j : Int), L⟩ : GTrow).toD] from
          slOne (T := 78) (cs := [.int .i64 (j : Int), .slice (some ⟨w5.heap.size, 0, none⟩) L.length 1]) (by rw [e8]; exact Row.new _ _ _) (GTrow.rd_mk (t := ⟨(j : Int), L⟩) ⟨hj3, HS7.out.keep fun q hq => ⟨⟨by have := hq.2; omega, hq.1, trivial⟩, by rw [e8]; exact Below.heap_alloc _ _ _ hq.2⟩⟩) rfl ⟨hz8, fun e => by have := (HOW.out _ e).2; omega, trivial⟩)
        have hs1 : w.heap.size + 1 ≤ w8.heap.size := by omega
        clear g7 r7 hs5 e5 hj3 hcp
        go_wp2_with (first
          | (at_builtin
             rw [← e8]
             refine wpList_append_X w8 rfl (.tmp 27) (.tmp 34) 71 rfl 78 zTrow 2 32 Try.underlying71 (by kernel_rfl) rfl (by omega) (w.heap.size + 1) (.slice A' j c') j _ G8.out (some ⟨w7.heap.size, 0, none⟩) 1 1 _ rfl T8.out hs1 (by unfold maxLen; omega) (by omega) rfl rfl ?_
             intro A9 c9 w9 G9 hGr9
             have G9h := Lib.hid G9
             have Z9 := Lib.hid (Nat.le_trans hs1 hGr9.size)
             have RZ9 := Lib.hid (hGr9.row (RZ.out.below E8.out RZ.out.lt) (fun e => by have := (HOW.out _ e).1; omega))
             have B9 := Lib.hid ((BW.out.trans (E8.out.mono hsz)).trans (hGr9.below (B := w.heap.size) (by omega) (fun g hg => by have := (HOW.out g hg).1; omega)))
             clear G9 hGr9))
        go_roundw
        case rel => exact ⟨j + 1, A9, c9, by omega, by go_num, rfl, Lib.hid (by rw [HT.out, HLR.out, List.map_append]; exact G9h.out), HL2, RZ9, Z9.out, B9⟩
        case measure => simp [intOf]; omega
    · obtain rfl : j = l.length := by omega
      have dl : decide ((l.length : Int) < (alts.length : Int)) = false := decide_eq_false (by omega)
      have hG := HG.out
      rw [List.take_length] at hG
      have hL := HL.out
      rw [List.take_length, conOkL_all] at hL
      obtain ⟨A5, c5, e5, hs5⟩ := hG.slX
      obtain ⟨rfl, rfl⟩ : A' = A5 ∧ c' = c5 := by simpa using e5
      obtain ⟨wg, eg⟩ : ∃ wg, wg = wr.alloc (.cells #[.int .i64 0] 81) := ⟨_, rfl⟩
      have EG := Lib.hid (show Below wr.heap.size wr wg by rw [eg]; exact (Below.refl _ _).alloc (Nat.le_refl _) _)
      have hzg : wr.heap.size + 1 = wg.heap.size := by rw [eg]; simp
      have hmm := growTr wr.heap.size 301 (by omega) 0 (rowsA 0 l) A' c' wg (by omega) (by omega) HOKR.out (by rw [rowsA_len]; exact hl2) (by rw [eg]; exact Row.new _ _ _) (hs5.keep fun q hq => ⟨⟨by have h1 : q < wr.heap.size := hq; omega, by have h1 : q < wr.heap.size := hq; omega⟩, EG.out.block q hq⟩)
      rw [rowsA_len] at hmm
      obtain ⟨p, hp⟩ : ∃ p, growV 301 0 (rowsA 0 l) = p := ⟨_, rfl⟩
      rw [hp] at hmm
      have HMM := Lib.hid hmm
      have HVT := Lib.hid (show treesV ds l = (if p.2 ≤ 300 then (p.1, true) else (zeroT, false)) by unfold treesV; rw [if_pos hL, hp])
      clear hmm hs5 hG hL e5 hp
      go_wp2_with fail
      rw [← eg]
      clear eg
      refine HMM.out.mono ?_
      rintro e w6 ⟨P1, pc1, P2, pc2, rfl, ho6, hg6, hx6⟩
      have O6 := Lib.hid ho6
      have X6 := Lib.hid hx6
      have hz6 := hx6.size
      have RZg := Lib.hid (RZ.out.below EG.out RZ.out.lt)
      have RZ6 := Lib.hid (hx6.row RZg.out (by have := RZ.out.lt; omega))
      have BG := Lib.hid (BW.out.trans (EG.out.mono BW.out.size))
      have hwz := BW.out.size
      have B6 := Lib.hid (BG.out.trans (hx6.below (B := w.heap.size) (by omega) (by omega)))
      obtain ⟨w7, e7⟩ : ∃ w7, w7 = w6.alloc (.cells #[.int .i64 p.1.op, .int .i64 p.1.n, .slice P1 p.1.path.length pc1, .string p.1.s, .slice P2 p.1.kids.length pc2] 29) := ⟨_, rfl⟩
      have E7 := Lib.hid (show Below w6.heap.size w6 w7 by rw [e7]; exact (Below.refl _ _).alloc (Nat.le_refl _) _)
      have hz7 : w6.heap.size < w7.heap.size := by rw [e7]; simp
      have RP7 := Lib.hid (show Row w7 w6.heap.size 29 #[.int .i64 p.1.op, .int .i64 p.1.n, .slice P1 p.1.path.length pc1, .string p.1.s, .slice P2 p.1.kids.length pc2] by rw [e7]; exact Row.new _ _ _)
      have RZ7 := Lib.hid (RZ6.out.below E7.out RZ6.out.lt)
      have B7 := Lib.hid (B6.out.trans (E7.out.mono (by omega)))
      have RG7 := Lib.hid (hg6.below E7.out hg6.lt)
      have O7 := Lib.hid (O6.out.keep (w' := w7) (S' := fun q => (w.heap.size < q ∧ q < w7.heap.size)) fun q hq => ⟨⟨by have := hq.1; omega, by have := hq.2; omega⟩, E7.out.block q hq.2⟩)
      clear ho6 hg6 hx6 HMM
      go_upto_region 12 with (fail)
      rw [← e7]
      clear e7
      have hcz := fun i => RZ7.out.cell i
      have hfz := fun i => RZ7.out.frozen i
      have hcp := fun i => RP7.out.cell i
      have hnp : w.heap.size ≠ w6.heap.size := by omega
      have hnp2 : w6.heap.size ≠ w.heap.size := by omega
      by_cases hok : p.2 ≤ 300
      · have HV := Lib.hid (show treesV ds l = (p.1, true) by rw [HVT.out, if_pos hok])
        have dcp : decide ((300 : Int) < (p.2 : Int)) = false := decide_eq_false (by omega)
        have hcg := fun i => RG7.out.cell i
        clear hok
        go_wp2_with fail
        obtain ⟨wf, ef⟩ : ∃ wf, wf = (((((w7).setCell ⟨w.heap.size, 0, none⟩ (.int .i64 p.1.op)).setCell ⟨w.heap.size, 1, none⟩ (.int .i64 p.1.n)).setCell ⟨w.heap.size, 2, none⟩ (.slice P1 p.1.path.length pc1)).setCell ⟨w.heap.size, 3, none⟩ (.string p.1.s)).setCell ⟨w.heap.size, 4, none⟩ (.slice P2 p.1.kids.length pc2) := ⟨_, rfl⟩
        rw [← ef]
        have RF := Lib.hid (show Row wf w.heap.size 29 #[.int .i64 p.1.op, .int .i64 p.1.n, .slice P1 p.1.path.length pc1, .string p.1.s, .slice P2 p.1.kids.length pc2] by rw [ef]; exact (((((RZ7.out).set 0 _).set 1 _).set 2 _).set 3 _).set 4 _)
        have BF := Lib.hid (show Below w.heap.size w wf by rw [ef]; exact (((((B7.out).setCell (p := ⟨w.heap.size, 0, none⟩) (Nat.le_refl _) _).setCell (p := ⟨w.heap.size, 1, none⟩) (Nat.le_refl _) _).setCell (p := ⟨w.heap.size, 2, none⟩) (Nat.le_refl _) _).setCell (p := ⟨w.heap.size, 3, none⟩) (Nat.le_refl _) _).setCell (p := ⟨w.heap.size, 4, none⟩) (Nat.le_refl _) _)
        have hcf := fun i => RF.out.cell i
        have QF := Lib.hid (fun q (hq : q ≠ w.heap.size) => show wf.heap[q]? = w7.heap[q]? from by
          rw [ef, Below.heap_setCell _ ⟨w.heap.size, 4, none⟩ _ q hq, Below.heap_setCell _ ⟨w.heap.size, 3, none⟩ _ q hq, Below.heap_setCell _ ⟨w.heap.size, 2, none⟩ _ q hq, Below.heap_setCell _ ⟨w.heap.size, 1, none⟩ _ q hq, Below.heap_setCell _ ⟨w.heap.size, 0, none⟩ _ q hq])
        have hzf : wf.heap.size = w7.heap.size := by rw [ef]; simp [World.setCell]
        have OF := Lib.hid (O7.out.keep (w' := wf) (S' := Btw w.heap.size wf.heap.size) fun q hq => ⟨⟨by have := hq.1; omega, by have := hq.2; omega⟩, QF.out q (by have := hq.1; omega)⟩)
        clear hcz hfz hcp hcg ef
        exact bodyPost_ret (v := .tuple #[.agg #[.int .i64 p.1.op, .int .i64 p.1.n, .slice P1 p.1.path.length pc1, .string p.1.s, .slice P2 p.1.kids.length pc2], .bool true]) (by simp [results, Try.results9, go_sem, hcf]) rfl (by rw [HV.out]; exact ⟨P1, pc1, P2, pc2, rfl, OF.out, BF.out⟩)
      · have HV := Lib.hid (show treesV ds l = (zeroT, false) by rw [HVT.out, if_neg hok])
        have dcp : decide ((300 : Int) < (p.2 : Int)) = true := decide_eq_true (by omega)
        have hcg := fun i => RG7.out.cell i
        clear hok
        go_wp2_with fail
        obtain ⟨wf, ef⟩ : ∃ wf, wf = (((((w7).setCell ⟨w.heap.size, 0, none⟩ (.int .i64 0)).setCell ⟨w.heap.size, 1, none⟩ (.int .i64 0)).setCell ⟨w.heap.size, 2, none⟩ (.slice none 0 0)).setCell ⟨w.heap.size, 3, none⟩ (.string ⟨#[]⟩)).setCell ⟨w.heap.size, 4, none⟩ (.slice none 0 0) := ⟨_, rfl⟩
        rw [← ef]
        have RF := Lib.hid (show Row wf w.heap.size 29 #[.int .i64 0, .int .i64 0, .slice none 0 0, .string ⟨#[]⟩, .slice none 0 0] by rw [ef]; exact (((((RZ7.out).set 0 _).set 1 _).set 2 _).set 3 _).set 4 _)
        have BF := Lib.hid (show Below w.heap.size w wf by rw [ef]; exact (((((B7.out).setCell (p := ⟨w.heap.size, 0, none⟩) (Nat.le_refl _) _).setCell (p := ⟨w.heap.size, 1, none⟩) (Nat.le_refl _) _).setCell (p := ⟨w.heap.size, 2, none⟩) (Nat.le_refl _) _).setCell (p := ⟨w.heap.size, 3, none⟩) (Nat.le_refl _) _).setCell (p := ⟨w.heap.size, 4, none⟩) (Nat.le_refl _) _)
        have hcf := fun i => RF.out.cell i
        clear hcz hfz hcp hcg ef
        exact bodyPost_ret (v := .tuple #[.agg #[.int .i64 0, .int .i64 0, .slice none 0 0, .string ⟨#[]⟩, .slice none 0 0], .bool false]) (by simp [results, Try.results9, go_sem, hcf]) rfl (treeBad HV.out BF.out)
end Go.Proofs.Ytnpkmebnmklcfaa

/- Trees of cases: both make the same, and it is not huge. Conditions: the sizes are bounded. -/
namespace Go.Proofs.Ytnpkmebnmklcfaa
open Go.RowKit
set_option linter.unusedVariables false
set_option linter.unusedSimpArgs false
set_option maxHeartbeats 1000000

theorem rowsA_cong : ∀ (i : Nat) (alts : List GNode), rowsA i (alts.map patI) = rowsA i (alts.map patOf)
  | _, [] => rfl
  | i, a :: r => by
    simp only [List.map_cons, rowsA, rowsA_cong (i + 1) r]
    congr 1
    cases hk : a.kids with
    | nil => rw [patI_nil hk, patOf_nil hk]; rfl
    | cons k t => rw [patI_cons hk, patOf_cons hk]
theorem conOk_cong (ds : List GData) : ∀ (alts : List GNode), (alts.map patI).all (conOk ds) = (alts.map patOf).all (conOk ds)
  | [] => rfl
  | a :: r => by
    simp only [List.map_cons, List.all_cons, conOk_cong ds r]
    congr 1
    cases hk : a.kids with
    | nil => rw [patI_nil hk, patOf_nil hk]; rfl
    | cons k t => rw [patI_cons hk, patOf_cons hk]
theorem treesV_cong (ds : List GData) (alts : List GNode) : treesV ds (alts.map patI) = treesV ds (alts.map patOf) := by
  unfold treesV
  rw [conOk_cong, rowsA_cong]
theorem patOf_bulk {a : GNode} {alts : List GNode} (h : a ∈ alts) (hm : bulkL GNode.bulk alts ≤ 1048576) : (patOf a).bulk + 1 ≤ 1048576 := by
  have h1 := bulkL_mem GNode.bulk alts a h
  have h2 := GNode.bulk_eq a
  cases hk : a.kids with
  | nil => rw [patOf_nil hk]; decide
  | cons k t =>
    rw [patOf_cons hk]
    have h3 := bulkL_mem GNode.bulk a.kids k (by rw [hk]; exact List.mem_cons_self ..)
    omega
theorem patI_bulk {a : GNode} {alts : List GNode} (h : a ∈ alts) (hm : bulkL GNode.bulk alts ≤ 1048576) : (patI a).bulk + 1 ≤ 1048576 := by
  have h1 := bulkL_mem GNode.bulk alts a h
  have h2 := GNode.bulk_eq a
  cases hk : a.kids with
  | nil => rw [patI_nil hk]; decide
  | cons k t =>
    rw [patI_cons hk]
    have h3 := bulkL_mem GNode.bulk a.kids k (by rw [hk]; exact List.mem_cons_self ..)
    omega
theorem growV_bulk : ∀ (k many : Nat) (rows : List GTrow), RowsOk many rows → (growV k many rows).1.bulk + 1 ≤ ((growV k many rows).2 - many) * 2097152
  | 0, many, rows, _ => by
    show (zeroT).bulk + 1 ≤ (many + 1 - many) * 2097152
    rw [show many + 1 - many = 1 by omega]; decide
  | k + 1, many, rows, hok => by
    by_cases h : 300 < many + 1
    · rw [growV_over h]
      show (zeroT).bulk + 1 ≤ (many + 1 - many) * 2097152
      rw [show many + 1 - many = 1 by omega]; decide
    · by_cases hr : 0 < rows.length
      · by_cases ha : 0 < rows[0].asks.length
        · rw [growV_ask h hr ha]
          have hap := ((hok _ (List.getElem_mem hr)).2 _ (List.getElem_mem ha)).2
          have hm1 := (hok _ (List.getElem_mem hr)).1
          have hm2 := asksM_mem (List.getElem_mem ha)
          obtain ⟨a, hea⟩ : ∃ a, rows[0].asks[0] = a := ⟨_, rfl⟩
          rw [hea] at hap hm2 ⊢
          have hs := GNode.bulk_eq a.pat
          have i1 := growV_bulk k (many + 1) (yesR a rows) (hok.yes a hap)
          have l1 := growV_less k (many + 1) (yesR a rows)
          obtain ⟨p, hp⟩ : ∃ p, growV k (many + 1) (yesR a rows) = p := ⟨_, rfl⟩
          rw [hp] at i1 l1 ⊢
          have i2 := growV_bulk k p.2 (noR a rows) ((hok.no a).mono (by omega))
          have l2 := growV_less k p.2 (noR a rows)
          obtain ⟨q, hq⟩ : ∃ q, growV k p.2 (noR a rows) = q := ⟨_, rfl⟩
          rw [hq] at i2 l2 ⊢
          show (askT a [p.1, q.1]).bulk + 1 ≤ (q.2 - many) * 2097152
          have hsz : (askS a).size ≤ 1048576 := by
            unfold askS
            split
            · omega
            · decide
          have hb : (askT a [p.1, q.1]).bulk = a.path.length + (askS a).size + (1 + p.1.bulk + (1 + q.1.bulk)) := by
            rw [askT_eq, GTree.bulk_eq]
            simp [GTree.path, GTree.s, GTree.kids, bulkL]
          rw [hb]
          have e : q.2 - many = 1 + (p.2 - (many + 1)) + (q.2 - p.2) := by omega
          rw [e, Nat.add_mul, Nat.add_mul]
          omega
        · rw [growV_done h hr (by omega)]
          show 0 + 0 + 0 + 1 ≤ (many + 1 - many) * 2097152
          rw [show many + 1 - many = 1 by omega]; decide
      · rw [growV_none h (by omega)]
        show 0 + 0 + 0 + 1 ≤ (many + 1 - many) * 2097152
        rw [show many + 1 - many = 1 by omega]; decide
theorem treesV_bulk (ds : List GData) (alts : List GNode) (hm : bulkL GNode.bulk alts ≤ 1048576) : (treesV ds (alts.map patOf)).1.bulk ≤ 1262485504 := by
  have hok := rowsA_ok 0 (alts.map patOf) (fun p hp => by obtain ⟨a, ha, rfl⟩ := List.mem_map.1 hp; exact patOf_bulk ha hm)
  have h1 := growV_bulk 301 0 _ hok
  have h2 := growV_le 301 0 (rowsA 0 (alts.map patOf))
  unfold treesV
  split
  · split
    · show (growV 301 0 (rowsA 0 (alts.map patOf))).1.bulk ≤ _
      omega
    · show (zeroT).bulk ≤ _
      decide
  · show (zeroT).bulk ≤ _
    decide
theorem specTreesL (ds : List GData) (A : Option Addr) (c : Nat) (alts : List GNode) (B : Option Addr) (d : Nat) (w : World) (hm : bulkL GNode.bulk alts ≤ 1048576) (hs : Sl w (Lt w.heap.size) 3 A c (ds.map GData.toD)) (hs2 : Sl w (Lt w.heap.size) 5 B d (alts.map GNode.toD)) :
    Calls Try.prog 6 #[.slice A ds.length c, .slice B alts.length d] w (ToTreeB (treesV ds (alts.map patOf)) w) :=
  specTrees ds alts A c B d w (Nat.le_trans (bulkL_len GNode.bulk alts) hm) (fun p hp => by obtain ⟨a, ha, rfl⟩ := List.mem_map.1 hp; exact patOf_bulk ha hm) hs hs2
theorem implTreesL (ds : List GData) (A : Option Addr) (c : Nat) (alts : List GNode) (B : Option Addr) (d : Nat) (w : World) (hm : bulkL GNode.bulk alts ≤ 1048576) (hs : Sl w (Lt w.heap.size) 3 A c (ds.map GData.toD)) (hs2 : Sl w (Lt w.heap.size) 5 B d (alts.map GNode.toD)) :
    Calls Try.prog 9 #[.slice A ds.length c, .slice B alts.length d] w (ToTreeB (treesV ds (alts.map patOf)) w) := by
  rw [← treesV_cong]
  exact implTrees ds alts A c B d w (Nat.le_trans (bulkL_len GNode.bulk alts) hm) (fun p hp => by obtain ⟨a, ha, rfl⟩ := List.mem_map.1 hp; exact patI_bulk ha hm) hs hs2
end Go.Proofs.Ytnpkmebnmklcfaa

/- The laws' sz, to and eq functions at Ty. Conditions: what is counted is at most 1048576. -/
namespace Go.Proofs.Ytnpkmebnmklcfaa
open Go.RowKit
set_option linter.unusedVariables false
set_option linter.unusedSimpArgs false
set_option maxHeartbeats 400000

theorem szTyS (l : List GTy) (A : Option Addr) (c : Nat) (left : Int) (w : World) (hs : Sl w (Lt w.heap.size) 4 A c (l.map GTy.toD)) (h0 : 0 ≤ left) (h1 : left ≤ 1048576)
    (H : ∀ t, t ∈ l → ∀ (A1 : Option Addr) (c1 : Nat) (left : Int) (w : World), 0 ≤ left → left ≤ 1048576 → GTy.At w (Lt w.heap.size) A1 c1 t →
      Calls Try.prog 78 #[.agg #[.int .i64 t.op, .int .i64 t.n, .string t.s, .slice A1 t.kids.length c1], .int .i64 left] w fun e w' => e = .returned (.int .i64 (szv t.bulk left)) ∧ Below w.heap.size w w') :
    Calls Try.prog 72 #[.slice A l.length c, .int .i64 left] w fun e w' => e = .returned (.int .i64 (szv (bulkL GTy.bulk l) left)) ∧ Below w.heap.size w w' := by
  have hlen : l.length ≤ 9223372036854775807 := by simpa using hs.len
  have HH := Lib.hid H
  clear H
  by_cases hll : left < (l.length : Int)
  · have hg : left - (l.length : Int) < 0 := by omega
    have hv := Lib.hid (szv_gt (b := bulkL GTy.bulk l) (left := left) (by have := bulkL_len GTy.bulk l; omega))
    go_enter Try.func72, Try.ntmps72
    go_wp2_with fail
    go_ret
    exact ⟨ret_int hv.out.symm, Below.refl _ _⟩
  · have hg : 0 ≤ left - (l.length : Int) := by omega
    go_enter Try.func72, Try.ntmps72
    go_wp2_with fail
    go_loopw [1, 5] (fun n i wr => ∃ (j : Nat) (L : Int), j ≤ l.length ∧ i = .int .i64 j ∧ n = .int .i64 L ∧ L = left - l.length - (bulkL GTy.bulk (l.take j) - j) ∧ 0 ≤ L ∧ L ≤ left ∧ Below w.heap.size w wr) (fun _ i _ => l.length - (intOf i).toNat)
    case atStart => exact ⟨0, _, by omega, by go_num, rfl, by simp [bulkL], by omega, by omega, Below.refl _ _⟩
    case round =>
      obtain ⟨j, L, hj, rfl, rfl, hL, hL0, hL1, hb⟩ := hrel
      have HL := Lib.hid hL
      clear hL
      have hsz := hb.size
      by_cases hlt : j < l.length
      · have hel := GTy.elem (hs.below hb (Nat.le_refl _)) j hlt
        obtain ⟨b, off, A1, c1, rfl, hSb, g0, g1, g2, g3, hat⟩ := hel
        have hmem : l[j] ∈ l := List.getElem_mem hlt
        have hts := Lib.hid (bulkL_take_succ GTy.bulk l j hlt)
        have htl := Lib.hid (bulkL_take_le GTy.bulk l (j + 1) (by omega))
        have htg := Lib.hid (bulkL_take_ge GTy.bulk l j (by omega))
        go_wp2_with fail
        refine (HH.out _ hmem _ _ L _ hL0 (by omega) (hat.below (Below.refl _ _) hsz)).mono ?_
        rintro e w1 ⟨rfl, hb1⟩
        by_cases hle : ((l[j]).bulk : Int) ≤ L
        · have hv := szv_le hle
          have hge : 0 ≤ L - ((l[j]).bulk : Int) := by omega
          go_wp2_with fail
          go_roundw
          case rel => exact ⟨j + 1, _, by omega, by go_num, rfl, by rw [hts.out, HL.out]; omega, by omega, by omega, hb.trans (hb1.mono hsz)⟩
          case measure => simp [intOf]; omega
        · have hv := szv_gt (b := (l[j]).bulk) (left := L) (by omega)
          go_wp2_with fail
          go_ret
          refine ⟨ret_int ?_, hb.trans (hb1.mono hsz)⟩
          have e1 := hts.out; have e2 := htl.out; have e3 := htg.out; have e4 := HL.out
          rw [szv_gt (by omega)]
      · have hjl : j = l.length := by omega
        have Hj := Lib.hid hjl
        clear hjl
        go_wp2_with fail
        go_ret
        refine ⟨ret_int ?_, hb⟩
        have e4 := HL.out
        rw [Hj.out, List.take_length] at e4
        have := bulkL_len GTy.bulk l
        rw [szv_le (by omega)]; omega

theorem szTy (k : Nat) : ∀ (t : GTy) (A1 : Option Addr) (c1 : Nat) (left : Int) (w : World), t.bulk < k → 0 ≤ left → left ≤ 1048576 → GTy.At w (Lt w.heap.size) A1 c1 t →
      Calls Try.prog 78 #[.agg #[.int .i64 t.op, .int .i64 t.n, .string t.s, .slice A1 t.kids.length c1], .int .i64 left] w fun e w' => e = .returned (.int .i64 (szv t.bulk left)) ∧ Below w.heap.size w w' := by
  induction k with
  | zero => intro t A1 c1 left w hk; omega
  | succ k ih =>
    intro t A1 c1 left w hk h0 h1 hat
    have hbe := t.bulk_eq
    obtain ⟨k0, k1, k2, k3⟩ := id hat
    have s2 : t.s.size ≤ 9223372036854775807 := by unfold maxLen at k2; omega
    have H3 := fun (left : Int) (w : World) hs h0 h1 => szTyS t.kids A1 c1 left w hs h0 h1 (fun u hu A1 c1 left w h0 h1 hat => ih u A1 c1 left w (by have := bulkL_mem GTy.bulk t.kids u hu; omega) h0 h1 hat)
    have HH := Lib.hid H3
    have HE := Lib.hid hbe
    have hat' := Lib.hid hat
    clear hbe hat k0 k1 k2 k3 H3 ih
    have B0 : Below w.heap.size w (w.alloc (.cells #[.int .i64 t.op, .int .i64 t.n, .string t.s, .slice A1 t.kids.length c1] 131)) := (Below.refl _ _).alloc (Nat.le_refl _) _
    have r0 := Lib.hid (Row.new w 131 #[.int .i64 t.op, .int .i64 t.n, .string t.s, .slice A1 t.kids.length c1])
    go_enter Try.func78, Try.ntmps78
    by_cases g2 : ((t.s.size : Nat) : Int) ≤ left
    rotate_left
    · have q2 : left - ((t.s.size : Nat) : Int) < 0 := by omega
      go_wp2_with fail
      go_ret
      refine ⟨ret_int ?_, B0⟩
      have := HE.out
      rw [szv_gt (by omega)]
    have q2 : 0 ≤ left - ((t.s.size : Nat) : Int) := by omega
    go_wp2_with fail
    obtain ⟨-, -, -, k3⟩ := hat'.out.below B0 B0.size
    refine (HH.out _ _ k3 (by omega) (by omega)).mono ?_
    rintro e w1 ⟨rfl, hb1⟩
    have B1 := B0.trans (hb1.mono B0.size)
    by_cases g3 : ((bulkL GTy.bulk t.kids : Nat) : Int) ≤ left - ((t.s.size : Nat) : Int)
    rotate_left
    · have hv := szv_gt (b := bulkL GTy.bulk t.kids) (left := left - ((t.s.size : Nat) : Int)) (by omega)
      go_wp2_with fail
      go_ret
      refine ⟨ret_int ?_, B1⟩
      have := HE.out
      rw [szv_gt (by omega)]
    have v3 := szv_le g3
    have q3 : 0 ≤ left - ((t.s.size : Nat) : Int) - ((bulkL GTy.bulk t.kids : Nat) : Int) := by omega
    go_wp2_with fail
    go_ret
    refine ⟨ret_int ?_, B1⟩
    have := HE.out
    rw [szv_le (by omega)]; omega

theorem szTy' (t : GTy) (A1 : Option Addr) (c1 : Nat) (left : Int) (w : World) (h0 : 0 ≤ left) (h1 : left ≤ 1048576) (hat : GTy.At w (Lt w.heap.size) A1 c1 t) :
      Calls Try.prog 78 #[.agg #[.int .i64 t.op, .int .i64 t.n, .string t.s, .slice A1 t.kids.length c1], .int .i64 left] w fun e w' => e = .returned (.int .i64 (szv t.bulk left)) ∧ Below w.heap.size w w' :=
  szTy (t.bulk + 1) t A1 c1 left w (by omega) h0 h1 hat

theorem szTyS' (l : List GTy) (A : Option Addr) (c : Nat) (left : Int) (w : World) (hs : Sl w (Lt w.heap.size) 4 A c (l.map GTy.toD)) (h0 : 0 ≤ left) (h1 : left ≤ 1048576) :
    Calls Try.prog 72 #[.slice A l.length c, .int .i64 left] w fun e w' => e = .returned (.int .i64 (szv (bulkL GTy.bulk l) left)) ∧ Below w.heap.size w w' :=
  szTyS l A c left w hs h0 h1 (fun u _ A1 c1 left w h0 h1 hat => szTy' u A1 c1 left w h0 h1 hat)

/-- what a to function gives back: a struct of the call's own -/
def ToTy (t : GTy) (w : World) (e : Ending) (w' : World) : Prop := ∃ A1 c1, e = .returned (.agg #[.int .i64 t.op, .int .i64 t.n, .string t.s, .slice A1 t.kids.length c1]) ∧ GTy.Ow w' (Btw w.heap.size w'.heap.size) A1 c1 t ∧ Below w.heap.size w w'
def ToTyS (l : List GTy) (w : World) (e : Ending) (w' : World) : Prop := ∃ A1 c1, e = .returned (.slice A1 l.length c1) ∧ Osl w' (Btw w.heap.size w'.heap.size) 4 A1 c1 (l.map GTy.toD) ∧ Below w.heap.size w w'

def zTy : Value := .agg #[.int .i64 0, .int .i64 0, .string ⟨#[]⟩, .slice none 0 0]
theorem mkTy (n : Nat) (hn : n ≤ 1048576) (w : World) : (Instr.makeSlice 94 (.int .i64 (n : Int)) (.int .i64 (n : Int))).run Try.prog w = .ok (.slice (some ⟨w.heap.size, 0, none⟩) n n) (w.alloc (.cells (zr zTy 4 n) 122)) :=
  run_mk 94 122 zTy 4 56 Try.underlying94 (by kernel_rfl) n hn (by omega) w

theorem toTyS (l : List GTy) (A : Option Addr) (c : Nat) (w : World) (hs : Sl w (Lt w.heap.size) 4 A c (l.map GTy.toD)) (hl : l.length ≤ 1048576)
    (H : ∀ t, t ∈ l → ∀ (A1 : Option Addr) (c1 : Nat) (w : World), GTy.At w (Lt w.heap.size) A1 c1 t →
      Calls Try.prog 79 #[.agg #[.int .i64 t.op, .int .i64 t.n, .string t.s, .slice A1 t.kids.length c1]] w (ToTy t w)) :
    Calls Try.prog 74 #[.slice A l.length c] w (ToTyS l w) := by
  have HH := Lib.hid H
  clear H
  have hmk := mkTy l.length hl
  go_enter Try.func74, Try.ntmps74
  go_wp2_with fail
  clear hmk
  go_loopw [4] (fun i wr => ∃ (j : Nat) (row : Array Value), j ≤ l.length ∧ i = .int .i64 j ∧ Row wr w.heap.size 122 row ∧ row.size = l.length * 4 ∧
      D.ownR wr 4 w.heap.size ((l.take j).map GTy.toD) (fun b => w.heap.size < b ∧ b < wr.heap.size) 0 ∧ Below w.heap.size w wr) (fun i _ => l.length - (intOf i).toNat)
  case atStart => exact ⟨0, _, by omega, by go_num, Row.new _ _ _, zr_size _ _ _, by simp [D.ownR], (Below.refl _ _).alloc (Nat.le_refl _) _⟩
  case round =>
    obtain ⟨j, row, hj, rfl, hrow, hrs, hown, hb⟩ := hrel
    have hsz := hb.size
    have hgl := hrow.lt
    by_cases hlt : j < l.length
    · have hel := GTy.elem (hs.below hb (Nat.le_refl _)) j hlt
      obtain ⟨b, off, A1, c1, rfl, hSb, g0, g1, g2, g3, hat⟩ := hel
      have hmem : l[j] ∈ l := List.getElem_mem hlt
      go_wp2_with fail
      refine (HH.out _ hmem _ _ _ (hat.below (Below.refl _ _) hsz)).mono ?_
      rintro e w1 ⟨B1, d1, rfl, how, hb1⟩
      have hrow1 := Lib.hid (hrow.below hb1 hgl)
      have hf := fun i => hrow1.out.frozen i
      obtain ⟨v0, y0⟩ := row_some (row := row) (j * 4) (by omega)
      obtain ⟨v1, y1⟩ := row_some (row := row) (j * 4 + 1) (by omega)
      obtain ⟨v2, y2⟩ := row_some (row := row) (j * 4 + 2) (by omega)
      obtain ⟨v3, y3⟩ := row_some (row := row) (j * 4 + 3) (by omega)
      have x0 := (hrow1.out.cell (j * 4)).trans y0
      have x1 := (hrow1.out.cell (j * 4 + 1)).trans y1
      have x2 := (hrow1.out.cell (j * 4 + 2)).trans y2
      have x3 := (hrow1.out.cell (j * 4 + 3)).trans y3
      clear y0 y1 y2 y3
      have hst := fill_step hrow1.out (j := j) (m := wr.heap.size) (xs := (l.take j).map GTy.toD) (size := 4) (by simp; omega) (by omega) hgl hb1.size
        (D.ownR_keep 4 _ _ _ _ 0 (fun b hb => ⟨hb, hb1.block b hb.2⟩) (fun i _ => hb1.cell (p := ⟨w.heap.size, i, none⟩) hgl) hown) (GTy.own_mk how) rfl
      have hB := setCells_below (hb.trans (hb1.mono hsz)) w.heap.size (j * 4) (Nat.le_refl _) [.int .i64 l[j].op, .int .i64 l[j].n, .string l[j].s, .slice B1 l[j].kids.length d1]
      go_wp2_with fail
      go_roundw
      case rel =>
        obtain ⟨row', p1, p2, p3⟩ := hst
        exact ⟨j + 1, row', by omega, by go_num, p1, by omega, by rw [take_snoc' l j hlt, List.map_append]; exact p3, hB⟩
      case measure => simp [intOf]; omega
    · have hjl : j = l.length := by omega
      have Hj := Lib.hid hjl
      clear hjl
      go_wp2_with fail
      go_ret
      rw [Hj.out, List.take_length] at hown
      exact ⟨_, _, rfl, fill_end hrow (Nat.le_refl _) (by simp) (by unfold maxLen; omega) hown, hb⟩

theorem toTy (k : Nat) : ∀ (t : GTy) (A1 : Option Addr) (c1 : Nat) (w : World), t.bulk < k → t.bulk ≤ 1048576 → GTy.At w (Lt w.heap.size) A1 c1 t →
      Calls Try.prog 79 #[.agg #[.int .i64 t.op, .int .i64 t.n, .string t.s, .slice A1 t.kids.length c1]] w (ToTy t w) := by
  induction k with
  | zero => intro t A1 c1 w hk; omega
  | succ k ih =>
    intro t A1 c1 w hk h1 hat
    have hbe := t.bulk_eq
    have H3 := fun (w : World) hs => toTyS t.kids A1 c1 w hs (by have := bulkL_len GTy.bulk t.kids; omega) (fun u hu A1 c1 w hat => ih u A1 c1 w (by have := bulkL_mem GTy.bulk t.kids u hu; omega) (by have := bulkL_mem GTy.bulk t.kids u hu; omega) hat)
    have HH := Lib.hid H3
    have hat' := Lib.hid hat
    clear hbe hat H3 ih
    go_enter Try.func79, Try.ntmps79
    go_wp2_with fail
    have W0 : ∃ w0, w0 = ((w.alloc (.cells #[.int .i64 t.op, .int .i64 t.n, .string t.s, .slice A1 t.kids.length c1] 131)).alloc (.cells #[.int .i64 0, .int .i64 0, .string ⟨#[]⟩, .slice none 0 0] 122)).alloc (.cells #[.int .i64 t.op, .int .i64 t.n, .string t.s, .slice none 0 0] 122) := ⟨_, rfl⟩
    obtain ⟨w0, e0⟩ := W0
    have B0 : Below w.heap.size w w0 := by rw [e0]; exact (((Below.refl _ _).alloc (Nat.le_refl _) _).alloc (by simp) _).alloc (by simp; omega) _
    have S0 : w0.heap.size = w.heap.size + 3 := by rw [e0]; simp
    have Ra0 : Row w0 w.heap.size 131 #[.int .i64 t.op, .int .i64 t.n, .string t.s, .slice A1 t.kids.length c1] := by rw [e0]; exact ((Row.new' _ _ _ rfl).alloc _).alloc _
    have Rz0 : Row w0 (w.heap.size + 1) 122 #[.int .i64 0, .int .i64 0, .string ⟨#[]⟩, .slice none 0 0] := by rw [e0]; exact (Row.new' _ _ _ (by simp)).alloc _
    have Ro0 : Row w0 (w.heap.size + 1 + 1) 122 #[.int .i64 t.op, .int .i64 t.n, .string t.s, .slice none 0 0] := by rw [e0]; exact Row.new' _ _ _ (by simp)
    rw [← e0]
    clear e0
    obtain ⟨-, -, -, q3⟩ := hat'.out.below B0 B0.size
    refine (HH.out (w0) q3).mono ?_
    rintro e w1 ⟨D1, d1, rfl, how3, hb1⟩
    have hs1 := hb1.size
    have X1 := B0.trans (hb1.mono B0.size)
    have Rax1 := Lib.hid (Ra0.below hb1 Ra0.lt)
    have Rzx1 := Lib.hid (Rz0.below hb1 Rz0.lt)
    have Rox1 := Lib.hid (Ro0.below hb1 Ro0.lt)
    have hca1 := fun i => Rax1.out.cell i
    have hcz1 := fun i => Rzx1.out.cell i
    have hco1 := fun i => Rox1.out.cell i
    have hfz1 := fun i => Rzx1.out.frozen i
    have hfo1 := fun i => Rox1.out.frozen i
    have B1 := setCells_below X1 (w.heap.size + 1 + 1) 3 (by omega) [.slice D1 t.kids.length d1]
    have Ra1 : Hid (Row (setCells w1 (w.heap.size + 1 + 1) 3 [.slice D1 t.kids.length d1]) w.heap.size 131 #[.int .i64 t.op, .int .i64 t.n, .string t.s, .slice A1 t.kids.length c1]) := (Rax1.out).far (p := ⟨w.heap.size + 1 + 1, 3, none⟩) (by simp <;> omega) (.slice D1 t.kids.length d1)
    have Rz1 : Hid (Row (setCells w1 (w.heap.size + 1 + 1) 3 [.slice D1 t.kids.length d1]) (w.heap.size + 1) 122 #[.int .i64 0, .int .i64 0, .string ⟨#[]⟩, .slice none 0 0]) := (Rzx1.out).far (p := ⟨w.heap.size + 1 + 1, 3, none⟩) (by simp <;> omega) (.slice D1 t.kids.length d1)
    have Ro1 : Hid (Row (setCells w1 (w.heap.size + 1 + 1) 3 [.slice D1 t.kids.length d1]) (w.heap.size + 1 + 1) 122 #[.int .i64 t.op, .int .i64 t.n, .string t.s, .slice D1 t.kids.length d1]) := (Rox1.out).set 3 (.slice D1 t.kids.length d1)
    replace how3 := how3.keep (S' := Btw (w0).heap.size (w1).heap.size) (w' := setCells w1 (w.heap.size + 1 + 1) 3 [.slice D1 t.kids.length d1]) fun b hb => ⟨hb, setCells_block _ _ _ _ _ (by have := hb.1; first | omega | (simp only [setCells_size] at *; omega) | (simp only [setCells_size] at *; done))⟩
    have BF := setCells_below B1 (w.heap.size + 1) 0 (by omega) [.int .i64 t.op, .int .i64 t.n, .string t.s, .slice D1 t.kids.length d1]
    have SF : (setCells (setCells w1 (w.heap.size + 1 + 1) 3 [.slice D1 t.kids.length d1]) (w.heap.size + 1) 0 [.int .i64 t.op, .int .i64 t.n, .string t.s, .slice D1 t.kids.length d1]).heap.size = w1.heap.size := by rw [setCells_size, setCells_size]
    replace how3 := how3.keep (S' := Btw w.heap.size (setCells (setCells w1 (w.heap.size + 1 + 1) 3 [.slice D1 t.kids.length d1]) (w.heap.size + 1) 0 [.int .i64 t.op, .int .i64 t.n, .string t.s, .slice D1 t.kids.length d1]).heap.size) (w' := setCells (setCells w1 (w.heap.size + 1 + 1) 3 [.slice D1 t.kids.length d1]) (w.heap.size + 1) 0 [.int .i64 t.op, .int .i64 t.n, .string t.s, .slice D1 t.kids.length d1]) fun b hb => ⟨⟨by have := hb.1; first | omega | (simp only [setCells_size] at *; omega) | (simp only [setCells_size] at *; done), by have := hb.2; have := SF; first | omega | (simp only [setCells_size] at *; omega) | (simp only [setCells_size] at *; done)⟩, setCells_block _ _ _ _ _ (by have := hb.1; first | omega | (simp only [setCells_size] at *; omega) | (simp only [setCells_size] at *; done))⟩
    have qs := hat'.out
    obtain ⟨p0, p1, p2, p3⟩ := qs
    go_wp2_with fail
    exact bodyPost_ret (v := .agg #[.int .i64 t.op, .int .i64 t.n, .string t.s, .slice D1 t.kids.length d1]) (by simp [results, Try.results79, go_sem, hca1, hcz1, hco1]) rfl ⟨D1, d1, rfl, ⟨p0, p1, p2, how3⟩, BF⟩

theorem toTy' (t : GTy) (A1 : Option Addr) (c1 : Nat) (w : World) (h1 : t.bulk ≤ 1048576) (hat : GTy.At w (Lt w.heap.size) A1 c1 t) :
      Calls Try.prog 79 #[.agg #[.int .i64 t.op, .int .i64 t.n, .string t.s, .slice A1 t.kids.length c1]] w (ToTy t w) :=
  toTy (t.bulk + 1) t A1 c1 w (by omega) h1 hat

theorem toTyS' (l : List GTy) (A : Option Addr) (c : Nat) (w : World) (hs : Sl w (Lt w.heap.size) 4 A c (l.map GTy.toD)) (hl : bulkL GTy.bulk l ≤ 1048576) :
    Calls Try.prog 74 #[.slice A l.length c] w (ToTyS l w) :=
  toTyS l A c w hs (by have := bulkL_len GTy.bulk l; omega) (fun u hu A1 c1 w hat => toTy' u A1 c1 w (by have := bulkL_mem GTy.bulk l u hu; omega) hat)

set_option maxRecDepth 20000 in
theorem eqTyS (l : List GTy) (A B : Option Addr) (c d : Nat) (w : World) (hs : Sl w (Lt w.heap.size) 4 A c (l.map GTy.toD)) (hs' : Sl w (Lt w.heap.size) 4 B d (l.map GTy.toD))
    (H : ∀ t, t ∈ l → ∀ (A1 : Option Addr) (c1 : Nat) (B1 : Option Addr) (d1 : Nat) (w : World), GTy.At w (Lt w.heap.size) A1 c1 t → GTy.At w (Lt w.heap.size) B1 d1 t →
      Calls Try.prog 80 #[.agg #[.int .i64 t.op, .int .i64 t.n, .string t.s, .slice A1 t.kids.length c1], .agg #[.int .i64 t.op, .int .i64 t.n, .string t.s, .slice B1 t.kids.length d1]] w fun e w' => e = .returned (.bool true) ∧ Below w.heap.size w w') :
    Calls Try.prog 77 #[.slice A l.length c, .slice B l.length d] w fun e w' => e = .returned (.bool true) ∧ Below w.heap.size w w' := by
  have hlen : l.length ≤ 9223372036854775807 := by simpa using hs.len
  have HH := Lib.hid H
  clear H
  go_enter Try.func77, Try.ntmps77
  go_wp2_with fail
  go_loopw [5] (fun i wr => ∃ (j : Nat), j ≤ l.length ∧ i = .int .i64 j ∧ Below w.heap.size w wr) (fun i _ => l.length - (intOf i).toNat)
  case atStart => exact ⟨0, by omega, by go_num, Below.refl _ _⟩
  case round =>
    obtain ⟨j, hj, rfl, hb⟩ := hrel
    have hsz := hb.size
    by_cases hlt : j < l.length
    · have hel := GTy.elem (hs.below hb (Nat.le_refl _)) j hlt
      obtain ⟨b, off, A1, c1, rfl, hSb, g0, g1, g2, g3, hat⟩ := hel
      have hel := GTy.elem (hs'.below hb (Nat.le_refl _)) j hlt
      obtain ⟨b', off', B1, d1, rfl, hSb', g0', g1', g2', g3', hat'⟩ := hel
      have hmem : l[j] ∈ l := List.getElem_mem hlt
      go_wp2_with fail
      refine wp_region_still_tail 8 (by kernel_rfl) (by kernel_rfl) ?_
      simp only [List.take_succ_cons, List.take_zero, List.drop_succ_cons, List.drop_zero]
      change wpStill _ _ wr.drew (fun a' => wpList _ _ _ _ a' wr.drew) _ _
      iterate 8 still_step
      refine wpStill_nil ?_
      go_wp2_with fail
      refine (HH.out _ hmem _ _ _ _ wr.drew (hat.keep fun b hb => ⟨Nat.lt_of_lt_of_le hb hsz, rfl⟩) (hat'.keep fun b hb => ⟨Nat.lt_of_lt_of_le hb hsz, rfl⟩)).mono ?_
      rintro e w1 ⟨rfl, hb1⟩
      go_wp2_with fail
      go_roundw
      case rel => exact ⟨j + 1, by omega, by go_num, hb.drew.trans (hb1.mono hsz)⟩
      case measure => simp [intOf]; omega
    · have hjl : j = l.length := by omega
      clear hjl
      go_wp2_with fail
      go_ret
      exact ⟨rfl, hb⟩

set_option maxRecDepth 20000 in
theorem eqTy (k : Nat) : ∀ (t : GTy) (A1 : Option Addr) (c1 : Nat) (B1 : Option Addr) (d1 : Nat) (w : World), t.bulk < k → GTy.At w (Lt w.heap.size) A1 c1 t → GTy.At w (Lt w.heap.size) B1 d1 t →
      Calls Try.prog 80 #[.agg #[.int .i64 t.op, .int .i64 t.n, .string t.s, .slice A1 t.kids.length c1], .agg #[.int .i64 t.op, .int .i64 t.n, .string t.s, .slice B1 t.kids.length d1]] w fun e w' => e = .returned (.bool true) ∧ Below w.heap.size w w' := by
  induction k with
  | zero => intro t A1 c1 B1 d1 w hk; omega
  | succ k ih =>
    intro t A1 c1 B1 d1 w hk hat hat2
    have hbe := t.bulk_eq
    have H3 := fun (w : World) hs hs' => eqTyS t.kids A1 B1 c1 d1 w hs hs' (fun u hu A1 c1 B1 d1 w hat hat2 => ih u A1 c1 B1 d1 w (by have := bulkL_mem GTy.bulk t.kids u hu; omega) hat hat2)
    have HH := Lib.hid H3
    clear hbe H3 ih
    have hat' := Lib.hid hat
    have hat2' := Lib.hid hat2
    clear hat hat2
    have B0 : Below w.heap.size w ((w.alloc (.cells #[.int .i64 t.op, .int .i64 t.n, .string t.s, .slice A1 t.kids.length c1] 122)).alloc (.cells #[.int .i64 t.op, .int .i64 t.n, .string t.s, .slice B1 t.kids.length d1] 122)) := ((Below.refl _ _).alloc (Nat.le_refl _) _).alloc (by simp) _
    have ra0 := Lib.hid ((Row.new w 122 #[.int .i64 t.op, .int .i64 t.n, .string t.s, .slice A1 t.kids.length c1]).alloc (.cells #[.int .i64 t.op, .int .i64 t.n, .string t.s, .slice B1 t.kids.length d1] 122))
    have rb0 := Lib.hid (Row.new' (w.alloc (.cells #[.int .i64 t.op, .int .i64 t.n, .string t.s, .slice A1 t.kids.length c1] 122)) 122 #[.int .i64 t.op, .int .i64 t.n, .string t.s, .slice B1 t.kids.length d1] (g := w.heap.size + 1) (by simp))
    go_enter Try.func80, Try.ntmps80
    go_wp2_with fail
    obtain ⟨-, -, -, q3⟩ := hat'.out.below B0 B0.size
    obtain ⟨-, -, -, p3⟩ := hat2'.out.below B0 B0.size
    refine (HH.out _ q3 p3).mono ?_
    rintro e w1 ⟨rfl, hb1⟩
    have B1 := B0.trans (hb1.mono B0.size)
    go_wp2_with fail
    go_ret
    exact ⟨rfl, B1⟩

theorem eqTy' (t : GTy) (A1 : Option Addr) (c1 : Nat) (B1 : Option Addr) (d1 : Nat) (w : World) (hat : GTy.At w (Lt w.heap.size) A1 c1 t) (hat2 : GTy.At w (Lt w.heap.size) B1 d1 t) :
      Calls Try.prog 80 #[.agg #[.int .i64 t.op, .int .i64 t.n, .string t.s, .slice A1 t.kids.length c1], .agg #[.int .i64 t.op, .int .i64 t.n, .string t.s, .slice B1 t.kids.length d1]] w fun e w' => e = .returned (.bool true) ∧ Below w.heap.size w w' :=
  eqTy (t.bulk + 1) t A1 c1 B1 d1 w (by omega) hat hat2

theorem eqTyS' (l : List GTy) (A B : Option Addr) (c d : Nat) (w : World) (hs : Sl w (Lt w.heap.size) 4 A c (l.map GTy.toD)) (hs' : Sl w (Lt w.heap.size) 4 B d (l.map GTy.toD)) :
    Calls Try.prog 77 #[.slice A l.length c, .slice B l.length d] w fun e w' => e = .returned (.bool true) ∧ Below w.heap.size w w' :=
  eqTyS l A B c d w hs hs' (fun u _ A1 c1 B1 d1 w hat hat2 => eqTy' u A1 c1 B1 d1 w hat hat2)

end Go.Proofs.Ytnpkmebnmklcfaa

/- The laws' sz, to and eq functions at Con. Conditions: what is counted is at most 1048576. -/
namespace Go.Proofs.Ytnpkmebnmklcfaa
open Go.RowKit
set_option linter.unusedVariables false
set_option linter.unusedSimpArgs false
set_option maxHeartbeats 400000

theorem szConS (l : List GCon) (A : Option Addr) (c : Nat) (left : Int) (w : World) (hs : Sl w (Lt w.heap.size) 2 A c (l.map GCon.toD)) (h0 : 0 ≤ left) (h1 : left ≤ 1048576)
    (H : ∀ t, t ∈ l → ∀ (A1 : Option Addr) (c1 : Nat) (left : Int) (w : World), 0 ≤ left → left ≤ 1048576 → GCon.At w (Lt w.heap.size) A1 c1 t →
      Calls Try.prog 55 #[.agg #[.string t.name, .slice A1 t.args.length c1], .int .i64 left] w fun e w' => e = .returned (.int .i64 (szv t.bulk left)) ∧ Below w.heap.size w w') :
    Calls Try.prog 39 #[.slice A l.length c, .int .i64 left] w fun e w' => e = .returned (.int .i64 (szv (bulkL GCon.bulk l) left)) ∧ Below w.heap.size w w' := by
  have hlen : l.length ≤ 9223372036854775807 := by simpa using hs.len
  have HH := Lib.hid H
  clear H
  by_cases hll : left < (l.length : Int)
  · have hg : left - (l.length : Int) < 0 := by omega
    have hv := Lib.hid (szv_gt (b := bulkL GCon.bulk l) (left := left) (by have := bulkL_len GCon.bulk l; omega))
    go_enter Try.func39, Try.ntmps39
    go_wp2_with fail
    go_ret
    exact ⟨ret_int hv.out.symm, Below.refl _ _⟩
  · have hg : 0 ≤ left - (l.length : Int) := by omega
    go_enter Try.func39, Try.ntmps39
    go_wp2_with fail
    go_loopw [1, 5] (fun n i wr => ∃ (j : Nat) (L : Int), j ≤ l.length ∧ i = .int .i64 j ∧ n = .int .i64 L ∧ L = left - l.length - (bulkL GCon.bulk (l.take j) - j) ∧ 0 ≤ L ∧ L ≤ left ∧ Below w.heap.size w wr) (fun _ i _ => l.length - (intOf i).toNat)
    case atStart => exact ⟨0, _, by omega, by go_num, rfl, by simp [bulkL], by omega, by omega, Below.refl _ _⟩
    case round =>
      obtain ⟨j, L, hj, rfl, rfl, hL, hL0, hL1, hb⟩ := hrel
      have HL := Lib.hid hL
      clear hL
      have hsz := hb.size
      by_cases hlt : j < l.length
      · have hel := GCon.elem (hs.below hb (Nat.le_refl _)) j hlt
        obtain ⟨b, off, A1, c1, rfl, hSb, g0, g1, hat⟩ := hel
        have hmem : l[j] ∈ l := List.getElem_mem hlt
        have hts := Lib.hid (bulkL_take_succ GCon.bulk l j hlt)
        have htl := Lib.hid (bulkL_take_le GCon.bulk l (j + 1) (by omega))
        have htg := Lib.hid (bulkL_take_ge GCon.bulk l j (by omega))
        go_wp2_with fail
        refine (HH.out _ hmem _ _ L _ hL0 (by omega) (hat.below (Below.refl _ _) hsz)).mono ?_
        rintro e w1 ⟨rfl, hb1⟩
        by_cases hle : ((l[j]).bulk : Int) ≤ L
        · have hv := szv_le hle
          have hge : 0 ≤ L - ((l[j]).bulk : Int) := by omega
          go_wp2_with fail
          go_roundw
          case rel => exact ⟨j + 1, _, by omega, by go_num, rfl, by rw [hts.out, HL.out]; omega, by omega, by omega, hb.trans (hb1.mono hsz)⟩
          case measure => simp [intOf]; omega
        · have hv := szv_gt (b := (l[j]).bulk) (left := L) (by omega)
          go_wp2_with fail
          go_ret
          refine ⟨ret_int ?_, hb.trans (hb1.mono hsz)⟩
          have e1 := hts.out; have e2 := htl.out; have e3 := htg.out; have e4 := HL.out
          rw [szv_gt (by omega)]
      · have hjl : j = l.length := by omega
        have Hj := Lib.hid hjl
        clear hjl
        go_wp2_with fail
        go_ret
        refine ⟨ret_int ?_, hb⟩
        have e4 := HL.out
        rw [Hj.out, List.take_length] at e4
        have := bulkL_len GCon.bulk l
        rw [szv_le (by omega)]; omega

theorem szCon (t : GCon) (A1 : Option Addr) (c1 : Nat) (left : Int) (w : World) (h0 : 0 ≤ left) (h1 : left ≤ 1048576) (hat : GCon.At w (Lt w.heap.size) A1 c1 t) :
      Calls Try.prog 55 #[.agg #[.string t.name, .slice A1 t.args.length c1], .int .i64 left] w fun e w' => e = .returned (.int .i64 (szv t.bulk left)) ∧ Below w.heap.size w w' := by
  have hbe := t.bulk_eq
  obtain ⟨k0, k1⟩ := id hat
  have s0 : t.name.size ≤ 9223372036854775807 := by unfold maxLen at k0; omega
  have HE := Lib.hid hbe
  have hat' := Lib.hid hat
  clear hbe hat k0 k1
  have B0 : Below w.heap.size w (w.alloc (.cells #[.string t.name, .slice A1 t.args.length c1] 111)) := (Below.refl _ _).alloc (Nat.le_refl _) _
  have r0 := Lib.hid (Row.new w 111 #[.string t.name, .slice A1 t.args.length c1])
  go_enter Try.func55, Try.ntmps55
  by_cases g0 : ((t.name.size : Nat) : Int) ≤ left
  rotate_left
  · have q0 : left - ((t.name.size : Nat) : Int) < 0 := by omega
    go_wp2_with fail
    go_ret
    refine ⟨ret_int ?_, B0⟩
    have := HE.out
    rw [szv_gt (by omega)]
  have q0 : 0 ≤ left - ((t.name.size : Nat) : Int) := by omega
  go_wp2_with fail
  obtain ⟨-, k1⟩ := hat'.out.below B0 B0.size
  refine (szTyS' t.args A1 c1 _ _ k1 (by omega) (by omega)).mono ?_
  rintro e w1 ⟨rfl, hb1⟩
  have B1 := B0.trans (hb1.mono B0.size)
  by_cases g1 : ((bulkL GTy.bulk t.args : Nat) : Int) ≤ left - ((t.name.size : Nat) : Int)
  rotate_left
  · have hv := szv_gt (b := bulkL GTy.bulk t.args) (left := left - ((t.name.size : Nat) : Int)) (by omega)
    go_wp2_with fail
    go_ret
    refine ⟨ret_int ?_, B1⟩
    have := HE.out
    rw [szv_gt (by omega)]
  have v1 := szv_le g1
  have q1 : 0 ≤ left - ((t.name.size : Nat) : Int) - ((bulkL GTy.bulk t.args : Nat) : Int) := by omega
  go_wp2_with fail
  go_ret
  refine ⟨ret_int ?_, B1⟩
  have := HE.out
  rw [szv_le (by omega)]; omega

theorem szCon' (t : GCon) (A1 : Option Addr) (c1 : Nat) (left : Int) (w : World) (h0 : 0 ≤ left) (h1 : left ≤ 1048576) (hat : GCon.At w (Lt w.heap.size) A1 c1 t) :
      Calls Try.prog 55 #[.agg #[.string t.name, .slice A1 t.args.length c1], .int .i64 left] w fun e w' => e = .returned (.int .i64 (szv t.bulk left)) ∧ Below w.heap.size w w' :=
  szCon t A1 c1 left w h0 h1 hat

theorem szConS' (l : List GCon) (A : Option Addr) (c : Nat) (left : Int) (w : World) (hs : Sl w (Lt w.heap.size) 2 A c (l.map GCon.toD)) (h0 : 0 ≤ left) (h1 : left ≤ 1048576) :
    Calls Try.prog 39 #[.slice A l.length c, .int .i64 left] w fun e w' => e = .returned (.int .i64 (szv (bulkL GCon.bulk l) left)) ∧ Below w.heap.size w w' :=
  szConS l A c left w hs h0 h1 (fun u _ A1 c1 left w h0 h1 hat => szCon' u A1 c1 left w h0 h1 hat)

/-- what a to function gives back: a struct of the call's own -/
def ToCon (t : GCon) (w : World) (e : Ending) (w' : World) : Prop := ∃ A1 c1, e = .returned (.agg #[.string t.name, .slice A1 t.args.length c1]) ∧ GCon.Ow w' (Btw w.heap.size w'.heap.size) A1 c1 t ∧ Below w.heap.size w w'
def ToConS (l : List GCon) (w : World) (e : Ending) (w' : World) : Prop := ∃ A1 c1, e = .returned (.slice A1 l.length c1) ∧ Osl w' (Btw w.heap.size w'.heap.size) 2 A1 c1 (l.map GCon.toD) ∧ Below w.heap.size w w'

def zCon : Value := .agg #[.string ⟨#[]⟩, .slice none 0 0]
theorem mkCon (n : Nat) (hn : n ≤ 1048576) (w : World) : (Instr.makeSlice 66 (.int .i64 (n : Int)) (.int .i64 (n : Int))).run Try.prog w = .ok (.slice (some ⟨w.heap.size, 0, none⟩) n n) (w.alloc (.cells (zr zCon 2 n) 96)) :=
  run_mk 66 96 zCon 2 40 Try.underlying66 (by kernel_rfl) n hn (by omega) w

theorem toConS (l : List GCon) (A : Option Addr) (c : Nat) (w : World) (hs : Sl w (Lt w.heap.size) 2 A c (l.map GCon.toD)) (hl : l.length ≤ 1048576)
    (H : ∀ t, t ∈ l → ∀ (A1 : Option Addr) (c1 : Nat) (w : World), GCon.At w (Lt w.heap.size) A1 c1 t →
      Calls Try.prog 59 #[.agg #[.string t.name, .slice A1 t.args.length c1]] w (ToCon t w)) :
    Calls Try.prog 43 #[.slice A l.length c] w (ToConS l w) := by
  have HH := Lib.hid H
  clear H
  have hmk := mkCon l.length hl
  go_enter Try.func43, Try.ntmps43
  go_wp2_with fail
  clear hmk
  go_loopw [4] (fun i wr => ∃ (j : Nat) (row : Array Value), j ≤ l.length ∧ i = .int .i64 j ∧ Row wr w.heap.size 96 row ∧ row.size = l.length * 2 ∧
      D.ownR wr 2 w.heap.size ((l.take j).map GCon.toD) (fun b => w.heap.size < b ∧ b < wr.heap.size) 0 ∧ Below w.heap.size w wr) (fun i _ => l.length - (intOf i).toNat)
  case atStart => exact ⟨0, _, by omega, by go_num, Row.new _ _ _, zr_size _ _ _, by simp [D.ownR], (Below.refl _ _).alloc (Nat.le_refl _) _⟩
  case round =>
    obtain ⟨j, row, hj, rfl, hrow, hrs, hown, hb⟩ := hrel
    have hsz := hb.size
    have hgl := hrow.lt
    by_cases hlt : j < l.length
    · have hel := GCon.elem (hs.below hb (Nat.le_refl _)) j hlt
      obtain ⟨b, off, A1, c1, rfl, hSb, g0, g1, hat⟩ := hel
      have hmem : l[j] ∈ l := List.getElem_mem hlt
      go_wp2_with fail
      refine (HH.out _ hmem _ _ _ (hat.below (Below.refl _ _) hsz)).mono ?_
      rintro e w1 ⟨B1, d1, rfl, how, hb1⟩
      have hrow1 := Lib.hid (hrow.below hb1 hgl)
      have hf := fun i => hrow1.out.frozen i
      obtain ⟨v0, y0⟩ := row_some (row := row) (j * 2) (by omega)
      obtain ⟨v1, y1⟩ := row_some (row := row) (j * 2 + 1) (by omega)
      have x0 := (hrow1.out.cell (j * 2)).trans y0
      have x1 := (hrow1.out.cell (j * 2 + 1)).trans y1
      clear y0 y1
      have hst := fill_step hrow1.out (j := j) (m := wr.heap.size) (xs := (l.take j).map GCon.toD) (size := 2) (by simp; omega) (by omega) hgl hb1.size
        (D.ownR_keep 2 _ _ _ _ 0 (fun b hb => ⟨hb, hb1.block b hb.2⟩) (fun i _ => hb1.cell (p := ⟨w.heap.size, i, none⟩) hgl) hown) (GCon.own_mk how) rfl
      have hB := setCells_below (hb.trans (hb1.mono hsz)) w.heap.size (j * 2) (Nat.le_refl _) [.string l[j].name, .slice B1 l[j].args.length d1]
      go_wp2_with fail
      go_roundw
      case rel =>
        obtain ⟨row', p1, p2, p3⟩ := hst
        exact ⟨j + 1, row', by omega, by go_num, p1, by omega, by rw [take_snoc' l j hlt, List.map_append]; exact p3, hB⟩
      case measure => simp [intOf]; omega
    · have hjl : j = l.length := by omega
      have Hj := Lib.hid hjl
      clear hjl
      go_wp2_with fail
      go_ret
      rw [Hj.out, List.take_length] at hown
      exact ⟨_, _, rfl, fill_end hrow (Nat.le_refl _) (by simp) (by unfold maxLen; omega) hown, hb⟩

theorem toCon (t : GCon) (A1 : Option Addr) (c1 : Nat) (w : World) (h1 : t.bulk ≤ 1048576) (hat : GCon.At w (Lt w.heap.size) A1 c1 t) :
      Calls Try.prog 59 #[.agg #[.string t.name, .slice A1 t.args.length c1]] w (ToCon t w) := by
  have hbe := t.bulk_eq
  have m1 : bulkL GTy.bulk t.args ≤ 1048576 := by omega
  have hat' := Lib.hid hat
  clear hbe hat
  go_enter Try.func59, Try.ntmps59
  go_wp2_with fail
  have W0 : ∃ w0, w0 = ((w.alloc (.cells #[.string t.name, .slice A1 t.args.length c1] 111)).alloc (.cells #[.string ⟨#[]⟩, .slice none 0 0] 96)).alloc (.cells #[.string t.name, .slice none 0 0] 96) := ⟨_, rfl⟩
  obtain ⟨w0, e0⟩ := W0
  have B0 : Below w.heap.size w w0 := by rw [e0]; exact (((Below.refl _ _).alloc (Nat.le_refl _) _).alloc (by simp) _).alloc (by simp; omega) _
  have S0 : w0.heap.size = w.heap.size + 3 := by rw [e0]; simp
  have Ra0 : Row w0 w.heap.size 111 #[.string t.name, .slice A1 t.args.length c1] := by rw [e0]; exact ((Row.new' _ _ _ rfl).alloc _).alloc _
  have Rz0 : Row w0 (w.heap.size + 1) 96 #[.string ⟨#[]⟩, .slice none 0 0] := by rw [e0]; exact (Row.new' _ _ _ (by simp)).alloc _
  have Ro0 : Row w0 (w.heap.size + 1 + 1) 96 #[.string t.name, .slice none 0 0] := by rw [e0]; exact Row.new' _ _ _ (by simp)
  rw [← e0]
  clear e0
  obtain ⟨-, q1⟩ := hat'.out.below B0 B0.size
  refine (toTyS' t.args A1 c1 (w0) q1 m1).mono ?_
  rintro e w1 ⟨D1, d1, rfl, how1, hb1⟩
  have hs1 := hb1.size
  have X1 := B0.trans (hb1.mono B0.size)
  have Rax1 := Lib.hid (Ra0.below hb1 Ra0.lt)
  have Rzx1 := Lib.hid (Rz0.below hb1 Rz0.lt)
  have Rox1 := Lib.hid (Ro0.below hb1 Ro0.lt)
  have hca1 := fun i => Rax1.out.cell i
  have hcz1 := fun i => Rzx1.out.cell i
  have hco1 := fun i => Rox1.out.cell i
  have hfz1 := fun i => Rzx1.out.frozen i
  have hfo1 := fun i => Rox1.out.frozen i
  have B1 := setCells_below X1 (w.heap.size + 1 + 1) 1 (by omega) [.slice D1 t.args.length d1]
  have Ra1 : Hid (Row (setCells w1 (w.heap.size + 1 + 1) 1 [.slice D1 t.args.length d1]) w.heap.size 111 #[.string t.name, .slice A1 t.args.length c1]) := (Rax1.out).far (p := ⟨w.heap.size + 1 + 1, 1, none⟩) (by simp <;> omega) (.slice D1 t.args.length d1)
  have Rz1 : Hid (Row (setCells w1 (w.heap.size + 1 + 1) 1 [.slice D1 t.args.length d1]) (w.heap.size + 1) 96 #[.string ⟨#[]⟩, .slice none 0 0]) := (Rzx1.out).far (p := ⟨w.heap.size + 1 + 1, 1, none⟩) (by simp <;> omega) (.slice D1 t.args.length d1)
  have Ro1 : Hid (Row (setCells w1 (w.heap.size + 1 + 1) 1 [.slice D1 t.args.length d1]) (w.heap.size + 1 + 1) 96 #[.string t.name, .slice D1 t.args.length d1]) := (Rox1.out).set 1 (.slice D1 t.args.length d1)
  replace how1 := how1.keep (S' := Btw (w0).heap.size (w1).heap.size) (w' := setCells w1 (w.heap.size + 1 + 1) 1 [.slice D1 t.args.length d1]) fun b hb => ⟨hb, setCells_block _ _ _ _ _ (by have := hb.1; first | omega | (simp only [setCells_size] at *; omega) | (simp only [setCells_size] at *; done))⟩
  have BF := setCells_below B1 (w.heap.size + 1) 0 (by omega) [.string t.name, .slice D1 t.args.length d1]
  have SF : (setCells (setCells w1 (w.heap.size + 1 + 1) 1 [.slice D1 t.args.length d1]) (w.heap.size + 1) 0 [.string t.name, .slice D1 t.args.length d1]).heap.size = w1.heap.size := by rw [setCells_size, setCells_size]
  replace how1 := how1.keep (S' := Btw w.heap.size (setCells (setCells w1 (w.heap.size + 1 + 1) 1 [.slice D1 t.args.length d1]) (w.heap.size + 1) 0 [.string t.name, .slice D1 t.args.length d1]).heap.size) (w' := setCells (setCells w1 (w.heap.size + 1 + 1) 1 [.slice D1 t.args.length d1]) (w.heap.size + 1) 0 [.string t.name, .slice D1 t.args.length d1]) fun b hb => ⟨⟨by have := hb.1; first | omega | (simp only [setCells_size] at *; omega) | (simp only [setCells_size] at *; done), by have := hb.2; have := SF; first | omega | (simp only [setCells_size] at *; omega) | (simp only [setCells_size] at *; done)⟩, setCells_block _ _ _ _ _ (by have := hb.1; first | omega | (simp only [setCells_size] at *; omega) | (simp only [setCells_size] at *; done))⟩
  have qs := hat'.out
  obtain ⟨p0, p1⟩ := qs
  go_wp2_with fail
  exact bodyPost_ret (v := .agg #[.string t.name, .slice D1 t.args.length d1]) (by simp [results, Try.results59, go_sem, hca1, hcz1, hco1]) rfl ⟨D1, d1, rfl, ⟨p0, how1⟩, BF⟩

theorem toCon' (t : GCon) (A1 : Option Addr) (c1 : Nat) (w : World) (h1 : t.bulk ≤ 1048576) (hat : GCon.At w (Lt w.heap.size) A1 c1 t) :
      Calls Try.prog 59 #[.agg #[.string t.name, .slice A1 t.args.length c1]] w (ToCon t w) :=
  toCon t A1 c1 w h1 hat

theorem toConS' (l : List GCon) (A : Option Addr) (c : Nat) (w : World) (hs : Sl w (Lt w.heap.size) 2 A c (l.map GCon.toD)) (hl : bulkL GCon.bulk l ≤ 1048576) :
    Calls Try.prog 43 #[.slice A l.length c] w (ToConS l w) :=
  toConS l A c w hs (by have := bulkL_len GCon.bulk l; omega) (fun u hu A1 c1 w hat => toCon' u A1 c1 w (by have := bulkL_mem GCon.bulk l u hu; omega) hat)

set_option maxRecDepth 20000 in
theorem eqConS (l : List GCon) (A B : Option Addr) (c d : Nat) (w : World) (hs : Sl w (Lt w.heap.size) 2 A c (l.map GCon.toD)) (hs' : Sl w (Lt w.heap.size) 2 B d (l.map GCon.toD))
    (H : ∀ t, t ∈ l → ∀ (A1 : Option Addr) (c1 : Nat) (B1 : Option Addr) (d1 : Nat) (w : World), GCon.At w (Lt w.heap.size) A1 c1 t → GCon.At w (Lt w.heap.size) B1 d1 t →
      Calls Try.prog 71 #[.agg #[.string t.name, .slice A1 t.args.length c1], .agg #[.string t.name, .slice B1 t.args.length d1]] w fun e w' => e = .returned (.bool true) ∧ Below w.heap.size w w') :
    Calls Try.prog 53 #[.slice A l.length c, .slice B l.length d] w fun e w' => e = .returned (.bool true) ∧ Below w.heap.size w w' := by
  have hlen : l.length ≤ 9223372036854775807 := by simpa using hs.len
  have HH := Lib.hid H
  clear H
  go_enter Try.func53, Try.ntmps53
  go_wp2_with fail
  go_loopw [5] (fun i wr => ∃ (j : Nat), j ≤ l.length ∧ i = .int .i64 j ∧ Below w.heap.size w wr) (fun i _ => l.length - (intOf i).toNat)
  case atStart => exact ⟨0, by omega, by go_num, Below.refl _ _⟩
  case round =>
    obtain ⟨j, hj, rfl, hb⟩ := hrel
    have hsz := hb.size
    by_cases hlt : j < l.length
    · have hel := GCon.elem (hs.below hb (Nat.le_refl _)) j hlt
      obtain ⟨b, off, A1, c1, rfl, hSb, g0, g1, hat⟩ := hel
      have hel := GCon.elem (hs'.below hb (Nat.le_refl _)) j hlt
      obtain ⟨b', off', B1, d1, rfl, hSb', g0', g1', hat'⟩ := hel
      have hmem : l[j] ∈ l := List.getElem_mem hlt
      go_wp2_with fail
      refine wp_region_still_tail 8 (by kernel_rfl) (by kernel_rfl) ?_
      simp only [List.take_succ_cons, List.take_zero, List.drop_succ_cons, List.drop_zero]
      change wpStill _ _ wr.drew (fun a' => wpList _ _ _ _ a' wr.drew) _ _
      iterate 8 still_step
      refine wpStill_nil ?_
      go_wp2_with fail
      refine (HH.out _ hmem _ _ _ _ wr.drew (hat.keep fun b hb => ⟨Nat.lt_of_lt_of_le hb hsz, rfl⟩) (hat'.keep fun b hb => ⟨Nat.lt_of_lt_of_le hb hsz, rfl⟩)).mono ?_
      rintro e w1 ⟨rfl, hb1⟩
      go_wp2_with fail
      go_roundw
      case rel => exact ⟨j + 1, by omega, by go_num, hb.drew.trans (hb1.mono hsz)⟩
      case measure => simp [intOf]; omega
    · have hjl : j = l.length := by omega
      clear hjl
      go_wp2_with fail
      go_ret
      exact ⟨rfl, hb⟩

set_option maxRecDepth 20000 in
theorem eqCon (t : GCon) (A1 : Option Addr) (c1 : Nat) (B1 : Option Addr) (d1 : Nat) (w : World) (hat : GCon.At w (Lt w.heap.size) A1 c1 t) (hat2 : GCon.At w (Lt w.heap.size) B1 d1 t) :
      Calls Try.prog 71 #[.agg #[.string t.name, .slice A1 t.args.length c1], .agg #[.string t.name, .slice B1 t.args.length d1]] w fun e w' => e = .returned (.bool true) ∧ Below w.heap.size w w' := by
  have hat' := Lib.hid hat
  have hat2' := Lib.hid hat2
  clear hat hat2
  have B0 : Below w.heap.size w ((w.alloc (.cells #[.string t.name, .slice A1 t.args.length c1] 96)).alloc (.cells #[.string t.name, .slice B1 t.args.length d1] 96)) := ((Below.refl _ _).alloc (Nat.le_refl _) _).alloc (by simp) _
  have ra0 := Lib.hid ((Row.new w 96 #[.string t.name, .slice A1 t.args.length c1]).alloc (.cells #[.string t.name, .slice B1 t.args.length d1] 96))
  have rb0 := Lib.hid (Row.new' (w.alloc (.cells #[.string t.name, .slice A1 t.args.length c1] 96)) 96 #[.string t.name, .slice B1 t.args.length d1] (g := w.heap.size + 1) (by simp))
  go_enter Try.func71, Try.ntmps71
  go_wp2_with fail
  obtain ⟨-, q1⟩ := hat'.out.below B0 B0.size
  obtain ⟨-, p1⟩ := hat2'.out.below B0 B0.size
  refine (eqTyS' t.args A1 B1 c1 d1 _ q1 p1).mono ?_
  rintro e w1 ⟨rfl, hb1⟩
  have B1 := B0.trans (hb1.mono B0.size)
  go_wp2_with fail
  go_ret
  exact ⟨rfl, B1⟩

theorem eqCon' (t : GCon) (A1 : Option Addr) (c1 : Nat) (B1 : Option Addr) (d1 : Nat) (w : World) (hat : GCon.At w (Lt w.heap.size) A1 c1 t) (hat2 : GCon.At w (Lt w.heap.size) B1 d1 t) :
      Calls Try.prog 71 #[.agg #[.string t.name, .slice A1 t.args.length c1], .agg #[.string t.name, .slice B1 t.args.length d1]] w fun e w' => e = .returned (.bool true) ∧ Below w.heap.size w w' :=
  eqCon t A1 c1 B1 d1 w hat hat2

theorem eqConS' (l : List GCon) (A B : Option Addr) (c d : Nat) (w : World) (hs : Sl w (Lt w.heap.size) 2 A c (l.map GCon.toD)) (hs' : Sl w (Lt w.heap.size) 2 B d (l.map GCon.toD)) :
    Calls Try.prog 53 #[.slice A l.length c, .slice B l.length d] w fun e w' => e = .returned (.bool true) ∧ Below w.heap.size w w' :=
  eqConS l A B c d w hs hs' (fun u _ A1 c1 B1 d1 w hat hat2 => eqCon' u A1 c1 B1 d1 w hat hat2)

end Go.Proofs.Ytnpkmebnmklcfaa

/- The laws' sz, to and eq functions at Data. Conditions: what is counted is at most 1048576. -/
namespace Go.Proofs.Ytnpkmebnmklcfaa
open Go.RowKit
set_option linter.unusedVariables false
set_option linter.unusedSimpArgs false
set_option maxHeartbeats 400000

theorem szDataS (l : List GData) (A : Option Addr) (c : Nat) (left : Int) (w : World) (hs : Sl w (Lt w.heap.size) 3 A c (l.map GData.toD)) (h0 : 0 ≤ left) (h1 : left ≤ 1048576)
    (H : ∀ t, t ∈ l → ∀ (A1 : Option Addr) (c1 : Nat) (left : Int) (w : World), 0 ≤ left → left ≤ 1048576 → GData.At w (Lt w.heap.size) A1 c1 t →
      Calls Try.prog 17 #[.agg #[.string t.name, .int .i64 t.vars, .slice A1 t.cons.length c1], .int .i64 left] w fun e w' => e = .returned (.int .i64 (szv t.bulk left)) ∧ Below w.heap.size w w') :
    Calls Try.prog 4 #[.slice A l.length c, .int .i64 left] w fun e w' => e = .returned (.int .i64 (szv (bulkL GData.bulk l) left)) ∧ Below w.heap.size w w' := by
  have hlen : l.length ≤ 9223372036854775807 := by simpa using hs.len
  have HH := Lib.hid H
  clear H
  by_cases hll : left < (l.length : Int)
  · have hg : left - (l.length : Int) < 0 := by omega
    have hv := Lib.hid (szv_gt (b := bulkL GData.bulk l) (left := left) (by have := bulkL_len GData.bulk l; omega))
    go_enter Try.func4, Try.ntmps4
    go_wp2_with fail
    go_ret
    exact ⟨ret_int hv.out.symm, Below.refl _ _⟩
  · have hg : 0 ≤ left - (l.length : Int) := by omega
    go_enter Try.func4, Try.ntmps4
    go_wp2_with fail
    go_loopw [1, 5] (fun n i wr => ∃ (j : Nat) (L : Int), j ≤ l.length ∧ i = .int .i64 j ∧ n = .int .i64 L ∧ L = left - l.length - (bulkL GData.bulk (l.take j) - j) ∧ 0 ≤ L ∧ L ≤ left ∧ Below w.heap.size w wr) (fun _ i _ => l.length - (intOf i).toNat)
    case atStart => exact ⟨0, _, by omega, by go_num, rfl, by simp [bulkL], by omega, by omega, Below.refl _ _⟩
    case round =>
      obtain ⟨j, L, hj, rfl, rfl, hL, hL0, hL1, hb⟩ := hrel
      have HL := Lib.hid hL
      clear hL
      have hsz := hb.size
      by_cases hlt : j < l.length
      · have hel := GData.elem (hs.below hb (Nat.le_refl _)) j hlt
        obtain ⟨b, off, A1, c1, rfl, hSb, g0, g1, g2, hat⟩ := hel
        have hmem : l[j] ∈ l := List.getElem_mem hlt
        have hts := Lib.hid (bulkL_take_succ GData.bulk l j hlt)
        have htl := Lib.hid (bulkL_take_le GData.bulk l (j + 1) (by omega))
        have htg := Lib.hid (bulkL_take_ge GData.bulk l j (by omega))
        go_wp2_with fail
        refine (HH.out _ hmem _ _ L _ hL0 (by omega) (hat.below (Below.refl _ _) hsz)).mono ?_
        rintro e w1 ⟨rfl, hb1⟩
        by_cases hle : ((l[j]).bulk : Int) ≤ L
        · have hv := szv_le hle
          have hge : 0 ≤ L - ((l[j]).bulk : Int) := by omega
          go_wp2_with fail
          go_roundw
          case rel => exact ⟨j + 1, _, by omega, by go_num, rfl, by rw [hts.out, HL.out]; omega, by omega, by omega, hb.trans (hb1.mono hsz)⟩
          case measure => simp [intOf]; omega
        · have hv := szv_gt (b := (l[j]).bulk) (left := L) (by omega)
          go_wp2_with fail
          go_ret
          refine ⟨ret_int ?_, hb.trans (hb1.mono hsz)⟩
          have e1 := hts.out; have e2 := htl.out; have e3 := htg.out; have e4 := HL.out
          rw [szv_gt (by omega)]
      · have hjl : j = l.length := by omega
        have Hj := Lib.hid hjl
        clear hjl
        go_wp2_with fail
        go_ret
        refine ⟨ret_int ?_, hb⟩
        have e4 := HL.out
        rw [Hj.out, List.take_length] at e4
        have := bulkL_len GData.bulk l
        rw [szv_le (by omega)]; omega

theorem szData (t : GData) (A1 : Option Addr) (c1 : Nat) (left : Int) (w : World) (h0 : 0 ≤ left) (h1 : left ≤ 1048576) (hat : GData.At w (Lt w.heap.size) A1 c1 t) :
      Calls Try.prog 17 #[.agg #[.string t.name, .int .i64 t.vars, .slice A1 t.cons.length c1], .int .i64 left] w fun e w' => e = .returned (.int .i64 (szv t.bulk left)) ∧ Below w.heap.size w w' := by
  have hbe := t.bulk_eq
  obtain ⟨k0, k1, k2⟩ := id hat
  have s0 : t.name.size ≤ 9223372036854775807 := by unfold maxLen at k0; omega
  have HE := Lib.hid hbe
  have hat' := Lib.hid hat
  clear hbe hat k0 k1 k2
  have B0 : Below w.heap.size w (w.alloc (.cells #[.string t.name, .int .i64 t.vars, .slice A1 t.cons.length c1] 46)) := (Below.refl _ _).alloc (Nat.le_refl _) _
  have r0 := Lib.hid (Row.new w 46 #[.string t.name, .int .i64 t.vars, .slice A1 t.cons.length c1])
  go_enter Try.func17, Try.ntmps17
  by_cases g0 : ((t.name.size : Nat) : Int) ≤ left
  rotate_left
  · have q0 : left - ((t.name.size : Nat) : Int) < 0 := by omega
    go_wp2_with fail
    go_ret
    refine ⟨ret_int ?_, B0⟩
    have := HE.out
    rw [szv_gt (by omega)]
  have q0 : 0 ≤ left - ((t.name.size : Nat) : Int) := by omega
  go_wp2_with fail
  obtain ⟨-, -, k2⟩ := hat'.out.below B0 B0.size
  refine (szConS' t.cons A1 c1 _ _ k2 (by omega) (by omega)).mono ?_
  rintro e w1 ⟨rfl, hb1⟩
  have B1 := B0.trans (hb1.mono B0.size)
  by_cases g2 : ((bulkL GCon.bulk t.cons : Nat) : Int) ≤ left - ((t.name.size : Nat) : Int)
  rotate_left
  · have hv := szv_gt (b := bulkL GCon.bulk t.cons) (left := left - ((t.name.size : Nat) : Int)) (by omega)
    go_wp2_with fail
    go_ret
    refine ⟨ret_int ?_, B1⟩
    have := HE.out
    rw [szv_gt (by omega)]
  have v2 := szv_le g2
  have q2 : 0 ≤ left - ((t.name.size : Nat) : Int) - ((bulkL GCon.bulk t.cons : Nat) : Int) := by omega
  go_wp2_with fail
  go_ret
  refine ⟨ret_int ?_, B1⟩
  have := HE.out
  rw [szv_le (by omega)]; omega

theorem szData' (t : GData) (A1 : Option Addr) (c1 : Nat) (left : Int) (w : World) (h0 : 0 ≤ left) (h1 : left ≤ 1048576) (hat : GData.At w (Lt w.heap.size) A1 c1 t) :
      Calls Try.prog 17 #[.agg #[.string t.name, .int .i64 t.vars, .slice A1 t.cons.length c1], .int .i64 left] w fun e w' => e = .returned (.int .i64 (szv t.bulk left)) ∧ Below w.heap.size w w' :=
  szData t A1 c1 left w h0 h1 hat

theorem szDataS' (l : List GData) (A : Option Addr) (c : Nat) (left : Int) (w : World) (hs : Sl w (Lt w.heap.size) 3 A c (l.map GData.toD)) (h0 : 0 ≤ left) (h1 : left ≤ 1048576) :
    Calls Try.prog 4 #[.slice A l.length c, .int .i64 left] w fun e w' => e = .returned (.int .i64 (szv (bulkL GData.bulk l) left)) ∧ Below w.heap.size w w' :=
  szDataS l A c left w hs h0 h1 (fun u _ A1 c1 left w h0 h1 hat => szData' u A1 c1 left w h0 h1 hat)

/-- what a to function gives back: a struct of the call's own -/
def ToData (t : GData) (w : World) (e : Ending) (w' : World) : Prop := ∃ A1 c1, e = .returned (.agg #[.string t.name, .int .i64 t.vars, .slice A1 t.cons.length c1]) ∧ GData.Ow w' (Btw w.heap.size w'.heap.size) A1 c1 t ∧ Below w.heap.size w w'
def ToDataS (l : List GData) (w : World) (e : Ending) (w' : World) : Prop := ∃ A1 c1, e = .returned (.slice A1 l.length c1) ∧ Osl w' (Btw w.heap.size w'.heap.size) 3 A1 c1 (l.map GData.toD) ∧ Below w.heap.size w w'

def zData : Value := .agg #[.string ⟨#[]⟩, .int .i64 0, .slice none 0 0]
theorem mkData (n : Nat) (hn : n ≤ 1048576) (w : World) : (Instr.makeSlice 32 (.int .i64 (n : Int)) (.int .i64 (n : Int))).run Try.prog w = .ok (.slice (some ⟨w.heap.size, 0, none⟩) n n) (w.alloc (.cells (zr zData 3 n) 68)) :=
  run_mk 32 68 zData 3 48 Try.underlying32 (by kernel_rfl) n hn (by omega) w

theorem toDataS (l : List GData) (A : Option Addr) (c : Nat) (w : World) (hs : Sl w (Lt w.heap.size) 3 A c (l.map GData.toD)) (hl : l.length ≤ 1048576)
    (H : ∀ t, t ∈ l → ∀ (A1 : Option Addr) (c1 : Nat) (w : World), GData.At w (Lt w.heap.size) A1 c1 t →
      Calls Try.prog 23 #[.agg #[.string t.name, .int .i64 t.vars, .slice A1 t.cons.length c1]] w (ToData t w)) :
    Calls Try.prog 7 #[.slice A l.length c] w (ToDataS l w) := by
  have HH := Lib.hid H
  clear H
  have hmk := mkData l.length hl
  go_enter Try.func7, Try.ntmps7
  go_wp2_with fail
  clear hmk
  go_loopw [4] (fun i wr => ∃ (j : Nat) (row : Array Value), j ≤ l.length ∧ i = .int .i64 j ∧ Row wr w.heap.size 68 row ∧ row.size = l.length * 3 ∧
      D.ownR wr 3 w.heap.size ((l.take j).map GData.toD) (fun b => w.heap.size < b ∧ b < wr.heap.size) 0 ∧ Below w.heap.size w wr) (fun i _ => l.length - (intOf i).toNat)
  case atStart => exact ⟨0, _, by omega, by go_num, Row.new _ _ _, zr_size _ _ _, by simp [D.ownR], (Below.refl _ _).alloc (Nat.le_refl _) _⟩
  case round =>
    obtain ⟨j, row, hj, rfl, hrow, hrs, hown, hb⟩ := hrel
    have hsz := hb.size
    have hgl := hrow.lt
    by_cases hlt : j < l.length
    · have hel := GData.elem (hs.below hb (Nat.le_refl _)) j hlt
      obtain ⟨b, off, A1, c1, rfl, hSb, g0, g1, g2, hat⟩ := hel
      have hmem : l[j] ∈ l := List.getElem_mem hlt
      go_wp2_with fail
      refine (HH.out _ hmem _ _ _ (hat.below (Below.refl _ _) hsz)).mono ?_
      rintro e w1 ⟨B1, d1, rfl, how, hb1⟩
      have hrow1 := Lib.hid (hrow.below hb1 hgl)
      have hf := fun i => hrow1.out.frozen i
      obtain ⟨v0, y0⟩ := row_some (row := row) (j * 3) (by omega)
      obtain ⟨v1, y1⟩ := row_some (row := row) (j * 3 + 1) (by omega)
      obtain ⟨v2, y2⟩ := row_some (row := row) (j * 3 + 2) (by omega)
      have x0 := (hrow1.out.cell (j * 3)).trans y0
      have x1 := (hrow1.out.cell (j * 3 + 1)).trans y1
      have x2 := (hrow1.out.cell (j * 3 + 2)).trans y2
      clear y0 y1 y2
      have hst := fill_step hrow1.out (j := j) (m := wr.heap.size) (xs := (l.take j).map GData.toD) (size := 3) (by simp; omega) (by omega) hgl hb1.size
        (D.ownR_keep 3 _ _ _ _ 0 (fun b hb => ⟨hb, hb1.block b hb.2⟩) (fun i _ => hb1.cell (p := ⟨w.heap.size, i, none⟩) hgl) hown) (GData.own_mk how) rfl
      have hB := setCells_below (hb.trans (hb1.mono hsz)) w.heap.size (j * 3) (Nat.le_refl _) [.string l[j].name, .int .i64 l[j].vars, .slice B1 l[j].cons.length d1]
      go_wp2_with fail
      go_roundw
      case rel =>
        obtain ⟨row', p1, p2, p3⟩ := hst
        exact ⟨j + 1, row', by omega, by go_num, p1, by omega, by rw [take_snoc' l j hlt, List.map_append]; exact p3, hB⟩
      case measure => simp [intOf]; omega
    · have hjl : j = l.length := by omega
      have Hj := Lib.hid hjl
      clear hjl
      go_wp2_with fail
      go_ret
      rw [Hj.out, List.take_length] at hown
      exact ⟨_, _, rfl, fill_end hrow (Nat.le_refl _) (by simp) (by unfold maxLen; omega) hown, hb⟩

theorem toData (t : GData) (A1 : Option Addr) (c1 : Nat) (w : World) (h1 : t.bulk ≤ 1048576) (hat : GData.At w (Lt w.heap.size) A1 c1 t) :
      Calls Try.prog 23 #[.agg #[.string t.name, .int .i64 t.vars, .slice A1 t.cons.length c1]] w (ToData t w) := by
  have hbe := t.bulk_eq
  have m2 : bulkL GCon.bulk t.cons ≤ 1048576 := by omega
  have hat' := Lib.hid hat
  clear hbe hat
  go_enter Try.func23, Try.ntmps23
  go_wp2_with fail
  have W0 : ∃ w0, w0 = ((w.alloc (.cells #[.string t.name, .int .i64 t.vars, .slice A1 t.cons.length c1] 46)).alloc (.cells #[.string ⟨#[]⟩, .int .i64 0, .slice none 0 0] 68)).alloc (.cells #[.string t.name, .int .i64 t.vars, .slice none 0 0] 68) := ⟨_, rfl⟩
  obtain ⟨w0, e0⟩ := W0
  have B0 : Below w.heap.size w w0 := by rw [e0]; exact (((Below.refl _ _).alloc (Nat.le_refl _) _).alloc (by simp) _).alloc (by simp; omega) _
  have S0 : w0.heap.size = w.heap.size + 3 := by rw [e0]; simp
  have Ra0 : Row w0 w.heap.size 46 #[.string t.name, .int .i64 t.vars, .slice A1 t.cons.length c1] := by rw [e0]; exact ((Row.new' _ _ _ rfl).alloc _).alloc _
  have Rz0 : Row w0 (w.heap.size + 1) 68 #[.string ⟨#[]⟩, .int .i64 0, .slice none 0 0] := by rw [e0]; exact (Row.new' _ _ _ (by simp)).alloc _
  have Ro0 : Row w0 (w.heap.size + 1 + 1) 68 #[.string t.name, .int .i64 t.vars, .slice none 0 0] := by rw [e0]; exact Row.new' _ _ _ (by simp)
  rw [← e0]
  clear e0
  obtain ⟨-, -, q2⟩ := hat'.out.below B0 B0.size
  refine (toConS' t.cons A1 c1 (w0) q2 m2).mono ?_
  rintro e w1 ⟨D1, d1, rfl, how2, hb1⟩
  have hs1 := hb1.size
  have X1 := B0.trans (hb1.mono B0.size)
  have Rax1 := Lib.hid (Ra0.below hb1 Ra0.lt)
  have Rzx1 := Lib.hid (Rz0.below hb1 Rz0.lt)
  have Rox1 := Lib.hid (Ro0.below hb1 Ro0.lt)
  have hca1 := fun i => Rax1.out.cell i
  have hcz1 := fun i => Rzx1.out.cell i
  have hco1 := fun i => Rox1.out.cell i
  have hfz1 := fun i => Rzx1.out.frozen i
  have hfo1 := fun i => Rox1.out.frozen i
  have B1 := setCells_below X1 (w.heap.size + 1 + 1) 2 (by omega) [.slice D1 t.cons.length d1]
  have Ra1 : Hid (Row (setCells w1 (w.heap.size + 1 + 1) 2 [.slice D1 t.cons.length d1]) w.heap.size 46 #[.string t.name, .int .i64 t.vars, .slice A1 t.cons.length c1]) := (Rax1.out).far (p := ⟨w.heap.size + 1 + 1, 2, none⟩) (by simp <;> omega) (.slice D1 t.cons.length d1)
  have Rz1 : Hid (Row (setCells w1 (w.heap.size + 1 + 1) 2 [.slice D1 t.cons.length d1]) (w.heap.size + 1) 68 #[.string ⟨#[]⟩, .int .i64 0, .slice none 0 0]) := (Rzx1.out).far (p := ⟨w.heap.size + 1 + 1, 2, none⟩) (by simp <;> omega) (.slice D1 t.cons.length d1)
  have Ro1 : Hid (Row (setCells w1 (w.heap.size + 1 + 1) 2 [.slice D1 t.cons.length d1]) (w.heap.size + 1 + 1) 68 #[.string t.name, .int .i64 t.vars, .slice D1 t.cons.length d1]) := (Rox1.out).set 2 (.slice D1 t.cons.length d1)
  replace how2 := how2.keep (S' := Btw (w0).heap.size (w1).heap.size) (w' := setCells w1 (w.heap.size + 1 + 1) 2 [.slice D1 t.cons.length d1]) fun b hb => ⟨hb, setCells_block _ _ _ _ _ (by have := hb.1; first | omega | (simp only [setCells_size] at *; omega) | (simp only [setCells_size] at *; done))⟩
  have BF := setCells_below B1 (w.heap.size + 1) 0 (by omega) [.string t.name, .int .i64 t.vars, .slice D1 t.cons.length d1]
  have SF : (setCells (setCells w1 (w.heap.size + 1 + 1) 2 [.slice D1 t.cons.length d1]) (w.heap.size + 1) 0 [.string t.name, .int .i64 t.vars, .slice D1 t.cons.length d1]).heap.size = w1.heap.size := by rw [setCells_size, setCells_size]
  replace how2 := how2.keep (S' := Btw w.heap.size (setCells (setCells w1 (w.heap.size + 1 + 1) 2 [.slice D1 t.cons.length d1]) (w.heap.size + 1) 0 [.string t.name, .int .i64 t.vars, .slice D1 t.cons.length d1]).heap.size) (w' := setCells (setCells w1 (w.heap.size + 1 + 1) 2 [.slice D1 t.cons.length d1]) (w.heap.size + 1) 0 [.string t.name, .int .i64 t.vars, .slice D1 t.cons.length d1]) fun b hb => ⟨⟨by have := hb.1; first | omega | (simp only [setCells_size] at *; omega) | (simp only [setCells_size] at *; done), by have := hb.2; have := SF; first | omega | (simp only [setCells_size] at *; omega) | (simp only [setCells_size] at *; done)⟩, setCells_block _ _ _ _ _ (by have := hb.1; first | omega | (simp only [setCells_size] at *; omega) | (simp only [setCells_size] at *; done))⟩
  have qs := hat'.out
  obtain ⟨p0, p1, p2⟩ := qs
  go_wp2_with fail
  exact bodyPost_ret (v := .agg #[.string t.name, .int .i64 t.vars, .slice D1 t.cons.length d1]) (by simp [results, Try.results23, go_sem, hca1, hcz1, hco1]) rfl ⟨D1, d1, rfl, ⟨p0, p1, how2⟩, BF⟩

theorem toData' (t : GData) (A1 : Option Addr) (c1 : Nat) (w : World) (h1 : t.bulk ≤ 1048576) (hat : GData.At w (Lt w.heap.size) A1 c1 t) :
      Calls Try.prog 23 #[.agg #[.string t.name, .int .i64 t.vars, .slice A1 t.cons.length c1]] w (ToData t w) :=
  toData t A1 c1 w h1 hat

theorem toDataS' (l : List GData) (A : Option Addr) (c : Nat) (w : World) (hs : Sl w (Lt w.heap.size) 3 A c (l.map GData.toD)) (hl : bulkL GData.bulk l ≤ 1048576) :
    Calls Try.prog 7 #[.slice A l.length c] w (ToDataS l w) :=
  toDataS l A c w hs (by have := bulkL_len GData.bulk l; omega) (fun u hu A1 c1 w hat => toData' u A1 c1 w (by have := bulkL_mem GData.bulk l u hu; omega) hat)

set_option maxRecDepth 20000 in
theorem eqDataS (l : List GData) (A B : Option Addr) (c d : Nat) (w : World) (hs : Sl w (Lt w.heap.size) 3 A c (l.map GData.toD)) (hs' : Sl w (Lt w.heap.size) 3 B d (l.map GData.toD))
    (H : ∀ t, t ∈ l → ∀ (A1 : Option Addr) (c1 : Nat) (B1 : Option Addr) (d1 : Nat) (w : World), GData.At w (Lt w.heap.size) A1 c1 t → GData.At w (Lt w.heap.size) B1 d1 t →
      Calls Try.prog 31 #[.agg #[.string t.name, .int .i64 t.vars, .slice A1 t.cons.length c1], .agg #[.string t.name, .int .i64 t.vars, .slice B1 t.cons.length d1]] w fun e w' => e = .returned (.bool true) ∧ Below w.heap.size w w') :
    Calls Try.prog 11 #[.slice A l.length c, .slice B l.length d] w fun e w' => e = .returned (.bool true) ∧ Below w.heap.size w w' := by
  have hlen : l.length ≤ 9223372036854775807 := by simpa using hs.len
  have HH := Lib.hid H
  clear H
  go_enter Try.func11, Try.ntmps11
  go_wp2_with fail
  go_loopw [5] (fun i wr => ∃ (j : Nat), j ≤ l.length ∧ i = .int .i64 j ∧ Below w.heap.size w wr) (fun i _ => l.length - (intOf i).toNat)
  case atStart => exact ⟨0, by omega, by go_num, Below.refl _ _⟩
  case round =>
    obtain ⟨j, hj, rfl, hb⟩ := hrel
    have hsz := hb.size
    by_cases hlt : j < l.length
    · have hel := GData.elem (hs.below hb (Nat.le_refl _)) j hlt
      obtain ⟨b, off, A1, c1, rfl, hSb, g0, g1, g2, hat⟩ := hel
      have hel := GData.elem (hs'.below hb (Nat.le_refl _)) j hlt
      obtain ⟨b', off', B1, d1, rfl, hSb', g0', g1', g2', hat'⟩ := hel
      have hmem : l[j] ∈ l := List.getElem_mem hlt
      go_wp2_with fail
      refine wp_region_still_tail 8 (by kernel_rfl) (by kernel_rfl) ?_
      simp only [List.take_succ_cons, List.take_zero, List.drop_succ_cons, List.drop_zero]
      change wpStill _ _ wr.drew (fun a' => wpList _ _ _ _ a' wr.drew) _ _
      iterate 8 still_step
      refine wpStill_nil ?_
      go_wp2_with fail
      refine (HH.out _ hmem _ _ _ _ wr.drew (hat.keep fun b hb => ⟨Nat.lt_of_lt_of_le hb hsz, rfl⟩) (hat'.keep fun b hb => ⟨Nat.lt_of_lt_of_le hb hsz, rfl⟩)).mono ?_
      rintro e w1 ⟨rfl, hb1⟩
      go_wp2_with fail
      go_roundw
      case rel => exact ⟨j + 1, by omega, by go_num, hb.drew.trans (hb1.mono hsz)⟩
      case measure => simp [intOf]; omega
    · have hjl : j = l.length := by omega
      clear hjl
      go_wp2_with fail
      go_ret
      exact ⟨rfl, hb⟩

set_option maxRecDepth 20000 in
theorem eqData (t : GData) (A1 : Option Addr) (c1 : Nat) (B1 : Option Addr) (d1 : Nat) (w : World) (hat : GData.At w (Lt w.heap.size) A1 c1 t) (hat2 : GData.At w (Lt w.heap.size) B1 d1 t) :
      Calls Try.prog 31 #[.agg #[.string t.name, .int .i64 t.vars, .slice A1 t.cons.length c1], .agg #[.string t.name, .int .i64 t.vars, .slice B1 t.cons.length d1]] w fun e w' => e = .returned (.bool true) ∧ Below w.heap.size w w' := by
  have hat' := Lib.hid hat
  have hat2' := Lib.hid hat2
  clear hat hat2
  have B0 : Below w.heap.size w ((w.alloc (.cells #[.string t.name, .int .i64 t.vars, .slice A1 t.cons.length c1] 68)).alloc (.cells #[.string t.name, .int .i64 t.vars, .slice B1 t.cons.length d1] 68)) := ((Below.refl _ _).alloc (Nat.le_refl _) _).alloc (by simp) _
  have ra0 := Lib.hid ((Row.new w 68 #[.string t.name, .int .i64 t.vars, .slice A1 t.cons.length c1]).alloc (.cells #[.string t.name, .int .i64 t.vars, .slice B1 t.cons.length d1] 68))
  have rb0 := Lib.hid (Row.new' (w.alloc (.cells #[.string t.name, .int .i64 t.vars, .slice A1 t.cons.length c1] 68)) 68 #[.string t.name, .int .i64 t.vars, .slice B1 t.cons.length d1] (g := w.heap.size + 1) (by simp))
  go_enter Try.func31, Try.ntmps31
  go_wp2_with fail
  obtain ⟨-, -, q2⟩ := hat'.out.below B0 B0.size
  obtain ⟨-, -, p2⟩ := hat2'.out.below B0 B0.size
  refine (eqConS' t.cons A1 B1 c1 d1 _ q2 p2).mono ?_
  rintro e w1 ⟨rfl, hb1⟩
  have B1 := B0.trans (hb1.mono B0.size)
  go_wp2_with fail
  go_ret
  exact ⟨rfl, B1⟩

theorem eqData' (t : GData) (A1 : Option Addr) (c1 : Nat) (B1 : Option Addr) (d1 : Nat) (w : World) (hat : GData.At w (Lt w.heap.size) A1 c1 t) (hat2 : GData.At w (Lt w.heap.size) B1 d1 t) :
      Calls Try.prog 31 #[.agg #[.string t.name, .int .i64 t.vars, .slice A1 t.cons.length c1], .agg #[.string t.name, .int .i64 t.vars, .slice B1 t.cons.length d1]] w fun e w' => e = .returned (.bool true) ∧ Below w.heap.size w w' :=
  eqData t A1 c1 B1 d1 w hat hat2

theorem eqDataS' (l : List GData) (A B : Option Addr) (c d : Nat) (w : World) (hs : Sl w (Lt w.heap.size) 3 A c (l.map GData.toD)) (hs' : Sl w (Lt w.heap.size) 3 B d (l.map GData.toD)) :
    Calls Try.prog 11 #[.slice A l.length c, .slice B l.length d] w fun e w' => e = .returned (.bool true) ∧ Below w.heap.size w w' :=
  eqDataS l A B c d w hs hs' (fun u _ A1 c1 B1 d1 w hat hat2 => eqData' u A1 c1 B1 d1 w hat hat2)

end Go.Proofs.Ytnpkmebnmklcfaa

/- Marks on what is owned: the Go struct Ty. Conditions: none but a bound on the numbers. -/
namespace Go.Proofs.Ytnpkmebnmklcfaa
open Go.RowKit
set_option linter.unusedVariables false
set_option linter.unusedSimpArgs false
set_option maxHeartbeats 1000000

theorem GTy.own_inv {w : World} {S : Nat → Prop} {t : GTy} {cs : List Value} (h : t.toD.own w S cs) : ∃ A1 c1, cs = [.int .i64 t.op, .int .i64 t.n, .string t.s, .slice A1 t.kids.length c1] ∧ GTy.Ow w S A1 c1 t := by
  cases t with
  | mk op n s kids =>
  simp only [GTy.toD, GTy.toDs_map] at h
  rw [D.own_agg] at h
  simp only [D.ownF] at h
  obtain ⟨U0, V0, x0, r0, a0, b0, e0, h0, U1, V1, x1, r1, a1, b1, e1, h1, U2, V2, x2, r2, a2, b2, e2, h2, U3, V3, x3, r3, a3, b3, e3, h3, ee⟩ := h
  subst ee
  subst e3
  subst e2
  subst e1
  subst e0
  obtain ⟨rfl, k0⟩ := D.own_num.1 h0
  obtain ⟨rfl, k1⟩ := D.own_num.1 h1
  obtain ⟨rfl, k2⟩ := D.own_str.1 h2
  obtain ⟨B1, d1, rfl, k3⟩ := D.own_sl.1 h3
  exact ⟨B1, d1, (by simp [GTy.op, GTy.n, GTy.s, GTy.kids]), ⟨k0, k1, k2, k3.keep fun x hx => ⟨b0 x (b1 x (b2 x ((a3 x hx).1))), rfl⟩⟩⟩

mutual
/-- the marked tree -/
def GTy.mark : GTy → Nat → GTy | .mk op n s kids, k => .mk (((k : Nat) : Int)) (((k + 1 : Nat) : Int)) (markT (k + 2)) (GTy.marks kids (k + 3))
def GTy.marks : List GTy → Nat → List GTy | [], _ => [] | t :: r, k => t.mark k :: GTy.marks r (k + t.cnt)
/-- how many marks -/
def GTy.cnt : GTy → Nat | .mk op n s kids => 3 + GTy.cnts kids
def GTy.cnts : List GTy → Nat | [] => 0 | t :: r => t.cnt + GTy.cnts r
end
theorem GTy.marks_eq : ∀ (l : List GTy) (k : Nat), GTy.marks l k = markL GTy.mark GTy.cnt l k
  | [], _ => by simp only [GTy.marks, markL]
  | t :: r, k => by simp only [GTy.marks, markL, GTy.marks_eq r]
theorem GTy.cnts_eq : ∀ (l : List GTy), GTy.cnts l = cntL GTy.cnt l
  | [] => by simp only [GTy.cnts, cntL]
  | t :: r => by simp only [GTy.cnts, cntL, GTy.cnts_eq r]
/-- the same, but for its own numbers and texts -/
def GTy.mark0 (t : GTy) (k : Nat) : GTy := .mk t.op t.n t.s (markL GTy.mark GTy.cnt t.kids (k))
def GTy.cnt0 (t : GTy) : Nat := cntL GTy.cnt t.kids
theorem GTy.cnt_eq (t : GTy) : t.cnt = 3 + cntL GTy.cnt t.kids := by
  cases t; simp only [GTy.cnt, GTy.op, GTy.n, GTy.s, GTy.kids, GTy.cnts_eq]
theorem GTy.mark_op (t : GTy) (k : Nat) : (t.mark k).op = (((k : Nat) : Int)) := by
  cases t; simp only [GTy.mark, GTy.marks_eq, GTy.op, GTy.n, GTy.s, GTy.kids]
theorem GTy.mark_n (t : GTy) (k : Nat) : (t.mark k).n = (((k + 1 : Nat) : Int)) := by
  cases t; simp only [GTy.mark, GTy.marks_eq, GTy.op, GTy.n, GTy.s, GTy.kids]
theorem GTy.mark_s (t : GTy) (k : Nat) : (t.mark k).s = (markT (k + 2)) := by
  cases t; simp only [GTy.mark, GTy.marks_eq, GTy.op, GTy.n, GTy.s, GTy.kids]
theorem GTy.mark_kids (t : GTy) (k : Nat) : (t.mark k).kids = (markL GTy.mark GTy.cnt t.kids (k + 3)) := by
  cases t; simp only [GTy.mark, GTy.marks_eq, GTy.op, GTy.n, GTy.s, GTy.kids]
theorem GTy.mark_cells (t : GTy) (K : Nat) (A1 : Option Addr) (c1 : Nat) (v0 : Int) (v1 : Int) (e0 : v0 = ((K : Nat) : Int)) (e1 : v1 = ((K + 1 : Nat) : Int)) : ([.int .i64 v0, .int .i64 v1, .string (markT (K + 2)), .slice A1 t.kids.length c1] : List Value) = [.int .i64 (t.mark K).op, .int .i64 (t.mark K).n, .string (t.mark K).s, .slice A1 (t.mark K).kids.length c1] := by
  subst e0
  subst e1
  simp only [GTy.mark_op, GTy.mark_n, GTy.mark_s, GTy.mark_kids, markL_length]
  try (simp only [Nat.add_assoc, Nat.add_comm, Nat.add_left_comm])

theorem GTy.Ow_mark {w : World} {S : Nat → Prop} {t : GTy} {K : Nat} {A1 : Option Addr} {c1 : Nat} (hK : K + t.cnt ≤ 4611686018427387904)  (o1 : Osl w S 4 A1 c1 ((markL GTy.mark GTy.cnt t.kids (K + 3)).map GTy.toD)) : GTy.Ow w S A1 c1 (t.mark K) := by
  rw [GTy.cnt_eq] at hK
  unfold GTy.Ow
  exact ⟨(by simp only [GTy.mark_op, GTy.mark_n, GTy.mark_s, GTy.mark_kids]; exact wfNat _ (by first | omega | omega)), (by simp only [GTy.mark_op, GTy.mark_n, GTy.mark_s, GTy.mark_kids]; exact wfNat _ (by first | omega | omega)), (by simp only [GTy.mark_op, GTy.mark_n, GTy.mark_s, GTy.mark_kids]; have := markT_size (K + 2) (by first | omega | omega); unfold maxLen; omega), (by simp only [GTy.mark_op, GTy.mark_n, GTy.mark_s, GTy.mark_kids]; first | exact o1 | (rw [show K + 3 = K + 3 from by first | omega | omega]; exact o1))⟩

theorem GTy.cnt_bulk : ∀ t : GTy, t.cnt ≤ 16 * (1 + t.bulk) := by
  have H : ∀ kk : Nat, ∀ t : GTy, t.bulk < kk → t.cnt ≤ 16 * (1 + t.bulk) := by
    intro kk; induction kk with
    | zero => intro t h; omega
    | succ kk ih =>
      intro t h
      have hb := t.bulk_eq
      have := cntL_le GTy.cnt GTy.bulk t.kids (fun x hx => ih x (by have := bulkL_mem GTy.bulk t.kids x hx; omega))
      rw [GTy.cnt_eq]; omega
  exact fun t => H (t.bulk + 1) t (by omega)
theorem GTy.cnts_bulk (l : List GTy) : cntL GTy.cnt l ≤ 16 * bulkL GTy.bulk l := cntL_le _ _ l fun x _ => GTy.cnt_bulk x
theorem GTy.cnt0_le (t : GTy) : t.cnt0 ≤ t.cnt := by
  rw [GTy.cnt_eq]; simp only [GTy.cnt0]; omega
set_option maxRecDepth 20000 in
theorem markTyS (kk : Nat) : ∀ (l : List GTy) (A : Option Addr) (c k : Nat) (x : Int) (S : Nat → Prop) (w : World), bulkL GTy.bulk l < kk → x = k → 0 < k → k + cntL GTy.cnt l ≤ 4611686018427387904 → (∀ b, S b → b < w.heap.size) → Osl w S 4 A c (l.map GTy.toD) →
    Calls Try.prog 54 #[.slice A l.length c, .int .i64 x] w fun e w' => e = .returned (.int .i64 ((k + cntL GTy.cnt l : Nat) : Int)) ∧ Osl w' S 4 A c ((markL GTy.mark GTy.cnt l k).map GTy.toD) ∧ Touch S w w' := by
  induction kk with
  | zero => intro l A c k x S w h; omega
  | succ kk ih =>
    intro l A c k x S w hkk hx h0 hk hS hs
    have HB := Lib.hid (fun (j : Nat) (h : j < l.length) => (show bulkL GTy.bulk (l[j]).kids < kk by have := bulkL_mem GTy.bulk l _ (List.getElem_mem h); have := (l[j]).bulk_eq; omega))
    clear hkk
    subst hx
    have hlen : l.length ≤ 9223372036854775807 := by simpa using hs.sl.len
    have HS := Lib.hid hS
    have S0 := Lib.hid hs
    clear hs hS
    go_enter Try.func54, Try.ntmps54
    go_wp2_with fail
    go_loopw [1, 5] (fun v i wr => ∃ (j : Nat), j ≤ l.length ∧ i = .int .i64 j ∧ v = .int .i64 ((k + cntL GTy.cnt (l.take j) : Nat) : Int) ∧ Hid (Osl wr S 4 A c ((markTo GTy.mark GTy.cnt l k j).map GTy.toD)) ∧ Hid (Touch S w wr)) (fun _ i _ => l.length - (intOf i).toNat)
    case atStart => exact ⟨0, by omega, by go_num, by simp [cntL], Lib.hid (by rw [markTo_zero]; exact S0.out), Lib.hid (Touch.refl _ _)⟩
    case round =>
      obtain ⟨j, hj, rfl, ev, HO, HT⟩ := hrel
      obtain ⟨K, hK⟩ : ∃ K, K = k + cntL GTy.cnt (l.take j) := ⟨_, rfl⟩
      rw [← hK] at ev
      subst ev
      by_cases hlt : j < l.length
      · obtain ⟨b, T, cs, rfl, hSb, hTb, hf0, hTS, hcl, hc, hd, hput⟩ := HO.out.focus j (by rw [List.length_map, markTo_length _ _ _ _ _ hj]; exact hlt)
        rw [List.getElem_map, markTo_get _ _ _ _ _ hlt] at hd
        obtain ⟨A1, c1, rfl, how⟩ := GTy.own_inv hd
        have x0 : wr.cell? ⟨b, j * 4, none⟩ = some (.int .i64 l[j].op) := by simpa using hc 0 _ rfl
        have x1 : wr.cell? ⟨b, j * 4 + 1, none⟩ = some (.int .i64 l[j].n) := by simpa using hc 1 _ rfl
        have x2 : wr.cell? ⟨b, j * 4 + 2, none⟩ = some (.string l[j].s) := by simpa using hc 2 _ rfl
        have x3 : wr.cell? ⟨b, j * 4 + 3, none⟩ = some (.slice A1 l[j].kids.length c1) := by simpa using hc 3 _ rfl
        have hKk : 0 < K := by omega
        have hKb : K + GTy.cnt l[j] ≤ 4611686018427387904 := by have := cntL_take_le GTy.cnt l j hlt; omega
        have HKB := Lib.hid hKb
        rw [GTy.cnt_eq] at hKb
        have HK := Lib.hid hK
        have hbl : b < wr.heap.size := Nat.lt_of_lt_of_le (HS.out b hSb) HT.out.size
        have M0 := Lib.hid (MSt.start (w := w) (wr := wr) (S := S) (T := T) (b := b) (lo := j * 4) (hi := j * 4 + 4) hf0 HT.out)
        obtain ⟨-, -, -, o1⟩ := how
        have O1_0 := Lib.hid o1
        clear o1
        have HPUT := Lib.hid hput
        clear hc hd hcl hput hK
        go_wp2_with fail
        refine (markTextI _ (K + 2) (by omega) _ (by omega) (by omega)).mono ?_
        rintro e w1 ⟨rfl, hb1⟩
        have x0_1 : w1.cell? ⟨b, j * 4, none⟩ = some (.int .i64 ((K : Int))) := (hb1.cell (p := ⟨b, j * 4, none⟩) (Nat.lt_of_lt_of_le hbl (((((M0.out).set hSb (j * 4) (by omega) (by omega) (.int .i64 ((K : Int))))).set hSb (j * 4 + 1) (by omega) (by omega) (.int .i64 ((K : Int) + 1)))).size)).trans ((cell_ne (by omega)).trans (World.cell?_setCell_same _ _ _ x0))
        have x1_1 : w1.cell? ⟨b, j * 4 + 1, none⟩ = some (.int .i64 ((K : Int) + 1)) := (hb1.cell (p := ⟨b, j * 4 + 1, none⟩) (Nat.lt_of_lt_of_le hbl (((((M0.out).set hSb (j * 4) (by omega) (by omega) (.int .i64 ((K : Int))))).set hSb (j * 4 + 1) (by omega) (by omega) (.int .i64 ((K : Int) + 1)))).size)).trans (World.cell?_setCell_same _ _ _ ((cell_ne (by omega)).trans x1))
        have x2_1 : w1.cell? ⟨b, j * 4 + 2, none⟩ = some (.string l[j].s) := (hb1.cell (p := ⟨b, j * 4 + 2, none⟩) (Nat.lt_of_lt_of_le hbl (((((M0.out).set hSb (j * 4) (by omega) (by omega) (.int .i64 ((K : Int))))).set hSb (j * 4 + 1) (by omega) (by omega) (.int .i64 ((K : Int) + 1)))).size)).trans ((cell_ne (by omega)).trans ((cell_ne (by omega)).trans x2))
        have x3_1 : w1.cell? ⟨b, j * 4 + 3, none⟩ = some (.slice A1 l[j].kids.length c1) := (hb1.cell (p := ⟨b, j * 4 + 3, none⟩) (Nat.lt_of_lt_of_le hbl (((((M0.out).set hSb (j * 4) (by omega) (by omega) (.int .i64 ((K : Int))))).set hSb (j * 4 + 1) (by omega) (by omega) (.int .i64 ((K : Int) + 1)))).size)).trans ((cell_ne (by omega)).trans ((cell_ne (by omega)).trans x3))
        have M1 := Lib.hid (MSt.below (((((M0.out).set hSb (j * 4) (by omega) (by omega) (.int .i64 ((K : Int))))).set hSb (j * 4 + 1) (by omega) (by omega) (.int .i64 ((K : Int) + 1)))) hb1 hbl HS.out)
        have hf1 := M1.out.fr
        have O1_1 := Lib.hid (Osl.belowS ((Osl.set (o := j * 4 + 1) ((Osl.set (o := j * 4) (O1_0.out) hTb (.int .i64 ((K : Int))))) hTb (.int .i64 ((K : Int) + 1)))) hb1 (fun q hq => Nat.lt_of_lt_of_le (HS.out q (hTS q ((fun _ h => h) q hq))) (((((M0.out).set hSb (j * 4) (by omega) (by omega) (.int .i64 ((K : Int))))).set hSb (j * 4 + 1) (by omega) (by omega) (.int .i64 ((K : Int) + 1)))).touch.size))
        clear x0 x1 x2 x3 hf0 hb1
        have OW2 := Lib.hid (Osl.set (o := j * 4 + 2) (O1_1.out) hTb (.string (markT (K + 2))))
        have LT2 := Lib.hid (show ∀ q, T q → q < (w1.setCell ⟨b, j * 4 + 2, none⟩ (.string (markT (K + 2)))).heap.size from (fun q hq => Nat.lt_of_lt_of_le (HS.out q (hTS q ((fun _ h => h) q hq))) (Nat.le_trans (((M1.out).set hSb (j * 4 + 2) (by omega) (by omega) (.string (markT (K + 2))))).touch.size (Nat.le_refl _))))
        go_wp2_with fail
        refine (ih l[j].kids A1 c1 (K + 3) _ T _ (HB.out j hlt) (by omega) (by omega) (by omega) LT2.out OW2.out).mono ?_
        rintro e w2 ⟨rfl, ho2, ht2⟩
        have Q2 := Lib.hid ho2
        clear ho2
        have x0_2 : w2.cell? ⟨b, j * 4, none⟩ = some (.int .i64 ((K : Int))) := (World.cell?_of_block (ht2.block b (Nat.lt_of_lt_of_le hbl (((M1.out).set hSb (j * 4 + 2) (by omega) (by omega) (.string (markT (K + 2))))).size) hTb)).trans ((cell_ne (by omega)).trans x0_1)
        have x1_2 : w2.cell? ⟨b, j * 4 + 1, none⟩ = some (.int .i64 ((K : Int) + 1)) := (World.cell?_of_block (ht2.block b (Nat.lt_of_lt_of_le hbl (((M1.out).set hSb (j * 4 + 2) (by omega) (by omega) (.string (markT (K + 2))))).size) hTb)).trans ((cell_ne (by omega)).trans x1_1)
        have x2_2 : w2.cell? ⟨b, j * 4 + 2, none⟩ = some (.string (markT (K + 2))) := (World.cell?_of_block (ht2.block b (Nat.lt_of_lt_of_le hbl (((M1.out).set hSb (j * 4 + 2) (by omega) (by omega) (.string (markT (K + 2))))).size) hTb)).trans (World.cell?_setCell_same _ _ _ x2_1)
        have x3_2 : w2.cell? ⟨b, j * 4 + 3, none⟩ = some (.slice A1 l[j].kids.length c1) := (World.cell?_of_block (ht2.block b (Nat.lt_of_lt_of_le hbl (((M1.out).set hSb (j * 4 + 2) (by omega) (by omega) (.string (markT (K + 2))))).size) hTb)).trans ((cell_ne (by omega)).trans x3_1)
        have M2 := Lib.hid (MSt.mark (((M1.out).set hSb (j * 4 + 2) (by omega) (by omega) (.string (markT (K + 2))))) ht2 (fun _ h => h) hTS hTb hbl HS.out)
        have hf2 := M2.out.fr
        clear x0_1 x1_1 x2_1 x3_1 hf1 ht2
        obtain ⟨K2, hK2⟩ : ∃ K2 : Nat, K2 = K + 3 + cntL GTy.cnt l[j].kids := ⟨_, rfl⟩
        rw [← hK2]
        have HM := Lib.hid (M2.out)
        have HOW := Lib.hid (GTy.Ow_mark (w := w2) (S := T) (t := l[j]) (K := K) HKB.out Q2.out)
        have HC := Lib.hid (GTy.mark_cells l[j] K A1 c1 ((K : Int)) ((K : Int) + 1) (by omega) (by omega))
        have HP := Lib.hid (HPUT.out w2 (GTy.mark l[j] K).toD [.int .i64 ((K : Int)), .int .i64 ((K : Int) + 1), .string (markT (K + 2)), .slice A1 l[j].kids.length c1] (HM.out.blk2 HS.out HT.out.size) HM.out.out HM.out.fr rfl
          (fun q v hv => by
            match q, hv with
            | 0, hv =>
              obtain rfl := Option.some.inj hv
              exact x0_2
            | 1, hv =>
              obtain rfl := Option.some.inj hv
              exact x1_2
            | 2, hv =>
              obtain rfl := Option.some.inj hv
              exact x2_2
            | 3, hv =>
              obtain rfl := Option.some.inj hv
              exact x3_2
            | q + 4, hv => cases hv)
          (by rw [HC.out]; exact GTy.own_mk HOW.out))
        have HTF := Lib.hid HM.out.touch
        have hKe := HK.out
        clear HK HOW HC HPUT
        go_wp2_with fail
        go_roundw
        case rel => exact ⟨j + 1, by omega, by go_num, by have := cntL_take_succ GTy.cnt l j hlt; have := GTy.cnt_eq l[j]; congr 1; omega, Lib.hid (by have e := markTo_set GTy.mark GTy.cnt l k j hlt; rw [← hKe] at e; rw [← e, List.map_set]; exact HP.out), HTF⟩
        case measure => simp [intOf]; omega
      · have hjl : j = l.length := by omega
        have Hj := Lib.hid hjl
        have HK := Lib.hid hK
        clear hjl hK
        go_wp2_with fail
        go_ret
        exact ⟨ret_int (by rw [HK.out, Hj.out, List.take_length]), by have := HO.out; rw [Hj.out, markTo_all] at this; exact this, HT.out⟩

theorem markTyS' (l : List GTy) (A : Option Addr) (c k : Nat) (x : Int) (S : Nat → Prop) (w : World) (hx : x = k) (h0 : 0 < k) (hk : k + cntL GTy.cnt l ≤ 4611686018427387904) (hS : ∀ b, S b → b < w.heap.size) (hs : Osl w S 4 A c (l.map GTy.toD)) :
    Calls Try.prog 54 #[.slice A l.length c, .int .i64 x] w fun e w' => e = .returned (.int .i64 ((k + cntL GTy.cnt l : Nat) : Int)) ∧ Osl w' S 4 A c ((markL GTy.mark GTy.cnt l k).map GTy.toD) ∧ Touch S w w' :=
  markTyS (bulkL GTy.bulk l + 1) l A c k x S w (by omega) hx h0 hk hS hs





end Go.Proofs.Ytnpkmebnmklcfaa

/- Marks on what is owned: the Go struct Con. Conditions: none but a bound on the numbers. -/
namespace Go.Proofs.Ytnpkmebnmklcfaa
open Go.RowKit
set_option linter.unusedVariables false
set_option linter.unusedSimpArgs false
set_option maxHeartbeats 1000000

theorem GCon.own_inv {w : World} {S : Nat → Prop} {t : GCon} {cs : List Value} (h : t.toD.own w S cs) : ∃ A1 c1, cs = [.string t.name, .slice A1 t.args.length c1] ∧ GCon.Ow w S A1 c1 t := by
  unfold GCon.toD at h
  rw [D.own_agg] at h
  simp only [D.ownF] at h
  obtain ⟨U0, V0, x0, r0, a0, b0, e0, h0, U1, V1, x1, r1, a1, b1, e1, h1, ee⟩ := h
  subst ee
  subst e1
  subst e0
  obtain ⟨rfl, k0⟩ := D.own_str.1 h0
  obtain ⟨B1, d1, rfl, k1⟩ := D.own_sl.1 h1
  exact ⟨B1, d1, (by simp), ⟨k0, k1.keep fun x hx => ⟨b0 x ((a1 x hx).1), rfl⟩⟩⟩

/-- the marked data -/
def GCon.mark (t : GCon) (k : Nat) : GCon := ⟨(markT (k)), (markL GTy.mark GTy.cnt t.args (k + 1))⟩
/-- how many marks -/
def GCon.cnt (t : GCon) : Nat := 1 + cntL GTy.cnt t.args
/-- the same, but for its own numbers and texts -/
def GCon.mark0 (t : GCon) (k : Nat) : GCon := ⟨t.name, (markL GTy.mark GTy.cnt t.args (k))⟩
def GCon.cnt0 (t : GCon) : Nat := cntL GTy.cnt t.args
theorem GCon.cnt_eq (t : GCon) : t.cnt = 1 + cntL GTy.cnt t.args := by
  simp only [GCon.cnt]
theorem GCon.mark_name (t : GCon) (k : Nat) : (t.mark k).name = (markT (k)) := by
  rfl
theorem GCon.mark_args (t : GCon) (k : Nat) : (t.mark k).args = (markL GTy.mark GTy.cnt t.args (k + 1)) := by
  rfl
theorem GCon.mark_cells (t : GCon) (K : Nat) (A1 : Option Addr) (c1 : Nat)   : ([.string (markT (K)), .slice A1 t.args.length c1] : List Value) = [.string (t.mark K).name, .slice A1 (t.mark K).args.length c1] := by
  simp only [GCon.mark_name, GCon.mark_args, markL_length]
  try (simp only [Nat.add_assoc, Nat.add_comm, Nat.add_left_comm])

theorem GCon.Ow_mark {w : World} {S : Nat → Prop} {t : GCon} {K : Nat} {A1 : Option Addr} {c1 : Nat} (hK : K + t.cnt ≤ 4611686018427387904)  (o1 : Osl w S 4 A1 c1 ((markL GTy.mark GTy.cnt t.args (K + 1)).map GTy.toD)) : GCon.Ow w S A1 c1 (t.mark K) := by
  rw [GCon.cnt_eq] at hK
  unfold GCon.Ow
  exact ⟨(by simp only [GCon.mark_name, GCon.mark_args]; have := markT_size (K) (by first | omega | omega); unfold maxLen; omega), (by simp only [GCon.mark_name, GCon.mark_args]; first | exact o1 | (rw [show K + 1 = K + 1 from by first | omega | omega]; exact o1))⟩

theorem GCon.cnt_bulk (t : GCon) : t.cnt ≤ 16 * (1 + t.bulk) := by
  have hb := t.bulk_eq
  have := cntL_le GTy.cnt GTy.bulk t.args (fun x _ => GTy.cnt_bulk x)
  rw [GCon.cnt_eq]; omega
theorem GCon.cnts_bulk (l : List GCon) : cntL GCon.cnt l ≤ 16 * bulkL GCon.bulk l := cntL_le _ _ l fun x _ => GCon.cnt_bulk x
theorem GCon.cnt0_le (t : GCon) : t.cnt0 ≤ t.cnt := by
  rw [GCon.cnt_eq]; simp only [GCon.cnt0]; omega
set_option maxRecDepth 20000 in
theorem markConS (l : List GCon) (A : Option Addr) (c k : Nat) (x : Int) (S : Nat → Prop) (w : World) (hx : x = k) (h0 : 0 < k) (hk : k + cntL GCon.cnt l ≤ 4611686018427387904) (hS : ∀ b, S b → b < w.heap.size) (hs : Osl w S 2 A c (l.map GCon.toD)) :
    Calls Try.prog 34 #[.slice A l.length c, .int .i64 x] w fun e w' => e = .returned (.int .i64 ((k + cntL GCon.cnt l : Nat) : Int)) ∧ Osl w' S 2 A c ((markL GCon.mark GCon.cnt l k).map GCon.toD) ∧ Touch S w w' := by
  subst hx
  have hlen : l.length ≤ 9223372036854775807 := by simpa using hs.sl.len
  have HS := Lib.hid hS
  have S0 := Lib.hid hs
  clear hs hS
  go_enter Try.func34, Try.ntmps34
  go_wp2_with fail
  go_loopw [1, 5] (fun v i wr => ∃ (j : Nat), j ≤ l.length ∧ i = .int .i64 j ∧ v = .int .i64 ((k + cntL GCon.cnt (l.take j) : Nat) : Int) ∧ Hid (Osl wr S 2 A c ((markTo GCon.mark GCon.cnt l k j).map GCon.toD)) ∧ Hid (Touch S w wr)) (fun _ i _ => l.length - (intOf i).toNat)
  case atStart => exact ⟨0, by omega, by go_num, by simp [cntL], Lib.hid (by rw [markTo_zero]; exact S0.out), Lib.hid (Touch.refl _ _)⟩
  case round =>
    obtain ⟨j, hj, rfl, ev, HO, HT⟩ := hrel
    obtain ⟨K, hK⟩ : ∃ K, K = k + cntL GCon.cnt (l.take j) := ⟨_, rfl⟩
    rw [← hK] at ev
    subst ev
    by_cases hlt : j < l.length
    · obtain ⟨b, T, cs, rfl, hSb, hTb, hf0, hTS, hcl, hc, hd, hput⟩ := HO.out.focus j (by rw [List.length_map, markTo_length _ _ _ _ _ hj]; exact hlt)
      rw [List.getElem_map, markTo_get _ _ _ _ _ hlt] at hd
      obtain ⟨A1, c1, rfl, how⟩ := GCon.own_inv hd
      have x0 : wr.cell? ⟨b, j * 2, none⟩ = some (.string l[j].name) := by simpa using hc 0 _ rfl
      have x1 : wr.cell? ⟨b, j * 2 + 1, none⟩ = some (.slice A1 l[j].args.length c1) := by simpa using hc 1 _ rfl
      have hKk : 0 < K := by omega
      have hKb : K + GCon.cnt l[j] ≤ 4611686018427387904 := by have := cntL_take_le GCon.cnt l j hlt; omega
      have HKB := Lib.hid hKb
      rw [GCon.cnt_eq] at hKb
      have HK := Lib.hid hK
      have hbl : b < wr.heap.size := Nat.lt_of_lt_of_le (HS.out b hSb) HT.out.size
      have M0 := Lib.hid (MSt.start (w := w) (wr := wr) (S := S) (T := T) (b := b) (lo := j * 2) (hi := j * 2 + 2) hf0 HT.out)
      obtain ⟨-, o1⟩ := how
      have O1_0 := Lib.hid o1
      clear o1
      have HPUT := Lib.hid hput
      clear hc hd hcl hput hK
      go_wp2_with fail
      refine (markTextI _ (K) (by omega) _ (by omega) (by omega)).mono ?_
      rintro e w1 ⟨rfl, hb1⟩
      have x0_1 : w1.cell? ⟨b, j * 2, none⟩ = some (.string l[j].name) := (hb1.cell (p := ⟨b, j * 2, none⟩) (Nat.lt_of_lt_of_le hbl (M0.out).size)).trans x0
      have x1_1 : w1.cell? ⟨b, j * 2 + 1, none⟩ = some (.slice A1 l[j].args.length c1) := (hb1.cell (p := ⟨b, j * 2 + 1, none⟩) (Nat.lt_of_lt_of_le hbl (M0.out).size)).trans x1
      have M1 := Lib.hid (MSt.below (M0.out) hb1 hbl HS.out)
      have hf1 := M1.out.fr
      have O1_1 := Lib.hid (Osl.belowS (O1_0.out) hb1 (fun q hq => Nat.lt_of_lt_of_le (HS.out q (hTS q ((fun _ h => h) q hq))) (M0.out).touch.size))
      clear x0 x1 hf0 hb1
      have OW2 := Lib.hid (Osl.set (o := j * 2) (O1_1.out) hTb (.string (markT (K))))
      have LT2 := Lib.hid (show ∀ q, T q → q < (w1.setCell ⟨b, j * 2, none⟩ (.string (markT (K)))).heap.size from (fun q hq => Nat.lt_of_lt_of_le (HS.out q (hTS q ((fun _ h => h) q hq))) (Nat.le_trans (((M1.out).set hSb (j * 2) (by omega) (by omega) (.string (markT (K))))).touch.size (Nat.le_refl _))))
      go_wp2_with fail
      refine (markTyS' l[j].args A1 c1 (K + 1) _ T _ (by omega) (by omega) (by omega) LT2.out OW2.out).mono ?_
      rintro e w2 ⟨rfl, ho2, ht2⟩
      have Q2 := Lib.hid ho2
      clear ho2
      have x0_2 : w2.cell? ⟨b, j * 2, none⟩ = some (.string (markT (K))) := (World.cell?_of_block (ht2.block b (Nat.lt_of_lt_of_le hbl (((M1.out).set hSb (j * 2) (by omega) (by omega) (.string (markT (K))))).size) hTb)).trans (World.cell?_setCell_same _ _ _ x0_1)
      have x1_2 : w2.cell? ⟨b, j * 2 + 1, none⟩ = some (.slice A1 l[j].args.length c1) := (World.cell?_of_block (ht2.block b (Nat.lt_of_lt_of_le hbl (((M1.out).set hSb (j * 2) (by omega) (by omega) (.string (markT (K))))).size) hTb)).trans ((cell_ne (by omega)).trans x1_1)
      have M2 := Lib.hid (MSt.mark (((M1.out).set hSb (j * 2) (by omega) (by omega) (.string (markT (K))))) ht2 (fun _ h => h) hTS hTb hbl HS.out)
      have hf2 := M2.out.fr
      clear x0_1 x1_1 hf1 ht2
      obtain ⟨K2, hK2⟩ : ∃ K2 : Nat, K2 = K + 1 + cntL GTy.cnt l[j].args := ⟨_, rfl⟩
      rw [← hK2]
      have HM := Lib.hid (M2.out)
      have HOW := Lib.hid (GCon.Ow_mark (w := w2) (S := T) (t := l[j]) (K := K) HKB.out Q2.out)
      have HC := Lib.hid (GCon.mark_cells l[j] K A1 c1  )
      have HP := Lib.hid (HPUT.out w2 (GCon.mark l[j] K).toD [.string (markT (K)), .slice A1 l[j].args.length c1] (HM.out.blk2 HS.out HT.out.size) HM.out.out HM.out.fr rfl
        (fun q v hv => by
          match q, hv with
          | 0, hv =>
            obtain rfl := Option.some.inj hv
            exact x0_2
          | 1, hv =>
            obtain rfl := Option.some.inj hv
            exact x1_2
          | q + 2, hv => cases hv)
        (by rw [HC.out]; exact GCon.own_mk HOW.out))
      have HTF := Lib.hid HM.out.touch
      have hKe := HK.out
      clear HK HOW HC HPUT
      go_wp2_with fail
      go_roundw
      case rel => exact ⟨j + 1, by omega, by go_num, by have := cntL_take_succ GCon.cnt l j hlt; have := GCon.cnt_eq l[j]; congr 1; omega, Lib.hid (by have e := markTo_set GCon.mark GCon.cnt l k j hlt; rw [← hKe] at e; rw [← e, List.map_set]; exact HP.out), HTF⟩
      case measure => simp [intOf]; omega
    · have hjl : j = l.length := by omega
      have Hj := Lib.hid hjl
      have HK := Lib.hid hK
      clear hjl hK
      go_wp2_with fail
      go_ret
      exact ⟨ret_int (by rw [HK.out, Hj.out, List.take_length]), by have := HO.out; rw [Hj.out, markTo_all] at this; exact this, HT.out⟩

theorem markConS' (l : List GCon) (A : Option Addr) (c k : Nat) (x : Int) (S : Nat → Prop) (w : World) (hx : x = k) (h0 : 0 < k) (hk : k + cntL GCon.cnt l ≤ 4611686018427387904) (hS : ∀ b, S b → b < w.heap.size) (hs : Osl w S 2 A c (l.map GCon.toD)) :
    Calls Try.prog 34 #[.slice A l.length c, .int .i64 x] w fun e w' => e = .returned (.int .i64 ((k + cntL GCon.cnt l : Nat) : Int)) ∧ Osl w' S 2 A c ((markL GCon.mark GCon.cnt l k).map GCon.toD) ∧ Touch S w w' :=
  markConS l A c k x S w hx h0 hk hS hs





end Go.Proofs.Ytnpkmebnmklcfaa
