/- Coverage: all cons of a data, where rows begin with all of them, in the reference. Conditions: the sizes are bounded. -/
import Derived.Test.YtgbcdfeflgnogaaCoverW
namespace Go.Proofs.Ytgbcdfeflgnogaa
open Go.RowKit
set_option linter.unusedVariables false
set_option linter.unusedSimpArgs false
set_option maxHeartbeats 1000000

theorem any_snoc' {α : Type} (p : α → Bool) (l : List α) {j : Nat} (h : j < l.length) : (l.take (j + 1)).any p = ((l.take j).any p || p l[j]) := by
  rw [take_snoc' l j h, List.any_append]; simp

set_option maxRecDepth 20000 in
theorem specAll (X : Nat → Prop) (g : Nat) (s : Int) (ds : List GData) (A0 : Option Addr) (c0 : Nat) (rows : List (List GNode)) (A : Option Addr) (c : Nat) (w : World) (hX : ∀ b, w.heap.size ≤ b → X b)
    (hR : Row w g 130 #[.slice A0 ds.length c0, .int .i64 s]) (hds : Sl w (Lx X w) 3 A0 c0 (ds.map GData.toD)) (hn : ∀ r ∈ rows, 0 < r.length) (hM : ∀ d ∈ ds, d.cons.length ≤ 1048576 ∧ ∀ k ∈ d.cons, k.args.length ≤ 1048576) (hs : Sl w (Lx X w) 1 A c (rows.map rowD)) :
    Calls Try.prog 173 #[.pointer (some ⟨g, 0, none⟩), .slice A rows.length c] w (AllTo X (allR ds rows) w) := by
  have hlen : rows.length ≤ 9223372036854775807 := by simpa using hs.len
  have hdl : ds.length ≤ 9223372036854775807 := by simpa using hds.len
  have HX := Lib.hid hX
  have HS := Lib.hid hs
  have HD := Lib.hid hds
  have HN := Lib.hid hn
  have HM := Lib.hid hM
  have HG := Lib.hid hR
  have HT := Lib.hid (fun (j : Nat) (h : j < rows.length) => dataAt_snoc ds h)
  obtain ⟨w0, e0⟩ : ∃ w0, w0 = w.alloc (.cells #[] 49) := ⟨_, rfl⟩
  have E0 := Lib.hid (show Below w.heap.size w w0 by rw [e0]; exact (Below.refl _ _).alloc (Nat.le_refl _) _)
  have G0 := Lib.hid (show Grx X w0 w.heap.size 49 5 (.slice (some ⟨w.heap.size, 0, none⟩) 0 0) 0 [] from Grx.made (by rw [e0]; exact Row.new' _ _ _ rfl) (Nat.le_refl _))
  clear hX hs hds hn hM hR
  go_enter Try.func173, Try.ntmps173
  go_wp2_with fail
  rw [← e0]
  clear e0
  go_loopw [7, 8] (fun v i wr => ∃ (j : Nat) (d : Int), j ≤ rows.length ∧ i = .int .i64 j ∧ v = .int .i64 d ∧ Hid (d = dataAt ds (rows.take j)) ∧ Hid (Grx X wr w.heap.size 49 5 (.slice (some ⟨w.heap.size, 0, none⟩) 0 0) 0 []) ∧ Hid (Below w.heap.size w wr)) (fun _ i _ => rows.length - (intOf i).toNat)
  case atStart => exact ⟨0, -1, by omega, by go_num, rfl, Lib.hid rfl, G0, E0⟩
  case round =>
    rename World => wo
    clear G0 E0
    obtain ⟨j, d, hj, rfl, rfl, HV, HGx, HB⟩ := hrel
    have hsz := HB.out.size
    have HGr := Lib.hid (HG.out.below HB.out HG.out.lt)
    by_cases hrun : j < rows.length ∧ d < 0
    · obtain ⟨hlt, hd⟩ := hrun
      obtain ⟨b, off, A1, c1, rfl, hSb, g0, hs1⟩ := rowD_elem (HS.out.stay HB.out) j hlt
      obtain ⟨q, t, hqt⟩ := List.exists_cons_of_length_pos (HN.out _ (List.getElem_mem hlt))
      have HTJ := Lib.hid (HT.out j hlt)
      rw [hqt] at g0 hs1
      rw [List.length_cons] at g0
      obtain ⟨b1, off1, A2, c2, rfl, hSb1, hlc, hcm, q0, q1, q2, q3, q4, hat, -, -⟩ := row_head hs1
      have HQ := Lib.hid hqt
      clear hqt hat hs1 q1 q3 q4
      cases h20 : (q.op == 20)
      · have HW := Lib.hid (show d = dataAt ds (rows.take (j + 1)) by rw [HTJ.out, HQ.out, ← HV.out]; unfold dataStep; rw [if_neg (by rintro ⟨_, h⟩; change q.op = 20 at h; simp [h] at h20)])
        go_wp2_with fail
        go_roundw
        case rel => exact ⟨j + 1, d, by omega, by go_num, rfl, HW, HGx, HB⟩
        case measure => simp [intOf]; omega
      · have HW := Lib.hid (show (conI (conOf q.s ds 0)).1 = dataAt ds (rows.take (j + 1)) by rw [HTJ.out, HQ.out, ← HV.out]; unfold dataStep; rw [if_pos ⟨hd, by change q.op = 20; simpa using h20⟩]; rfl)
        have hcg := fun i => HGr.out.cell i
        have HC := Lib.hid (specConOf ds A0 c0 q.s wo.drew (HD.out.keep fun k hk => ⟨Nat.lt_of_lt_of_le hk.1 hsz, HB.out.block k hk.1⟩))
        go_wp2_with fail
        go_region_held3 (fun w' => (∀ i, w'.cell? ⟨g, i, none⟩ = (#[.slice A0 ds.length c0, .int .i64 s] : Array Value)[i]?) ∧ w'.cell? ⟨b, off + j, none⟩ = some (.slice (some ⟨b1, off1, none⟩) (t.length + 1) c1) ∧ w'.cell? ⟨b1, off1 + 2, none⟩ = some (.string q.s)) (first | exact ⟨hcg, g0, q2⟩ | exact ⟨hcg3, g3, q3⟩) (first
          | (go_at_call 215
             go_must (
               refine HC.out.mono ?_
               rintro e w3 ⟨rfl, hb3⟩
               have B3 := Lib.hid (((Below.refl wo.heap.size wo).drew).trans hb3)
               have R3 := Lib.hid (HGr.out.below B3.out HGr.out.lt)
               have hcg3 := fun i => R3.out.cell i
               have g3 := (B3.out.cell (p := ⟨b, off + j, none⟩) (Nat.lt_of_lt_of_le hSb.1 hsz)).trans g0
               have q3 := (B3.out.cell (p := ⟨b1, off1 + 2, none⟩) (Nat.lt_of_lt_of_le hSb1.1 hsz)).trans q2
               have G3 := Lib.hid (HGx.out.below B3.out)
               clear hb3)))
        all_goals
          go_wp2_with fail
          go_roundw
          case rel => exact ⟨j + 1, _, by omega, by go_num, rfl, HW, G3, Lib.hid (HB.out.trans (B3.out.mono hsz))⟩
          case measure => simp [intOf]; omega
    · have HVV := Lib.hid (show d = dataAt ds rows by
        by_cases hd : d < 0
        · rw [HV.out, show j = rows.length by omega, List.take_length]
        · have h1 := HV.out
          rw [h1]; exact (dataAt_stay (by omega)).symm)
      have hcond : (decide ((j : Int) < rows.length) && decide (d < 0)) = false := by
        simp only [Bool.and_eq_false_iff, decide_eq_false_iff_not]; omega
      rcases dataAt_range ds rows with hr | ⟨k, hk, hr⟩
      · have hd : d = -1 := by rw [HVV.out, hr]
        subst hd
        have hjn : ¬ j < rows.length := by omega
        have HN0 := Lib.hid (allR_neg (ds := ds) (rows := rows) (by rw [hr]; omega))
        clear hr hrun hcond
        go_wp2_with fail
        go_ret2
        rw [HN0.out]
        exact ⟨HB.out, _, _, _, rfl⟩
      · have hd : d = (k : Int) := by rw [HVV.out, hr]
        subst hd
        have HA := Lib.hid (allR_at hr hk)
        clear hr hrun hcond HVV HV
        have hcg := fun i => HGr.out.cell i
        obtain ⟨bd, offd, A1, c1, eA0, hSbd, x0, x1, x2, hatd⟩ := GData.elem HD.out k hk
        have hmem := HM.out _ (List.getElem_mem hk)
        have HMk := Lib.hid hmem.2
        have hcl := hmem.1
        have HC := Lib.hid hatd.2.2
        subst eA0
        clear hatd hmem x0 x1
        have X2 := Lib.hid x2
        clear x2
        have x2 := (HB.out.cell (p := ⟨bd, offd + k * 3 + 2, none⟩) hSbd.1).trans X2.out
        by_cases hjl : j < rows.length
        all_goals
          go_wp2_with fail
          clear hjl x2 hcg
          go_loopw [6, 9] (fun v i wp => ∃ (n : Nat) (A : Option Addr) (c : Nat), n ≤ (ds[k]).cons.length ∧ i = .int .i64 n ∧ v = .slice A n c ∧ Hid (allIn rows ((ds[k]).cons.take n) = true) ∧ Hid (Grx X wp w.heap.size 49 5 (.slice A n c) n ((((ds[k]).cons.take n).map conN).map GNode.toD)) ∧ Hid (Below w.heap.size w wp)) (fun _ i _ => (ds[k]).cons.length - (intOf i).toNat)
          case atStart => exact ⟨0, _, _, by omega, by go_num, rfl, Lib.hid rfl, HGx, HB⟩
          case round =>
            rename World => wp
            obtain ⟨n, A3, c3, hnl, rfl, rfl, HI, HGq, HBq⟩ := hrel
            have hsq := HBq.out.size
            have HGq2 := Lib.hid (HG.out.below HBq.out HG.out.lt)
            have hcg := fun i => HGq2.out.cell i
            have x2 := (HBq.out.cell (p := ⟨bd, offd + k * 3 + 2, none⟩) hSbd.1).trans X2.out
            by_cases hnt : n < (ds[k]).cons.length
            · have hn1 : n < 1048576 := by omega
              obtain ⟨b2, off2, A4, c4, rfl, hSb2, p0, p1, hatc⟩ := GCon.elem (show Sl wp (Lx X w) 2 A1 c1 ((ds[k]).cons.map GCon.toD) from HC.out.keep fun b hb => ⟨hb, HBq.out.block b hb.1⟩) n hnt
              have hal := HMk.out _ (List.getElem_mem hnt)
              have HNS := Lib.hid hatc.1
              clear hatc
              obtain ⟨w1, e1⟩ : ∃ w1, w1 = wp.alloc (.cells #[.string ((ds[k]).cons[n]).name, .slice A4 ((ds[k]).cons[n]).args.length c4] 140) := ⟨_, rfl⟩
              have E1 := Lib.hid (show Below wp.heap.size wp w1 by rw [e1]; exact (Below.refl _ _).alloc (Nat.le_refl _) _)
              have R1 := Lib.hid (show Row w1 wp.heap.size 140 #[.string ((ds[k]).cons[n]).name, .slice A4 ((ds[k]).cons[n]).args.length c4] by rw [e1]; exact Row.new' _ _ _ rfl)
              have HB1 := Lib.hid (HBq.out.trans (E1.out.mono hsq))
              have G1 := Lib.hid (HGq.out.below E1.out)
              have hs11 := HB1.out.size
              have HIS := Lib.hid (allIn_snoc (rows := rows) hnt)
              have HCN := Lib.hid (show ((ds[k]).cons.take (n + 1)).map conN = ((ds[k]).cons.take n).map conN ++ [conN (ds[k]).cons[n]] by rw [take_snoc' _ n hnt, List.map_append]; rfl)
              have HNO := Lib.hid (fun h => allIn_no (rows := rows) hnt h)
              generalize (ds[k]).cons[n] = con at *
              go_wp2_with fail
              rw [← e1]
              clear hcg x2
              go_loopw [11, 12] (fun v i wr => ∃ (m : Nat), m ≤ rows.length ∧ i = .int .i64 m ∧ v = .bool ((rows.take m).any (headIs con.name)) ∧ Hid (Below w1.heap.size w1 wr)) (fun _ i _ => rows.length - (intOf i).toNat)
              case atStart => exact ⟨0, by omega, by go_num, rfl, Lib.hid (Below.refl _ _)⟩
              case round =>
                obtain ⟨m, hm, rfl, rfl, HBi⟩ := hrel
                have hsi := HBi.out.size
                have HBwi := Lib.hid (HB1.out.trans (HBi.out.mono hs11))
                have Ri := Lib.hid (R1.out.below HBi.out R1.out.lt)
                have hci := fun i => Ri.out.cell i
                by_cases hmt : m < rows.length
                · obtain ⟨b5, off5, A5, c5, rfl, hSb5, g5, hs5⟩ := rowD_elem (HS.out.stay HBwi.out) m hmt
                  obtain ⟨q, t, hqt⟩ := List.exists_cons_of_length_pos (HN.out _ (List.getElem_mem hmt))
                  have HSN := Lib.hid (any_snoc' (headIs con.name) rows hmt)
                  rw [hqt] at g5 hs5 HSN
                  rw [List.length_cons] at g5
                  obtain ⟨b6, off6, A6, c6, rfl, hSb6, hlc, hcm, q0, q1, q2, q3, q4, hat, -, -⟩ := row_head hs5
                  clear hqt hat hs5 q1 q3 q4
                  cases hth : (rows.take m).any (headIs con.name)
                  case' true =>
                    have HW := Lib.hid (show (rows.take (m + 1)).any (headIs con.name) = true by rw [HSN.out, hth]; rfl)
                  case' false =>
                    cases h20 : (q.op == 20)
                    case' false =>
                      have HW := Lib.hid (show (rows.take (m + 1)).any (headIs con.name) = false by rw [HSN.out, hth]; unfold headIs hd; simp [h20])
                    case' true =>
                      have HW := Lib.hid (show (rows.take (m + 1)).any (headIs con.name) = (q.s.toList == con.name.toList) by rw [HSN.out, hth]; unfold headIs hd; simp [h20])
                  all_goals
                    clear hth
                    go_wp2_with fail
                    go_quiet (fail)
                    go_wp2_with fail
                    go_roundw
                    case rel => exact ⟨m + 1, by omega, by go_num, by rw [HW.out], Lib.hid (belowN HBi.out _)⟩
                    case measure => simp [intOf]; omega
                · have HE := Lib.hid (show rows.take m = rows by rw [show m = rows.length by omega, List.take_length])
                  rw [HE.out]
                  have Gi := Lib.hid (G1.out.below HBi.out)
                  cases hy : rows.any (headIs con.name)
                  · have HNN := Lib.hid (show allR ds rows = none by rw [HA.out, HNO.out hy]; rfl)
                    clear hy
                    go_wp2_with fail
                    go_ret2
                    rw [HNN.out]
                    exact ⟨HBwi.out, _, _, _, rfl⟩
                  · have HI2 := Lib.hid (show allIn rows ((ds[k]).cons.take (n + 1)) = true by rw [HIS.out, HI.out, hy]; rfl)
                    clear hy
                    have hsw := HBwi.out.size
                    have HX2 := Lib.hid (Xo.mk (X := X) (v := Value.slice A3 n c3) (fun g hg => (Gi.out.own g hg).2) (fun b hb => HX.out b (Nat.le_trans hsw hb)))
                    have hz2 : w.heap.size ≤ wr.heap.size := hsw
                    go_wp2_with fail
                    go_region_law (first
                      | (rw [← e6]
                         refine step_append_X w6 rfl (.tmp 106) (.tmp 114) 29 rfl 49 zNode 5 72 Try.underlying29 (by kernel_rfl) rfl (by omega) w.heap.size (.slice A3 n c3) n _ G6.out (some ⟨w5.heap.size, 0, none⟩) 1 1 _ rfl T6.out hs6 (by unfold maxLen; omega) (by omega) rfl rfl ?_
                         intro A7 c7 w7 G7 hGr7
                         have G7h := Lib.hid G7
                         have B7 := Lib.hid (HB6.out.trans (hGr7.below hs6 (fun g hg => (G6.out.own g hg).1)))
                         clear G7 hGr7)
                      | (go_simp
                         go_at_call 175
                         go_must (
                           refine (specAny (Xo (Value.slice A3 n c3) X) con.args.length [] none 0 wr.drew HX2.out (by simp; omega) (Sl.nil (by unfold maxLen; omega))).mono ?_
                           rintro e w5 ⟨A5, c5, rfl, hs5, hb5⟩
                           rw [List.append_nil] at hs5 ⊢
                           have E5 := Lib.hid (((Below.refl wr.heap.size wr).drew).trans hb5)
                           have R5 := Lib.hid (Ri.out.below E5.out Ri.out.lt)
                           have hc5 := fun i => R5.out.cell i
                           have HB5 := Lib.hid (HBwi.out.trans (E5.out.mono hsw))
                           obtain ⟨w6, e6⟩ : ∃ w6, w6 = w5.alloc (.cells #[.int .i64 20, .int .i64 0, .string con.name, .string ⟨#[]⟩, .slice A5 con.args.length c5] 49) := ⟨_, rfl⟩
                           have E6 := Lib.hid (show Below w5.heap.size w5 w6 by rw [e6]; exact (Below.refl _ _).alloc (Nat.le_refl _) _)
                           have HB6 := Lib.hid (HB5.out.trans (E6.out.mono HB5.out.size))
                           have G6 := Lib.hid ((Gi.out.below E5.out).below E6.out)
                           have hs6 := HB6.out.size
                           have T6 := Lib.hid (conRowSl (v := Value.slice A3 n c3) (fun g hg => Nat.lt_of_lt_of_le (Gi.out.own g hg).2 E5.out.size) (HX.out _ HB5.out.size) HNS.out e6 hs5)
                           clear hs5 hb5)))
                    all_goals
                      go_wp2_with fail
                      go_roundw
                      case rel => exact ⟨n + 1, A7, c7, by omega, by go_num, rfl, HI2, Lib.hid (by rw [HCN.out, List.map_append]; exact G7h.out), B7⟩
                      case measure => simp [intOf]; omega
            · have hne : n = (ds[k]).cons.length := by omega
              have HE := Lib.hid (show (ds[k]).cons.take n = (ds[k]).cons by rw [hne, List.take_length])
              clear hne
              go_wp2_with fail
              go_ret2
              have hI := HI.out
              have hG := HGq.out
              rw [HE.out] at hI hG
              rw [HA.out, if_pos hI]
              obtain ⟨A5, c5, e5, hs5⟩ := hG.sl HX.out
              have hl5 := hG.1
              obtain ⟨rfl, rfl⟩ : A3 = A5 ∧ c3 = c5 := by simpa using e5
              exact ⟨HBq.out, A3, c3, ret_sb (by rw [← hl5]; simp), hs5⟩
end Go.Proofs.Ytgbcdfeflgnogaa
