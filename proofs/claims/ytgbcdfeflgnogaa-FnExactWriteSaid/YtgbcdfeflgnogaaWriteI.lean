/- Write, in the program. Conditions: what the program holds is at most 1048576. -/
import Derived.Test.YtgbcdfeflgnogaaMh4
import Derived.Test.YtgbcdfeflgnogaaMh1
import Derived.Test.YtgbcdfeflgnogaaTidyI
import Derived.Test.YtgbcdfeflgnogaaTyText
namespace Go.Proofs.Ytgbcdfeflgnogaa
open Go.RowKit Go.BigFrame
set_option linter.unusedVariables false
set_option linter.unusedSimpArgs false
set_option maxHeartbeats 2000000

set_option maxRecDepth 20000 in
theorem implWriteP (p : GProg) (A1 : Option Addr) (c1 : Nat) (A2 : Option Addr) (c2 : Nat) (w : World) (hb : p.bulk ≤ 1048576) (hat : GProg.At w (Lt w.heap.size) A1 c1 A2 c2 p) :
    Calls Try.prog 85 #[.agg #[.slice A1 p.datas.length c1, .int .i64 p.main.op, .int .i64 p.main.n, .string p.main.s, .string p.main.t, .slice A2 p.main.kids.length c2]] w fun e w' => e = .returned (.string (writeT p)) ∧ Below w.heap.size w w' := by
  have hbe := p.bulk_eq
  have R0 := Lib.hid (Row.new w 51 #[.slice A1 p.datas.length c1, .int .i64 p.main.op, .int .i64 p.main.n, .string p.main.s, .string p.main.t, .slice A2 p.main.kids.length c2])
  have E0 := Lib.hid (show Below w.heap.size w (w.alloc (.cells #[.slice A1 p.datas.length c1, .int .i64 p.main.op, .int .i64 p.main.n, .string p.main.s, .string p.main.t, .slice A2 p.main.kids.length c2] 51)) from (Below.refl _ _).alloc (Nat.le_refl _) _)
  have HT := Lib.hid (fun (wx : World) (hx : GProg.At wx (Lt wx.heap.size) A1 c1 A2 c2 p) => implTidy p A1 c1 A2 c2 wx hb hx)
  have AT := Lib.hid hat
  have hlen : p.datas.length ≤ 9223372036854775807 := by simpa using hat.1.len
  have S0 := Lib.hid hat.1
  have M0 := Lib.hid hat.2
  clear hat
  cases ht : tidyP p
  · rw [ht] at HT
    have HV := Lib.hid (show writeT p = ⟨#[]⟩ by unfold writeT; rw [ht]; rfl)
    clear ht
    go_enter Try.func85, Try.ntmps85
    go_wp2_with fail
    refine (HT.out _ (AT.out.below E0.out E0.out.size)).mono ?_
    rintro e w1 ⟨rfl, hb1⟩
    have B1 := Lib.hid (E0.out.trans (hb1.mono E0.out.size))
    clear hb1
    go_wp2_with fail
    go_ret
    exact ⟨ret_str HV.out.symm, B1.out⟩
  rw [ht] at HT
  obtain ⟨hexp, hds⟩ := tidy_parts ht
  have HV := Lib.hid (show writeT p = catB (p.datas.map dataText) ++ p.main.text ++ ⟨#[10]⟩ by unfold writeT; rw [if_pos ht]; rfl)
  have HDS := Lib.hid hds
  have hzd := datas_size p.datas (fun d hd => (hds d hd).1.2)
  have hzm := p.main.text_size
  have HZJ := Lib.hid (fun (j : Nat) => show (catB ((p.datas.map dataText).take j)).size ≤ 65011712 from Nat.le_trans (catB_size _ j) (by omega))
  have HZM := Lib.hid (show p.main.text.size ≤ 41943060 by omega)
  have HBD := Lib.hid (show bulkL GData.bulk p.datas ≤ 1048576 by omega)
  have HMX := Lib.hid (fun (wx : World) (hx : GNode.At wx (Lt wx.heap.size) A2 c2 p.main) => implWrite (p.main.bulk + 1) p.main A2 c2 wx (by omega) (by omega) (.inl hexp) hx)
  clear ht hbe hb hexp hds hzd hzm
  go_enter Try.func85, Try.ntmps85
  go_wp2_with fail
  refine (HT.out _ (AT.out.below E0.out E0.out.size)).mono ?_
  rintro e w1 ⟨rfl, hb1⟩
  have B1 := Lib.hid (E0.out.trans (hb1.mono E0.out.size))
  have R1 := Lib.hid (R0.out.below hb1 R0.out.lt)
  have hR1 := fun i => R1.out.cell i
  clear hb1 R0 E0 HT
  go_wp2_with fail
  go_loopw [3, 19] (fun s i wr => ∃ (j : Nat), j ≤ p.datas.length ∧ i = .int .i64 j ∧ s = .string (catB ((p.datas.map dataText).take j)) ∧ Hid (Row wr w.heap.size 51 #[.slice A1 p.datas.length c1, .int .i64 p.main.op, .int .i64 p.main.n, .string p.main.s, .string p.main.t, .slice A2 p.main.kids.length c2]) ∧ Below w.heap.size w wr) (fun _ i _ => p.datas.length - (intOf i).toNat)
  case atStart => exact ⟨0, by omega, by go_num, rfl, R1, B1.out⟩
  case round =>
    clear R1 B1 hR1
    obtain ⟨j, hj, rfl, rfl, HR, hbl⟩ := hrel
    rename World => wo
    have hsz := hbl.size
    have hR := fun i => HR.out.cell i
    have hRl := HR.out.lt
    have hzj := HZJ.out j
    by_cases hlt : j < p.datas.length
    · obtain ⟨b, off, B1, d1, eA, hSb, g0, g1, g2, hatd⟩ := GData.elem (S0.out.below hbl (Nat.le_refl _)) j hlt
      subst eA
      have hcl : (p.datas[j]).cons.length ≤ 9223372036854775807 := by simpa using hatd.2.2.len
      have S1 := Lib.hid hatd.2.2
      have HCT := Lib.hid (show catB ((p.datas.map dataText).take (j + 1)) = catB ((p.datas.map dataText).take j) ++ dataText p.datas[j] by rw [catB_take _ j (by simpa using hlt), List.getElem_map])
      obtain ⟨⟨hv0, hv1⟩, hc0⟩ := HDS.out p.datas[j] (List.getElem_mem hlt)
      have hdb : (p.datas[j]).bulk ≤ 1048576 := by have := bulkL_mem GData.bulk p.datas _ (List.getElem_mem hlt); have := HBD.out; omega
      obtain ⟨d, hd⟩ : ∃ d, d = p.datas[j] := ⟨_, rfl⟩
      rw [← hd] at g0 g1 g2 hcl S1 HCT hv0 hv1 hc0 hdb
      have hdb2 := d.bulk_eq
      have hzn : d.name.size ≤ 1048576 := by omega
      have HBC := Lib.hid (show bulkL GCon.bulk d.cons ≤ 1048576 by omega)
      obtain ⟨o1, ho1⟩ : ∃ o1, o1 = catB ((p.datas.map dataText).take j) := ⟨_, rfl⟩
      rw [← ho1] at hzj HCT
      rw [← ho1]
      have hzl := cons_lens d.cons
      have hzl2 : lensB (d.cons.map conText) ≤ 26214400 := by omega
      have HZC := Lib.hid (fun (k : Nat) (hk : k < d.cons.length) => show (conText d.cons[k]).size ≤ 26214400 from by have := conText_size d.cons[k]; have := bulkL_mem GCon.bulk d.cons _ (List.getElem_mem hk); omega)
      have E1 := Lib.hid (show Below wo.heap.size wo (wo.alloc (.cells #[.string d.name, .int .i64 d.vars, .slice B1 d.cons.length d1] 122)) from (Below.refl _ _).alloc (Nat.le_refl _) _)
      have RD := Lib.hid (Row.new wo 122 #[.string d.name, .int .i64 d.vars, .slice B1 d.cons.length d1])
      have RP := Lib.hid (HR.out.below E1.out hRl)
      have B1' := Lib.hid (hbl.trans (E1.out.mono hsz))
      have hzv := fun (i : Nat) (hi : i ≤ 26) => show (varsText i).size ≤ 52 from by rw [varsText_size]; omega
      have HZV := Lib.hid hzv
      have hzc := fun (k : Nat) => show (consTo (d.cons.map conText) k).size ≤ 26214403 from by
        unfold consTo; split
        · rw [ba2]; omega
        · rw [ByteArray.size_append', ba3]; have := joinB_size (sep := ⟨#[32, 124, 32]⟩) (by rw [ba3]; omega) ((d.cons.map conText).take k); have := lensB_take (d.cons.map conText) k; omega
      have HZT := Lib.hid hzc
      obtain ⟨nv, hnv⟩ : ∃ nv : Nat, d.vars = (nv : Int) := ⟨d.vars.toNat, by omega⟩
      have hnv26 : nv ≤ 26 := by omega
      have HNV := Lib.hid hnv
      have HDT := Lib.hid (show dataText d = ⟨#[100, 97, 116, 97, 32]⟩ ++ d.name ++ varsText nv ++ (⟨#[32, 61, 32]⟩ ++ joinB ⟨#[32, 124, 32]⟩ (d.cons.map conText) ++ ⟨#[59, 10]⟩) by unfold dataText; rw [hnv]; rfl)
      clear hnv hatd hd ho1 hdb hdb2 hzl hzv hzc
      have z1 : ¬ 9223372036854775807 < 5 + d.name.size := by omega
      have z2 : ¬ 9223372036854775807 < o1.size + (5 + d.name.size) := by omega
      obtain ⟨X, hX⟩ : ∃ X, X = o1 ++ (⟨#[100, 97, 116, 97, 32]⟩ ++ d.name) := ⟨_, rfl⟩
      have HXX := Lib.hid hX
      have hzX : X.size ≤ 67000000 := by rw [hX]; simp only [ByteArray.size_append', ba5]; omega
      clear hX
      go_wp2_with fail
      rw [← HXX.out]
      go_loopw [3, 30] (fun s i wr2 => ∃ (k : Nat), k ≤ nv ∧ i = .int .i64 k ∧ s = .string (X ++ varsText k) ∧ Hid (Row wr2 w.heap.size 51 #[.slice (some ⟨b, off, none⟩) p.datas.length c1, .int .i64 p.main.op, .int .i64 p.main.n, .string p.main.s, .string p.main.t, .slice A2 p.main.kids.length c2]) ∧ Hid (Row wr2 wo.heap.size 122 #[.string d.name, .int .i64 d.vars, .slice B1 d.cons.length d1]) ∧ Below w.heap.size w wr2) (fun _ i _ => nv - (intOf i).toNat)
      case atStart => exact ⟨0, by omega, by go_num, by rw [show varsText 0 = ⟨#[]⟩ from rfl, tnil], RP, RD, B1'.out⟩
      case round =>
        clear RP RD B1' z1 z2
        obtain ⟨k, hk, rfl, rfl, HRP, HRD, hbk⟩ := hrel
        have hszk := hbk.size
        have hRD := fun i => HRD.out.cell i
        have hzk := HZV.out k (by omega)
        by_cases hkt : k < nv
        · have HVS := Lib.hid (varsText_succ k)
          have HTK := Lib.hid (fun (wx : World) => implLetterT (k : Int) wx (by omega) (by omega))
          have hg : (k : Int) < d.vars := by have := HNV.out; omega
          have hg2 : decide ((k : Int) < d.vars) = true := decide_eq_true hg
          have z1 : ¬ 9223372036854775807 < X.size + (varsText k).size := by omega
          have z2 : ¬ 9223372036854775807 < (1 + 1 : Nat) := by omega
          have z3 : ¬ 9223372036854775807 < X.size + (varsText k).size + (1 + 1) := by omega
          have z4 : ¬ 9223372036854775807 < X.size + (varsText k).size + 2 := by omega
          go_wp2_with fail
          refine (HTK.out _).mono ?_
          rintro e w2 ⟨rfl, rfl⟩
          go_wp2_with fail
          go_roundw
          case rel => exact ⟨k + 1, by omega, by go_num, by rw [HVS.out]; simp only [ba_assoc], HRP, HRD, hbk⟩
          case measure => simp [intOf]; omega
        · have hkn : k = nv := by omega
          subst hkn
          have hg : ¬ (k : Int) < d.vars := by have := HNV.out; omega
          have hg2 : decide ((k : Int) < d.vars) = false := decide_eq_false hg
          obtain ⟨Y, hY⟩ : ∃ Y, Y = X ++ varsText k := ⟨_, rfl⟩
          have HYY := Lib.hid hY
          have hzY : Y.size ≤ 67000100 := by rw [hY]; simp only [ByteArray.size_append']; omega
          rw [← hY]
          have hRDl := HRD.out.lt
          rename World => wv
          obtain ⟨wz, ez⟩ : ∃ wz, wz = wv.alloc (.cells #[] 9) := ⟨_, rfl⟩
          have EZ := Lib.hid (show Below wv.heap.size wv wz by rw [ez]; exact (Below.refl _ _).alloc (Nat.le_refl _) _)
          have G0 := Lib.hid (show Gsh wz wv.heap.size 9 1 (.slice (some ⟨wv.heap.size, 0, none⟩) 0 0) 0 [] from Gsh.made (by rw [ez]; exact Row.new' _ _ _ rfl) (Nat.le_refl _))
          have EQZ := Lib.hid ez
          clear hY ez
          go_wp2_with fail
          rw [← EQZ.out]
          go_loopw [7, 43] (fun v i wr3 => ∃ (m : Nat) (Av : Option Addr) (cv : Nat), m ≤ d.cons.length ∧ i = .int .i64 m ∧ v = .slice Av m cv ∧ Hid (Gsh wr3 wv.heap.size 9 1 (.slice Av m cv) m (((d.cons.map conText).take m).map D.str)) ∧ Hid (Below wv.heap.size wv wr3)) (fun _ i _ => d.cons.length - (intOf i).toNat)
          case atStart => exact ⟨0, _, _, by omega, by go_num, rfl, G0, EZ⟩
          case round =>
            clear G0 EZ hRD
            obtain ⟨m, Av, cv, hm, rfl, rfl, HG, HB⟩ := hrel
            rename World => wk
            have hszv := HB.out.size
            have hbm := hbk.trans (HB.out.mono hszk)
            have hszm := hbm.size
            have S2 := Lib.hid (S1.out.keep (w' := wk) (S' := Lt w.heap.size) (fun q hq => ⟨hq, (hbm.block q hq).trans (hbl.block q hq).symm⟩))
            by_cases hmt : m < d.cons.length
            · obtain ⟨b2, off2, C2, e2, eA, hSb2, p0, p1, hatc⟩ := GCon.elem S2.out m hmt
              subst eA
              have hal : (d.cons[m]).args.length ≤ 9223372036854775807 := by simpa using hatc.2.len
              have hzc := HZC.out m hmt
              have HBM := Lib.hid (show (d.cons[m]).bulk ≤ 1048576 by have := bulkL_mem GCon.bulk d.cons _ (List.getElem_mem hmt); have := HBC.out; omega)
              have HTK := Lib.hid (show (d.cons.map conText).take (m + 1) = (d.cons.map conText).take m ++ [conText d.cons[m]] by rw [List.take_succ_eq_append_getElem (by simpa using hmt), List.getElem_map])
              have hmb : m < 1048577 := by have := bulkL_len GCon.bulk d.cons; have := HBC.out; omega
              obtain ⟨q, hq⟩ : ∃ q, q = d.cons[m] := ⟨_, rfl⟩
              rw [← hq] at p0 p1 hatc hal hzc HBM HTK
              have hqs : q.name.size + (spaced (q.args.map GTy.text)).size ≤ 26214400 := by have h9 := hzc; unfold conText at h9; rw [ByteArray.size_append'] at h9; exact h9
              have HQS := Lib.hid (fun (n : Nat) => show (spaced ((q.args.map GTy.text).take n)).size ≤ 26214400 from Nat.le_trans (spaced_le _ n) (by omega))
              have HQC := Lib.hid (show conText q = q.name ++ spaced (q.args.map GTy.text) from rfl)
              have HTX := Lib.hid (fun (n : Nat) (hn : n < q.args.length) (X5 : Option Addr) (c5 : Nat) (wx : World) (hx : GTy.At wx (Lt wx.heap.size) X5 c5 q.args[n]) => implTyText (q.args[n].bulk + 1) q.args[n] X5 c5 wx (by omega) (by have := bulkL_mem GTy.bulk q.args _ (List.getElem_mem hn); have := GCon.args_bulk q; have := HBM.out; omega) hx)
              have HZX := Lib.hid (fun (n : Nat) (hn : n < q.args.length) => show (q.args[n]).text.size ≤ 26214425 from by have := (q.args[n]).text_size; have := bulkL_mem GTy.bulk q.args _ (List.getElem_mem hn); have := GCon.args_bulk q; have := HBM.out; omega)
              have E2 := Lib.hid (show Below wk.heap.size wk (wk.alloc (.cells #[.string q.name, .slice C2 q.args.length e2] 140)) from (Below.refl _ _).alloc (Nat.le_refl _) _)
              have S3 := Lib.hid hatc.2
              clear hatc hq
              go_wp2_with fail
              go_loopw [10, 52] (fun s i wr4 => ∃ (n : Nat), n ≤ q.args.length ∧ i = .int .i64 n ∧ s = .string (q.name ++ spaced ((q.args.map GTy.text).take n)) ∧ Hid (Below wk.heap.size wk wr4)) (fun _ i _ => q.args.length - (intOf i).toNat)
              case atStart => exact ⟨0, by omega, by go_num, by rw [List.take_zero]; simp only [spaced, tnil], E2⟩
              case round =>
                clear E2 p0 p1
                obtain ⟨n, hn, rfl, rfl, HB4⟩ := hrel
                have hszn := HB4.out.size
                have hzn2 := HQS.out n
                have S4 := Lib.hid (S3.out.keep (w' := wr) (S' := Lt w.heap.size) (fun q hq => ⟨hq, HB4.out.block q (Nat.lt_of_lt_of_le hq hszm)⟩))
                by_cases hnt : n < q.args.length
                · obtain ⟨b5, off5, A5, c5, eA, hSb5, x0, x1, x2, x3, hat5⟩ := GTy.elem S4.out n hnt
                  subst eA
                  have E5 := Lib.hid (show Below wr.heap.size wr (wr.alloc (.cells #[.int .i64 (q.args[n]).op, .int .i64 (q.args[n]).n, .string (q.args[n]).s, .slice A5 (q.args[n]).kids.length c5] 59)) from (Below.refl _ _).alloc (Nat.le_refl _) _)
                  have HXN := Lib.hid (HTX.out n hnt A5 c5 (wr.alloc (.cells #[.int .i64 (q.args[n]).op, .int .i64 (q.args[n]).n, .string (q.args[n]).s, .slice A5 (q.args[n]).kids.length c5] 59)) ((hat5.below (Below.refl _ _) (Nat.le_trans hszm hszn)).below E5.out E5.out.size))
                  have HSP := Lib.hid (show spaced ((q.args.map GTy.text).take (n + 1)) = spaced ((q.args.map GTy.text).take n) ++ (⟨#[32]⟩ ++ (q.args[n]).text) by rw [spaced_take _ n (by simpa using hnt), List.getElem_map])
                  have hzx := HZX.out n hnt
                  have y5 : ¬ 9223372036854775807 < q.name.size + (spaced ((q.args.map GTy.text).take n)).size := by omega
                  have y6 : ¬ 9223372036854775807 < 1 + (q.args[n]).text.size := by omega
                  have y7 : ¬ 9223372036854775807 < q.name.size + (spaced ((q.args.map GTy.text).take n)).size + (1 + (q.args[n]).text.size) := by omega
                  clear hat5
                  go_wp2_with fail
                  refine HXN.out.mono ?_
                  rintro e w2 ⟨rfl, hb2⟩
                  have B2 := Lib.hid ((HB4.out.trans (E5.out.mono hszn)).trans (hb2.mono (Nat.le_trans hszn E5.out.size)))
                  clear hb2
                  go_wp2_with fail
                  go_roundw
                  case rel => exact ⟨n + 1, by omega, by go_num, by rw [HSP.out]; simp only [ba_assoc], B2⟩
                  case measure => simp [intOf]; omega
                · have HSN := Lib.hid (show (q.args.map GTy.text).take n = q.args.map GTy.text by rw [List.take_of_length_le (by simp; omega)])
                  rw [HSN.out, ← HQC.out]
                  have G2 := Lib.hid (HG.out.below HB4.out hszv)
                  have HD := Lib.hid (show (D.str (conText q)).rd wr (Lt wv.heap.size) [.string (conText q)] from D.rd_str.2 ⟨rfl, by unfold maxLen; omega⟩)
                  have hszw := Nat.le_trans hszv hszn
                  have B4 := Lib.hid (HB.out.trans (HB4.out.mono hszv))
                  go_wp2_with (first | (at_builtin; refine wpList_append_S wr rfl (.tmp 62) (.tmp 64) 202 rfl 9 (.string ⟨#[]⟩) 1 16 Try.underlying202 (by kernel_rfl) rfl (by omega) wv.heap.size (.slice Av m cv) m _ G2.out (D.str (conText q)) [.string (conText q)] HD.out hszw rfl (by simp [Value.oneCell']) hmb (by omega) 9 rfl wr.heap.size rfl rfl ?_; intro g cap w3 G3 Bq3 hs3 hg3 hgl3))
                  go_roundw
                  case rel => exact ⟨m + 1, some ⟨g, 0, none⟩, cap, by omega, by go_num, rfl, Lib.hid (by rw [HTK.out, List.map_append]; exact G3), Lib.hid (B4.out.trans Bq3)⟩
                  case measure => simp [intOf]; omega
            · have hmn : m = d.cons.length := by omega
              subst hmn
              have HTE := Lib.hid (show (d.cons.map conText).take d.cons.length = d.cons.map conText by rw [List.take_of_length_le (by simp)])
              rw [HTE.out] at HG
              obtain ⟨A9, C9, eV, hSL⟩ := HG.out.sl hszv
              cases eV
              obtain ⟨b0, f0, ee0, hs0, -, -⟩ := hSL.strAtW 0 (by simp; omega)
              subst ee0
              have hcap : d.cons.length ≤ cv := by have := hSL.1; simpa using this
              have hlc : d.cons.length ≤ 1048576 := by have := bulkL_len GCon.bulk d.cons; have := HBC.out; omega
              obtain ⟨J, hJ⟩ : ∃ J, J = joinB ⟨#[32, 124, 32]⟩ (d.cons.map conText) := ⟨_, rfl⟩
              have hzJ : J.size ≤ 26214400 := by rw [hJ]; exact Nat.le_trans (joinB_size (by rw [ba3]; omega) _) hzl2
              have HJ := Lib.hid (implJoin b0 f0 cv (d.cons.map conText) ⟨#[32, 124, 32]⟩ wk (fun j h => hSL.cellsW j h) hs0 (by rw [List.length_map]; omega) (by rw [List.length_map]; exact hcap) (by rw [← hJ]; omega))
              rw [← hJ, List.length_map] at HJ
              have z1 : ¬ 9223372036854775807 < 3 + J.size := by omega
              have z2 : ¬ 9223372036854775807 < 3 + J.size + 2 := by omega
              have z3 : ¬ 9223372036854775807 < Y.size + (3 + J.size + 2) := by omega
              have HFI := Lib.hid (show Y ++ (⟨#[32, 61, 32]⟩ ++ J ++ ⟨#[59, 10]⟩) = catB ((p.datas.map dataText).take (j + 1)) by rw [HCT.out, HDT.out, hJ, HYY.out, HXX.out]; simp only [ba_assoc])
              have RP9 := Lib.hid (HRP.out.below HB.out HRP.out.lt)
              clear hSL hJ
              go_wp2_with fail
              refine HJ.out.mono ?_
              rintro e w2 ⟨rfl, hb2⟩
              have B2 := Lib.hid (hbm.trans (hb2.mono hszm))
              have RP2 := Lib.hid (RP9.out.below hb2 RP9.out.lt)
              clear hb2
              go_wp2_with fail
              go_roundw
              case rel => exact ⟨j + 1, by omega, by go_num, by rw [HFI.out], RP2, B2.out⟩
              case measure => simp [intOf]; omega
    · have HJE := Lib.hid (show catB ((p.datas.map dataText).take j) = catB (p.datas.map dataText) by rw [List.take_of_length_le (by simp; omega)])
      rw [HJE.out] at hzj ⊢
      have hzm := HZM.out
      have z1 : ¬ 9223372036854775807 < (catB (p.datas.map dataText)).size + p.main.text.size := by omega
      have z2 : ¬ 9223372036854775807 < (catB (p.datas.map dataText)).size + p.main.text.size + 1 := by omega
      obtain ⟨O, hO⟩ : ∃ O, O = catB (p.datas.map dataText) := ⟨_, rfl⟩
      rw [← hO] at z1 z2 HV ⊢
      have HM2 := Lib.hid (M0.out.below hbl hsz)
      clear hO hzj HJE
      go_wp2_with fail
      refine (HMX.out _ HM2.out).mono ?_
      rintro e w2 ⟨rfl, hb2⟩
      have B2 := Lib.hid (hbl.trans (hb2.mono hsz))
      clear hb2
      go_wp2_with fail
      go_ret
      exact ⟨ret_str (by rw [HV.out]), B2.out⟩
end Go.Proofs.Ytgbcdfeflgnogaa
