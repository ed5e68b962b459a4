/- Tidy, in the reference. Conditions: what the program holds is at most 1048576. -/
import Derived.Test.YtgbcdfeflgnogaaTidyP
import Derived.Test.YtgbcdfeflgnogaaNodeS
import Derived.Test.YtgbcdfeflgnogaaNameOk
import Derived.Test.YtgbcdfeflgnogaaWithin
import Derived.Test.YtgbcdfeflgnogaaUp
import Derived.Deep.RegionHeld3
import Derived.Deep.DeepMust
namespace Go.Proofs.Ytgbcdfeflgnogaa
open Go.RowKit Go.BigFrame
set_option linter.unusedVariables false
set_option linter.unusedSimpArgs false
set_option maxHeartbeats 4000000

theorem anyT_take {α : Type} {p : α → Bool} {l : List α} {j : Nat} (h : j < l.length) : (l.take (j + 1)).any p = ((l.take j).any p || p l[j]) := by
  rw [List.take_succ_eq_append_getElem h, List.any_append]; simp
theorem anyT_hit {α : Type} {p : α → Bool} {l : List α} {j : Nat} (h : j < l.length) (e : p l[j] = true) : l.any p = true := List.any_eq_true.2 ⟨_, List.getElem_mem h, e⟩

set_option maxRecDepth 20000 in
theorem specTidy (p : GProg) (A1 : Option Addr) (c1 : Nat) (A2 : Option Addr) (c2 : Nat) (w : World) (hb : p.bulk ≤ 1048576) (hat : GProg.At w (Lt w.heap.size) A1 c1 A2 c2 p) :
    Calls Try.prog 30 #[.agg #[.slice A1 p.datas.length c1, .int .i64 p.main.op, .int .i64 p.main.n, .string p.main.s, .string p.main.t, .slice A2 p.main.kids.length c2]] w fun e w' => e = .returned (.bool (tidyP p)) ∧ Below w.heap.size w w' := by
  have hbe := p.bulk_eq
  have HBM := Lib.hid (show p.main.bulk ≤ 1048576 by omega)
  have HBD := Lib.hid (show bulkL GData.bulk p.datas ≤ 1048576 by omega)
  obtain ⟨hs, hm⟩ := hat
  have hlen : p.datas.length ≤ 9223372036854775807 := by simpa using hs.len
  have S0 := Lib.hid hs
  have M0 := Lib.hid hm
  have HVD := Lib.hid (fun (h : p.datas.any badG = true) => tidyP_data h)
  have HVM := Lib.hid (fun (h : p.datas.any badG = false) => tidyP_main h)
  obtain ⟨pd, hpd⟩ : ∃ pd : GData → Bool, pd = badG := ⟨_, rfl⟩
  have HPD := Lib.hid hpd
  rw [← hpd] at HVD HVM
  have R0 := Lib.hid (Row.new w 51 #[.slice A1 p.datas.length c1, .int .i64 p.main.op, .int .i64 p.main.n, .string p.main.s, .string p.main.t, .slice A2 p.main.kids.length c2])
  have E0 := Lib.hid (show Below w.heap.size w (w.alloc (.cells #[.slice A1 p.datas.length c1, .int .i64 p.main.op, .int .i64 p.main.n, .string p.main.s, .string p.main.t, .slice A2 p.main.kids.length c2] 51)) from (Below.refl _ _).alloc (Nat.le_refl _) _)
  clear hb hbe hs hm hpd
  go_enter Try.func30, Try.ntmps30
  go_wp2_with fail
  go_loopw [3] (fun i wr => ∃ (j : Nat), j ≤ p.datas.length ∧ i = .int .i64 j ∧ Hid ((p.datas.take j).any pd = false) ∧ Hid (Row wr w.heap.size 51 #[.slice A1 p.datas.length c1, .int .i64 p.main.op, .int .i64 p.main.n, .string p.main.s, .string p.main.t, .slice A2 p.main.kids.length c2]) ∧ Below w.heap.size w wr) (fun i _ => p.datas.length - (intOf i).toNat)
  case atStart => exact ⟨0, by omega, by go_num, Lib.hid (by simp), R0, E0.out⟩
  case round =>
    clear R0 E0
    obtain ⟨j, hj, rfl, HN, HR, hbl⟩ := hrel
    rename World => wo
    have hsz := hbl.size
    have hR := fun i => HR.out.cell i
    have hRl := HR.out.lt
    by_cases hlt : j < p.datas.length
    · obtain ⟨b, off, B1, d1, rfl, hSb, g0, g1, g2, hatd⟩ := GData.elem (S0.out.below hbl (Nat.le_refl _)) j hlt
      have hns : (p.datas[j]).name.size ≤ 9223372036854775807 := by have := hatd.1; unfold maxLen at this; omega
      have hcl : (p.datas[j]).cons.length ≤ 9223372036854775807 := by simpa using hatd.2.2.len
      have S1 := Lib.hid hatd.2.2
      have HBJ := Lib.hid (fun (k m : Nat) (hk : k < (p.datas[j]).cons.length) (hm : m < ((p.datas[j]).cons[k]).args.length) => Nat.le_trans (arg_bulk hlt hk hm) HBD.out)
      have HG := Lib.hid (show pd p.datas[j] = badG p.datas[j] by rw [HPD.out])
      have HT := Lib.hid (anyT_take (p := pd) hlt)
      have HH := Lib.hid (fun (e : pd p.datas[j] = true) => HVD.out (anyT_hit hlt e))
      obtain ⟨d, hd⟩ : ∃ d, d = p.datas[j] := ⟨_, rfl⟩
      rw [← hd] at g0 g1 g2 hns hcl S1 HG HT HH
      have E1 := Lib.hid (show Below wo.heap.size wo (wo.alloc (.cells #[.string d.name, .int .i64 d.vars, .slice B1 d.cons.length d1] 122)) from (Below.refl _ _).alloc (Nat.le_refl _) _)
      have RD := Lib.hid (Row.new wo 122 #[.string d.name, .int .i64 d.vars, .slice B1 d.cons.length d1])
      have RP := Lib.hid (HR.out.below E1.out hRl)
      have B1' := Lib.hid (hbl.trans (E1.out.mono hsz))
      have HBJ2 := Lib.hid (show ∀ (k m : Nat) (hk : k < d.cons.length) (hm : m < (d.cons[k]).args.length), ((d.cons[k]).args[m]).bulk ≤ 1048576 by rw [hd]; exact HBJ.out)
      clear hatd HBJ hd
      have HCN := Lib.hid (fun (wx : World) => specCon d.name wx hns)
      have HIV := Lib.hid (fun (wx : World) => specIn d.vars 0 26 wx)
      cases hcn : conB d.name
      · have HX := Lib.hid (HH.out (HG.out.trans (badG_name hcn)))
        rw [hcn] at HCN
        clear hcn
        go_wp2_with fail
        refine (HCN.out _).mono ?_
        rintro e w1 ⟨rfl, rfl⟩
        go_wp2_with fail
        go_ret
        exact ⟨ret_bool HX.out.symm, B1'.out⟩
      have HCN1 := Lib.hid hcn
      rw [hcn] at HCN
      clear hcn
      cases hiv : inB d.vars 0 26
      · have HX := Lib.hid (HH.out (HG.out.trans (badG_vars hiv)))
        rw [hiv] at HIV
        clear hiv
        go_wp2_with fail
        refine (HCN.out _).mono ?_
        rintro e w1 ⟨rfl, rfl⟩
        go_wp2_with fail
        refine (HIV.out _).mono ?_
        rintro e w1 ⟨rfl, rfl⟩
        go_wp2_with fail
        go_ret
        exact ⟨ret_bool HX.out.symm, B1'.out⟩
      have HIV1 := Lib.hid hiv
      have hv01 : 0 ≤ d.vars ∧ d.vars ≤ 26 := by have := hiv; unfold inB at this; simpa using this
      rw [hiv] at HIV
      clear hiv
      by_cases hc0 : d.cons.length = 0
      · have HX := Lib.hid (HH.out (HG.out.trans (badG_none hc0)))
        have e1 : ((d.cons.length : Int) == 0) = true := by rw [hc0]; rfl
        clear hc0
        go_wp2_with fail
        refine (HCN.out _).mono ?_
        rintro e w1 ⟨rfl, rfl⟩
        go_wp2_with fail
        refine (HIV.out _).mono ?_
        rintro e w1 ⟨rfl, rfl⟩
        go_wp2_with fail
        go_ret
        exact ⟨ret_bool HX.out.symm, B1'.out⟩
      have HNO := Lib.hid (fun (h : d.cons.any (badK d.vars) = false) => HG.out.trans (badG_not HCN1.out HIV1.out hc0 h))
      have HYE := Lib.hid (fun (h : d.cons.any (badK d.vars) = true) => HH.out (HG.out.trans (badG_con h)))
      have HTY := Lib.hid (fun (t : GTy) (X : Option Addr) (cx : Nat) (wx : World) (hx : GTy.At wx (Lt wx.heap.size) X cx t) => specTypeTidy d.vars hv01.1 hv01.2 (t.bulk + 1) t X cx wx (by omega) hx)
      have HDT := Lib.hid (fun (t : GTy) (X : Option Addr) (cx : Nat) (wx : World) (hbx : t.bulk ≤ 1048576) (hx : GTy.At wx (Lt wx.heap.size) X cx t) => specDeepTy t.deep t X cx wx (Nat.le_refl _) (by have := t.deep_bulk; omega) hx)
      have e1 : ((d.cons.length : Int) == 0) = false := by rw [beq_eq_false_iff_ne]; omega
      obtain ⟨pk, hpk⟩ : ∃ pk : GCon → Bool, pk = badK d.vars := ⟨_, rfl⟩
      have HPK := Lib.hid hpk
      rw [← hpk] at HNO HYE
      clear hpk hv01 hc0
      go_wp2_with fail
      refine (HCN.out _).mono ?_
      rintro e w1 ⟨rfl, rfl⟩
      go_wp2_with fail
      refine (HIV.out _).mono ?_
      rintro e w1 ⟨rfl, rfl⟩
      go_wp2_with fail
      go_loopw [5] (fun i wr2 => ∃ (k : Nat), k ≤ d.cons.length ∧ i = .int .i64 k ∧ Hid ((d.cons.take k).any pk = false) ∧ Hid (Row wr2 w.heap.size 51 #[.slice (some ⟨b, off, none⟩) p.datas.length c1, .int .i64 p.main.op, .int .i64 p.main.n, .string p.main.s, .string p.main.t, .slice A2 p.main.kids.length c2]) ∧ Hid (Row wr2 wo.heap.size 122 #[.string d.name, .int .i64 d.vars, .slice B1 d.cons.length d1]) ∧ Below w.heap.size w wr2) (fun i _ => d.cons.length - (intOf i).toNat)
      case atStart => exact ⟨0, by omega, by go_num, Lib.hid (by simp), RP, RD, B1'.out⟩
      case round =>
        clear RP RD B1'
        obtain ⟨k, hk, rfl, HK, HRP, HRD, hbk⟩ := hrel
        have hszk := hbk.size
        have hRD := fun i => HRD.out.cell i
        have hRDl := HRD.out.lt
        have hRPl := HRP.out.lt
        have S2 := Lib.hid (S1.out.keep (w' := wr) (S' := Lt w.heap.size) (fun q hq => ⟨hq, (hbk.block q hq).trans (hbl.block q hq).symm⟩))
        by_cases hkt : k < d.cons.length
        · obtain ⟨b2, off2, C2, e2, rfl, hSb2, p0, p1, hatc⟩ := GCon.elem S2.out k hkt
          have hks : (d.cons[k]).name.size ≤ 9223372036854775807 := by have := hatc.1; unfold maxLen at this; omega
          have hal : (d.cons[k]).args.length ≤ 9223372036854775807 := by simpa using hatc.2.len
          have HKT := Lib.hid (anyT_take (p := pk) hkt)
          have HKH := Lib.hid (fun (e : pk d.cons[k] = true) => HYE.out (anyT_hit hkt e))
          have HKG := Lib.hid (show pk d.cons[k] = (!conB (d.cons[k]).name || (d.cons[k]).args.any (badA d.vars)) by rw [HPK.out]; rfl)
          have HBK := Lib.hid (HBJ2.out k)
          obtain ⟨q, hq⟩ : ∃ q, q = d.cons[k] := ⟨_, rfl⟩
          have HBQ := Lib.hid (show ∀ (m : Nat) (hm : m < q.args.length), (q.args[m]).bulk ≤ 1048576 by rw [hq]; exact fun m hm => HBK.out m hkt hm)
          rw [← hq] at p0 p1 hks hal HKT HKH HKG
          have HQ := Lib.hid hq
          clear hatc HBK hq
          have HCK := Lib.hid (fun (wx : World) => specCon q.name wx hks)
          cases hck : conB q.name
          · have HX := Lib.hid (HKH.out (by rw [HKG.out, hck]; rfl))
            rw [hck] at HCK
            clear hck
            go_wp2_with fail
            refine (HCK.out _).mono ?_
            rintro e w1 ⟨rfl, rfl⟩
            go_wp2_with fail
            go_ret
            exact ⟨ret_bool HX.out.symm, hbk⟩
          have HKV := Lib.hid (show pk q = q.args.any (badA d.vars) by rw [HKG.out, hck]; rfl)
          rw [hck] at HCK
          clear hck
          obtain ⟨pa, hpa⟩ : ∃ pa : GTy → Bool, pa = badA d.vars := ⟨_, rfl⟩
          have HPA := Lib.hid hpa
          rw [← hpa] at HKV
          clear hpa
          go_wp2_with fail
          refine (HCK.out _).mono ?_
          rintro e w1 ⟨rfl, rfl⟩
          go_wp2_with fail
          rename World => wk
          go_loopw [6] (fun i wr3 => ∃ (m : Nat), m ≤ q.args.length ∧ i = .int .i64 m ∧ Hid ((q.args.take m).any pa = false) ∧ Hid (Row wr3 w.heap.size 51 #[.slice (some ⟨b, off, none⟩) p.datas.length c1, .int .i64 p.main.op, .int .i64 p.main.n, .string p.main.s, .string p.main.t, .slice A2 p.main.kids.length c2]) ∧ Hid (Row wr3 wo.heap.size 122 #[.string d.name, .int .i64 d.vars, .slice (some ⟨b2, off2, none⟩) d.cons.length d1]) ∧ Below w.heap.size w wr3) (fun i _ => q.args.length - (intOf i).toNat)
          case atStart => exact ⟨0, by omega, by go_num, Lib.hid (by simp), HRP, HRD, hbk⟩
          case round =>
            clear hRD hRDl hRPl HRP HRD p0 p1
            obtain ⟨m, hm, rfl, HM, HRP, HRD, hbm⟩ := hrel
            have hszm := hbm.size
            have hRD := fun i => HRD.out.cell i
            have hRDl := HRD.out.lt
            have hRPl := HRP.out.lt
            have S4 := Lib.hid (S2.out.keep (w' := wr) (S' := Lt w.heap.size) (fun q hq => ⟨hq, (hbm.block q hq).trans (hbk.block q hq).symm⟩))
            obtain ⟨b3, off3, A3, c3, eA3, hSb3, p0, p1, hat3⟩ := GCon.elem S4.out k hkt
            simp only [Option.some.injEq, Addr.mk.injEq, and_true] at eA3
            obtain ⟨rfl, rfl⟩ := eA3
            have hq := HQ.out
            rw [← hq] at p0 p1 hat3
            clear hq
            by_cases hmt : m < q.args.length
            · obtain ⟨b5, off5, A5, c5, rfl, hSb5, x0, x1, x2, x3, hat5⟩ := GTy.elem hat3.2 m hmt
              have HMT := Lib.hid (anyT_take (p := pa) hmt)
              have HMH := Lib.hid (fun (e : pa q.args[m] = true) => HKH.out (HKV.out.trans (anyT_hit hmt e)))
              have HMG := Lib.hid (show pa q.args[m] = (decide (24 < (q.args[m]).deep) || !(q.args[m]).tidy d.vars) by rw [HPA.out]; rfl)
              have HBT := Lib.hid (HBQ.out m hmt)
              obtain ⟨t, ht⟩ : ∃ t, t = q.args[m] := ⟨_, rfl⟩
              rw [← ht] at x0 x1 x2 x3 hat5 HMT HMH HMG HBT
              have HD := Lib.hid (fun (wx : World) (hb : Below wr.heap.size wr wx) => HDT.out t A5 c5 wx HBT.out (hat5.keep (fun q hq => ⟨Nat.lt_of_lt_of_le hq (Nat.le_trans hszm hb.size), hb.block q (Nat.lt_of_lt_of_le hq hszm)⟩)))
              have HE := Lib.hid (fun (wx : World) (hb : Below wr.heap.size wr wx) => HTY.out t A5 c5 wx (hat5.keep (fun q hq => ⟨Nat.lt_of_lt_of_le hq (Nat.le_trans hszm hb.size), hb.block q (Nat.lt_of_lt_of_le hq hszm)⟩)))
              have l2 : b2 < wr.heap.size := Nat.lt_of_lt_of_le hSb2 hszm
              have l5 : b5 < wr.heap.size := Nat.lt_of_lt_of_le hSb5 hszm
              have BM := Lib.hid hbm
              have HDV := Lib.hid HRD
              clear hat3 hat5 ht
              cases hdp : decide (24 < t.deep)
              · have hd1 : decide ((24 : Int) < (t.deep : Int)) = false := by rw [decide_eq_false_iff_not] at hdp ⊢; omega
                have hd2 : ¬ ((24 : Int) < (t.deep : Int)) := by simpa using hd1
                have hd3 : ¬ (24 < t.deep) := by omega
                have hd4 : decide (24 < t.deep) = false := decide_eq_false hd3
                cases htd : t.tidy d.vars
                all_goals
                  rw [htd] at HE
                  have HMV := Lib.hid (HMG.out.trans (by rw [hdp, htd]))
                  clear hdp htd
                  go_wp2_with fail
                  have q0 := upRow HRD.out
                  have q1 := upCell (p := ⟨b2, off2 + k * 2 + 1, none⟩) l2 p1
                  have q2 := upCell (p := ⟨b5, off5 + m * 4, none⟩) l5 x0
                  have q3 := upCell (p := ⟨b5, off5 + m * 4 + 1, none⟩) l5 x1
                  have q4 := upCell (p := ⟨b5, off5 + m * 4 + 2, none⟩) l5 x2
                  have q5 := upCell (p := ⟨b5, off5 + m * 4 + 3, none⟩) l5 x3
                  refine wp_region_up wr (Below.refl _ _) (by kernel_rfl) (by kernel_rfl) ?_
                  repeat (go_big_quiet_step (first
                    | (go_at_call 100; exact upCall (HD.out _ (Up.h _)))
                    | (go_at_call 101; exact upCall (HE.out _ (Up.h _)))))
                  refine wpQuiet_nil ?_
                  rintro w9 ⟨x9, e9⟩
                  have B9 := Lib.hid (show Below wr.heap.size wr w9 by rw [e9]; exact x9.h)
                  have RD9 := Lib.hid (HRD.out.below B9.out hRDl)
                  clear e9 x9 q0 q1 q2 q3 q4 q5
                  go_wp2_with fail
                  first
                  | (go_ret; first | exact ⟨ret_bool (HMH.out HMV.out).symm, BM.out.trans (B9.out.mono BM.out.size)⟩ | exact ⟨ret_bool (HMH.out HMV.out).symm, (BM.out.trans (B9.out.mono BM.out.size)).drew⟩ | exact ⟨ret_bool (HMH.out HMV.out).symm, belowN (BM.out.trans (B9.out.mono BM.out.size)) _⟩)
                  | (go_roundw
                     case rel => exact ⟨m + 1, by omega, by go_num, Lib.hid (by rw [HMT.out, HM.out, HMV.out]; rfl), Lib.hid (HRP.out.below B9.out hRPl), RD9, BM.out.trans (B9.out.mono BM.out.size)⟩
                     case measure => simp [intOf]; omega)
              · have hd1 : decide ((24 : Int) < (t.deep : Int)) = true := by rw [decide_eq_true_eq] at hdp ⊢; omega
                have hd2 : (24 : Int) < (t.deep : Int) := by simpa using hd1
                have hd3 : 24 < t.deep := by omega
                have hd4 : decide (24 < t.deep) = true := decide_eq_true hd3
                have HX := Lib.hid (HMH.out (HMG.out.trans (by rw [hdp]; rfl)))
                clear hdp
                go_wp2_with fail
                have q0 := upRow HRD.out
                have q1 := upCell (p := ⟨b2, off2 + k * 2 + 1, none⟩) l2 p1
                have q2 := upCell (p := ⟨b5, off5 + m * 4, none⟩) l5 x0
                have q3 := upCell (p := ⟨b5, off5 + m * 4 + 1, none⟩) l5 x1
                have q4 := upCell (p := ⟨b5, off5 + m * 4 + 2, none⟩) l5 x2
                have q5 := upCell (p := ⟨b5, off5 + m * 4 + 3, none⟩) l5 x3
                refine wp_region_up wr (Below.refl _ _) (by kernel_rfl) (by kernel_rfl) ?_
                repeat (go_big_quiet_step (first
                  | (go_at_call 100; exact upCall (HD.out _ (Up.h _)))
                  | (go_at_call 101; exact upCall (HE.out _ (Up.h _)))))
                refine wpQuiet_nil ?_
                rintro w9 ⟨x9, e9⟩
                have B9 := Lib.hid (show Below wr.heap.size wr w9 by rw [e9]; exact x9.h)
                have RD9 := Lib.hid (HRD.out.below B9.out hRDl)
                clear e9 x9 q0 q1 q2 q3 q4 q5
                go_wp2_with fail
                go_ret
                first | exact ⟨ret_bool HX.out.symm, BM.out.trans (B9.out.mono BM.out.size)⟩ | exact ⟨ret_bool HX.out.symm, (BM.out.trans (B9.out.mono BM.out.size)).drew⟩ | exact ⟨ret_bool HX.out.symm, belowN (BM.out.trans (B9.out.mono BM.out.size)) _⟩
            · have HM2 := Lib.hid (show pk q = false by have := HM.out; rw [show m = q.args.length by omega, List.take_length] at this; rw [HKV.out]; exact this)
              go_wp2_with fail
              go_roundw
              case rel => exact ⟨k + 1, by omega, by go_num, Lib.hid (by rw [HKT.out, HK.out, HM2.out]; rfl), HRP, HRD, hbm⟩
              case measure => simp [intOf]; omega
        · have HK2 := Lib.hid (show d.cons.any pk = false by have := HK.out; rwa [show k = d.cons.length by omega, List.take_length] at this)
          have HN2 := Lib.hid (show (p.datas.take (j + 1)).any pd = false by rw [HT.out, HN.out, HNO.out HK2.out]; rfl)
          go_wp2_with fail
          go_roundw
          case rel => exact ⟨j + 1, by omega, by go_num, HN2, HRP, hbk⟩
          case measure => simp [intOf]; omega
    · have HN2 := Lib.hid (show p.datas.any pd = false by have := HN.out; rwa [show j = p.datas.length by omega, List.take_length] at this)
      have HV := Lib.hid (HVM.out HN2.out)
      have HMA := Lib.hid (M0.out.below hbl hsz)
      have HDM := Lib.hid (fun (wx : World) (hx : GNode.At wx (Lt wx.heap.size) A2 c2 p.main) => specDeep p.main.deep p.main A2 c2 wx (Nat.le_refl _) (by have := p.main.deep_bulk; have := HBM.out; omega) hx)
      have HEM := Lib.hid (fun (wx : World) (hx : GNode.At wx (Lt wx.heap.size) A2 c2 p.main) => specExp (p.main.bulk + 1) p.main A2 c2 wx (by omega) hx)
      by_cases hdm : p.main.deep ≤ 24
      · have hd1 : (p.main.deep : Int) ≤ 24 := by omega
        have HVX := Lib.hid (HV.out.trans (by rw [decide_eq_true hdm, Bool.true_and]))
        clear hdm
        go_wp2_with fail
        refine (HDM.out _ HMA.out).mono ?_
        rintro e w1 ⟨rfl, hb1⟩
        have B1 := Lib.hid (hbl.trans (hb1.mono hsz))
        have R1 := Lib.hid (HR.out.below hb1 hRl)
        have hR1 := fun i => R1.out.cell i
        have HM1 := Lib.hid (M0.out.below B1.out B1.out.size)
        clear hb1
        go_wp2_with fail
        refine (HEM.out _ HM1.out).mono ?_
        rintro e w2 ⟨rfl, hb2⟩
        have B2 := Lib.hid (B1.out.trans (hb2.mono B1.out.size))
        clear hb2
        go_wp2_with fail
        go_ret
        exact ⟨ret_bool HVX.out.symm, B2.out⟩
      · have hd1 : ¬ (p.main.deep : Int) ≤ 24 := by omega
        have HVX := Lib.hid (HV.out.trans (by rw [decide_eq_false hdm, Bool.false_and]))
        clear hdm
        go_wp2_with fail
        refine (HDM.out _ HMA.out).mono ?_
        rintro e w1 ⟨rfl, hb1⟩
        have B1 := Lib.hid (hbl.trans (hb1.mono hsz))
        clear hb1
        go_wp2_with fail
        go_ret
        exact ⟨ret_bool HVX.out.symm, B1.out⟩
end Go.Proofs.Ytgbcdfeflgnogaa
