/- Tidy, in the program. Conditions: what the program holds is at most 1048576. -/
import Derived.Test.YtgbcdfeflgnogaaTidyS
import Derived.Test.YtgbcdfeflgnogaaNodeI
import Derived.Test.YtgbcdfeflgnogaaFTy
import Derived.Test.YtgbcdfeflgnogaaFData
import Derived.Deep.RegionHeld3
import Derived.Deep.DeepMust
namespace Go.Proofs.Ytgbcdfeflgnogaa
open Go.RowKit Go.BigFrame
set_option linter.unusedVariables false
set_option linter.unusedSimpArgs false
set_option maxHeartbeats 4000000


theorem implDepths1 (x : GTy) (A1 : Option Addr) (c1 : Nat) (w : World) (hb : x.bulk ≤ 1048576) (hat : GTy.At w (Lt w.heap.size) A1 c1 x) :
    Calls Try.prog 190 #[.agg #[.int .i64 x.op, .int .i64 x.n, .string x.s, .slice A1 x.kids.length c1]] w fun e w' => e = .returned (.bool (deepA x)) ∧ Below w.heap.size w w' := by
  have E : Below w.heap.size w (w.alloc (.cells #[.int .i64 x.op, .int .i64 x.n, .string x.s, .slice A1 x.kids.length c1] 59)) := (Below.refl _ _).alloc (Nat.le_refl _) _
  have HA := Lib.hid (hat.below E E.size)
  clear hat
  go_enter Try.func190, Try.ntmps190
  go_wp2_with fail
  refine (implDeepTy x.deep x A1 c1 _ (Nat.le_refl _) (by have := x.deep_bulk; omega) HA.out).mono ?_
  rintro e w1 ⟨rfl, hb1⟩
  have B1 := E.trans (hb1.mono E.size)
  clear hb1
  cases hd : decide (24 < x.deep)
  · have hx := Lib.hid (show deepA x = false from hd)
    have hd2 : ¬ ((24 : Int) < (x.deep : Int)) := by rw [decide_eq_false_iff_not] at hd; omega
    have hd3 : decide ((24 : Int) < (x.deep : Int)) = false := decide_eq_false hd2
    go_wp2_with fail
    go_ret
    exact ⟨ret_bool hx.out.symm, B1⟩
  · have hx := Lib.hid (show deepA x = true from hd)
    have hd2 : ((24 : Int) < (x.deep : Int)) := by rw [decide_eq_true_eq] at hd; omega
    have hd3 : decide ((24 : Int) < (x.deep : Int)) = true := decide_eq_true hd2
    go_wp2_with fail
    go_ret
    exact ⟨ret_bool hx.out.symm, B1⟩

theorem deepsOk_no {p : GProg} (h : p.datas.any deepG = true) : deepsOk p = false := by unfold deepsOk; rw [h]; rfl
theorem deepsOk_eq {p : GProg} (h : p.datas.any deepG = false) : deepsOk p = decide (p.main.deep ≤ 24) := by unfold deepsOk; rw [h]; rfl

set_option maxRecDepth 20000 in
theorem implDepthsOk (p : GProg) (A1 : Option Addr) (c1 : Nat) (A2 : Option Addr) (c2 : Nat) (w : World) (hb : p.bulk ≤ 1048576) (hat : GProg.At w (Lt w.heap.size) A1 c1 A2 c2 p) :
    Calls Try.prog 104 #[.agg #[.slice A1 p.datas.length c1, .int .i64 p.main.op, .int .i64 p.main.n, .string p.main.s, .string p.main.t, .slice A2 p.main.kids.length c2]] w fun e w' => e = .returned (.bool (deepsOk p)) ∧ Below w.heap.size w w' := by
  have hbe := p.bulk_eq
  have HBM := Lib.hid (show p.main.bulk ≤ 1048576 by omega)
  have HBD := Lib.hid (show bulkL GData.bulk p.datas ≤ 1048576 by omega)
  obtain ⟨hs, hm⟩ := hat
  have hlen : p.datas.length ≤ 9223372036854775807 := by simpa using hs.len
  have S0 := Lib.hid hs
  have M0 := Lib.hid hm
  have R0 := Lib.hid (Row.new w 51 #[.slice A1 p.datas.length c1, .int .i64 p.main.op, .int .i64 p.main.n, .string p.main.s, .string p.main.t, .slice A2 p.main.kids.length c2])
  have E0 := Lib.hid (show Below w.heap.size w (w.alloc (.cells #[.slice A1 p.datas.length c1, .int .i64 p.main.op, .int .i64 p.main.n, .string p.main.s, .string p.main.t, .slice A2 p.main.kids.length c2] 51)) from (Below.refl _ _).alloc (Nat.le_refl _) _)
  clear hb hbe hs hm
  go_enter Try.func104, Try.ntmps104
  go_wp2_with fail
  go_loopw [10] (fun i wr => ∃ (j : Nat), j ≤ p.datas.length ∧ i = .int .i64 j ∧ Hid ((p.datas.take j).any deepG = false) ∧ Hid (Row wr w.heap.size 51 #[.slice A1 p.datas.length c1, .int .i64 p.main.op, .int .i64 p.main.n, .string p.main.s, .string p.main.t, .slice A2 p.main.kids.length c2]) ∧ Below w.heap.size w wr) (fun i _ => p.datas.length - (intOf i).toNat)
  case atStart => exact ⟨0, by omega, by go_num, Lib.hid (by simp), R0, E0.out⟩
  case round =>
    clear R0 E0
    obtain ⟨j, hj, rfl, HN, HR, hbl⟩ := hrel
    rename World => wo
    have hsz := hbl.size
    have hR := fun i => HR.out.cell i
    have hRl := HR.out.lt
    by_cases hlt : j < p.datas.length
    · obtain ⟨b, off, B1, d1, eA, hSb, g0, g1, g2, hatd⟩ := GData.elem (S0.out.below hbl (Nat.le_refl _)) j hlt
      subst eA
      have hcl : (p.datas[j]).cons.length ≤ 9223372036854775807 := by simpa using hatd.2.2.len
      have S1 := Lib.hid hatd.2.2
      have HBJ := Lib.hid (fun (k m : Nat) (hk : k < (p.datas[j]).cons.length) (hm : m < ((p.datas[j]).cons[k]).args.length) => Nat.le_trans (arg_bulk hlt hk hm) HBD.out)
      have HT := Lib.hid (anyT_take (p := deepG) hlt)
      have HH := Lib.hid (fun (e : deepG p.datas[j] = true) => deepsOk_no (p := p) (anyT_hit hlt e))
      obtain ⟨d, hd⟩ : ∃ d, d = p.datas[j] := ⟨_, rfl⟩
      rw [← hd] at g0 g1 g2 hcl S1 HT HH
      have HG := Lib.hid (show deepG d = d.cons.any deepK from rfl)
      have E1 := Lib.hid (show Below wo.heap.size wo (wo.alloc (.cells #[.string d.name, .int .i64 d.vars, .slice B1 d.cons.length d1] 122)) from (Below.refl _ _).alloc (Nat.le_refl _) _)
      have RP := Lib.hid (HR.out.below E1.out hRl)
      have B1' := Lib.hid (hbl.trans (E1.out.mono hsz))
      have HBJ2 := Lib.hid (show ∀ (k m : Nat) (hk : k < d.cons.length) (hm : m < (d.cons[k]).args.length), ((d.cons[k]).args[m]).bulk ≤ 1048576 by rw [hd]; exact HBJ.out)
      clear hatd HBJ hd
      go_wp2_with fail
      go_loopw [17] (fun i wr2 => ∃ (k : Nat), k ≤ d.cons.length ∧ i = .int .i64 k ∧ Hid ((d.cons.take k).any deepK = false) ∧ Hid (Row wr2 w.heap.size 51 #[.slice (some ⟨b, off, none⟩) p.datas.length c1, .int .i64 p.main.op, .int .i64 p.main.n, .string p.main.s, .string p.main.t, .slice A2 p.main.kids.length c2]) ∧ Below w.heap.size w wr2) (fun i _ => d.cons.length - (intOf i).toNat)
      case atStart => exact ⟨0, by omega, by go_num, Lib.hid (by simp), RP, B1'.out⟩
      case round =>
        clear RP B1'
        obtain ⟨k, hk, rfl, HK, HRP, hbk⟩ := hrel
        have hszk := hbk.size
        have hRPl := HRP.out.lt
        have S2 := Lib.hid (S1.out.keep (w' := wr) (S' := Lt w.heap.size) (fun q hq => ⟨hq, (hbk.block q hq).trans (hbl.block q hq).symm⟩))
        by_cases hkt : k < d.cons.length
        · obtain ⟨b2, off2, C2, e2, eA, hSb2, p0, p1, hatc⟩ := GCon.elem S2.out k hkt
          subst eA
          have hal : (d.cons[k]).args.length ≤ 9223372036854775807 := by simpa using hatc.2.len
          have HKT := Lib.hid (anyT_take (p := deepK) hkt)
          have HKH := Lib.hid (fun (e : deepK d.cons[k] = true) => HH.out (HG.out.trans (anyT_hit hkt e)))
          have HBK := Lib.hid (HBJ2.out k)
          obtain ⟨q, hq⟩ : ∃ q, q = d.cons[k] := ⟨_, rfl⟩
          have HBQ := Lib.hid (show ∀ (m : Nat) (hm : m < q.args.length), (q.args[m]).bulk ≤ 1048576 by rw [hq]; exact fun m hm => HBK.out m hkt hm)
          rw [← hq] at p0 p1 hal HKT HKH hatc
          have HKG := Lib.hid (show deepK q = q.args.any deepA from rfl)
          have E2 := Lib.hid (show Below wr.heap.size wr (wr.alloc (.cells #[.string q.name, .slice C2 q.args.length e2] 140)) from (Below.refl _ _).alloc (Nat.le_refl _) _)
          have B2 := Lib.hid (hbk.trans (E2.out.mono hszk))
          have HS := Lib.hid ((hatc.2.below (Below.refl _ _) hszk).below E2.out E2.out.size)
          have HX := Lib.hid (fun (wx : World) (hsx : Sl wx (Lt wx.heap.size) 4 C2 e2 (q.args.map GTy.toD)) => containsFuncTy 190 (enters Try.func190 (by kernel_rfl) (by kernel_rfl)) #[] deepA q.args C2 e2 wx hsx (fun x hx A3 c3 w3 hb3 hat3 => implDepths1 x A3 c3 w3 (by obtain ⟨m, hm, rfl⟩ := List.getElem_of_mem hx; exact HBQ.out m hm) hat3))
          clear hatc HBK hq
          cases hh : q.args.any deepA
          all_goals
            rw [hh] at HX
            have HV := Lib.hid (HKG.out.trans hh)
            clear hh
            go_wp2_with fail
            refine (HX.out _ HS.out).mono ?_
            rintro e w1 ⟨rfl, hb1⟩
            have B3 := Lib.hid (B2.out.trans (hb1.mono B2.out.size))
            have R3 := Lib.hid ((HRP.out.below E2.out hRPl).below hb1 (HRP.out.below E2.out hRPl).lt)
            clear hb1
            go_wp2_with fail
            first
            | (go_ret; exact ⟨ret_bool (HKH.out HV.out).symm, B3.out⟩)
            | (go_roundw
               case rel => exact ⟨k + 1, by omega, by go_num, Lib.hid (by rw [HKT.out, HK.out, HV.out]; rfl), R3, B3.out⟩
               case measure => simp [intOf]; omega)
        · have HK2 := Lib.hid (show deepG d = false by rw [HG.out]; have := HK.out; rwa [show k = d.cons.length by omega, List.take_length] at this)
          have HN2 := Lib.hid (show (p.datas.take (j + 1)).any deepG = false by rw [HT.out, HN.out, HK2.out]; rfl)
          go_wp2_with fail
          go_roundw
          case rel => exact ⟨j + 1, by omega, by go_num, HN2, HRP, hbk⟩
          case measure => simp [intOf]; omega
    · have HN2 := Lib.hid (show p.datas.any deepG = false by have := HN.out; rwa [show j = p.datas.length by omega, List.take_length] at this)
      have HV := Lib.hid (deepsOk_eq HN2.out)
      have HMA := Lib.hid (M0.out.below hbl hsz)
      have HDM := Lib.hid (fun (wx : World) (hx : GNode.At wx (Lt wx.heap.size) A2 c2 p.main) => implDeep p.main.deep p.main A2 c2 wx (Nat.le_refl _) (by have := p.main.deep_bulk; have := HBM.out; omega) hx)
      by_cases hdm : p.main.deep ≤ 24
      · have hd1 : (p.main.deep : Int) ≤ 24 := by omega
        have HVX := Lib.hid (HV.out.trans (decide_eq_true hdm))
        clear hdm
        go_wp2_with fail
        refine (HDM.out _ HMA.out).mono ?_
        rintro e w1 ⟨rfl, hb1⟩
        have B1 := Lib.hid (hbl.trans (hb1.mono hsz))
        clear hb1
        go_wp2_with fail
        go_ret
        first | exact ⟨ret_bool HVX.out.symm, B1.out⟩ | exact ⟨ret_bool (by rw [HVX.out]; simp [hd1]), B1.out⟩
      · have hd1 : ¬ (p.main.deep : Int) ≤ 24 := by omega
        have HVX := Lib.hid (HV.out.trans (decide_eq_false hdm))
        clear hdm
        go_wp2_with fail
        refine (HDM.out _ HMA.out).mono ?_
        rintro e w1 ⟨rfl, hb1⟩
        have B1 := Lib.hid (hbl.trans (hb1.mono hsz))
        clear hb1
        go_wp2_with fail
        go_ret
        first | exact ⟨ret_bool HVX.out.symm, B1.out⟩ | exact ⟨ret_bool (by rw [HVX.out]; simp [hd1]), B1.out⟩

theorem implDataTidy1 (vs : Int) (hv0 : 0 ≤ vs) (hv1 : vs ≤ 26) (b : Nat) (x : GTy) (A1 : Option Addr) (c1 : Nat) (w : World) (hc : w.cell? ⟨b, 1, none⟩ = some (.int .i64 vs)) (hbl : b < w.heap.size) (hat : GTy.At w (Lt w.heap.size) A1 c1 x) :
    Calls Try.prog 199 (#[.agg #[.int .i64 x.op, .int .i64 x.n, .string x.s, .slice A1 x.kids.length c1]] ++ #[.pointer (some ⟨b, 0, none⟩)]) w fun e w' => e = .returned (.bool (!x.tidy vs)) ∧ Below w.heap.size w w' := by
  have E : Below w.heap.size w (w.alloc (.cells #[.int .i64 x.op, .int .i64 x.n, .string x.s, .slice A1 x.kids.length c1] 59)) := (Below.refl _ _).alloc (Nat.le_refl _) _
  have HA := Lib.hid (hat.below E E.size)
  have hc2 := (E.cell (p := ⟨b, 1, none⟩) hbl).trans hc
  clear hat
  go_enter Try.func199, Try.ntmps199
  go_wp2_with fail
  refine (implTypeTidy vs hv0 hv1 (x.bulk + 1) x A1 c1 _ (by omega) HA.out).mono ?_
  rintro e w1 ⟨rfl, hb1⟩
  have B1 := E.trans (hb1.mono E.size)
  clear hb1
  go_wp2_with fail
  go_ret
  exact ⟨rfl, B1⟩

set_option maxRecDepth 20000 in
theorem implDataTidy (d : GData) (B1 : Option Addr) (d1 : Nat) (w : World) (hat : GData.At w (Lt w.heap.size) B1 d1 d) :
    Calls Try.prog 108 #[.agg #[.string d.name, .int .i64 d.vars, .slice B1 d.cons.length d1]] w fun e w' => e = .returned (.bool (!untidyG d)) ∧ Below w.heap.size w w' := by
  have hns : d.name.size ≤ 9223372036854775807 := by have := hat.1; unfold maxLen at this; omega
  have hcl : d.cons.length ≤ 9223372036854775807 := by simpa using hat.2.2.len
  have S0 := Lib.hid hat.2.2
  have R0 := Lib.hid (Row.new w 122 #[.string d.name, .int .i64 d.vars, .slice B1 d.cons.length d1])
  have E0 := Lib.hid (show Below w.heap.size w (w.alloc (.cells #[.string d.name, .int .i64 d.vars, .slice B1 d.cons.length d1] 122)) from (Below.refl _ _).alloc (Nat.le_refl _) _)
  have HCN := Lib.hid (fun (wx : World) => implConOk d.name wx hns)
  have HIV := Lib.hid (fun (wx : World) => implWithin d.vars 0 26 wx)
  clear hat
  cases hcn : conB d.name
  · have HX := Lib.hid (show (!untidyG d) = false by rw [untidyG_name hcn]; rfl)
    rw [hcn] at HCN
    clear hcn
    go_enter Try.func108, Try.ntmps108
    go_wp2_with fail
    refine (HCN.out _).mono ?_
    rintro e w1 ⟨rfl, rfl⟩
    go_wp2_with fail
    go_ret
    exact ⟨ret_bool HX.out.symm, E0.out⟩
  have HCN1 := Lib.hid hcn
  rw [hcn] at HCN
  clear hcn
  cases hiv : inB d.vars 0 26
  · have HX := Lib.hid (show (!untidyG d) = false by rw [untidyG_vars hiv]; rfl)
    rw [hiv] at HIV
    clear hiv
    go_enter Try.func108, Try.ntmps108
    go_wp2_with fail
    refine (HCN.out _).mono ?_
    rintro e w1 ⟨rfl, rfl⟩
    go_wp2_with fail
    refine (HIV.out _).mono ?_
    rintro e w1 ⟨rfl, rfl⟩
    go_wp2_with fail
    go_ret
    exact ⟨ret_bool HX.out.symm, E0.out⟩
  have HIV1 := Lib.hid hiv
  have hv01 : 0 ≤ d.vars ∧ d.vars ≤ 26 := by have := hiv; unfold inB at this; simpa using this
  rw [hiv] at HIV
  clear hiv
  by_cases hc0 : d.cons.length = 0
  · have HX := Lib.hid (show (!untidyG d) = false by rw [untidyG_none hc0]; rfl)
    have e1 : ((d.cons.length : Int) == 0) = true := by rw [hc0]; rfl
    clear hc0
    go_enter Try.func108, Try.ntmps108
    go_wp2_with fail
    refine (HCN.out _).mono ?_
    rintro e w1 ⟨rfl, rfl⟩
    go_wp2_with fail
    refine (HIV.out _).mono ?_
    rintro e w1 ⟨rfl, rfl⟩
    go_wp2_with fail
    go_ret
    exact ⟨ret_bool HX.out.symm, E0.out⟩
  have HNO := Lib.hid (fun (h : d.cons.any (untidyK d.vars) = false) => untidyG_not HCN1.out HIV1.out hc0 h)
  have HYE := Lib.hid (fun (h : d.cons.any (untidyK d.vars) = true) => show (!untidyG d) = false by rw [untidyG_con h]; rfl)
  have HV := Lib.hid hv01
  have e1 : ((d.cons.length : Int) == 0) = false := by rw [beq_eq_false_iff_ne]; omega
  obtain ⟨pk, hpk⟩ : ∃ pk : GCon → Bool, pk = untidyK d.vars := ⟨_, rfl⟩
  have HPK := Lib.hid hpk
  rw [← hpk] at HNO HYE
  clear hpk hv01 hc0
  go_enter Try.func108, Try.ntmps108
  go_wp2_with fail
  refine (HCN.out _).mono ?_
  rintro e w1 ⟨rfl, rfl⟩
  go_wp2_with fail
  refine (HIV.out _).mono ?_
  rintro e w1 ⟨rfl, rfl⟩
  go_wp2_with fail
  go_loopw [24] (fun i wr => ∃ (k : Nat), k ≤ d.cons.length ∧ i = .int .i64 k ∧ Hid ((d.cons.take k).any pk = false) ∧ Hid (Row wr w.heap.size 122 #[.string d.name, .int .i64 d.vars, .slice B1 d.cons.length d1]) ∧ Below w.heap.size w wr) (fun i _ => d.cons.length - (intOf i).toNat)
  case atStart => exact ⟨0, by omega, by go_num, Lib.hid (by simp), R0, E0.out⟩
  case round =>
    clear R0 E0
    obtain ⟨k, hk, rfl, HK, HR, hbk⟩ := hrel
    have hszk := hbk.size
    have hRl := HR.out.lt
    by_cases hkt : k < d.cons.length
    · obtain ⟨b2, off2, C2, e2, eA, hSb2, p0, p1, hatc⟩ := GCon.elem (S0.out.below hbk (Nat.le_refl _)) k hkt
      subst eA
      have hks : (d.cons[k]).name.size ≤ 9223372036854775807 := by have := hatc.1; unfold maxLen at this; omega
      have hal : (d.cons[k]).args.length ≤ 9223372036854775807 := by simpa using hatc.2.len
      have HKT := Lib.hid (anyT_take (p := pk) hkt)
      have HKH := Lib.hid (fun (e : pk d.cons[k] = true) => HYE.out (anyT_hit hkt e))
      have HKG := Lib.hid (show pk d.cons[k] = (!conB (d.cons[k]).name || (d.cons[k]).args.any (fun t => !t.tidy d.vars)) by rw [HPK.out]; rfl)
      obtain ⟨q, hq⟩ : ∃ q, q = d.cons[k] := ⟨_, rfl⟩
      rw [← hq] at p0 p1 hks hal HKT HKH HKG hatc
      have E2 := Lib.hid (show Below wr.heap.size wr (wr.alloc (.cells #[.string q.name, .slice C2 q.args.length e2] 140)) from (Below.refl _ _).alloc (Nat.le_refl _) _)
      have B2 := Lib.hid (hbk.trans (E2.out.mono hszk))
      have R2 := Lib.hid (HR.out.below E2.out hRl)
      have HS := Lib.hid ((hatc.2.below (Below.refl _ _) hszk).below E2.out E2.out.size)
      have HCK := Lib.hid (fun (wx : World) => implConOk q.name wx hks)
      have HX := Lib.hid (fun (wx : World) (hr : Row wx w.heap.size 122 #[.string d.name, .int .i64 d.vars, .slice (some ⟨b2, off2, none⟩) d.cons.length d1]) (hsx : Sl wx (Lt wx.heap.size) 4 C2 e2 (q.args.map GTy.toD)) => containsFuncTy 199 (enters Try.func199 (by kernel_rfl) (by kernel_rfl)) #[.pointer (some ⟨w.heap.size, 0, none⟩)] (fun t => !t.tidy d.vars) q.args C2 e2 wx hsx (fun x hx A3 c3 w3 hb3 hat3 => implDataTidy1 d.vars HV.out.1 HV.out.2 w.heap.size x A3 c3 w3 ((hr.below hb3 hr.lt).cell 1) (hr.below hb3 hr.lt).lt hat3))
      clear hatc hq
      cases hck : conB q.name
      · have HZ := Lib.hid (HKH.out (by rw [HKG.out, hck]; rfl))
        rw [hck] at HCK
        clear hck
        go_wp2_with fail
        refine (HCK.out _).mono ?_
        rintro e w1 ⟨rfl, rfl⟩
        go_wp2_with fail
        go_ret
        exact ⟨ret_bool HZ.out.symm, B2.out⟩
      have HKV := Lib.hid (show pk q = q.args.any (fun t => !t.tidy d.vars) by rw [HKG.out, hck]; rfl)
      rw [hck] at HCK
      clear hck
      cases hh : q.args.any (fun t => !t.tidy d.vars)
      all_goals
        rw [hh] at HX
        have HVV := Lib.hid (HKV.out.trans hh)
        clear hh
        go_wp2_with fail
        refine (HCK.out _).mono ?_
        rintro e w1 ⟨rfl, rfl⟩
        go_wp2_with fail
        refine (HX.out _ R2.out HS.out).mono ?_
        rintro e w1 ⟨rfl, hb1⟩
        have B3 := Lib.hid (B2.out.trans (hb1.mono B2.out.size))
        have R3 := Lib.hid (R2.out.below hb1 R2.out.lt)
        clear hb1
        go_wp2_with fail
        first
        | (go_ret; exact ⟨ret_bool (HKH.out HVV.out).symm, B3.out⟩)
        | (go_roundw
           case rel => exact ⟨k + 1, by omega, by go_num, Lib.hid (by rw [HKT.out, HK.out, HVV.out]; rfl), R3, B3.out⟩
           case measure => simp [intOf]; omega)
    · have HK2 := Lib.hid (show (!untidyG d) = true by rw [HNO.out (by have := HK.out; rwa [show k = d.cons.length by omega, List.take_length] at this)]; rfl)
      go_wp2_with fail
      go_ret
      exact ⟨ret_bool HK2.out.symm, hbk⟩

theorem implTidy1 (d : GData) (B1 : Option Addr) (d1 : Nat) (w : World) (hat : GData.At w (Lt w.heap.size) B1 d1 d) :
    Calls Try.prog 107 #[.agg #[.string d.name, .int .i64 d.vars, .slice B1 d.cons.length d1]] w fun e w' => e = .returned (.bool (untidyG d)) ∧ Below w.heap.size w w' := by
  have E : Below w.heap.size w (w.alloc (.cells #[.string d.name, .int .i64 d.vars, .slice B1 d.cons.length d1] 122)) := (Below.refl _ _).alloc (Nat.le_refl _) _
  have HA := Lib.hid (hat.below E E.size)
  clear hat
  go_enter Try.func107, Try.ntmps107
  go_wp2_with fail
  refine (implDataTidy d B1 d1 _ HA.out).mono ?_
  rintro e w1 ⟨rfl, hb1⟩
  have B1' := E.trans (hb1.mono E.size)
  clear hb1
  go_wp2_with fail
  go_ret
  first | exact ⟨rfl, B1'⟩ | exact ⟨ret_bool (Bool.not_not _), B1'⟩

set_option maxRecDepth 20000 in
theorem implTidy (p : GProg) (A1 : Option Addr) (c1 : Nat) (A2 : Option Addr) (c2 : Nat) (w : World) (hb : p.bulk ≤ 1048576) (hat : GProg.At w (Lt w.heap.size) A1 c1 A2 c2 p) :
    Calls Try.prog 32 #[.agg #[.slice A1 p.datas.length c1, .int .i64 p.main.op, .int .i64 p.main.n, .string p.main.s, .string p.main.t, .slice A2 p.main.kids.length c2]] w fun e w' => e = .returned (.bool (tidyP p)) ∧ Below w.heap.size w w' := by
  have R0 := Lib.hid (Row.new w 51 #[.slice A1 p.datas.length c1, .int .i64 p.main.op, .int .i64 p.main.n, .string p.main.s, .string p.main.t, .slice A2 p.main.kids.length c2])
  have E0 := Lib.hid (show Below w.heap.size w (w.alloc (.cells #[.slice A1 p.datas.length c1, .int .i64 p.main.op, .int .i64 p.main.n, .string p.main.s, .string p.main.t, .slice A2 p.main.kids.length c2] 51)) from (Below.refl _ _).alloc (Nat.le_refl _) _)
  have HQ := Lib.hid (show tidyP p = (deepsOk p && (p.main.exp && !(p.datas.any untidyG))) by rw [← tidyQ_eq]; rfl)
  have AT := Lib.hid hat
  have HD := Lib.hid (fun (wx : World) (hx : GProg.At wx (Lt wx.heap.size) A1 c1 A2 c2 p) => implDepthsOk p A1 c1 A2 c2 wx hb hx)
  have HE := Lib.hid (fun (wx : World) (hx : GProg.At wx (Lt wx.heap.size) A1 c1 A2 c2 p) => implExp (p.main.bulk + 1) p.main A2 c2 wx (by omega) hx.2)
  have HU := Lib.hid (fun (wx : World) (hx : GProg.At wx (Lt wx.heap.size) A1 c1 A2 c2 p) => containsFuncData 107 (enters Try.func107 (by kernel_rfl) (by kernel_rfl)) #[] untidyG p.datas A1 c1 wx hx.1 (fun x hx A3 c3 w3 hb3 hat3 => implTidy1 x A3 c3 w3 hat3))
  clear hat
  cases hd : deepsOk p
  · rw [hd] at HD
    have HX := Lib.hid (show tidyP p = false by rw [HQ.out, hd]; rfl)
    clear hd
    go_enter Try.func32, Try.ntmps32
    go_wp2_with fail
    refine (HD.out _ (AT.out.below E0.out E0.out.size)).mono ?_
    rintro e w1 ⟨rfl, hb1⟩
    have B1 := Lib.hid (E0.out.trans (hb1.mono E0.out.size))
    clear hb1
    go_wp2_with fail
    go_ret
    exact ⟨ret_bool HX.out.symm, B1.out⟩
  cases he : p.main.exp
  · rw [hd] at HD
    rw [he] at HE
    have HX := Lib.hid (show tidyP p = false by rw [HQ.out, hd, he]; rfl)
    clear hd he
    go_enter Try.func32, Try.ntmps32
    go_wp2_with fail
    refine (HD.out _ (AT.out.below E0.out E0.out.size)).mono ?_
    rintro e w1 ⟨rfl, hb1⟩
    have B1 := Lib.hid (E0.out.trans (hb1.mono E0.out.size))
    have R1 := Lib.hid (R0.out.below hb1 R0.out.lt)
    have hR1 := fun i => R1.out.cell i
    clear hb1
    go_wp2_with fail
    refine (HE.out _ (AT.out.below B1.out B1.out.size)).mono ?_
    rintro e w2 ⟨rfl, hb2⟩
    have B2 := Lib.hid (B1.out.trans (hb2.mono B1.out.size))
    clear hb2
    go_wp2_with fail
    go_ret
    exact ⟨ret_bool HX.out.symm, B2.out⟩
  have HX := Lib.hid (show tidyP p = !(p.datas.any untidyG) by rw [HQ.out, hd, he]; rfl)
  rw [hd] at HD
  rw [he] at HE
  clear hd he
  go_enter Try.func32, Try.ntmps32
  go_wp2_with fail
  refine (HD.out _ (AT.out.below E0.out E0.out.size)).mono ?_
  rintro e w1 ⟨rfl, hb1⟩
  have B1 := Lib.hid (E0.out.trans (hb1.mono E0.out.size))
  have R1 := Lib.hid (R0.out.below hb1 R0.out.lt)
  have hR1 := fun i => R1.out.cell i
  clear hb1
  go_wp2_with fail
  refine (HE.out _ (AT.out.below B1.out B1.out.size)).mono ?_
  rintro e w2 ⟨rfl, hb2⟩
  have B2 := Lib.hid (B1.out.trans (hb2.mono B1.out.size))
  have R2 := Lib.hid (R1.out.below hb2 R1.out.lt)
  have hR2 := fun i => R2.out.cell i
  clear hb2 hR1
  go_wp2_with fail
  refine (HU.out _ (AT.out.below B2.out B2.out.size)).mono ?_
  rintro e w3 ⟨rfl, hb3⟩
  have B3 := Lib.hid (B2.out.trans (hb3.mono B2.out.size))
  clear hb3
  go_wp2_with fail
  go_ret
  exact ⟨ret_bool HX.out.symm, B3.out⟩
end Go.Proofs.Ytgbcdfeflgnogaa
