/- Texts of the claim LMostGeneral in one: WApplied DrawUnify UniC MostP Digits Frozen MostQ UniI. Conditions: none but bounds on sizes. -/
import Derived.Test.YtghldoiblbcacaaZLMostGeneral7
import Derived.Test.YtghldoiblbcacaaZLMostGeneral4
import Derived.Test.YtghldoiblbcacaaZLMostGeneral2
import Derived.Test.YtghldoiblbcacaaZLMostGeneral3
import Derived.Deep.CutRange
import Derived.Test.YtghldoiblbcacaaZLMostGeneral6
import Derived.Test.YtghldoiblbcacaaRows
import Derived.Test.YtghldoiblbcacaaZLMostGeneral0
import Derived.Lib.Hide
import Derived.Test.YtghldoiblbcacaaZLMostGeneral1
/- The walk of the law FnApplied. Conditions: none. -/
namespace Go.Proofs.Ytghldoiblbcacaa
open Go.RowKit Go.BigFrame
set_option linter.unusedVariables false
set_option linter.unusedSimpArgs false
set_option maxHeartbeats 600000

theorem bigYesT {n : Nat} (A : Option Addr) (c : Nat) (hbi : (1048576 : Int) < (n : Int)) (w : World) : Calls Try.prog 6 #[.slice A n c] w fun e w' => e = .returned (.bool true) ∧ w = w' := by
  go_enter Try.func6, Try.ntmps6
  go_wp2_with fail
  go_ret
  exact ⟨rfl, rfl⟩
theorem bigNoT {n : Nat} (A : Option Addr) (c : Nat) (hbi : ¬ (1048576 : Int) < (n : Int)) (w : World) : Calls Try.prog 6 #[.slice A n c] w fun e w' => e = .returned (.bool false) ∧ w = w' := by
  go_enter Try.func6, Try.ntmps6
  go_wp2_with fail
  go_ret
  exact ⟨rfl, rfl⟩

theorem shT_nodes' : ∀ (d : Nat) (t : GTy), shT d t → t.nodes + 1 ≤ 2 ^ (d + 1)
  | 0, t, h => by rw [GTy.nodes_eq, h.1]; simp [GTy.nodesL]
  | d + 1, t, h => by
    have ih : ∀ x, x ∈ t.kids → x.nodes + 1 ≤ 2 ^ (d + 1) := fun x hx => shT_nodes' d x (h.2 x hx)
    rw [GTy.nodes_eq, Nat.pow_succ]
    have h1 := h.1
    have h0 : 1 ≤ 2 ^ (d + 1) := Nat.one_le_two_pow
    match hk : t.kids with
    | [] => simp only [GTy.nodesL]; omega
    | [x] => have := ih x (by rw [hk]; simp); simp only [GTy.nodesL]; omega
    | [x, y] => have := ih x (by rw [hk]; simp); have := ih y (by rw [hk]; simp); simp only [GTy.nodesL]; omega
    | x :: y :: z :: r => rw [hk] at h1; simp at h1
theorem shT_nodes {t : GTy} (h : shT 3 t) : t.nodes ≤ 15 := by
  have := shT_nodes' 3 t h
  have h4 : (2 : Nat) ^ (3 + 1) = 16 := rfl
  omega
theorem drT_few {d : Nat} {t : GTy} (h : drT d t) (hd : d ≤ 2) : t.nodes ≤ 200 ∧ t.tx = true := by
  have h1 := h.1.1
  have h2 := t.nodes_bulk
  have h3 : 2 ^ d ≤ 2 ^ 2 := Nat.pow_le_pow_right (by omega) hd
  have h4 : (2 : Nat) ^ 2 = 4 := rfl
  exact ⟨by omega, h.2.2.2⟩
theorem drSub_few {s : List GBind} (h : drSub s) : FewL s := by
  obtain ⟨l0, -, -, hf, h⟩ := h
  rcases h with rfl | ⟨n, U, rfl, -, hU⟩ | rfl
  · exact hf
  · intro x hx
    rcases List.mem_append.1 hx with hx | hx
    · exact hf x hx
    · rw [List.mem_singleton] at hx; subst hx; exact drT_few hU (by omega)
  · intro x hx
    rcases List.mem_append.1 hx with hx | hx
    · exact hf x hx
    · rw [List.mem_singleton] at hx; subst hx; exact ⟨by decide, by decide⟩
theorem bulkL_append {α : Type} (f : α → Nat) (l m : List α) : bulkL f (l ++ m) = bulkL f l + bulkL f m := by
  induction l with
  | nil => simp [bulkL]
  | cons x r ih => simp only [List.cons_append, bulkL, ih]; omega
theorem drSub_bulk {s : List GBind} (h : drSub s) : bulkL GBind.bulk s ≤ 40000 ∧ s.length ≤ 6 := by
  have hall := drSub_few h
  obtain ⟨l0, -, hu, hf, h⟩ := h
  have hl := hu.few
  have h0 := hf.bulkL hl
  rcases h with rfl | ⟨n, U, rfl, -, hU⟩ | rfl
  · exact ⟨by omega, by omega⟩
  · have h1 : (GBind.mk n U).bulk = U.bulk := rfl
    have h2 := hU.1.1
    rw [bulkL_append]
    simp only [bulkL, List.length_append, List.length_cons, List.length_nil]
    exact ⟨by omega, by omega⟩
  · rw [bulkL_append]
    have h1 : (GBind.mk (-1) (.mk 0 0 ⟨#[]⟩ [])).bulk = 0 := by decide
    simp only [bulkL, List.length_append, List.length_cons, List.length_nil]
    exact ⟨by omega, by omega⟩

set_option maxRecDepth 20000 in
theorem walkApplied (l : List Int) (A : Option Addr) (c : Nat) (w : World) (hs : Sl w (Lt w.heap.size) 1 A c (l.map (D.num .u8))) :
    Calls Try.prog 4 #[.slice A l.length c] w fun e w' => e = .returned (.bool true) ∧ Below w.heap.size w w' := by
  have S0 := Lib.hid hs
  have hln : l.length ≤ 9223372036854775807 := by simpa using hs.len
  clear hs
  by_cases hbig : 1048576 < l.length
  · have hbi : (1048576 : Int) < (l.length : Int) := by omega
    go_enter Try.func4, Try.ntmps4
    go_wp2_with fail
    refine (bigYesT A c (by omega) w).mono ?_
    rintro e w1 ⟨rfl, rfl⟩
    go_wp2_with fail
    go_ret
    exact ⟨rfl, Below.refl _ _⟩
  have hbi : ¬ (1048576 : Int) < (l.length : Int) := by omega
  have hl : l.length ≤ 1048576 := by omega
  go_enter Try.func4, Try.ntmps4
  go_wp2_with fail
  refine (bigNoT A c (by omega) w).mono ?_
  rintro e w1 ⟨rfl, rfl⟩
  go_wp2_with fail
  refine (drawApply l A c w S0.out hl).mono ?_
  rintro e w1 ⟨s, t, As, cs, A1, c1, rfl, ps, pt, ass, att, hb1⟩
  have htb : t.bulk ≤ 6142 := by have := pt.1; omega
  have hfs := drSub_few ps
  have hsb := drSub_bulk ps
  obtain ⟨qt, eqt⟩ : ∃ qt, qt = w1.heap.size := ⟨_, rfl⟩
  obtain ⟨v1, ev1⟩ : ∃ v1, v1 = w1.alloc (.cells #[.int .i64 t.op, .int .i64 t.n, .string t.s, .slice A1 t.kids.length c1] 27) := ⟨_, rfl⟩
  have E1 := Lib.hid (show Below w1.heap.size w1 v1 by rw [ev1]; exact (Below.refl _ _).alloc (Nat.le_refl _) _)
  have B1 := Lib.hid (hb1.trans (E1.out.mono hb1.size))
  have RT1 := Lib.hid (show Row v1 qt 27 #[.int .i64 t.op, .int .i64 t.n, .string t.s, .slice A1 t.kids.length c1] by rw [ev1, eqt]; exact Row.new' _ _ _ rfl)
  have TT1 := Lib.hid (att.below E1.out E1.out.size)
  have SS1 := Lib.hid (ass.below E1.out E1.out.size)
  have hct := fun i => RT1.out.cell i
  have hqt := RT1.out.lt
  obtain ⟨a, ea⟩ : ∃ a, a = t.sub (bindOf s) := ⟨_, rfl⟩
  have HC1 := Lib.hid (show Calls Try.prog 12 #[.slice As s.length cs, .agg #[.int .i64 t.op, .int .i64 t.n, .string t.s, .slice A1 t.kids.length c1]] v1 (ToTy a v1) by rw [ea]; exact implApply (t.bulk + 1) s As cs t A1 c1 v1 (by omega) (by omega) (by omega) SS1.out TT1.out)
  have EA := Lib.hid ea
  have EQT := Lib.hid eqt
  have EQ1 := Lib.hid ev1
  have PT := Lib.hid pt
  have PS := Lib.hid ps
  have HFS := Lib.hid hfs
  have HSB := Lib.hid hsb
  have HTB := Lib.hid htb
  clear hb1 ass att ps pt ev1 eqt ea hfs hsb htb
  go_wp2_with fail
  rw [← EQT.out, ← EQ1.out]
  refine HC1.out.mono ?_
  rintro e w2 ⟨A2, c2, rfl, how, hb2⟩
  obtain ⟨qa, eqa⟩ : ∃ qa, qa = w2.heap.size := ⟨_, rfl⟩
  obtain ⟨v2, ev2⟩ : ∃ v2, v2 = w2.alloc (.cells #[.int .i64 a.op, .int .i64 a.n, .string a.s, .slice A2 a.kids.length c2] 27) := ⟨_, rfl⟩
  have E2 := Lib.hid (show Below w2.heap.size w2 v2 by rw [ev2]; exact (Below.refl _ _).alloc (Nat.le_refl _) _)
  have hb2' := hb2.trans (E2.out.mono hb2.size)
  have B2 := Lib.hid (B1.out.trans (hb2'.mono B1.out.size))
  have RT2 := Lib.hid (RT1.out.below hb2' RT1.out.lt)
  have RA2 := Lib.hid (show Row v2 qa 27 #[.int .i64 a.op, .int .i64 a.n, .string a.s, .slice A2 a.kids.length c2] by rw [ev2, eqa]; exact Row.new' _ _ _ rfl)
  have TT2 := Lib.hid (TT1.out.below hb2' hb2'.size)
  have SS2 := Lib.hid (SS1.out.below hb2' hb2'.size)
  have TA2 := Lib.hid (how.at.keep (S' := Lt v2.heap.size) fun q hq => ⟨Nat.lt_of_lt_of_le hq.2 E2.out.size, E2.out.block q hq.2⟩)
  have HD := Lib.hid (drawFreeVarsT l A c v2 (S0.out.below B2.out B2.out.size) hl)
  have EQA := Lib.hid eqa
  have EQ2 := Lib.hid ev2
  clear hb2 hb2' how ev2 eqa hct HC1 EQ1
  go_wp2_with fail
  rw [← EQA.out, ← EQ2.out]
  refine HD.out.mono ?_
  rintro e w3 ⟨f, A3, c3, rfl, pf, atf, hb3⟩
  obtain ⟨qf, eqf⟩ : ∃ qf, qf = w3.heap.size := ⟨_, rfl⟩
  obtain ⟨u, eu⟩ : ∃ u, u = w3.alloc (.cells #[.int .i64 f.op, .int .i64 f.n, .string f.s, .slice A3 f.kids.length c3] 27) := ⟨_, rfl⟩
  have E3 := Lib.hid (show Below w3.heap.size w3 u by rw [eu]; exact (Below.refl _ _).alloc (Nat.le_refl _) _)
  have hb3' := hb3.trans (E3.out.mono hb3.size)
  have BU := Lib.hid (B2.out.trans (hb3'.mono B2.out.size))
  have RT := Lib.hid (RT2.out.below hb3' RT2.out.lt)
  have RA := Lib.hid (RA2.out.below hb3' RA2.out.lt)
  have RF := Lib.hid (show Row u qf 27 #[.int .i64 f.op, .int .i64 f.n, .string f.s, .slice A3 f.kids.length c3] by rw [eu, eqf]; exact Row.new' _ _ _ rfl)
  have TT := Lib.hid (TT2.out.below hb3' hb3'.size)
  have SS := Lib.hid (SS2.out.below hb3' hb3'.size)
  have TA := Lib.hid (TA2.out.below hb3' hb3'.size)
  have TF := Lib.hid (atf.below E3.out E3.out.size)
  have PF := Lib.hid (show f.bulk ≤ 6142 by have := pf.1; omega)
  have EQF := Lib.hid eqf
  have EQ3 := Lib.hid eu
  have hct := fun i => RT.out.cell i
  have hca := fun i => RA.out.cell i
  have hcf := fun i => RF.out.cell i
  have hlt := RT.out.lt
  have hla := RA.out.lt
  have hlf := RF.out.lt
  have HK1 := Lib.hid (show Calls Try.prog 18 #[.slice As s.length cs, .agg #[.int .i64 t.op, .int .i64 t.n, .string t.s, .slice A1 t.kids.length c1]] u.drew (ToTy a u.drew) by rw [EA.out]; exact specApply (t.bulk + 1) s As cs t A1 c1 u.drew (by omega) (by have := HTB.out; omega) (by have := HSB.out; omega) (SS.out.below (Below.refl _ _).drew (Nat.le_refl _)) (TT.out.below (Below.refl _ _).drew (Nat.le_refl _)))
  clear hb3 hb3' atf eu eqf HD EQ2 B1 B2 RT1 RT2 RA2 TT1 TT2 SS1 SS2 TA2 E1 E2 E3 pf
  go_wp2_with fail
  rw [← EQF.out, ← EQ3.out]
  go_cut [34] from 21 to 34 (fun v wx => v = .bool false ∧ Below u.heap.size u wx)
  case first =>
    go_region_law (first
      | (go_simp
         go_at_call 18
         refine HK1.out.mono ?_
         rintro e w4 ⟨A4, c4, rfl, how, hb4⟩
         have B4 := Lib.hid (show Below u.heap.size u w4 from (Below.refl _ _).drew.trans hb4)
         have RT4 := Lib.hid (RT.out.below B4.out RT.out.lt)
         have RA4 := Lib.hid (RA.out.below B4.out RA.out.lt)
         have RF4 := Lib.hid (RF.out.below B4.out RF.out.lt)
         have hct4 := fun i => RT4.out.cell i
         have hca4 := fun i => RA4.out.cell i
         have hcf4 := fun i => RF4.out.cell i
         have hlt4 := RT4.out.lt
         have hla4 := RA4.out.lt
         have hlf4 := RF4.out.lt
         have HK2 := Lib.hid (show Calls Try.prog 13 #[.agg #[.int .i64 a.op, .int .i64 a.n, .string a.s, .slice A2 a.kids.length c2], .agg #[.int .i64 a.op, .int .i64 a.n, .string a.s, .slice A4 a.kids.length c4]] w4 fun e w' => e = .returned (.bool true) ∧ Below w4.heap.size w4 w' by
           have h := implSame (a.bulk + 1) a a A2 c2 A4 c4 w4 (by omega) (TA.out.below B4.out B4.out.size) (how.at.keep fun q hq => ⟨hq.2, rfl⟩)
           rw [GTy.sm_refl] at h
           exact h)
         clear hb4 how)
      | (go_simp
         go_at_call 13
         refine HK2.out.mono ?_
         rintro e w5 ⟨rfl, hb5⟩
         have B5 := Lib.hid (B4.out.trans (hb5.mono B4.out.size))
         have RF5 := Lib.hid (RF.out.below B5.out RF.out.lt)
         have hcf5 := fun i => RF5.out.cell i
         have hlf5 := RF5.out.lt
         have HK3 := Lib.hid (implFreeVars f A3 c3 w5 (by have := PF.out; omega) (TF.out.below B5.out B5.out.size))
         clear hb5)
      | (go_simp
         go_at_call 20
         refine HK3.out.mono ?_
         rintro e w6 ⟨L6, l6, rfl, how6, hb6⟩
         have B6 := Lib.hid (B5.out.trans (hb6.mono B5.out.size))
         have RF6 := Lib.hid (RF.out.below B6.out RF.out.lt)
         have hcf6 := fun i => RF6.out.cell i
         have hlf6 := RF6.out.lt
         have HOW6 := Lib.hid how6.slLt
         have HK4 := Lib.hid (specFreeVars f A3 c3 w6 (by have := PF.out; omega) (TF.out.below B6.out B6.out.size))
         clear hb6 how6)
      | (go_simp
         go_at_call 21
         refine HK4.out.mono ?_
         rintro e w7 ⟨L7, l7, rfl, how7, hb7⟩
         have B7 := Lib.hid (B6.out.trans (hb7.mono B6.out.size))
         have HK5 := Lib.hid (sameIntsL (f.vs []) L6 L7 l6 l7 w7 (HOW6.out.below hb7 hb7.size) how7.slLt)
         clear hb7 how7)
      | (go_simp
         go_at_call 19
         refine HK5.out.mono ?_
         rintro e w8 ⟨rfl, hb8⟩
         have B8 := Lib.hid (B7.out.trans (hb8.mono B7.out.size))
         clear hb8))
    all_goals
      go_wp2_with fail
      go_meet
      exact ⟨rfl, B8.out⟩
  case rest =>
    obtain ⟨rfl, hbc⟩ := hcut
    have BC := Lib.hid hbc
    have RTc := Lib.hid (RT.out.below hbc RT.out.lt)
    have hctc := fun i => RTc.out.cell i
    have hltc := RTc.out.lt
    have HSO := Lib.hid (implSubOk s As cs wc (by have := HSB.out.1; omega) (SS.out.below hbc hbc.size))
    clear HK1 hct hca hcf hbc
    go_wp2_with fail
    refine HSO.out.mono ?_
    rintro e w4 ⟨rfl, hb4⟩
    have B4 := Lib.hid (BC.out.trans (hb4.mono BC.out.size))
    have RT4 := Lib.hid (RT.out.below B4.out RT.out.lt)
    have hct4 := fun i => RT4.out.cell i
    have hlt4 := RT4.out.lt
    clear hb4 HSO hctc RTc
    cases hso : subOkV s
    · clear hso
      go_wp2_with fail
      go_ret
      exact ⟨rfl, BU.out.trans (B4.out.mono BU.out.size)⟩
    have HTO := Lib.hid (implTyOk t A1 c1 w4 (by have := t.nodes_bulk; have := HTB.out; omega) (TT.out.below B4.out B4.out.size))
    have HSOK := Lib.hid hso
    clear hso
    go_wp2_with fail
    refine HTO.out.mono ?_
    rintro e w5 ⟨rfl, hb5⟩
    have B5 := Lib.hid (B4.out.trans (hb5.mono B4.out.size))
    have RA5 := Lib.hid (RA.out.below B5.out RA.out.lt)
    have hca5 := fun i => RA5.out.cell i
    have hla5 := RA5.out.lt
    clear hb5 HTO hct4 RT4
    cases hok : t.ok
    · clear hok
      go_wp2_with fail
      go_ret
      exact ⟨rfl, BU.out.trans (B5.out.mono BU.out.size)⟩
    have hok2 : t.nodes ≤ 200 ∧ t.okS = true := by unfold GTy.ok at hok; rw [Bool.and_eq_true, decide_eq_true_eq] at hok; exact hok
    have hAP := applied HSOK.out hok2.2
    rw [← EA.out] at hAP
    have HAP := Lib.hid hAP
    have HAB := Lib.hid (show a.bulk ≤ 1048576 by
      rcases PT.out.2.2.2 with h | h
      · omega
      · have h1 := HFS.out.sub_nodes t
        have h2 := shT_nodes h
        have h3 : (t.sub (bindOf s)).tx = true := GTy.tx_sub (fun m u hu => by obtain ⟨z, hz, -, rfl⟩ := bindOf_some hu; exact (HFS.out z hz).2) _ PT.out.2.2.1
        rw [← EA.out] at h1 h3
        have h4 := GTy.tx_bulk a h3
        omega)
    have HFV := Lib.hid (implFreeVars a A2 c2 w5 HAB.out (TA.out.below B5.out B5.out.size))
    clear hok hok2 hAP
    go_wp2_with fail
    refine HFV.out.mono ?_
    rintro e w6 ⟨L6, l6, rfl, how6, hb6⟩
    have B6 := Lib.hid (B5.out.trans (hb6.mono B5.out.size))
    have V6 := Lib.hid how6.slLt
    have hsl6 := HSB.out.2
    clear hb6 how6 HFV hca5 RA5
    go_wp2_with fail
    go_loopw [8] (fun i wr => ∃ (j : Nat), j ≤ s.length ∧ i = .int .i64 j ∧ Hid (Below w6.heap.size w6 wr)) (fun i _ => s.length - (intOf i).toNat)
    case atStart => exact ⟨0, by omega, by go_num, Lib.hid (Below.refl _ _)⟩
    case round =>
      obtain ⟨j, hj, rfl, HB⟩ := hrel
      have BR := Lib.hid (B6.out.trans (HB.out.mono B6.out.size))
      by_cases hlt : j < s.length
      · obtain ⟨b, off, A9, c9, eA, hSb, g0, g1, g2, g3, g4, hat⟩ := GBind.elem (SS.out.below BR.out BR.out.size) j hlt
        have HW := Lib.hid (withinL (a.vs []) L6 l6 (s[j]).n wr (V6.out.below HB.out HB.out.size))
        rw [show (a.vs []).any (fun y => y == (s[j]).n) = false by
          rw [List.any_eq_false]
          intro y hy hyn
          have h1 := (GTy.has_vs y a).2 hy
          rw [beq_iff_eq] at hyn
          rw [hyn, HAP.out.1 _ (List.getElem_mem hlt)] at h1
          cases h1] at HW
        subst eA
        clear hat
        go_wp2_with fail
        refine HW.out.mono ?_
        rintro e w7 ⟨rfl, hb7⟩
        have HB7 := Lib.hid (HB.out.trans (hb7.mono HB.out.size))
        clear hb7 HW
        go_wp2_with fail
        go_roundw
        case rel => exact ⟨j + 1, by omega, by go_num, HB7⟩
        case measure => simp [intOf]; omega
      · have RAr := Lib.hid (RA.out.below BR.out RA.out.lt)
        have har := fun i => RAr.out.cell i
        have hlr := RAr.out.lt
        have HKA := Lib.hid (show Calls Try.prog 12 #[.slice As s.length cs, .agg #[.int .i64 a.op, .int .i64 a.n, .string a.s, .slice A2 a.kids.length c2]] wr.drew (ToTy a wr.drew) by
          have h := implApply (a.bulk + 1) s As cs a A2 c2 wr.drew (by omega) HAB.out (by have := HSB.out; omega) ((SS.out.below BR.out BR.out.size).below (Below.refl _ _).drew (Nat.le_refl _)) ((TA.out.below BR.out BR.out.size).below (Below.refl _ _).drew (Nat.le_refl _))
          rw [HAP.out.2] at h
          exact h)
        go_wp2_with fail
        go_region_law (first
          | (go_simp
             go_at_call 12
             refine HKA.out.mono ?_
             rintro e w8 ⟨A8, c8, rfl, how8, hb8⟩
             have B8 := Lib.hid (BR.out.trans ((show Below wr.heap.size wr w8 from (Below.refl _ _).drew.trans hb8).mono BR.out.size))
             have RA8 := Lib.hid (RA.out.below B8.out RA.out.lt)
             have hca8 := fun i => RA8.out.cell i
             have hla8 := RA8.out.lt
             have HKS := Lib.hid (show Calls Try.prog 13 #[.agg #[.int .i64 a.op, .int .i64 a.n, .string a.s, .slice A8 a.kids.length c8], .agg #[.int .i64 a.op, .int .i64 a.n, .string a.s, .slice A2 a.kids.length c2]] w8 fun e w' => e = .returned (.bool true) ∧ Below w8.heap.size w8 w' by
               have h := implSame (a.bulk + 1) a a A8 c8 A2 c2 w8 (by omega) (how8.at.keep fun q hq => ⟨hq.2, rfl⟩) (TA.out.below B8.out B8.out.size)
               rw [GTy.sm_refl] at h
               exact h)
             clear hb8 how8)
          | (go_simp
             go_at_call 13
             refine HKS.out.mono ?_
             rintro e w9 ⟨rfl, hb9⟩
             have B9 := Lib.hid (B8.out.trans (hb9.mono B8.out.size))
             clear hb9))
        all_goals
          go_wp2_with fail
          go_ret
          exact ⟨rfl, BU.out.trans (B9.out.mono BU.out.size)⟩
end Go.Proofs.Ytghldoiblbcacaa

/- What FnMostGeneral draws. Conditions: none. -/
namespace Go.Proofs.Ytghldoiblbcacaa
open Go.RowKit
set_option linter.unusedVariables false
set_option linter.unusedSimpArgs false
set_option maxHeartbeats 800000

/-- a substitution and two types -/
def DrawnUni (w : World) (e : Ending) (w' : World) : Prop :=
  ∃ (s : List GBind) (a b : GTy) (As : Option Addr) (cs : Nat) (A1 : Option Addr) (c1 : Nat) (A2 : Option Addr) (c2 : Nat), e = .returned (.tuple #[.slice As s.length cs, .agg #[.int .i64 a.op, .int .i64 a.n, .string a.s, .slice A1 a.kids.length c1], .agg #[.int .i64 b.op, .int .i64 b.n, .string b.s, .slice A2 b.kids.length c2]]) ∧ drSub s ∧ drT5 a ∧ (b = a.sub (bindOf s) ∨ drT5 b) ∧ Sl w' (Lt w'.heap.size) 5 As cs (s.map GBind.toD) ∧ GTy.At w' (Lt w'.heap.size) A1 c1 a ∧ GTy.At w' (Lt w'.heap.size) A2 c2 b ∧ Below w.heap.size w w'
theorem drawOnce4 {l : List Int} {A : Option Addr} {c : Nat} {w : World} {g i : Nat} {h : Int} (hc : Cur l A c w g i h) :
    Calls Try.prog 39 #[.pointer (some ⟨g, 0, none⟩), .int .i64 4] w fun e w' => ∃ (b : Bool) (i : Nat) (h : Int), e = .returned (.bool b) ∧ Cur l A c w' g i h ∧ Turned g w w' := by
  have C0 := Lib.hid hc
  clear hc
  go_enter Try.func39, Try.ntmps39
  go_wp2_with fail
  refine (drawBelow C0.out 4 (by omega) (by omega)).mono ?_
  rintro e w1 ⟨x, i1, h1, rfl, hx, hc1, ht1⟩
  have C1 := Lib.hid hc1
  have T1 := Lib.hid ht1
  clear hc1 ht1 hx
  go_wp2_with fail
  go_ret
  exact ⟨_, i1, h1, rfl, C1.out, T1.out⟩

set_option maxRecDepth 20000 in
theorem drawUnify (l : List Int) (A : Option Addr) (c : Nat) (w : World) (hs : Sl w (Lt w.heap.size) 1 A c (l.map (D.num .u8))) (hl : l.length ≤ 1048576) :
    Calls Try.prog 7 #[.slice A l.length c] w (DrawnUni w) := by
  obtain ⟨w0, e0⟩ : ∃ w0, w0 = (w.alloc (.cells #[.int .i64 0, .int .i64 0, .string ⟨#[]⟩, .slice none 0 0] 27)).alloc (.cells #[.int .i64 0, .int .i64 0, .string ⟨#[]⟩, .slice none 0 0] 27) := ⟨_, rfl⟩
  have E0 := Lib.hid (show Below w.heap.size w w0 by rw [e0]; exact ((Below.refl _ _).alloc (Nat.le_refl _) _).alloc (by simp) _)
  have R0 := Lib.hid (show Row w0 w.heap.size 27 #[.int .i64 0, .int .i64 0, .string ⟨#[]⟩, .slice none 0 0] by rw [e0]; exact (Row.new' _ _ _ rfl).alloc _)
  have Q0 := Lib.hid (show Row w0 (w.heap.size + 1) 27 #[.int .i64 0, .int .i64 0, .string ⟨#[]⟩, .slice none 0 0] by rw [e0]; exact Row.new' _ _ _ (by simp))
  have HN := Lib.hid (newCur l A c w0 (hs.below E0.out E0.out.size) hl)
  have HS0 := Lib.hid (show w0.heap.size = w.heap.size + 2 by rw [e0]; simp)
  have hsl : w.heap.size + 2 ≤ w0.heap.size := Nat.le_of_eq HS0.out.symm
  have EQ := Lib.hid e0
  clear hs e0
  go_enter Try.func7, Try.ntmps7
  go_wp2_with fail
  rw [← EQ.out]
  refine HN.out.mono ?_
  rintro e w1 ⟨h, rfl, hc1, hb1⟩
  have C1 := Lib.hid hc1
  have B1 := Lib.hid hb1
  have R1 := Lib.hid (R0.out.below hb1 (by omega))
  have Q1 := Lib.hid (Q0.out.below hb1 (by omega))
  have hl1 := hc1.row.lt
  clear hc1 hb1
  go_wp2_with fail
  refine (drawSub C1.out).mono ?_
  rintro e wS ⟨s, As, cs, iS, hS, rfl, ps, hss, hcS, htS⟩
  have CS := Lib.hid hcS
  have RS := Lib.hid (R1.out.turned htS (by omega))
  have QS := Lib.hid (Q1.out.turned htS (by omega))
  have BS := Lib.hid (show Below w0.heap.size w0 wS from B1.out.trans (htS.below B1.out.size (Nat.le_refl _)))
  have hlS := hcS.row.lt
  have hl1S := htS.size
  have SSS := Lib.hid hss
  have PS := Lib.hid ps
  clear hcS htS hss ps
  go_wp2_with fail
  refine (drawTy5 CS.out).mono ?_
  rintro e w2 ⟨a, A1, c1, i2, h2, rfl, pa, ata, hc2, ht2⟩
  have R2 := Lib.hid (RS.out.turned ht2 (by omega))
  have Q2 := Lib.hid (QS.out.turned ht2 (by omega))
  have hs12 := ht2.size
  have SS2 := Lib.hid (SSS.out.keep (w' := w2) (S' := Btw w1.heap.size w2.heap.size) (fun b hb => ⟨⟨hb.1, Nat.lt_of_lt_of_le hb.2 hs12⟩, ht2.block b hb.2 (by have := hb.1; omega)⟩))
  have B2 := Lib.hid (show Below w.heap.size w w2 from (E0.out.trans (BS.out.mono E0.out.size)).trans (ht2.below (by have := BS.out.size; omega) (by omega)))
  obtain ⟨v, ev⟩ : ∃ v, v = w2.alloc (.cells #[.int .i64 a.op, .int .i64 a.n, .string a.s, .slice A1 a.kids.length c1] 27) := ⟨_, rfl⟩
  have EV := Lib.hid (show Below w2.heap.size w2 v by rw [ev]; exact (Below.refl _ _).alloc (Nat.le_refl _) _)
  have RA := Lib.hid (show Row v w2.heap.size 27 #[.int .i64 a.op, .int .i64 a.n, .string a.s, .slice A1 a.kids.length c1] by rw [ev]; exact Row.new' _ _ _ rfl)
  have CV := Lib.hid (hc2.below EV.out hc2.row.lt)
  have hsv : w2.heap.size + 1 ≤ v.heap.size := by rw [ev]; simp
  have hsv2 : v.heap.size ≤ w2.heap.size + 1 := by rw [ev]; simp
  have hl2 := hc2.row.lt
  have AA := Lib.hid (ata.keep (w' := v) (S' := Btw wS.heap.size w2.heap.size) (fun b hb => ⟨hb, EV.out.block b hb.2⟩))
  have SSV := Lib.hid (SS2.out.keep (w' := v) (S' := Btw w1.heap.size w2.heap.size) (fun b hb => ⟨hb, EV.out.block b hb.2⟩))
  have EQV := Lib.hid ev
  clear hc2 ht2 ata ev
  go_wp2_with fail
  rw [← EQV.out]
  refine (drawOnce4 CV.out).mono ?_
  rintro e w3 ⟨b, i3, h3, rfl, hc3, ht3⟩
  have C3 := Lib.hid hc3
  have hs3 := ht3.size
  have B3 := Lib.hid (show Below w.heap.size w w3 from (B2.out.trans (EV.out.mono (by have := B2.out.size; omega))).trans (ht3.below (by omega) (by omega)))
  have R3 := Lib.hid ((R2.out.below EV.out (by have := R2.out.lt; omega)).turned ht3 (by omega))
  have Q3 := Lib.hid ((Q2.out.below EV.out (by have := Q2.out.lt; omega)).turned ht3 (by omega))
  have RA3 := Lib.hid (RA.out.turned ht3 (by omega))
  have AA3 := Lib.hid (AA.out.keep (w' := w3) (S' := Btw wS.heap.size w2.heap.size) (fun b hb => ⟨hb, ht3.block b (by have := hb.2; omega) (by have := hb.1; omega)⟩))
  have SS3 := Lib.hid (SSV.out.keep (w' := w3) (S' := Btw w1.heap.size w2.heap.size) (fun b hb => ⟨hb, ht3.block b (by have := hb.2; omega) (by have := hb.1; omega)⟩))
  have hzr := R3.out.lt
  have hzq := Q3.out.lt
  have hza := RA3.out.lt
  have hn1 : w2.heap.size ≠ w.heap.size := by omega
  have hn2 : w2.heap.size ≠ w.heap.size + 1 := by omega
  have hcad : ∀ i, w3.drew.cell? ⟨w2.heap.size, i, none⟩ = (#[.int .i64 a.op, .int .i64 a.n, .string a.s, .slice A1 a.kids.length c1] : Array Value)[i]? := fun i => RA3.out.cell i
  have hw2 : wS.heap.size ≤ w2.heap.size := hs12
  have HS1 : w.heap.size + 2 < wS.heap.size := by omega
  clear hc3 ht3
  cases b
  · go_wp2_with fail
    go_region_held3 (fun w' => ∀ i, w'.cell? ⟨w2.heap.size, i, none⟩ = (#[.int .i64 a.op, .int .i64 a.n, .string a.s, .slice A1 a.kids.length c1] : Array Value)[i]?) (first | with_reducible exact hcad | with_reducible exact hca4 | with_reducible exact hca5 _ _ _ _ | with_reducible exact hca6 _ _ _ _ | with_reducible exact hca7 _ _ _ _ _ _ _ _ | with_reducible exact hca8 _ _ _ _ _ _ _ _ | go_keep) (first
      | (go_at_call 38
         refine (drawTy5 (C3.out.below ((Below.refl w3.heap.size w3).drew) C3.out.row.lt)).mono ?_
         rintro e w4 ⟨b, A2, c2, i4, h4, rfl, pb, atb, hc4, ht4⟩
         have RA4 := Lib.hid (Row.turned (w := w3.drew) RA3.out ht4 (by omega))
         have R4 := Lib.hid (Row.turned (w := w3.drew) R3.out ht4 (by omega))
         have Q4 := Lib.hid (Row.turned (w := w3.drew) Q3.out ht4 (by omega))
         have hs34 : w3.heap.size ≤ w4.heap.size := ht4.size
         have B4 := Lib.hid (show Below w.heap.size w w4 from B3.out.trans (Below.trans ((Below.refl w.heap.size w3).drew) (ht4.below (show w.heap.size ≤ w3.drew.heap.size from Nat.le_of_lt hzr) (by omega))))
         have AA4 := Lib.hid (AA3.out.keep (w' := w4) (S' := fun b => b < w4.heap.size ∧ b ≠ w.heap.size ∧ b ≠ w.heap.size + 1) (fun b hb => ⟨⟨by have := hb.2; omega, by have := hb.1; omega, by have := hb.1; omega⟩, ht4.block b (show b < w3.heap.size by have := hb.2; omega) (by have := hb.1; omega)⟩))
         have AB4 := Lib.hid (atb.keep (w' := w4) (S' := fun b => b < w4.heap.size ∧ b ≠ w.heap.size ∧ b ≠ w.heap.size + 1) (fun b hb => ⟨⟨hb.2, by have h1 : w3.heap.size ≤ b := hb.1; omega, by have h1 : w3.heap.size ≤ b := hb.1; omega⟩, rfl⟩))
         have SS4 := Lib.hid (SS3.out.keep (w' := w4) (S' := fun b => b < w4.heap.size ∧ b ≠ w.heap.size ∧ b ≠ w.heap.size + 1) (fun b hb => ⟨⟨by have := hb.2; omega, by have := hb.1; omega, by have := hb.1; omega⟩, ht4.block b (show b < w3.heap.size by have := hb.2; omega) (by have := hb.1; omega)⟩))
         have PB := Lib.hid pb
         clear hc4 ht4 atb pb
         have hca4 := fun i => RA4.out.cell i
         have hcr4 := fun i => R4.out.cell i
         have hcq4 := fun i => Q4.out.cell i
         have hfr4 := fun i => R4.out.frozen i
         have hfq4 := fun i => Q4.out.frozen i
         have hrl4 := R4.out.lt
         have hql4 := Q4.out.lt
         have hca5 : ∀ (x0 x1 x2 x3 : Value) (i : Nat), ((((w4.setCell ⟨w.heap.size, 0, none⟩ x0).setCell ⟨w.heap.size, 1, none⟩ x1).setCell ⟨w.heap.size, 2, none⟩ x2).setCell ⟨w.heap.size, 3, none⟩ x3).cell? ⟨w2.heap.size, i, none⟩ = (#[.int .i64 a.op, .int .i64 a.n, .string a.s, .slice A1 a.kids.length c1] : Array Value)[i]? := fun x0 x1 x2 x3 i => ((((RA4.out.far (p := ⟨w.heap.size, 0, none⟩) hn1 _).far (p := ⟨w.heap.size, 1, none⟩) hn1 _).far (p := ⟨w.heap.size, 2, none⟩) hn1 _).far (p := ⟨w.heap.size, 3, none⟩) hn1 _).cell i
         have hca6 : ∀ (x0 x1 x2 x3 : Value) (i : Nat), ((((w4.setCell ⟨w.heap.size + 1, 0, none⟩ x0).setCell ⟨w.heap.size + 1, 1, none⟩ x1).setCell ⟨w.heap.size + 1, 2, none⟩ x2).setCell ⟨w.heap.size + 1, 3, none⟩ x3).cell? ⟨w2.heap.size, i, none⟩ = (#[.int .i64 a.op, .int .i64 a.n, .string a.s, .slice A1 a.kids.length c1] : Array Value)[i]? := fun x0 x1 x2 x3 i => ((((RA4.out.far (p := ⟨w.heap.size + 1, 0, none⟩) hn2 _).far (p := ⟨w.heap.size + 1, 1, none⟩) hn2 _).far (p := ⟨w.heap.size + 1, 2, none⟩) hn2 _).far (p := ⟨w.heap.size + 1, 3, none⟩) hn2 _).cell i
         have hca7 : ∀ (x0 x1 x2 x3 y0 y1 y2 y3 : Value) (i : Nat), ((((((((w4.setCell ⟨w.heap.size, 0, none⟩ x0).setCell ⟨w.heap.size, 1, none⟩ x1).setCell ⟨w.heap.size, 2, none⟩ x2).setCell ⟨w.heap.size, 3, none⟩ x3).setCell ⟨w.heap.size + 1, 0, none⟩ y0).setCell ⟨w.heap.size + 1, 1, none⟩ y1).setCell ⟨w.heap.size + 1, 2, none⟩ y2).setCell ⟨w.heap.size + 1, 3, none⟩ y3).cell? ⟨w2.heap.size, i, none⟩ = (#[.int .i64 a.op, .int .i64 a.n, .string a.s, .slice A1 a.kids.length c1] : Array Value)[i]? := fun x0 x1 x2 x3 y0 y1 y2 y3 i => ((((((((RA4.out.far (p := ⟨w.heap.size, 0, none⟩) hn1 _).far (p := ⟨w.heap.size, 1, none⟩) hn1 _).far (p := ⟨w.heap.size, 2, none⟩) hn1 _).far (p := ⟨w.heap.size, 3, none⟩) hn1 _).far (p := ⟨w.heap.size + 1, 0, none⟩) hn2 _).far (p := ⟨w.heap.size + 1, 1, none⟩) hn2 _).far (p := ⟨w.heap.size + 1, 2, none⟩) hn2 _).far (p := ⟨w.heap.size + 1, 3, none⟩) hn2 _).cell i
         have hca8 : ∀ (y0 y1 y2 y3 x0 x1 x2 x3 : Value) (i : Nat), ((((((((w4.setCell ⟨w.heap.size + 1, 0, none⟩ y0).setCell ⟨w.heap.size + 1, 1, none⟩ y1).setCell ⟨w.heap.size + 1, 2, none⟩ y2).setCell ⟨w.heap.size + 1, 3, none⟩ y3).setCell ⟨w.heap.size, 0, none⟩ x0).setCell ⟨w.heap.size, 1, none⟩ x1).setCell ⟨w.heap.size, 2, none⟩ x2).setCell ⟨w.heap.size, 3, none⟩ x3).cell? ⟨w2.heap.size, i, none⟩ = (#[.int .i64 a.op, .int .i64 a.n, .string a.s, .slice A1 a.kids.length c1] : Array Value)[i]? := fun y0 y1 y2 y3 x0 x1 x2 x3 i => ((((((((RA4.out.far (p := ⟨w.heap.size + 1, 0, none⟩) hn2 _).far (p := ⟨w.heap.size + 1, 1, none⟩) hn2 _).far (p := ⟨w.heap.size + 1, 2, none⟩) hn2 _).far (p := ⟨w.heap.size + 1, 3, none⟩) hn2 _).far (p := ⟨w.heap.size, 0, none⟩) hn1 _).far (p := ⟨w.heap.size, 1, none⟩) hn1 _).far (p := ⟨w.heap.size, 2, none⟩) hn1 _).far (p := ⟨w.heap.size, 3, none⟩) hn1 _).cell i))
    all_goals
      have hne1 : w.heap.size ≠ w.heap.size + 1 := by omega
      obtain ⟨W, eW⟩ : ∃ W, W = setCells (setCells w4 w.heap.size 0 [.int .i64 a.op, .int .i64 a.n, .string a.s, .slice A1 a.kids.length c1]) (w.heap.size + 1) 0 [.int .i64 b.op, .int .i64 b.n, .string b.s, .slice A2 b.kids.length c2] := ⟨_, rfl⟩
      have RR := Lib.hid (show Row W w.heap.size 27 #[.int .i64 a.op, .int .i64 a.n, .string a.s, .slice A1 a.kids.length c1] by rw [eW]; exact (((((((R4.out.set 0 _).set 1 _).set 2 _).set 3 _).far (p := ⟨w.heap.size + 1, 0, none⟩) hne1 _).far (p := ⟨w.heap.size + 1, 1, none⟩) hne1 _).far (p := ⟨w.heap.size + 1, 2, none⟩) hne1 _).far (p := ⟨w.heap.size + 1, 3, none⟩) hne1 _)
      have QQ := Lib.hid (show Row W (w.heap.size + 1) 27 #[.int .i64 b.op, .int .i64 b.n, .string b.s, .slice A2 b.kids.length c2] by rw [eW]; exact (((((((Q4.out.far (p := ⟨w.heap.size, 0, none⟩) hne1.symm _).far (p := ⟨w.heap.size, 1, none⟩) hne1.symm _).far (p := ⟨w.heap.size, 2, none⟩) hne1.symm _).far (p := ⟨w.heap.size, 3, none⟩) hne1.symm _).set 0 _).set 1 _).set 2 _).set 3 _)
      have BW := Lib.hid (show Below w.heap.size w W by rw [eW]; exact setCells_below (setCells_below B4.out w.heap.size 0 (Nat.le_refl _) _) (w.heap.size + 1) 0 (Nat.le_succ _) _)
      have SW : W.heap.size = w4.heap.size := by rw [eW, setCells_size, setCells_size]
      have AW := Lib.hid (AA4.out.keep (w' := W) (S' := Lt W.heap.size) (fun b hb => ⟨by unfold Lt; rw [SW]; exact hb.1, by rw [eW, setCells_block _ _ _ _ b hb.2.2, setCells_block _ _ _ _ b hb.2.1]⟩))
      have AW2 := Lib.hid (AB4.out.keep (w' := W) (S' := Lt W.heap.size) (fun b hb => ⟨by unfold Lt; rw [SW]; exact hb.1, by rw [eW, setCells_block _ _ _ _ b hb.2.2, setCells_block _ _ _ _ b hb.2.1]⟩))
      have SW4 := Lib.hid (SS4.out.keep (w' := W) (S' := Lt W.heap.size) (fun b hb => ⟨by unfold Lt; rw [SW]; exact hb.1, by rw [eW, setCells_block _ _ _ _ b hb.2.2, setCells_block _ _ _ _ b hb.2.1]⟩))
      have EQW := Lib.hid (show W = ((((((((w4.setCell ⟨w.heap.size, 0, none⟩ (.int .i64 a.op)).setCell ⟨w.heap.size, 1, none⟩ (.int .i64 a.n)).setCell ⟨w.heap.size, 2, none⟩ (.string a.s)).setCell ⟨w.heap.size, 3, none⟩ (.slice A1 a.kids.length c1)).setCell ⟨w.heap.size + 1, 0, none⟩ (.int .i64 b.op)).setCell ⟨w.heap.size + 1, 1, none⟩ (.int .i64 b.n)).setCell ⟨w.heap.size + 1, 2, none⟩ (.string b.s)).setCell ⟨w.heap.size + 1, 3, none⟩ (.slice A2 b.kids.length c2)) by rw [eW]; rfl)
      have hcR := fun i => RR.out.cell i
      have hcQ := fun i => QQ.out.cell i
      clear eW SW
      go_wp2_with fail
      rw [← EQW.out]
      exact bodyPost_ret (v := .tuple #[.slice As s.length cs, .agg #[.int .i64 a.op, .int .i64 a.n, .string a.s, .slice A1 a.kids.length c1], .agg #[.int .i64 b.op, .int .i64 b.n, .string b.s, .slice A2 b.kids.length c2]]) (by simp [results, Try.results7, go_sem, hcR, hcQ]) rfl ⟨s, a, b, As, cs, A1, c1, A2, c2, rfl, PS.out, pa, .inr PB.out, SW4.out, AW.out, AW2.out, BW.out⟩
  · obtain ⟨b, ebb⟩ : ∃ b, b = a.sub (bindOf s) := ⟨_, rfl⟩
    have HAP := Lib.hid (show Calls Try.prog 18 #[.slice As s.length cs, .agg #[.int .i64 a.op, .int .i64 a.n, .string a.s, .slice A1 a.kids.length c1]] w3.drew (ToTy b w3.drew) by
      rw [ebb]
      exact specApply (a.bulk + 1) s As cs a A1 c1 w3.drew (by omega) (by have := pa.1; omega) (by have := (drSub_bulk PS.out).1; omega) (SS3.out.keep (fun b hb => ⟨show b < w3.heap.size by have := hb.2; omega, rfl⟩)) (AA3.out.keep (fun b hb => ⟨show b < w3.heap.size by have := hb.2; omega, rfl⟩)))
    have EBB := Lib.hid ebb
    clear ebb
    go_wp2_with fail
    go_region_held3 (fun w' => ∀ i, w'.cell? ⟨w2.heap.size, i, none⟩ = (#[.int .i64 a.op, .int .i64 a.n, .string a.s, .slice A1 a.kids.length c1] : Array Value)[i]?) (first | with_reducible exact hcad | with_reducible exact hca4 | with_reducible exact hca5 _ _ _ _ | with_reducible exact hca6 _ _ _ _ | with_reducible exact hca7 _ _ _ _ _ _ _ _ | with_reducible exact hca8 _ _ _ _ _ _ _ _ | go_keep) (first
      | (go_at_call 18
         refine (HAP.out).mono ?_
         rintro e w4 ⟨A2, c2, rfl, how, hb4⟩
         have B34 := Lib.hid (show Below w3.heap.size w3 w4 from ((Below.refl w3.heap.size w3).drew).trans hb4)
         have RA4 := Lib.hid (RA3.out.below B34.out hza)
         have R4 := Lib.hid (R3.out.below B34.out hzr)
         have Q4 := Lib.hid (Q3.out.below B34.out hzq)
         have hs34 : w3.heap.size ≤ w4.heap.size := B34.out.size
         have B4 := Lib.hid (show Below w.heap.size w w4 from B3.out.trans (B34.out.mono (Nat.le_of_lt hzr)))
         have AA4 := Lib.hid (AA3.out.keep (w' := w4) (S' := fun b => b < w4.heap.size ∧ b ≠ w.heap.size ∧ b ≠ w.heap.size + 1) (fun b hb => ⟨⟨by have := hb.2; omega, by have := hb.1; omega, by have := hb.1; omega⟩, B34.out.block b (by have := hb.2; omega)⟩))
         have AB4 := Lib.hid (how.at.keep (w' := w4) (S' := fun b => b < w4.heap.size ∧ b ≠ w.heap.size ∧ b ≠ w.heap.size + 1) (fun b hb => ⟨⟨hb.2, by have h1 : w3.heap.size ≤ b := hb.1; omega, by have h1 : w3.heap.size ≤ b := hb.1; omega⟩, rfl⟩))
         have SS4 := Lib.hid (SS3.out.keep (w' := w4) (S' := fun b => b < w4.heap.size ∧ b ≠ w.heap.size ∧ b ≠ w.heap.size + 1) (fun b hb => ⟨⟨by have := hb.2; omega, by have := hb.1; omega, by have := hb.1; omega⟩, B34.out.block b (by have := hb.2; omega)⟩))
         clear hb4 how
         have hca4 := fun i => RA4.out.cell i
         have hcr4 := fun i => R4.out.cell i
         have hcq4 := fun i => Q4.out.cell i
         have hfr4 := fun i => R4.out.frozen i
         have hfq4 := fun i => Q4.out.frozen i
         have hrl4 := R4.out.lt
         have hql4 := Q4.out.lt
         have hca5 : ∀ (x0 x1 x2 x3 : Value) (i : Nat), ((((w4.setCell ⟨w.heap.size, 0, none⟩ x0).setCell ⟨w.heap.size, 1, none⟩ x1).setCell ⟨w.heap.size, 2, none⟩ x2).setCell ⟨w.heap.size, 3, none⟩ x3).cell? ⟨w2.heap.size, i, none⟩ = (#[.int .i64 a.op, .int .i64 a.n, .string a.s, .slice A1 a.kids.length c1] : Array Value)[i]? := fun x0 x1 x2 x3 i => ((((RA4.out.far (p := ⟨w.heap.size, 0, none⟩) hn1 _).far (p := ⟨w.heap.size, 1, none⟩) hn1 _).far (p := ⟨w.heap.size, 2, none⟩) hn1 _).far (p := ⟨w.heap.size, 3, none⟩) hn1 _).cell i
         have hca6 : ∀ (x0 x1 x2 x3 : Value) (i : Nat), ((((w4.setCell ⟨w.heap.size + 1, 0, none⟩ x0).setCell ⟨w.heap.size + 1, 1, none⟩ x1).setCell ⟨w.heap.size + 1, 2, none⟩ x2).setCell ⟨w.heap.size + 1, 3, none⟩ x3).cell? ⟨w2.heap.size, i, none⟩ = (#[.int .i64 a.op, .int .i64 a.n, .string a.s, .slice A1 a.kids.length c1] : Array Value)[i]? := fun x0 x1 x2 x3 i => ((((RA4.out.far (p := ⟨w.heap.size + 1, 0, none⟩) hn2 _).far (p := ⟨w.heap.size + 1, 1, none⟩) hn2 _).far (p := ⟨w.heap.size + 1, 2, none⟩) hn2 _).far (p := ⟨w.heap.size + 1, 3, none⟩) hn2 _).cell i
         have hca7 : ∀ (x0 x1 x2 x3 y0 y1 y2 y3 : Value) (i : Nat), ((((((((w4.setCell ⟨w.heap.size, 0, none⟩ x0).setCell ⟨w.heap.size, 1, none⟩ x1).setCell ⟨w.heap.size, 2, none⟩ x2).setCell ⟨w.heap.size, 3, none⟩ x3).setCell ⟨w.heap.size + 1, 0, none⟩ y0).setCell ⟨w.heap.size + 1, 1, none⟩ y1).setCell ⟨w.heap.size + 1, 2, none⟩ y2).setCell ⟨w.heap.size + 1, 3, none⟩ y3).cell? ⟨w2.heap.size, i, none⟩ = (#[.int .i64 a.op, .int .i64 a.n, .string a.s, .slice A1 a.kids.length c1] : Array Value)[i]? := fun x0 x1 x2 x3 y0 y1 y2 y3 i => ((((((((RA4.out.far (p := ⟨w.heap.size, 0, none⟩) hn1 _).far (p := ⟨w.heap.size, 1, none⟩) hn1 _).far (p := ⟨w.heap.size, 2, none⟩) hn1 _).far (p := ⟨w.heap.size, 3, none⟩) hn1 _).far (p := ⟨w.heap.size + 1, 0, none⟩) hn2 _).far (p := ⟨w.heap.size + 1, 1, none⟩) hn2 _).far (p := ⟨w.heap.size + 1, 2, none⟩) hn2 _).far (p := ⟨w.heap.size + 1, 3, none⟩) hn2 _).cell i
         have hca8 : ∀ (y0 y1 y2 y3 x0 x1 x2 x3 : Value) (i : Nat), ((((((((w4.setCell ⟨w.heap.size + 1, 0, none⟩ y0).setCell ⟨w.heap.size + 1, 1, none⟩ y1).setCell ⟨w.heap.size + 1, 2, none⟩ y2).setCell ⟨w.heap.size + 1, 3, none⟩ y3).setCell ⟨w.heap.size, 0, none⟩ x0).setCell ⟨w.heap.size, 1, none⟩ x1).setCell ⟨w.heap.size, 2, none⟩ x2).setCell ⟨w.heap.size, 3, none⟩ x3).cell? ⟨w2.heap.size, i, none⟩ = (#[.int .i64 a.op, .int .i64 a.n, .string a.s, .slice A1 a.kids.length c1] : Array Value)[i]? := fun y0 y1 y2 y3 x0 x1 x2 x3 i => ((((((((RA4.out.far (p := ⟨w.heap.size + 1, 0, none⟩) hn2 _).far (p := ⟨w.heap.size + 1, 1, none⟩) hn2 _).far (p := ⟨w.heap.size + 1, 2, none⟩) hn2 _).far (p := ⟨w.heap.size + 1, 3, none⟩) hn2 _).far (p := ⟨w.heap.size, 0, none⟩) hn1 _).far (p := ⟨w.heap.size, 1, none⟩) hn1 _).far (p := ⟨w.heap.size, 2, none⟩) hn1 _).far (p := ⟨w.heap.size, 3, none⟩) hn1 _).cell i))
    all_goals
      have hne1 : w.heap.size ≠ w.heap.size + 1 := by omega
      obtain ⟨W, eW⟩ : ∃ W, W = setCells (setCells w4 w.heap.size 0 [.int .i64 a.op, .int .i64 a.n, .string a.s, .slice A1 a.kids.length c1]) (w.heap.size + 1) 0 [.int .i64 b.op, .int .i64 b.n, .string b.s, .slice A2 b.kids.length c2] := ⟨_, rfl⟩
      have RR := Lib.hid (show Row W w.heap.size 27 #[.int .i64 a.op, .int .i64 a.n, .string a.s, .slice A1 a.kids.length c1] by rw [eW]; exact (((((((R4.out.set 0 _).set 1 _).set 2 _).set 3 _).far (p := ⟨w.heap.size + 1, 0, none⟩) hne1 _).far (p := ⟨w.heap.size + 1, 1, none⟩) hne1 _).far (p := ⟨w.heap.size + 1, 2, none⟩) hne1 _).far (p := ⟨w.heap.size + 1, 3, none⟩) hne1 _)
      have QQ := Lib.hid (show Row W (w.heap.size + 1) 27 #[.int .i64 b.op, .int .i64 b.n, .string b.s, .slice A2 b.kids.length c2] by rw [eW]; exact (((((((Q4.out.far (p := ⟨w.heap.size, 0, none⟩) hne1.symm _).far (p := ⟨w.heap.size, 1, none⟩) hne1.symm _).far (p := ⟨w.heap.size, 2, none⟩) hne1.symm _).far (p := ⟨w.heap.size, 3, none⟩) hne1.symm _).set 0 _).set 1 _).set 2 _).set 3 _)
      have BW := Lib.hid (show Below w.heap.size w W by rw [eW]; exact setCells_below (setCells_below B4.out w.heap.size 0 (Nat.le_refl _) _) (w.heap.size + 1) 0 (Nat.le_succ _) _)
      have SW : W.heap.size = w4.heap.size := by rw [eW, setCells_size, setCells_size]
      have AW := Lib.hid (AA4.out.keep (w' := W) (S' := Lt W.heap.size) (fun b hb => ⟨by unfold Lt; rw [SW]; exact hb.1, by rw [eW, setCells_block _ _ _ _ b hb.2.2, setCells_block _ _ _ _ b hb.2.1]⟩))
      have AW2 := Lib.hid (AB4.out.keep (w' := W) (S' := Lt W.heap.size) (fun b hb => ⟨by unfold Lt; rw [SW]; exact hb.1, by rw [eW, setCells_block _ _ _ _ b hb.2.2, setCells_block _ _ _ _ b hb.2.1]⟩))
      have SW4 := Lib.hid (SS4.out.keep (w' := W) (S' := Lt W.heap.size) (fun b hb => ⟨by unfold Lt; rw [SW]; exact hb.1, by rw [eW, setCells_block _ _ _ _ b hb.2.2, setCells_block _ _ _ _ b hb.2.1]⟩))
      have EQW := Lib.hid (show W = ((((((((w4.setCell ⟨w.heap.size, 0, none⟩ (.int .i64 a.op)).setCell ⟨w.heap.size, 1, none⟩ (.int .i64 a.n)).setCell ⟨w.heap.size, 2, none⟩ (.string a.s)).setCell ⟨w.heap.size, 3, none⟩ (.slice A1 a.kids.length c1)).setCell ⟨w.heap.size + 1, 0, none⟩ (.int .i64 b.op)).setCell ⟨w.heap.size + 1, 1, none⟩ (.int .i64 b.n)).setCell ⟨w.heap.size + 1, 2, none⟩ (.string b.s)).setCell ⟨w.heap.size + 1, 3, none⟩ (.slice A2 b.kids.length c2)) by rw [eW]; rfl)
      have hcR := fun i => RR.out.cell i
      have hcQ := fun i => QQ.out.cell i
      clear eW SW
      go_wp2_with fail
      rw [← EQW.out]
      exact bodyPost_ret (v := .tuple #[.slice As s.length cs, .agg #[.int .i64 a.op, .int .i64 a.n, .string a.s, .slice A1 a.kids.length c1], .agg #[.int .i64 b.op, .int .i64 b.n, .string b.s, .slice A2 b.kids.length c2]]) (by simp [results, Try.results7, go_sem, hcR, hcQ]) rfl ⟨s, a, b, As, cs, A1, c1, A2, c2, rfl, PS.out, pa, .inl EBB.out, SW4.out, AW.out, AW2.out, BW.out⟩
end Go.Proofs.Ytghldoiblbcacaa

/- Unify of small types makes small types: what is within what is made is made of a few types that were given (no program in sight). Conditions: none. -/
namespace Go.Proofs.Ytghldoiblbcacaa
open Go.RowKit
set_option linter.unusedVariables false
set_option linter.unusedSimpArgs false

/-- bare types that stand for themselves -/
def sm1 (l : List GTy) : Prop := ∀ k, k ∈ l → k.kids = [] ∧ ¬ k.op = 2
mutual
/-- each type with kids within is all but bare, or is what g makes of one of R -/
def Cov (g : Int → Option GTy) (R : List GTy) : GTy → Prop
  | .mk op n s kids => kids.length ≤ 2 ∧ (kids = [] ∨ sm1 kids ∨ ∃ r, r ∈ R ∧ GTy.mk op n s kids = r.sub g) ∧ CovL g R kids
def CovL (g : Int → Option GTy) (R : List GTy) : List GTy → Prop
  | [] => True
  | t :: r => Cov g R t ∧ CovL g R r
end
theorem CovL_all {g : Int → Option GTy} {R : List GTy} : ∀ l : List GTy, CovL g R l ↔ ∀ k, k ∈ l → Cov g R k
  | [] => by simp [CovL]
  | t :: r => by
    rw [CovL, CovL_all r]
    constructor
    · rintro ⟨h1, h2⟩ k hk
      rcases List.mem_cons.1 hk with rfl | hk
      · exact h1
      · exact h2 k hk
    · exact fun h => ⟨h t (by simp), fun k hk => h k (by simp [hk])⟩
theorem Cov_eq {g : Int → Option GTy} {R : List GTy} (t : GTy) : Cov g R t ↔ t.kids.length ≤ 2 ∧ (t.kids = [] ∨ sm1 t.kids ∨ ∃ r, r ∈ R ∧ t = r.sub g) ∧ ∀ k, k ∈ t.kids → Cov g R k := by
  cases t with
  | mk op n s kids => rw [Cov, CovL_all]; exact Iff.rfl
theorem cov_leaf {g : Int → Option GTy} {R : List GTy} {t : GTy} (h : t.kids = []) : Cov g R t := by
  rw [Cov_eq, h]
  exact ⟨by simp, .inl rfl, fun k hk => by simp at hk⟩
theorem cov_mono {g : Int → Option GTy} {R R' : List GTy} (h : ∀ r, r ∈ R → r ∈ R') : ∀ (N : Nat) (t : GTy), t.nodes < N → Cov g R t → Cov g R' t := by
  intro N
  induction N with
  | zero => intro t h; omega
  | succ N ih =>
    intro t hn hc
    rw [Cov_eq] at hc ⊢
    refine ⟨hc.1, ?_, fun k hk => ih k (by have := kid_nodes hk; omega) (hc.2.2 k hk)⟩
    rcases hc.2.1 with h1 | h1 | ⟨r, hr, h1⟩
    · exact .inl h1
    · exact .inr (.inl h1)
    · exact .inr (.inr ⟨r, h r hr, h1⟩)
theorem sub_leaf {t : GTy} (g : Int → Option GTy) (h : t.kids = []) (h2 : ¬ t.op = 2) : t.sub g = t := by
  rw [sub_other g h2, h, List.map_nil, ← h, GTy.mk_self]
theorem cov_ext {g g' : Int → Option GTy} {R : List GTy} (hR : ∀ r, r ∈ R → r.okS = true) (h : ∀ u : GTy, u.okS = true → (u.sub g).sub g' = u.sub g') : ∀ (N : Nat) (t : GTy), t.nodes < N → t.okS = true → (∀ m u, t.has m = true → g' m = some u → Cov g' R u) → Cov g R t → Cov g' R (t.sub g') := by
  intro N
  induction N with
  | zero => intro t h; omega
  | succ N ih =>
    intro t hn ho hv hc
    by_cases h2 : t.op = 2
    · have e := okS_var ho h2
      rw [e]
      cases hg : g' t.n with
      | some u =>
        rw [GTy.sub_some rfl rfl (show g' (vT t.n).n = some u from hg)]
        exact hv t.n u (var_has ho h2) hg
      | none => rw [GTy.sub_none (.inr (show g' (vT t.n).n = none from hg))]; exact cov_leaf rfl
    · rw [Cov_eq] at hc
      have e := sub_other g' h2
      rw [Cov_eq]
      have hk : (t.sub g').kids = t.kids.map (GTy.sub g') := by rw [e]; rfl
      rw [hk]
      refine ⟨by rw [List.length_map]; exact hc.1, ?_, fun k hk => ?_⟩
      · rcases hc.2.1 with h1 | h1 | ⟨r, hr, h1⟩
        · exact .inl (by rw [h1]; rfl)
        · refine .inr (.inl fun k hk => ?_)
          obtain ⟨x, hx, rfl⟩ := List.mem_map.1 hk
          have := h1 x hx
          rw [sub_leaf g' this.1 this.2]
          exact this
        · exact .inr (.inr ⟨r, hr, by rw [h1]; exact h r (hR r hr)⟩)
      · obtain ⟨x, hx, rfl⟩ := List.mem_map.1 hk
        exact ih x (by have := kid_nodes hx; omega) (okS_kid ho hx) (fun m u hm hu => hv m u (has_kid hx hm) hu) (hc.2.2 x hx)
theorem cov_same {g g' : Int → Option GTy} {R : List GTy} (hR : ∀ r, r ∈ R → r.okS = true) (h : ∀ u : GTy, u.okS = true → (u.sub g).sub g' = u.sub g') {t : GTy} (ho : t.okS = true) (hv : ∀ m, t.has m = true → g' m = none) (hc : Cov g R t) : Cov g' R t := by
  have h1 := cov_ext hR h (t.nodes + 1) t (by omega) ho (fun m u hm hu => by rw [hv m hm] at hu; cases hu) hc
  rwa [GTy.sub_id t hv] at h1
/-- all of l -/
def CovA (R : List GTy) (l : List GBind) : Prop := ∀ x, x ∈ l → Cov (bindOf l) R x.ty
theorem CovA.some {R : List GTy} {l : List GBind} (h : CovA R l) {m : Int} {u : GTy} (e : bindOf l m = some u) : Cov (bindOf l) R u := by
  obtain ⟨b, hb, -, rfl⟩ := bindOf_some e
  exact h b hb
theorem free_of {V : Int → Prop} {l : List GBind} {t : GTy} (h : ∀ x, x ∈ l → t.has x.n = false) {m : Int} (hm : t.has m = true) : bindOf l m = none :=
  bindOf_none fun x hx e => by rw [← e, h x hx] at hm; cases hm
theorem put_cov {V : Int → Prop} {R : List GTy} (hR : ∀ r, r ∈ R → r.okS = true) {l : List GBind} {n : Int} {t : GTy} (hu : Uni V l) (hu' : Uni V (putB n t l)) (ho : t.okS = true) (hf : ∀ x, x ∈ l → t.has x.n = false) (hn : t.has n = false) (hc : CovA R l) (ht : Cov (bindOf l) R t) : CovA R (putB n t l) := by
  have hext : ∀ u : GTy, u.okS = true → (u.sub (bindOf l)).sub (bindOf (putB n t l)) = u.sub (bindOf (putB n t l)) := fun u hu2 => resp_sub (Resp.of_put hu hu'.resp).1 u hu2
  have hnone : ∀ m, t.has m = true → bindOf (putB n t l) m = none := fun m hm => by
    rw [bindOf_putB, free_of (V := V) hf hm]
    show oneF n t m = none
    cases hd : oneF n t m with
    | none => rfl
    | some u => have := (oneF_some hd).1; rw [this, hn] at hm; cases hm
  have hct : Cov (bindOf (putB n t l)) R t := cov_same hR hext ho hnone ht
  intro x hx
  rcases List.mem_append.1 hx with hx | hx
  · obtain ⟨y, hy, rfl⟩ := List.mem_map.1 hx
    have hyo := (hu.inV y hy).2.1
    have e1 : y.ty.sub (bindOf l) = y.ty := GTy.sub_id _ fun m hm => free_of (V := V) (hu.free y hy) hm
    have e2 : y.ty.sub (oneF n t) = y.ty.sub (bindOf (putB n t l)) := by rw [sub_putB y.ty hyo, e1]
    show Cov (bindOf (putB n t l)) R (y.ty.sub (oneF n t))
    rw [e2]
    refine cov_ext hR hext (y.ty.nodes + 1) y.ty (by omega) hyo (fun m u hm hu2 => ?_) (hc y hy)
    rw [bindOf_putB, free_of (V := V) (hu.free y hy) hm] at hu2
    have hu3 : oneF n t m = some u := hu2
    rw [(oneF_some hu3).2]
    exact hct
  · rw [List.mem_singleton] at hx; subst hx; exact hct
mutual
theorem UniR.cov {V : Int → Prop} {R : List GTy} (hR : ∀ r, r ∈ R → r.okS = true) : ∀ {l : List GBind} {a b : GTy} {r : Option (List GBind)}, UniR l a b r → Uni V l → Good V a → Good V b → Cov (bindOf l) R (a.sub (bindOf l)) → Cov (bindOf l) R (b.sub (bindOf l)) → CovA R l → ∀ l', r = some l' → CovA R l'
  | l, a, b, _, .big _, _, _, _, _, _, _, l', e => by cases e
  | l, a, b, _, .same h1 h2 h3, hu, ga, gb, ca, cb, cl, l', e => by cases e; exact cl
  | l, a, b, _, .occL _ _ _, _, _, _, _, _, _, l', e => by cases e
  | l, a, b, _, .putL h1 h2, hu, ga, gb, ca, cb, cl, l', e => by
    cases e
    exact put_cov hR hu (put_good hu ga gb h1 h2) (gb.sub hu).1.1 (gb.sub hu).2 h2 cl cb
  | l, a, b, _, .putLno _ _ _, _, _, _, _, _, _, l', e => by cases e
  | l, a, b, _, .occR _ _ _, _, _, _, _, _, _, l', e => by cases e
  | l, a, b, _, .putR h0 h1 h2, hu, ga, gb, ca, cb, cl, l', e => by
    cases e
    exact put_cov hR hu (put_good hu gb ga h1 h2) (ga.sub hu).1.1 (ga.sub hu).2 h2 cl ca
  | l, a, b, _, .putRno _ _ _ _, _, _, _, _, _, _, l', e => by cases e
  | l, a, b, _, .clash _ _ _, _, _, _, _, _, _, l', e => by cases e
  | l, a, b, r, .kids h1 h2 h3 h4 h5 hk, hu, ga, gb, ca, cb, cl, l', e => by
    have g1 := ga.sub hu
    have g2 := gb.sub hu
    have i1 : ∀ (z : GTy) (hz : ∀ x, x ∈ l → z.has x.n = false), ∀ x, x ∈ z.kids → x.sub (bindOf l) = x := fun z hz x hx => GTy.sub_id _ fun m hm => free_of (V := V) hz (has_kid hx hm)
    rw [Cov_eq] at ca cb
    exact UniRs.cov hR hk hu (fun x hx => g1.1.kid hx) (fun x hx => g2.1.kid hx) (fun x hx => by rw [i1 _ g1.2 x hx]; exact ca.2.2 x hx) (fun x hx => by rw [i1 _ g2.2 x hx]; exact cb.2.2 x hx) cl l' e
theorem UniRs.cov {V : Int → Prop} {R : List GTy} (hR : ∀ r, r ∈ R → r.okS = true) : ∀ {l : List GBind} {xs ys : List GTy} {r : Option (List GBind)}, UniRs l xs ys r → Uni V l → (∀ x, x ∈ xs → Good V x) → (∀ y, y ∈ ys → Good V y) → (∀ x, x ∈ xs → Cov (bindOf l) R (x.sub (bindOf l))) → (∀ y, y ∈ ys → Cov (bindOf l) R (y.sub (bindOf l))) → CovA R l → ∀ l', r = some l' → CovA R l'
  | l, _, _, _, .nil, hu, _, _, _, _, cl, l', e => by cases e; exact cl
  | l, _, _, _, .fail _, _, _, _, _, _, _, l', e => by cases e
  | l, _, _, r, .cons (l' := l1) (a := a) (b := b) (xs := xs) (ys := ys) ha hk, hu, gx, gy, cx, cy, cl, l', e => by
    obtain ⟨hu1, hf1⟩ := UniR.sound ha hu (gx a (by simp)) (gy b (by simp)) l1 rfl
    have c1 := UniR.cov hR ha hu (gx a (by simp)) (gy b (by simp)) (cx a (by simp)) (cy b (by simp)) cl l1 rfl
    have hext : ∀ u : GTy, u.okS = true → (u.sub (bindOf l)).sub (bindOf l1) = u.sub (bindOf l1) := fun u hu2 => resp_sub (hf1 _ hu1.resp).1 u hu2
    have step : ∀ z : GTy, Good V z → Cov (bindOf l) R (z.sub (bindOf l)) → Cov (bindOf l1) R (z.sub (bindOf l1)) := fun z gz cz => by
      have := cov_ext hR hext ((z.sub (bindOf l)).nodes + 1) (z.sub (bindOf l)) (by omega) (gz.sub hu).1.1 (fun m u _ hu2 => c1.some hu2) cz
      rwa [hext z gz.1] at this
    exact UniRs.cov hR hk hu1 (fun x hx => gx x (by simp [hx])) (fun y hy => gy y (by simp [hy])) (fun x hx => step x (gx x (by simp [hx])) (cx x (by simp [hx]))) (fun y hy => step y (gy y (by simp [hy])) (cy y (by simp [hy]))) c1 l' e
end

/-! ### so it is small -/
theorem filter_less {α : Type} {p q : α → Bool} (h : ∀ x, p x = true → q x = true) {r : α} : ∀ {R : List α}, r ∈ R → p r = false → q r = true → (R.filter p).length < (R.filter q).length
  | [], hr, _, _ => by simp at hr
  | x :: R, hr, hp, hq => by
    have hle : ∀ R : List α, (R.filter p).length ≤ (R.filter q).length := fun R => by
      induction R with
      | nil => simp
      | cons y R ih =>
        simp only [List.filter_cons]
        cases hy : p y
        · cases hz : q y
          · simpa using ih
          · simp; omega
        · rw [h y hy]; simp; exact ih
    simp only [List.filter_cons]
    rcases List.mem_cons.1 hr with rfl | hr
    · rw [hp, hq]
      have := hle R
      simp; omega
    · have ih := filter_less h hr hp hq
      cases hy : p x
      · cases hz : q x
        · simpa using ih
        · simp; omega
      · rw [h x hy]; simp; exact ih
theorem two_kids {l : List GTy} {M : Nat} (hl : l.length ≤ 2) (h : ∀ k, k ∈ l → k.nodes ≤ M) : GTy.nodesL l ≤ 2 * M := by
  match l with
  | [] => simp [GTy.nodesL]
  | [x] => have := h x (by simp); simp only [GTy.nodesL]; omega
  | [x, y] => have := h x (by simp); have := h y (by simp); simp only [GTy.nodesL]; omega
  | x :: y :: z :: r => simp at hl
theorem cov_nodes' {g : Int → Option GTy} {R : List GTy} : ∀ (N : Nat) (t : GTy), t.nodes < N → Cov g R t → t.nodes + 1 ≤ 2 ^ ((R.filter fun r => decide ((r.sub g).nodes ≤ t.nodes)).length + 2) := by
  intro N
  induction N with
  | zero => intro t h; omega
  | succ N ih =>
    intro t hn hc
    rw [Cov_eq] at hc
    obtain ⟨c, hcc⟩ : ∃ c, c = (R.filter fun r => decide ((r.sub g).nodes ≤ t.nodes)).length := ⟨_, rfl⟩
    rw [← hcc]
    have hp : 4 ≤ 2 ^ (c + 2) := by rw [Nat.pow_add]; have : 1 ≤ 2 ^ c := Nat.one_le_two_pow; omega
    rcases hc.2.1 with h1 | h1 | ⟨r, hr, h1⟩
    · rw [GTy.nodes_eq, h1, GTy.nodesL]; omega
    · have := two_kids hc.1 (M := 1) fun k hk => by rw [GTy.nodes_eq, (h1 k hk).1, GTy.nodesL]; omega
      rw [GTy.nodes_eq]; omega
    · have hk : ∀ k, k ∈ t.kids → k.nodes ≤ 2 ^ (c + 1) - 1 := fun k hk => by
        have h2 := kid_nodes hk
        have h3 := ih k (by omega) (hc.2.2 k hk)
        have h4 : (R.filter fun r => decide ((r.sub g).nodes ≤ k.nodes)).length < c := by
          rw [hcc]
          refine filter_less (fun x hx => ?_) hr ?_ ?_
          · rw [decide_eq_true_eq] at hx ⊢; omega
          · rw [decide_eq_false_iff_not, ← h1]; omega
          · rw [decide_eq_true_eq, ← h1]; omega
        have h5 : 2 ^ ((R.filter fun r => decide ((r.sub g).nodes ≤ k.nodes)).length + 2) ≤ 2 ^ (c + 1) := Nat.pow_le_pow_right (by omega) (by omega)
        omega
      have h6 := two_kids hc.1 hk
      have h7 : 2 ^ (c + 2) = 2 * 2 ^ (c + 1) := by rw [Nat.pow_succ 2 (c + 1), Nat.mul_comm]
      have h8 : 1 ≤ 2 ^ (c + 1) := Nat.one_le_two_pow
      rw [GTy.nodes_eq]; omega
theorem cov_nodes {g : Int → Option GTy} {R : List GTy} {k : Nat} {t : GTy} (hR : R.length ≤ k) (h : Cov g R t) : t.nodes + 1 ≤ 2 ^ (k + 2) := by
  refine Nat.le_trans (cov_nodes' (t.nodes + 1) t (by omega) h) (Nat.pow_le_pow_right (by omega) ?_)
  have := List.length_filter_le (fun r => decide ((r.sub g).nodes ≤ t.nodes)) R
  omega
/-- a drawn type of depth 1, 2 -/
theorem cov_sh1 {R : List GTy} {l : List GBind} (hc : CovA R l) {t : GTy} (ho : t.okS = true) (h : shT 1 t) : Cov (bindOf l) R (t.sub (bindOf l)) := by
  by_cases h2 : t.op = 2
  · have e := okS_var ho h2
    rw [e]
    cases hg : bindOf l t.n with
    | some u => rw [GTy.sub_some rfl rfl (show bindOf l (vT t.n).n = some u from hg)]; exact hc.some hg
    | none => rw [GTy.sub_none (.inr (show bindOf l (vT t.n).n = none from hg))]; exact cov_leaf rfl
  · have hk : ∀ x, x ∈ t.kids → x.kids = [] ∧ ¬ x.op = 2 := fun x hx => ⟨(h.2 x hx).1, by rw [(h.2 x hx).2]; decide⟩
    have e : t.kids.map (GTy.sub (bindOf l)) = t.kids := (List.map_congr_left (g := id) fun x hx => sub_leaf _ (hk x hx).1 (hk x hx).2).trans (List.map_id _)
    rw [sub_other _ h2, e, GTy.mk_self, Cov_eq]
    exact ⟨h.1, .inr (.inl hk), fun k hx => cov_leaf (hk k hx).1⟩
theorem cov_sh2 {R : List GTy} {l : List GBind} (hc : CovA R l) {t : GTy} (ho : t.okS = true) (h : shT 2 t) (hm : t ∈ R) : Cov (bindOf l) R (t.sub (bindOf l)) := by
  by_cases h2 : t.op = 2
  · have e := okS_var ho h2
    rw [e]
    cases hg : bindOf l t.n with
    | some u => rw [GTy.sub_some rfl rfl (show bindOf l (vT t.n).n = some u from hg)]; exact hc.some hg
    | none => rw [GTy.sub_none (.inr (show bindOf l (vT t.n).n = none from hg))]; exact cov_leaf rfl
  · rw [Cov_eq]
    have hk : (t.sub (bindOf l)).kids = t.kids.map (GTy.sub (bindOf l)) := by rw [sub_other _ h2]; rfl
    rw [hk]
    refine ⟨by rw [List.length_map]; exact h.1, .inr (.inr ⟨t, hm, rfl⟩), fun k hk => ?_⟩
    obtain ⟨x, hx, rfl⟩ := List.mem_map.1 hk
    exact cov_sh1 hc (okS_kid ho hx) (h.2 x hx)
end Go.Proofs.Ytghldoiblbcacaa

/- What FnMostGeneral asks, of drawn types (no program in sight). Conditions: none. -/
namespace Go.Proofs.Ytghldoiblbcacaa
open Go.RowKit
set_option linter.unusedVariables false
set_option linter.unusedSimpArgs false

theorem ok_parts {t : GTy} (h : t.ok = true) : t.nodes ≤ 200 ∧ t.okS = true := by unfold GTy.ok at h; rwa [Bool.and_eq_true, decide_eq_true_eq] at h
theorem good_drT {d : Nat} {t : GTy} (h : drT d t) (ho : t.okS = true) : Good V5 t := ⟨ho, h.2.1⟩
mutual
theorem okS_n {m : Int} : ∀ t : GTy, t.okS = true → t.has m = true → 0 ≤ m
  | .mk op n s kids, ho, h => by
    by_cases h2 : op = 2
    · have e : GTy.mk op n s kids = vT n := okS_var ho h2
      rw [e, GTy.has_eq] at h
      have e2 : n = m := by simpa [vT, GTy.op, GTy.n, GTy.kids, GTy.hasL] using h
      subst h2
      rw [GTy.okS] at ho
      have h1 := (Bool.and_eq_true _ _ ▸ ho).1
      unfold tyOk1 at h1
      rw [if_neg (by decide), if_pos rfl] at h1
      simp only [Bool.and_eq_true, decide_eq_true_eq] at h1
      rw [← e2]; exact h1.1
    · rw [GTy.has, beq_eq_false_iff_ne.2 h2, Bool.false_and, Bool.false_or] at h
      exact okS_nL kids (okS_kids ho) h
theorem okS_nL {m : Int} : ∀ l : List GTy, GTy.okSL l = true → GTy.hasL m l = true → 0 ≤ m
  | [], _, h => by rw [GTy.hasL] at h; cases h
  | t :: r, ho, h => by
    have h1 := okSL_cons ho
    rw [GTy.hasL, Bool.or_eq_true] at h
    rcases h with h | h
    · exact okS_n t h1.1 h
    · exact okS_nL r h1.2 h
end
theorem good_drT5 {t : GTy} (h : drT5 t) (ho : t.okS = true) : Good V5 t := ⟨ho, fun m hm => ⟨okS_n t ho hm, (h.2.1 m hm).2⟩⟩
theorem sh_drT5 {t : GTy} (h : drT5 t) (hn : t.nodes ≤ 200) : shT 3 t := by
  rcases h.2.2.2 with h1 | h1
  · omega
  · exact h1

/-! ### substitutions that agree on the vars of a type -/
mutual
theorem sub_agree {f g : Int → Option GTy} : ∀ t : GTy, t.okS = true → (∀ m, t.has m = true → (vT m).sub f = (vT m).sub g) → t.sub f = t.sub g
  | .mk op n s kids, ho, h => by
    by_cases h2 : op = 2
    · have e : GTy.mk op n s kids = vT n := okS_var ho h2
      rw [e] at h ⊢
      exact h n (var_has (t := vT n) (by rw [← e]; exact ho) rfl)
    · rw [sub_mk f h2, sub_mk g h2]
      have := sub_agreeL kids (okS_kids ho) fun m hm => h m (by rw [GTy.has, hm, Bool.or_true])
      rw [this]
theorem sub_agreeL {f g : Int → Option GTy} : ∀ l : List GTy, GTy.okSL l = true → (∀ m, GTy.hasL m l = true → (vT m).sub f = (vT m).sub g) → l.map (GTy.sub f) = l.map (GTy.sub g)
  | [], _, _ => rfl
  | t :: r, ho, h => by
    have h1 := okSL_cons ho
    rw [List.map_cons, List.map_cons, sub_agree t h1.1 fun m hm => h m (by rw [GTy.hasL, hm, Bool.true_or]), sub_agreeL r h1.2 fun m hm => h m (by rw [GTy.hasL, hm, Bool.or_true])]
end
mutual
/-- f makes of t what it makes of what g makes of it: so of each var -/
theorem vars_of_eq {f g : Int → Option GTy} : ∀ t : GTy, t.okS = true → t.sub f = (t.sub g).sub f → ∀ m, t.has m = true → (vT m).sub f = ((vT m).sub g).sub f
  | .mk op n s kids, ho, h, m, hm => by
    by_cases h2 : op = 2
    · have e : GTy.mk op n s kids = vT n := okS_var ho h2
      rw [e] at h hm
      rw [GTy.has_eq] at hm
      have e2 : n = m := by simpa [vT, GTy.op, GTy.n, GTy.kids, GTy.hasL] using hm
      rw [← e2]; exact h
    · rw [sub_mk f h2, sub_mk g h2, sub_mk f h2] at h
      injection h with _ _ _ h4
      rw [GTy.has, beq_eq_false_iff_ne.2 h2, Bool.false_and, Bool.false_or] at hm
      exact vars_of_eqL kids (okS_kids ho) h4 m hm
theorem vars_of_eqL {f g : Int → Option GTy} : ∀ l : List GTy, GTy.okSL l = true → l.map (GTy.sub f) = (l.map (GTy.sub g)).map (GTy.sub f) → ∀ m, GTy.hasL m l = true → (vT m).sub f = ((vT m).sub g).sub f
  | [], _, _, m, hm => by rw [GTy.hasL] at hm; cases hm
  | t :: r, ho, h, m, hm => by
    have h1 := okSL_cons ho
    rw [List.map_cons, List.map_cons, List.map_cons] at h
    injection h with ha hb
    rw [GTy.hasL, Bool.or_eq_true] at hm
    rcases hm with hm | hm
    · exact vars_of_eq t h1.1 ha m hm
    · exact vars_of_eqL r h1.2 hb m hm
end
mutual
theorem eq_of_vars {f g : Int → Option GTy} : ∀ t : GTy, t.okS = true → (∀ m, t.has m = true → (vT m).sub f = ((vT m).sub g).sub f) → t.sub f = (t.sub g).sub f
  | .mk op n s kids, ho, h => by
    by_cases h2 : op = 2
    · have e : GTy.mk op n s kids = vT n := okS_var ho h2
      rw [e] at h ⊢
      exact h n (var_has (t := vT n) (by rw [← e]; exact ho) rfl)
    · rw [sub_mk f h2, sub_mk g h2, sub_mk f h2]
      have := eq_of_varsL kids (okS_kids ho) fun m hm => h m (by rw [GTy.has, hm, Bool.or_true])
      rw [this]
theorem eq_of_varsL {f g : Int → Option GTy} : ∀ l : List GTy, GTy.okSL l = true → (∀ m, GTy.hasL m l = true → (vT m).sub f = ((vT m).sub g).sub f) → l.map (GTy.sub f) = (l.map (GTy.sub g)).map (GTy.sub f)
  | [], _, _ => rfl
  | t :: r, ho, h => by
    have h1 := okSL_cons ho
    rw [List.map_cons, List.map_cons, List.map_cons, ← eq_of_vars t h1.1 fun m hm => h m (by rw [GTy.hasL, hm, Bool.true_or]), ← eq_of_varsL r h1.2 fun m hm => h m (by rw [GTy.hasL, hm, Bool.or_true])]
end
mutual
/-- what stands for a var of a type is right if what is made of the type is -/
theorem ok_within {g : Int → Option GTy} {m : Int} : ∀ t : GTy, t.okS = true → t.has m = true → (t.sub g).okS = true → ((vT m).sub g).okS = true
  | .mk op n s kids, ho, hm, hg => by
    by_cases h2 : op = 2
    · have e : GTy.mk op n s kids = vT n := okS_var ho h2
      rw [e] at hm hg
      rw [GTy.has_eq] at hm
      have e2 : n = m := by simpa [vT, GTy.op, GTy.n, GTy.kids, GTy.hasL] using hm
      rw [← e2]; exact hg
    · rw [sub_mk g h2] at hg
      rw [GTy.has, beq_eq_false_iff_ne.2 h2, Bool.false_and, Bool.false_or] at hm
      exact ok_withinL kids (okS_kids ho) hm (okS_kids hg)
theorem ok_withinL {g : Int → Option GTy} {m : Int} : ∀ l : List GTy, GTy.okSL l = true → GTy.hasL m l = true → GTy.okSL (l.map (GTy.sub g)) = true → ((vT m).sub g).okS = true
  | [], _, hm, _ => by rw [GTy.hasL] at hm; cases hm
  | t :: r, ho, hm, hg => by
    have h1 := okSL_cons ho
    rw [List.map_cons] at hg
    have h2 := okSL_cons hg
    rw [GTy.hasL, Bool.or_eq_true] at hm
    rcases hm with hm | hm
    · exact ok_within t h1.1 hm h2.1
    · exact ok_withinL r h1.2 hm h2.2
end

/-! ### a drawn substitution is made of three types -/
theorem made_cov : ∀ {k : Nat} {l : List GBind}, Made k l → Uni V5 l ∧ ∃ R : List GTy, R.length ≤ k ∧ (∀ r, r ∈ R → r.okS = true) ∧ CovA R l := by
  intro k l h
  induction h with
  | nil => exact ⟨Uni.nil _, [], by simp, fun r hr => by simp at hr, fun x hx => by simp at hx⟩
  | skip h ih =>
    obtain ⟨hu, R, h1, h2, h3⟩ := ih
    exact ⟨hu, R, by omega, h2, h3⟩
  | @step k l l' a b h ha hb oka okb hr ih =>
    obtain ⟨hu, R, h1, h2, h3⟩ := ih
    have oa := (ok_parts oka).2
    have ob := (ok_parts okb).2
    have hR : ∀ r, r ∈ b :: R → r.okS = true := fun r hr => by
      rcases List.mem_cons.1 hr with rfl | hr
      · exact ob
      · exact h2 r hr
    have hc : CovA (b :: R) l := fun x hx => cov_mono (fun r hr => List.mem_cons_of_mem _ hr) (x.ty.nodes + 1) x.ty (by omega) (h3 x hx)
    have ga := good_drT ha oa
    have gb := good_drT hb ob
    exact ⟨(hr.sound hu ga gb l' rfl).1, b :: R, by simp; omega, hR, hr.cov hR hu ga gb (cov_sh1 hc oa ha.2.2.1) (cov_sh2 hc ob hb.2.2.1 (by simp)) hc l' rfl⟩
theorem kid_small {R : List GTy} {l : List GBind} {k : Nat} (hR : R.length ≤ k) (hk : k ≤ 4) (hc : CovA R l) {x : GTy} (ho : x.okS = true) (h : shT 2 x) : (x.sub (bindOf l)).nodes ≤ 200 := by
  have hp : 2 ^ (k + 2) ≤ 2 ^ (4 + 2) := Nat.pow_le_pow_right (by omega) (by omega)
  have h64 : (2 : Nat) ^ (4 + 2) = 64 := rfl
  by_cases h2 : x.op = 2
  · have e := okS_var ho h2
    have : Cov (bindOf l) R (x.sub (bindOf l)) := by
      rw [e]
      cases hg : bindOf l x.n with
      | some u => rw [GTy.sub_some rfl rfl (show bindOf l (vT x.n).n = some u from hg)]; exact hc.some hg
      | none => rw [GTy.sub_none (.inr (show bindOf l (vT x.n).n = none from hg))]; exact cov_leaf rfl
    have := cov_nodes hR this
    omega
  · have h3 : ∀ z, z ∈ (x.kids.map (GTy.sub (bindOf l))) → z.nodes ≤ 63 := fun z hz => by
      obtain ⟨y, hy, rfl⟩ := List.mem_map.1 hz
      have := cov_nodes hR (cov_sh1 hc (okS_kid ho hy) (h.2 y hy))
      omega
    have h4 := two_kids (by rw [List.length_map]; exact h.1) h3
    rw [sub_other _ h2, GTy.nodes_eq]
    show 1 + GTy.nodesL (x.kids.map (GTy.sub (bindOf l))) ≤ 200
    omega
theorem Uni.filter {V : Int → Prop} {l : List GBind} (h : Uni V l) (p : GBind → Bool) : Uni V (l.filter p) := by
  refine ⟨(List.filter_sublist.map GBind.n).nodup h.names, fun b hb => h.inV b (List.mem_filter.1 hb).1, fun b hb x hx => h.free b (List.mem_filter.1 hb).1 x (List.mem_filter.1 hx).1⟩
theorem cov_rebase {g g1 : Int → Option GTy} {R : List GTy} (h : ∀ r, r ∈ R → (r.sub g).sub g1 = r.sub g) : ∀ (N : Nat) (t : GTy), t.nodes < N → Cov g R t → Cov g1 (R.map (GTy.sub g)) t := by
  intro N
  induction N with
  | zero => intro t h; omega
  | succ N ih =>
    intro t hn hc
    rw [Cov_eq] at hc ⊢
    refine ⟨hc.1, ?_, fun k hk => ih k (by have := kid_nodes hk; omega) (hc.2.2 k hk)⟩
    rcases hc.2.1 with h1 | h1 | ⟨r, hr, h1⟩
    · exact .inl h1
    · exact .inr (.inl h1)
    · exact .inr (.inr ⟨r.sub g, List.mem_map_of_mem hr, by rw [h1]; exact (h r hr).symm⟩)
theorem Uni.at {V : Int → Prop} {l : List GBind} (h : Uni V l) {x : GBind} (hx : x ∈ l) : (vT x.n).sub (bindOf l) = x.ty := by
  have h1 := h.resp x hx
  rw [h1]
  exact GTy.sub_id _ fun m hm => free_of (V := V) (h.free x hx) hm
theorem bare_sub {l : List GBind} {m : Int} (h : bindOf l m = none) : (vT m).sub (bindOf l) = vT m := by
  rw [GTy.sub_none (.inr (show bindOf l (vT m).n = none from h))]; rfl
theorem bound_sub {l : List GBind} {m : Int} {u : GTy} (h : bindOf l m = some u) : (vT m).sub (bindOf l) = u := GTy.sub_some rfl rfl (show bindOf l (vT m).n = some u from h)

/-- the types are one of them what the substitution makes of the other: where there is a unifier there is a small one -/
theorem small_applied {s : List GBind} {a : GTy} (hs : drSub s) (ha : drT5 a) (oka : a.ok = true) (okb : (a.sub (bindOf s)).ok = true) {f : Int → Option GTy} (hf : a.sub f = (a.sub (bindOf s)).sub f) : ∃ t : Int → Option GTy, a.sub t = (a.sub (bindOf s)).sub t ∧ ∀ x, x ∈ a.kids → (x.sub t).nodes ≤ 200 := by
  obtain ⟨l0, hm, hu, hfew, hs⟩ := hs
  obtain ⟨-, R, hR1, hR2, hc⟩ := made_cov hm
  obtain ⟨na, oa⟩ := ok_parts oka
  have ob := (ok_parts okb).2
  have sa := sh_drT5 ha na
  have gk : ∀ x, x ∈ a.kids → x.okS = true ∧ shT 2 x := fun x hx => ⟨okS_kid oa hx, sa.2 x hx⟩
  -- where s is as l0 on the vars of a
  have easy : (∀ m, a.has m = true → bindOf s m = bindOf l0 m) → ∃ t : Int → Option GTy, a.sub t = (a.sub (bindOf s)).sub t ∧ ∀ x, x ∈ a.kids → (x.sub t).nodes ≤ 200 := fun h => by
    refine ⟨bindOf l0, ?_, fun x hx => kid_small hR1 (by omega) hc (gk x hx).1 (gk x hx).2⟩
    have e : a.sub (bindOf s) = a.sub (bindOf l0) := sub_agree a oa fun m hm => by
      cases hb : bindOf l0 m with
      | some u => rw [bound_sub hb, bound_sub ((h m hm).trans hb)]
      | none => rw [bare_sub hb, bare_sub ((h m hm).trans hb)]
    rw [e, hu.twice oa]
  rcases hs with rfl | ⟨n, U, rfl, hn, hU⟩ | rfl
  · exact easy fun m hm => rfl
  · have hb : ∀ m, bindOf (l0 ++ [⟨n, U⟩]) m = (bindOf l0 m).orElse fun _ => oneF n U m := fun m => bindOf_append l0 [⟨n, U⟩] m
    by_cases hcase : a.has n = true ∧ bindOf l0 n = none
    · obtain ⟨han, hln⟩ := hcase
      have hsn : bindOf (l0 ++ [⟨n, U⟩]) n = some U := by rw [hb, hln]; exact oneF_self n U
      have oU : U.okS = true := by
        have := ok_within a oa han ob
        rwa [bound_sub hsn] at this
      have hvars := vars_of_eq a oa hf
      obtain ⟨l1, e1⟩ : ∃ l1, l1 = l0.filter (fun x => a.has x.n) := ⟨_, rfl⟩
      have hu1 : Uni V5 l1 := by rw [e1]; exact hu.filter _
      have hin : ∀ x, x ∈ l1 → x ∈ l0 ∧ a.has x.n = true := fun x hx => by rw [e1] at hx; exact List.mem_filter.1 hx
      have hat0 : ∀ x, x ∈ l0 → bindOf l0 x.n = some x.ty := fun x hx => by
        have h1 := hu.at hx
        cases hc2 : bindOf l0 x.n with
        | some u => rw [bound_sub hc2] at h1; rw [h1]
        | none => obtain ⟨u, hu2⟩ := bindOf_mem hx; rw [hc2] at hu2; cases hu2
      have hsx : ∀ x, x ∈ l0 → bindOf (l0 ++ [⟨n, U⟩]) x.n = some x.ty := fun x hx => by rw [hb, hat0 x hx]; rfl
      have hr1 : Resp f l1 := fun x hx => by
        obtain ⟨h1, h2⟩ := hin x hx
        have := hvars x.n h2
        rwa [bound_sub (hsx x h1)] at this
      have hfn : (vT n).sub f = U.sub f := by
        have := hvars n han
        rwa [bound_sub hsn] at this
      have hR1' : ∀ r, r ∈ R → (r.sub (bindOf l0)).sub (bindOf l1) = r.sub (bindOf l0) := fun r hr => GTy.sub_id _ fun m hm => bindOf_none fun x hx e => by
        have h3 := GTy.sub_has (f := bindOf l0) (n := x.n) (fun m u hu2 => by obtain ⟨b, hb2, -, rfl⟩ := bindOf_some hu2; exact hu.free b hb2 x (hin x hx).1) (bindOf_mem (hin x hx).1) r (hR2 r hr)
        rw [e, hm] at h3; cases h3
      have hRo : ∀ r, r ∈ R.map (GTy.sub (bindOf l0)) → r.okS = true := fun r hr => by
        obtain ⟨q, hq, rfl⟩ := List.mem_map.1 hr
        exact GTy.okS_sub (fun m u hu2 => by obtain ⟨b, hb2, -, rfl⟩ := bindOf_some hu2; exact (hu.inV b hb2).2.1) q (hR2 q hq)
      have hc1 : CovA (R.map (GTy.sub (bindOf l0))) l1 := fun x hx => cov_rebase hR1' (x.ty.nodes + 1) x.ty (by omega) (hc x (hin x hx).1)
      have hl1 : ∀ m, a.has m = true → bindOf l1 m = bindOf l0 m := fun m hm => by
        cases hc2 : bindOf l0 m with
        | none => exact bindOf_none fun x hx e => by rw [← e, hat0 x (hin x hx).1] at hc2; cases hc2
        | some u =>
          obtain ⟨x, hx, rfl, rfl⟩ := bindOf_some hc2
          have hx1 : x ∈ l1 := by rw [e1]; exact List.mem_filter.2 ⟨hx, hm⟩
          have h1 := hu1.at hx1
          cases hc3 : bindOf l1 x.n with
          | some u => rw [bound_sub hc3] at h1; rw [h1]
          | none => obtain ⟨u, hu2⟩ := bindOf_mem hx1; rw [hc3] at hu2; cases hu2
      -- any t that respects l1 and n
      have fin : ∀ t : Int → Option GTy, Resp t l1 → (vT n).sub t = U.sub t → a.sub t = (a.sub (bindOf (l0 ++ [⟨n, U⟩]))).sub t := fun t ht htn => eq_of_vars a oa fun m hm => by
        by_cases hmn : m = n
        · rw [hmn, bound_sub hsn]; exact htn
        · cases hc2 : bindOf l0 m with
          | some u =>
            obtain ⟨x, hx, rfl, rfl⟩ := bindOf_some hc2
            rw [bound_sub (hsx x hx)]
            exact ht x (by rw [e1]; exact List.mem_filter.2 ⟨hx, hm⟩)
          | none =>
            have : bindOf (l0 ++ [⟨n, U⟩]) m = none := by
              rw [hb, hc2]
              show oneF n U m = none
              cases hd : oneF n U m with
              | none => rfl
              | some u => exact absurd (oneF_some hd).1 hmn
            rw [bare_sub this]
      have hl1n : bindOf l1 n = none := (hl1 n han).trans hln
      obtain ⟨t, et⟩ : ∃ t, t = U.sub (bindOf l1) := ⟨_, rfl⟩
      have hft : t.sub f = (vT n).sub f := by rw [et, resp_sub hr1 U oU, hfn]
      have gU : Good V5 U := good_drT hU oU
      have gt : Good V5 t ∧ ∀ x, x ∈ l1 → t.has x.n = false := by rw [et]; exact gU.sub hu1
      by_cases hself : t = vT n
      · refine ⟨bindOf l1, fin _ hu1.resp ?_, fun x hx => kid_small (k := 3) (by rw [List.length_map]; exact hR1) (by omega) hc1 (gk x hx).1 (gk x hx).2⟩
        rw [bare_sub hl1n, ← et, hself]
      · have hno : t.has n = false := by
          cases hh : t.has n
          · rfl
          · exfalso
            by_cases h2 : t.op = 2
            · have e := okS_var gt.1.1 h2
              rw [e, GTy.has_eq] at hh
              have : t.n = n := by simpa [vT, GTy.op, GTy.n, GTy.kids, GTy.hasL] using hh
              rw [this] at e
              exact hself e
            · have := has_less (f := f) gt.1.1 hh h2
              rw [hft] at this
              omega
        have hu2 : Uni V5 (putB n t l1) := hu1.put (by exact ⟨hn.1, by omega⟩) (fun x hx e => by
          have := hat0 x (hin x hx).1
          rw [e, hln] at this; cases this) gt.1.1 gt.1.2 gt.2 hno
        have hRU : ∀ r, r ∈ U :: R.map (GTy.sub (bindOf l0)) → r.okS = true := fun r hr => by
          rcases List.mem_cons.1 hr with rfl | hr
          · exact oU
          · exact hRo r hr
        have hc1' : CovA (U :: R.map (GTy.sub (bindOf l0))) l1 := fun x hx => cov_mono (fun r hr => List.mem_cons_of_mem _ hr) (x.ty.nodes + 1) x.ty (by omega) (hc1 x hx)
        have hct : Cov (bindOf l1) (U :: R.map (GTy.sub (bindOf l0))) t := by rw [et]; exact cov_sh2 hc1' oU hU.2.2.1 (by simp)
        have hc2 : CovA (U :: R.map (GTy.sub (bindOf l0))) (putB n t l1) := put_cov hRU hu1 hu2 gt.1.1 gt.2 hno hc1' hct
        obtain ⟨k1, k2⟩ := Resp.of_put hu1 hu2.resp
        refine ⟨bindOf (putB n t l1), fin _ k1 ?_, fun x hx => kid_small (k := 4) (by simp; omega) (by omega) hc2 (gk x hx).1 (gk x hx).2⟩
        have h5 := resp_sub k1 U oU
        rw [← et] at h5
        rw [k2]; exact h5
    · refine easy fun m hm => ?_
      rw [hb]
      cases hc2 : bindOf l0 m with
      | some u => rfl
      | none =>
        show oneF n U m = none
        cases hd : oneF n U m with
        | none => rfl
        | some u =>
          exfalso
          have := (oneF_some hd).1
          rw [this] at hm hc2
          exact hcase ⟨hm, hc2⟩
  · refine easy fun m hm => ?_
    have hb : bindOf (l0 ++ [⟨-1, .mk 0 0 ⟨#[]⟩ []⟩]) m = (bindOf l0 m).orElse fun _ => oneF (-1) (.mk 0 0 ⟨#[]⟩ []) m := bindOf_append l0 _ m
    rw [hb]
    cases hc2 : bindOf l0 m with
    | some u => rfl
    | none =>
      show oneF (-1) (.mk 0 0 ⟨#[]⟩ []) m = none
      cases hd : oneF (-1) (.mk 0 0 ⟨#[]⟩ []) m with
      | none => rfl
      | some u =>
        exfalso
        have h1 := (oneF_some hd).1
        have h2 := okS_n a oa hm
        omega
/-- the types are drawn each by itself -/
theorem small_two {a b : GTy} (ha : drT5 a) (hb : drT5 b) (oka : a.ok = true) (okb : b.ok = true) (h1 : ¬ a.op = 2) (h2 : ¬ b.op = 2) {f : Int → Option GTy} (hf : a.sub f = b.sub f) : ∃ t : Int → Option GTy, a.sub t = b.sub t ∧ ∀ x, x ∈ a.kids → (x.sub t).nodes ≤ 200 := by
  obtain ⟨na, oa⟩ := ok_parts oka
  obtain ⟨nb, ob⟩ := ok_parts okb
  have sa := sh_drT5 ha na
  have sb := sh_drT5 hb nb
  have ga := good_drT5 ha oa
  have gb := good_drT5 hb ob
  have e0 : ∀ t : GTy, t.sub (bindOf []) = t := fun t => GTy.sub_id t fun n _ => rfl
  obtain ⟨l', hr, -⟩ := UniR.some_of (V := V5) (f := f) (a.sub f).nodes (Nat.le_refl _) (Uni.nil V5) ga gb (Resp.nil f) hf
  obtain ⟨hu', hs'⟩ := hr.sound (Uni.nil V5) ga gb l' rfl
  have hR : ∀ r, r ∈ a.kids ++ b.kids → r.okS = true := fun r hr => by
    rcases List.mem_append.1 hr with hr | hr
    · exact okS_kid oa hr
    · exact okS_kid ob hr
  have hRl : (a.kids ++ b.kids).length ≤ 4 := by rw [List.length_append]; have := sa.1; have := sb.1; omega
  have hnil : CovA (a.kids ++ b.kids) [] := fun x hx => by simp at hx
  have hc : CovA (a.kids ++ b.kids) l' := by
    generalize hq : some l' = r at hr
    cases hr with
    | big h => cases hq
    | same k1 k2 k3 => rw [e0] at k1; exact absurd k1 h1
    | occL k1 k2 k3 => cases hq
    | putL k1 k2 => rw [e0] at k1; exact absurd k1 h1
    | putLno k1 k2 k3 => cases hq
    | occR k0 k1 k2 => cases hq
    | putR k0 k1 k2 => rw [e0] at k1; exact absurd k1 h2
    | putRno k0 k1 k2 k3 => cases hq
    | clash k1 k2 k3 => cases hq
    | kids k1 k2 k3 k4 k5 hk =>
      rw [e0, e0] at hk
      exact UniRs.cov (V := V5) hR hk (Uni.nil V5) (fun x hx => ga.kid hx) (fun x hx => gb.kid hx)
        (fun x hx => cov_sh2 hnil (okS_kid oa hx) (sa.2 x hx) (List.mem_append_left _ hx))
        (fun x hx => cov_sh2 hnil (okS_kid ob hx) (sb.2 x hx) (List.mem_append_right _ hx)) hnil l' hq.symm
  exact ⟨bindOf l', (hs' _ hu'.resp).2, fun x hx => kid_small hRl (Nat.le_refl _) hc (okS_kid oa hx) (sa.2 x hx)⟩
/-- any two runs tell the same of drawn types -/
theorem most_same {s : List GBind} {a b : GTy} (hs : drSub s) (ha : drT5 a) (hb : b = a.sub (bindOf s) ∨ drT5 b) (oka : a.ok = true) (okb : b.ok = true) (gb : Good V5 b) {r1 r2 : Option (List GBind)} (h1 : UniR [] a b r1) (h2 : UniR [] a b r2) : r1.isSome = r2.isSome := by
  obtain ⟨na, oa⟩ := ok_parts oka
  obtain ⟨nb, ob⟩ := ok_parts okb
  have ga := good_drT5 ha oa
  have key : ∀ {f : Int → Option GTy}, a.sub f = b.sub f → ∃ t : Int → Option GTy, a.sub t = b.sub t ∧ (¬ a.op = 2 → ¬ b.op = 2 → ∀ x, x ∈ a.kids → (x.sub t).nodes ≤ 200) := fun {f} hf => by
    rcases hb with rfl | hb
    · obtain ⟨t, t1, t2⟩ := small_applied hs ha oka okb hf
      exact ⟨t, t1, fun _ _ => t2⟩
    · by_cases h1 : a.op = 2
      · exact ⟨f, hf, fun c => absurd h1 c⟩
      · by_cases h2 : b.op = 2
        · exact ⟨f, hf, fun _ c => absurd h2 c⟩
        · obtain ⟨t, t1, t2⟩ := small_two ha hb oka okb h1 h2 hf
          exact ⟨t, t1, fun _ _ => t2⟩
  have one : ∀ {r r' : Option (List GBind)}, UniR [] a b r → UniR [] a b r' → r.isSome = true → r'.isSome = true := fun {r r'} k1 k2 hs1 => by
    cases r with
    | none => cases hs1
    | some l =>
      obtain ⟨hu, hf⟩ := k1.sound (Uni.nil V5) ga gb l rfl
      obtain ⟨t, t1, t2⟩ := key (hf _ hu.resp).2
      obtain ⟨l', e, -⟩ := k2.start ga gb na nb t1 t2
      rw [e]; rfl
  cases e1 : r1.isSome <;> cases e2 : r2.isSome
  · rfl
  · rw [one h2 h1 e2] at e1; cases e1
  · rw [one h1 h2 e1] at e2; cases e2
  · rfl
end Go.Proofs.Ytghldoiblbcacaa

/- What Digits computes, in the program and in the reference. Conditions: the argument fits an int. -/
namespace Go.Proofs.Ytghldoiblbcacaa
open Go.RowKit
set_option linter.unusedVariables false
set_option linter.unusedSimpArgs false

theorem digI_size (n : Int) (h1 : -9223372036854775808 ≤ n) (h2 : n ≤ 9223372036854775807) : (digI n).size ≤ 20 := by
  unfold digI
  split
  · rw [ByteArray.size_append']
    have := digU_size19 (-n).toNat (by omega)
    have h1 : (ByteArray.mk #[45]).size = 1 := rfl
    omega
  · have := digU_size19 n.toNat (by omega); omega

theorem digI_neg1 {n : Int} (h1 : n < 0) : digI n = ⟨#[45]⟩ ++ digI (-n) := by
  unfold digI; rw [if_pos h1, if_neg (by omega)]

theorem digI_lt {n : Int} (h1 : 0 ≤ n) (h : n < 10) : digI n = one (48 + n) := by
  unfold digI; rw [if_neg (by omega), digU_lt (by omega)]
  congr 1; omega

theorem digI_ge {n : Int} (h : 10 ≤ n) : digI n = digI (n / 10) ++ one (48 + n % 10) := by
  unfold digI; rw [if_neg (by omega), if_neg (by omega), digU_ge (by omega)]
  congr 2
  · omega
  · omega

theorem digI_neg10 {n : Int} (h : n ≤ -10) : digI n = digI (n.tdiv 10) ++ digI (-(n.tmod 10)) := by
  have h3 := tdiv10 n
  have h4 := tmod10 n
  have e1 : n.tdiv 10 = -((-n) / 10) := h3.2 (by omega)
  have e2 : n.tmod 10 = -((-n) % 10) := h4.2 (by omega)
  rw [e1, e2, digI_neg1 (n := n) (by omega), digI_neg1 (n := -((-n) / 10)) (by omega), digI_ge (n := -n) (by omega), digI_lt (n := - -(-n % 10)) (by omega) (by omega), ba_assoc]
  simp

theorem implDigits (k : Nat) : ∀ (n : Int) (w : World), ((0 ≤ n → 2 * n ≤ k) ∧ (n < 0 → -2 * n + 1 ≤ k)) → -9223372036854775808 ≤ n → n ≤ 9223372036854775807 →
    Calls Try.prog 52 #[.int .i64 n] w fun e w' => e = .returned (.string (digI n)) ∧ w = w' := by
  induction k with
  | zero =>
    intro n w hk h1 h2
    obtain rfl : n = 0 := by omega
    clear hk
    go_enter Try.func52, Try.ntmps52
    go_wp2_with fail
    go_ret
    exact ⟨ret_str (by decide +kernel), rfl⟩
  | succ k ih =>
    intro n w hk h1 h2
    by_cases hn : n < 0
    · by_cases h10 : -10 < n
      · have Hd := Lib.hid (digI_neg1 hn)
        have hsz := digI_size (-n) (by omega) (by omega)
        have hd9 : 0 ≤ -n := by omega
        go_enter Try.func52, Try.ntmps52
        go_wp2_with fail
        refine (ih (-n) _ (by omega) (by omega) (by omega)).mono ?_; rintro e w' ⟨rfl, rfl⟩
        go_wp2_with fail
        go_ret
        exact ⟨ret_str Hd.out.symm, rfl⟩
      · have Hd := Lib.hid (digI_neg10 (n := n) (by omega))
        have h3 := tdiv10 n
        have h4 := tmod10 n
        have hsz := digI_size (n.tdiv 10) (by omega) (by omega)
        have hsz2 := digI_size (-(n.tmod 10)) (by omega) (by omega)
        have hb : -9 ≤ n.tmod 10 ∧ n.tmod 10 ≤ 0 := by omega
        have hb2 : -922337203685477580 ≤ n.tdiv 10 ∧ n.tdiv 10 ≤ -1 := by omega
        have hb3 : -2 * n.tdiv 10 + 1 ≤ k := by omega
        clear h3 h4
        go_enter Try.func52, Try.ntmps52
        go_wp2_with fail
        refine (ih (n.tdiv 10) _ (by omega) (by omega) (by omega)).mono ?_; rintro e w' ⟨rfl, rfl⟩
        go_wp2_with fail
        refine (ih (-(n.tmod 10)) _ (by omega) (by omega) (by omega)).mono ?_; rintro e w' ⟨rfl, rfl⟩
        go_wp2_with fail
        go_ret
        exact ⟨ret_str Hd.out.symm, rfl⟩
    · by_cases h10 : n < 10
      · have Hd := Lib.hid (digI_lt (n := n) (by omega) h10)
        have He := Lib.hid (encode_one (r := 48 + n) (by omega) (by omega))
        have hn0 : 0 ≤ n := by omega
        go_enter Try.func52, Try.ntmps52
        go_wp2_with fail
        go_ret
        exact ⟨ret_str (by rw [Hd.out, ← He.out]), rfl⟩
      · have Hd := Lib.hid (digI_ge (n := n) (by omega))
        have He := Lib.hid (encode_one (r := 48 + n % 10) (by omega) (by omega))
        have hsz := digI_size (n / 10) (by omega) (by omega)
        have hs2 : (Utf8.encode (48 + n % 10)).size ≤ 1 := by rw [He.out]; exact Nat.le_refl 1
        have hn0 : 10 ≤ n := by omega
        go_enter Try.func52, Try.ntmps52
        go_wp2_with fail
        refine (ih (n / 10) _ (by omega) (by omega) (by omega)).mono ?_; rintro e w' ⟨rfl, rfl⟩
        go_wp2_with fail
        go_ret
        exact ⟨ret_str (by rw [Hd.out, ← He.out]), rfl⟩

theorem implDigits' (n : Int) (w : World) (h1 : -9223372036854775808 ≤ n) (h2 : n ≤ 9223372036854775807) :
    Calls Try.prog 52 #[.int .i64 n] w fun e w' => e = .returned (.string (digI n)) ∧ w = w' :=
  implDigits (2 * n.natAbs + 1) n w (by omega) h1 h2

end Go.Proofs.Ytghldoiblbcacaa

/- frozen of the laws: a type whose vars stand for nothing. Conditions: vars are 0 to 4. -/
namespace Go.Proofs.Ytghldoiblbcacaa
open Go.RowKit
set_option linter.unusedVariables false
set_option linter.unusedSimpArgs false
set_option maxHeartbeats 800000

/-- the name of a var that stands for nothing -/
def vS (n : Int) : ByteArray := ⟨#[86]⟩ ++ digI n
mutual
def GTy.frz : GTy → GTy | .mk op n s kids => if op = 2 then .mk 4 0 (vS n) [] else .mk op n s (GTy.frzL kids)
def GTy.frzL : List GTy → List GTy | [] => [] | t :: r => t.frz :: GTy.frzL r
end
theorem GTy.frzL_map : ∀ l : List GTy, GTy.frzL l = l.map GTy.frz
  | [] => by rw [GTy.frzL]; rfl
  | t :: r => by rw [GTy.frzL, GTy.frzL_map r]; rfl
theorem frz_var {t : GTy} (h : t.op = 2) : t.frz = .mk 4 0 (vS t.n) [] := by
  cases t with
  | mk op n s kids => simp only [GTy.op] at h; rw [GTy.frz, if_pos h]; rfl
theorem frz_other {t : GTy} (h : ¬ t.op = 2) : t.frz = .mk t.op t.n t.s (t.kids.map GTy.frz) := by
  cases t with
  | mk op n s kids => simp only [GTy.op] at h; rw [GTy.frz, if_neg h, GTy.frzL_map]; rfl

set_option maxRecDepth 20000 in
theorem lawFrozen (k : Nat) : ∀ (t : GTy) (A1 : Option Addr) (c1 : Nat) (w : World), t.bulk < k → t.bulk ≤ 1048576 → (∀ n, t.has n = true → V5 n) → GTy.At w (Lt w.heap.size) A1 c1 t →
    Calls Try.prog 15 #[.agg #[.int .i64 t.op, .int .i64 t.n, .string t.s, .slice A1 t.kids.length c1]] w (ToTy t.frz w) := by
  induction k with
  | zero => intro t A1 c1 w hk; omega
  | succ k ih =>
    intro t A1 c1 w hk h1 hv hat
    have hbe := t.bulk_eq
    have hlen : t.kids.length ≤ 1048576 := by have := bulkL_len GTy.bulk t.kids; omega
    have HH := Lib.hid (fun (j : Nat) (h : j < t.kids.length) (A1 : Option Addr) (c1 : Nat) (w : World) => ih t.kids[j] A1 c1 w (by have := bulkL_mem GTy.bulk t.kids _ (List.getElem_mem h); omega) (by have := bulkL_mem GTy.bulk t.kids _ (List.getElem_mem h); omega) (fun n hn => hv n (has_kid (List.getElem_mem h) hn)))
    have T0 := Lib.hid hat
    have HV := Lib.hid hv
    clear ih hbe hk h1 hat hv
    by_cases o2 : t.op = 2
    · have o2' : (t.op == 2) = true := by simp [o2]
      have FZ := Lib.hid (frz_var o2)
      have hn5 := HV.out t.n (by rw [GTy.has_eq, o2]; simp)
      have hn6 : 0 ≤ t.n ∧ t.n < 5 := hn5
      clear o2 hn5
      go_enter Try.func15, Try.ntmps15
      go_wp2_with fail
      refine (implDigits' t.n _ (by omega) (by omega)).mono ?_
      rintro e w1 ⟨rfl, rfl⟩
      have hds := digI_size t.n (by omega) (by omega)
      obtain ⟨d, ed⟩ : ∃ d, d = digI t.n := ⟨_, rfl⟩
      have ED := Lib.hid ed
      rw [← ed] at hds ⊢
      clear ed
      have hcl : (ByteArray.mk #[86]).size + d.size ≤ 9223372036854775807 := by have : (ByteArray.mk #[86]).size = 1 := rfl; omega
      go_wp2_with fail
      have e1 : (w.alloc (.cells #[.int .i64 t.op, .int .i64 t.n, .string t.s, .slice A1 t.kids.length c1] 27)).heap.size = w.heap.size + 1 := by simp
      exact bodyPost_ret (v := .agg #[.int .i64 4, .int .i64 0, .string (⟨#[86]⟩ ++ d), .slice none 0 0]) (by simp [results, Try.results15, go_sem]) rfl ⟨none, 0, by rw [FZ.out, ED.out]; rfl, by rw [FZ.out]; exact ⟨show (Lit.int .i64 4).wf = true by decide, show (Lit.int .i64 0).wf = true by decide, by show (vS t.n).size ≤ maxLen; unfold vS; rw [← ED.out, ByteArray.size_append]; unfold maxLen; have : (ByteArray.mk #[86]).size = 1 := rfl; omega, Osl.nil (by unfold maxLen; omega)⟩, ((Below.refl _ _).alloc (Nat.le_refl _) _).alloc (by rw [e1]; omega) _⟩
    have o2' : (t.op == 2) = false := by simp [o2]
    have FZ := Lib.hid (frz_other o2)
    clear o2
    obtain ⟨w0, e0⟩ : ∃ w0, w0 = ((w.alloc (.cells #[.int .i64 t.op, .int .i64 t.n, .string t.s, .slice A1 t.kids.length c1] 27)).alloc (.cells #[.int .i64 0, .int .i64 0, .string ⟨#[]⟩, .slice none 0 0] 27)).alloc (.cells #[.int .i64 t.op, .int .i64 t.n, .string t.s, .slice none 0 0] 27) := ⟨_, rfl⟩
    have B0 : Below w.heap.size w w0 := by rw [e0]; exact (((Below.refl _ _).alloc (Nat.le_refl _) _).alloc (by simp) _).alloc (by simp; omega) _
    have S0 : w0.heap.size = w.heap.size + 3 := by rw [e0]; simp
    have Ra0 : Row w0 w.heap.size 27 #[.int .i64 t.op, .int .i64 t.n, .string t.s, .slice A1 t.kids.length c1] := by rw [e0]; exact ((Row.new' _ _ _ rfl).alloc _).alloc _
    have Rz0 : Row w0 (w.heap.size + 1) 27 #[.int .i64 0, .int .i64 0, .string ⟨#[]⟩, .slice none 0 0] := by rw [e0]; exact (Row.new' _ _ _ (by simp)).alloc _
    have Ro0 : Row w0 (w.heap.size + 1 + 1) 27 #[.int .i64 t.op, .int .i64 t.n, .string t.s, .slice none 0 0] := by rw [e0]; exact Row.new' _ _ _ (by simp)
    have HB0 := Lib.hid B0
    have HRa0 := Lib.hid Ra0
    have HRz0 := Lib.hid Rz0
    have HRo0 := Lib.hid Ro0
    have hs0 : w.heap.size + 3 ≤ w0.heap.size := by omega
    clear B0 S0 Ra0 Rz0 Ro0
    go_enter Try.func15, Try.ntmps15
    go_wp2_with fail
    rw [← e0]
    clear e0
    go_loopw [4] (fun i wr => ∃ (j : Nat) (A : Option Addr) (c : Nat), j ≤ t.kids.length ∧ i = .int .i64 j ∧ Hid (Gow wr (w.heap.size + 3) wr.heap.size 27 4 (.slice A j c) j (((t.kids.take j).map GTy.frz).map GTy.toD)) ∧ Hid (Row wr w.heap.size 27 #[.int .i64 t.op, .int .i64 t.n, .string t.s, .slice A1 t.kids.length c1]) ∧ Hid (Row wr (w.heap.size + 1) 27 #[.int .i64 0, .int .i64 0, .string ⟨#[]⟩, .slice none 0 0]) ∧ Hid (Row wr (w.heap.size + 1 + 1) 27 #[.int .i64 t.op, .int .i64 t.n, .string t.s, .slice A j c]) ∧ w.heap.size + 3 ≤ wr.heap.size ∧ Below w.heap.size w wr) (fun i _ => t.kids.length - (intOf i).toNat)
    case atStart => exact ⟨0, none, 0, by omega, by go_num, Lib.hid (Gow.nil _ _ _ _ _), HRa0, HRz0, HRo0, hs0, HB0.out⟩
    case round =>
      clear HRa0 HRz0 HRo0 HB0 hs0
      obtain ⟨j, A, c, hj, rfl, HG, HRa, HRz, HRo, hs3, hbl⟩ := hrel
      have hsz := hbl.size
      have hca := fun i => HRa.out.cell i
      have hco := fun i => HRo.out.cell i
      by_cases hlt : j < t.kids.length
      · obtain ⟨b, off, A2, c2, eA, hSb, g0, g1, g2, g3, hat⟩ := GTy.elem (T0.out.below hbl (Nat.le_refl _)).2.2.2 j hlt
        subst eA
        have hblt : b < wr.heap.size := Nat.lt_of_lt_of_le hSb hsz
        have hSb' : b < w.heap.size := hSb
        have HA := Lib.hid (hat.keep (S' := Lt wr.drew.heap.size) (w' := wr.drew) fun q hq => ⟨Nat.lt_of_lt_of_le hq hsz, rfl⟩)
        clear hat
        go_wp2_with fail
        go_region_law (first
          | (refine step_append_D w1 rfl (.tmp 28) (.tmp 35) 25 rfl 27 zTy 4 56 Try.underlying25 (by kernel_rfl) rfl (by omega) (w.heap.size + 3) wr.heap.size _ j _ HG1.out (t.kids[j]).frz.toD [.int .i64 (t.kids[j]).frz.op, .int .i64 (t.kids[j]).frz.n, .string (t.kids[j]).frz.s, .slice A3 (t.kids[j]).frz.kids.length c3] how1.out (by omega) B1.out.size rfl (by simp [Value.oneCell']) (by omega) (by omega) 27 rfl w1.heap.size rfl rfl ?_
             intro g cap w2 G2 Bq2 hs2 hg2 hgl2
             have G3 := Lib.hid G2
             have B2 := Lib.hid Bq2
             have Ro3 := Lib.hid (Ro1.out.below Bq2 (by omega))
             have hco3 := fun i => Ro3.out.cell i
             have hfo3 := fun i => Ro3.out.frozen i
             clear G2 Bq2)
          | (go_simp
             go_at_call 15
             refine (HH.out j hlt A2 c2 _ HA.out).mono ?_
             rintro e w1 ⟨A3, c3, rfl, how, hb1⟩
             have B1 := Lib.hid (((Below.refl wr.heap.size wr).drew).trans hb1)
             have Ra1 := Lib.hid (HRa.out.below B1.out (by omega))
             have Ro1 := Lib.hid (HRo.out.below B1.out (by omega))
             have hca1 := fun i => Ra1.out.cell i
             have hco1 := fun i => Ro1.out.cell i
             have hco2 := Ro1.out.lt
             have HG1 := Lib.hid (HG.out.below B1.out (Nat.le_refl _))
             have how1 := Lib.hid (GTy.own_mk (how.keep (S' := Btw wr.heap.size w1.heap.size) (w' := w1) fun q hq => ⟨hq, rfl⟩))
             clear how hb1))
        all_goals
          go_wp2_with fail
          go_roundw
          case rel =>
            have B3 := (hbl.trans (B1.out.mono hsz)).trans (B2.out.mono (show w.heap.size ≤ w.heap.size + 3 by omega))
            refine ⟨j + 1, _, _, by omega, by go_num, Lib.hid (show Gow (w2.setCell ⟨w.heap.size + 1 + 1, 3, none⟩ (.slice (some ⟨g, 0, none⟩) (j + 1) cap)) (w.heap.size + 3) (w2.setCell ⟨w.heap.size + 1 + 1, 3, none⟩ (.slice (some ⟨g, 0, none⟩) (j + 1) cap)).heap.size 27 4 (.slice (some ⟨g, 0, none⟩) (j + 1) cap) (j + 1) (((t.kids.take (j + 1)).map GTy.frz).map GTy.toD) from ?_), Lib.hid (((HRa.out.below B1.out (by omega)).below B2.out (by omega)).far (p := ⟨w.heap.size + 1 + 1, 3, none⟩) (by simp <;> omega) _), Lib.hid (((HRz.out.below B1.out (by omega)).below B2.out (by omega)).far (p := ⟨w.heap.size + 1 + 1, 3, none⟩) (by simp <;> omega) _), Lib.hid (Ro3.out.set 3 _), ?_, B3.setCell (p := ⟨w.heap.size + 1 + 1, 3, none⟩) (by simp <;> omega) _⟩
            · rw [take_snoc' t.kids j hlt, List.map_append, List.map_append]
              exact G3.out.keep (by simp [World.setCell]) (fun q hq _ => Below.heap_setCell _ ⟨w.heap.size + 1 + 1, 3, none⟩ _ q (by simp <;> omega))
            · have := B3.size; have := B1.out.size; simp [World.setCell]; omega
          case measure => simp [intOf]; omega
      · have hjl : j = t.kids.length := by omega
        obtain ⟨A', c', eV, how⟩ := HG.out.osl
        obtain ⟨rfl, rfl⟩ : A = A' ∧ c = c' := by simpa using eV
        subst hjl
        rw [List.take_length] at how
        have HFL := Lib.hid (show Ending.returned (.agg #[.int .i64 t.op, .int .i64 t.n, .string t.s, .slice A t.kids.length c]) = .returned (.agg #[.int .i64 t.frz.op, .int .i64 t.frz.n, .string t.frz.s, .slice A t.frz.kids.length c]) by rw [FZ.out]; simp only [GTy.op, GTy.n, GTy.s, GTy.kids, List.length_map])
        clear eV HG hlt hj hca hco
        obtain ⟨p0, p1, p2, -⟩ := T0.out
        have hca := fun i => HRa.out.cell i
        have hco := fun i => HRo.out.cell i
        have hcz := fun i => HRz.out.cell i
        have hfz := fun i => HRz.out.frozen i
        have BF := setCells_below hbl (w.heap.size + 1) 0 (by omega) [.int .i64 t.op, .int .i64 t.n, .string t.s, .slice A t.kids.length c]
        have SF : (setCells wr (w.heap.size + 1) 0 [.int .i64 t.op, .int .i64 t.n, .string t.s, .slice A t.kids.length c]).heap.size = wr.heap.size := by rw [setCells_size]
        have how2 := how.keep (S' := Btw w.heap.size (setCells wr (w.heap.size + 1) 0 [.int .i64 t.op, .int .i64 t.n, .string t.s, .slice A t.kids.length c]).heap.size) (w' := setCells wr (w.heap.size + 1) 0 [.int .i64 t.op, .int .i64 t.n, .string t.s, .slice A t.kids.length c]) fun q hq => ⟨⟨by have := hq.1; omega, by rw [SF]; exact hq.2⟩, setCells_block _ _ _ _ _ (by have := hq.1; omega)⟩
        have HOW := Lib.hid how2
        have HBF := Lib.hid BF
        clear how how2 BF SF
        go_wp2_with fail
        exact bodyPost_ret (v := .agg #[.int .i64 t.op, .int .i64 t.n, .string t.s, .slice A t.kids.length c]) (by simp [results, Try.results15, go_sem, hca, hcz, hco]) rfl ⟨A, c, HFL.out, (by rw [FZ.out]; exact ⟨p0, p1, p2, HOW.out⟩), HBF.out⟩

end Go.Proofs.Ytghldoiblbcacaa

/- What FnMostGeneral asks of a substitution that makes two types alike (no program in sight). Conditions: none. -/
namespace Go.Proofs.Ytghldoiblbcacaa
open Go.RowKit
set_option linter.unusedVariables false
set_option linter.unusedSimpArgs false

mutual
theorem sub_frz {g : Int → Option GTy} : ∀ t : GTy, t.okS = true → t.sub (fun n => some ((vT n).sub g).frz) = (t.sub g).frz
  | .mk op n s kids, ho => by
    by_cases h2 : op = 2
    · have e : GTy.mk op n s kids = vT n := okS_var ho h2
      rw [e]
      exact GTy.sub_some rfl rfl rfl
    · have hk := sub_frzL (g := g) kids (okS_kids ho)
      rw [sub_mk _ h2, sub_mk g h2, GTy.frz, if_neg h2, GTy.frzL_map, hk]
theorem sub_frzL {g : Int → Option GTy} : ∀ l : List GTy, GTy.okSL l = true → l.map (GTy.sub (fun n => some ((vT n).sub g).frz)) = (l.map (GTy.sub g)).map GTy.frz
  | [], _ => rfl
  | t :: r, ho => by
    have h1 := okSL_cons ho
    rw [List.map_cons, List.map_cons, List.map_cons, sub_frz t h1.1, sub_frzL r h1.2]
end
theorem vS_ne (n : Int) : (vS n).toList.isEmpty = false := by
  have : (vS n).toList ≠ [] := by
    rw [ByteArray.toList_eq]
    unfold vS
    rw [ByteArray.toList_data_append]
    simp
  cases h : (vS n).toList.isEmpty
  · rfl
  · exact absurd (List.isEmpty_iff.1 h) this
theorem vS_size {n : Int} (h : V5 n) : (vS n).size ≤ 4 := by
  obtain ⟨h1, h2⟩ := h
  unfold vS
  rw [digI_lt h1 (by omega), ByteArray.size_append]
  have e1 : (ByteArray.mk #[86]).size = 1 := rfl
  have e2 : (one (48 + n)).size = 1 := rfl
  omega
mutual
theorem frz_okS : ∀ t : GTy, t.okS = true → t.frz.okS = true
  | .mk op n s kids, ho => by
    by_cases h2 : op = 2
    · rw [GTy.frz, if_pos h2, GTy.okS, GTy.okSL]
      unfold tyOk1
      rw [if_neg (by decide), if_neg (by decide), if_neg (by decide), if_pos rfl, vS_ne n]; rfl
    · have hk := frz_okSL kids (okS_kids ho)
      rw [GTy.frz, if_neg h2, GTy.okS, hk, GTy.frzL_map, List.length_map]
      rw [GTy.okS, Bool.and_eq_true] at ho
      rw [ho.1]; rfl
theorem frz_okSL : ∀ l : List GTy, GTy.okSL l = true → GTy.okSL (GTy.frzL l) = true
  | [], _ => by rw [GTy.frzL, GTy.okSL]
  | t :: r, ho => by
    have h1 := okSL_cons ho
    rw [GTy.frzL, GTy.okSL, frz_okS t h1.1, frz_okSL r h1.2]; rfl
end
mutual
theorem frz_has {m : Int} : ∀ t : GTy, t.frz.has m = false
  | .mk op n s kids => by
    by_cases h2 : op = 2
    · rw [GTy.frz, if_pos h2, GTy.has, GTy.hasL]; rfl
    · rw [GTy.frz, if_neg h2, GTy.has, frz_hasL kids, beq_eq_false_iff_ne.2 h2]; rfl
theorem frz_hasL {m : Int} : ∀ l : List GTy, GTy.hasL m (GTy.frzL l) = false
  | [] => by rw [GTy.frzL, GTy.hasL]
  | t :: r => by rw [GTy.frzL, GTy.hasL, frz_has t, frz_hasL r]; rfl
end
mutual
theorem frz_nodes : ∀ t : GTy, t.okS = true → t.frz.nodes = t.nodes
  | .mk op n s kids, ho => by
    by_cases h2 : op = 2
    · have e : GTy.mk op n s kids = vT n := okS_var ho h2
      rw [e]
      rfl
    · rw [GTy.frz, if_neg h2, GTy.nodes, GTy.nodes, frz_nodesL kids (okS_kids ho)]
theorem frz_nodesL : ∀ l : List GTy, GTy.okSL l = true → GTy.nodesL (GTy.frzL l) = GTy.nodesL l
  | [], _ => by rw [GTy.frzL]
  | t :: r, ho => by
    have h1 := okSL_cons ho
    rw [GTy.frzL, GTy.nodesL, GTy.nodesL, frz_nodes t h1.1, frz_nodesL r h1.2]
end
mutual
theorem frz_tx : ∀ t : GTy, (∀ m, t.has m = true → V5 m) → t.tx = true → t.frz.tx = true
  | .mk op n s kids, hv, ht => by
    by_cases h2 : op = 2
    · rw [GTy.frz, if_pos h2, GTy.tx, GTy.txL, decide_eq_true (vS_size (hv n (by rw [GTy.has, h2]; simp)))]; rfl
    · rw [GTy.tx, Bool.and_eq_true] at ht
      rw [GTy.frz, if_neg h2, GTy.tx, ht.1, frz_txL kids (fun m hm => hv m (by rw [GTy.has, hm, Bool.or_true])) ht.2]; rfl
theorem frz_txL : ∀ l : List GTy, (∀ m, GTy.hasL m l = true → V5 m) → GTy.txL l = true → GTy.txL (GTy.frzL l) = true
  | [], _, _ => by rw [GTy.frzL, GTy.txL]
  | t :: r, hv, ht => by
    rw [GTy.txL, Bool.and_eq_true] at ht
    rw [GTy.frzL, GTy.txL, frz_tx t (fun m hm => hv m (by rw [GTy.hasL, hm, Bool.true_or])) ht.1, frz_txL r (fun m hm => hv m (by rw [GTy.hasL, hm, Bool.or_true])) ht.2]; rfl
end
/-- vars of a drawn substitution are 0 to 4 -/
theorem drSub_vars {s : List GBind} (h : drSub s) : ∀ x, x ∈ s → ∀ m, x.ty.has m = true → V5 m := by
  obtain ⟨l0, -, hu, -, h⟩ := h
  have h0 : ∀ x, x ∈ l0 → ∀ m, x.ty.has m = true → V5 m := fun x hx => (hu.inV x hx).2.2
  rcases h with rfl | ⟨n, U, rfl, -, hU⟩ | rfl
  · exact h0
  · intro x hx
    rcases List.mem_append.1 hx with hx | hx
    · exact h0 x hx
    · rw [List.mem_singleton] at hx; subst hx; exact hU.2.1
  · intro x hx
    rcases List.mem_append.1 hx with hx | hx
    · exact h0 x hx
    · rw [List.mem_singleton] at hx; subst hx
      intro m hm
      rw [show (GBind.mk (-1) (.mk 0 0 ⟨#[]⟩ [])).ty = GTy.mk 0 0 ⟨#[]⟩ [] from rfl, GTy.has, GTy.hasL] at hm
      simp at hm
/-- what a right substitution makes of a right type is right, its vars are 0 to 4 -/
theorem sub_good {s : List GBind} (hs : subOkV s = true) (hv : ∀ x, x ∈ s → ∀ m, x.ty.has m = true → V5 m) {t : GTy} (g : Good V5 t) : Good V5 (t.sub (bindOf s)) := by
  obtain ⟨h1, h2⟩ := subOk_parts hs
  refine ⟨GTy.okS_sub (fun m u hu => by obtain ⟨b, hb, -, rfl⟩ := bindOf_some hu; exact h2 b hb) t g.1, fun m hm => ?_⟩
  rcases GTy.has_sub t hm with h3 | ⟨k, u, hk, hu⟩
  · exact g.2 m h3
  · obtain ⟨b, hb, -, rfl⟩ := bindOf_some hk
    exact hv b hb m hu
/-- a substitution makes two types alike: Unify finds one that it comes of -/
theorem most_fits {s : List GBind} {a b : GTy} (hs : subOkV s = true) (hv : ∀ x, x ∈ s → ∀ m, x.ty.has m = true → V5 m) (oka : a.ok = true) (okb : b.ok = true) (ga : Good V5 a) (gb : Good V5 b) (hx : a.sub (bindOf s) = b.sub (bindOf s)) (hn : (a.sub (bindOf s)).nodes ≤ 200) {r : Option (List GBind)} (h : UniR [] a b r) :
    ∃ l', r = some l' ∧ (a.sub (bindOf l')).ok = true ∧ Good V5 (a.sub (bindOf l')) ∧ (a.sub (bindOf s)).frz.ok = true ∧ Good V5 (a.sub (bindOf s)).frz ∧ ∀ r3, UniR [] (a.sub (bindOf l')) (a.sub (bindOf s)).frz r3 → r3.isSome = true := by
  obtain ⟨na, oa⟩ := ok_parts oka
  obtain ⟨nb, ob⟩ := ok_parts okb
  obtain ⟨l', e, hr⟩ := h.start ga gb na nb hx fun h1 h2 k hk => by
    have := kid_sub_nodes (f := bindOf s) h1 hk
    omega
  have hu := (h.sound (Uni.nil V5) ga gb l' e).1
  have gta := (ga.sub hu).1
  have gx := sub_good hs hv ga
  have gfx : Good V5 (a.sub (bindOf s)).frz := ⟨frz_okS _ gx.1, fun m hm => by rw [frz_has] at hm; cases hm⟩
  have nfx : (a.sub (bindOf s)).frz.nodes ≤ 200 := by rw [frz_nodes _ gx.1]; exact hn
  have e1 : (a.sub (bindOf l')).sub (bindOf s) = a.sub (bindOf s) := resp_sub hr a ga.1
  have nta : (a.sub (bindOf l')).nodes ≤ 200 := by
    have := nodes_sub (bindOf s) (a.sub (bindOf l'))
    rw [e1] at this; omega
  have key : (a.sub (bindOf l')).sub (fun n => some ((vT n).sub (bindOf s)).frz) = (a.sub (bindOf s)).frz.sub (fun n => some ((vT n).sub (bindOf s)).frz) := by
    rw [sub_frz _ gta.1, e1]
    exact (GTy.sub_id _ fun n hn => by rw [frz_has] at hn; cases hn).symm
  refine ⟨l', e, by unfold GTy.ok; rw [decide_eq_true nta, gta.1]; rfl, gta, by unfold GTy.ok; rw [decide_eq_true nfx, gfx.1]; rfl, gfx, fun r3 h3 => ?_⟩
  obtain ⟨l3, e3, -⟩ := h3.start gta gfx nta nfx key fun h1 h2 k hk => by
    have h4 := kid_sub_nodes (f := fun n => some ((vT n).sub (bindOf s)).frz) h1 hk
    rw [sub_frz _ gta.1, e1] at h4
    omega
  rw [e3]; rfl
end Go.Proofs.Ytghldoiblbcacaa

/- The walk of unify of the program: it is a run of UniR. Conditions: vars are 0 to 4, texts are short. -/
namespace Go.Proofs.Ytghldoiblbcacaa
open Go.RowKit
set_option linter.unusedVariables false
set_option linter.unusedSimpArgs false
set_option maxHeartbeats 600000

def ToBindI (l : List GBind) (n : Int) (t : GTy) (w : World) (e : Ending) (w' : World) : Prop :=
  ∃ A' c' lr ok, e = .returned (.tuple #[.slice A' (List.length lr) c', .bool ok]) ∧ Below w.heap.size w w' ∧ ((t.has n = true ∧ ok = false) ∨ (t.has n = false ∧ lr = putB n t l ∧ ok = !(lr.any fun x => decide (200 < x.ty.nodes)) ∧ Sl w' (Lt w'.heap.size) 5 A' c' (lr.map GBind.toD)))

theorem implBind1 (x : GBind) (A1 : Option Addr) (c1 : Nat) (w : World) (hn : x.ty.nodes ≤ 4611686018427387904) (hat : GBind.At w (Lt w.heap.size) A1 c1 x) :
    Calls Try.prog 115 #[.agg #[.int .i64 x.n, .int .i64 x.ty.op, .int .i64 x.ty.n, .string x.ty.s, .slice A1 x.ty.kids.length c1]] w fun e w' => e = .returned (.bool (decide (200 < x.ty.nodes))) ∧ Below w.heap.size w w' := by
  have HV := Lib.hid (show decide ((x.ty.nodes : Int) > 200) = decide (200 < x.ty.nodes) by rw [decide_eq_decide]; omega)
  obtain ⟨w0, e0⟩ : ∃ w0, w0 = w.alloc (.cells #[.int .i64 x.n, .int .i64 x.ty.op, .int .i64 x.ty.n, .string x.ty.s, .slice A1 x.ty.kids.length c1] 46) := ⟨_, rfl⟩
  have E0 := Lib.hid (show Below w.heap.size w w0 by rw [e0]; exact (Below.refl _ _).alloc (Nat.le_refl _) _)
  have HC := Lib.hid (implTySize x.ty.nodes x.ty A1 c1 w0 (Nat.le_refl _) hn (hat.2.below E0.out E0.out.size))
  have EQ := Lib.hid e0
  clear hat e0
  go_enter Try.func115, Try.ntmps115
  go_wp2_with fail
  rw [← EQ.out]
  refine HC.out.mono ?_
  rintro e w1 ⟨rfl, hb1⟩
  go_wp2_with fail
  go_ret
  exact ⟨ret_bool HV.out, E0.out.trans (hb1.mono E0.out.size)⟩

set_option maxRecDepth 20000 in
theorem implBind (l : List GBind) (A : Option Addr) (c : Nat) (n : Int) (t : GTy) (At : Option Addr) (ct : Nat) (w : World) (hl : bulkL GBind.bulk l ≤ 40000) (hn : (Lit.int .i64 n).wf = true) (hbt : t.bulk ≤ 1000000)
    (hs : Sl w (Lt w.heap.size) 5 A c (l.map GBind.toD)) (hat : GTy.At w (Lt w.heap.size) At ct t) :
    Calls Try.prog 82 #[.slice A l.length c, .int .i64 n, .agg #[.int .i64 t.op, .int .i64 t.n, .string t.s, .slice At t.kids.length ct]] w (ToBindI l n t w) := by
  have hlen : l.length ≤ 40000 := Nat.le_trans (bulkL_len GBind.bulk l) hl
  have S0 := Lib.hid hs
  have HN := Lib.hid hn
  have HBJ := Lib.hid (fun (j : Nat) (h : j < l.length) => show (l[j]).ty.bulk ≤ 40000 from by have h1 := bulkL_mem GBind.bulk l _ (List.getElem_mem h); have h2 : (l[j]).bulk = (l[j]).ty.bulk := rfl; omega)
  obtain ⟨w0, e0⟩ : ∃ w0, w0 = w.alloc (.cells #[.int .i64 t.op, .int .i64 t.n, .string t.s, .slice At t.kids.length ct] 27) := ⟨_, rfl⟩
  have B0 := Lib.hid (show Below w.heap.size w w0 by rw [e0]; exact (Below.refl _ _).alloc (Nat.le_refl _) _)
  have R0 := Lib.hid (show Row w0 w.heap.size 27 #[.int .i64 t.op, .int .i64 t.n, .string t.s, .slice At t.kids.length ct] by rw [e0]; exact Row.new' _ _ _ rfl)
  have T0 := Lib.hid (hat.below B0.out B0.out.size)
  have hct := fun i => R0.out.cell i
  have hlt0 := R0.out.lt
  have HFV := Lib.hid (implFreeVars t At ct w0 (by omega) T0.out)
  have EQ := Lib.hid e0
  clear hs hat hn e0
  go_enter Try.func82, Try.ntmps82
  go_wp2_with fail
  rw [← EQ.out]
  refine HFV.out.mono ?_
  rintro e w1 ⟨Lv, lv, rfl, how1, hb1⟩
  have B1 := Lib.hid (B0.out.trans (hb1.mono B0.out.size))
  have R1 := Lib.hid (R0.out.below hb1 R0.out.lt)
  have HIN := Lib.hid (implIntHas (t.vs []) Lv lv n w1 how1.slLt)
  rw [show (t.vs []).any (fun x => x == n) = t.has n by
    rw [Bool.eq_iff_iff, GTy.has_vs, List.any_eq_true]
    exact ⟨fun ⟨y, hy, e⟩ => by simp at e; rw [← e]; exact hy, fun h => ⟨n, h, by simp⟩⟩] at HIN
  have T1 := Lib.hid (T0.out.below hb1 hb1.size)
  clear hb1 how1 HFV EQ hct hlt0
  go_wp2_with fail
  refine HIN.out.mono ?_
  rintro e w2 ⟨rfl, hb2⟩
  have B2 := Lib.hid (B1.out.trans (hb2.mono B1.out.size))
  have R2 := Lib.hid (R1.out.below hb2 R1.out.lt)
  have T2 := Lib.hid (T1.out.below hb2 hb2.size)
  have hct2 := fun i => R2.out.cell i
  have hlt2 := R2.out.lt
  clear hb2 HIN
  cases hh : t.has n
  case true =>
    go_wp2_with fail
    go_ret2
    exact ⟨none, 0, [], false, rfl, B2.out, .inl ⟨hh, rfl⟩⟩
  obtain ⟨w3, e3⟩ : ∃ w3, w3 = (w2.alloc (.cells #[.int .i64 n, .int .i64 t.op, .int .i64 t.n, .string t.s, .slice At t.kids.length ct] 46)).alloc (.cells #[] 46) := ⟨_, rfl⟩
  have E3 := Lib.hid (show Below w2.heap.size w2 w3 by rw [e3]; exact ((Below.refl _ _).alloc (Nat.le_refl _) _).alloc (by simp) _)
  have B3 := Lib.hid (B2.out.trans (E3.out.mono B2.out.size))
  have RO := Lib.hid (show Row w3 w2.heap.size 46 #[.int .i64 n, .int .i64 t.op, .int .i64 t.n, .string t.s, .slice At t.kids.length ct] by rw [e3]; exact (Row.new' _ _ _ rfl).alloc _)
  have R3 := Lib.hid (R2.out.below E3.out R2.out.lt)
  have T3 := Lib.hid (T2.out.below E3.out E3.out.size)
  have hs3 : w3.heap.size = w2.heap.size + 2 := by rw [e3]; simp
  have G3 := Lib.hid (show Gow w3 (w2.heap.size + 1) w3.heap.size 46 5 (.slice (some ⟨w2.heap.size + 1, 0, none⟩) 0 0) 0 [] from Gow.made (by rw [e3]; exact Row.new' _ _ _ (by simp)) (Nat.le_refl _) (by omega))
  have B23 := Lib.hid (fun (W : World) (hb : Below (w2.heap.size + 1) w3 W) => show Below w2.heap.size w2 W from E3.out.trans (hb.mono (by omega)))
  have SL1 := Lib.hid (fun (W : World) (hb : Below (w2.heap.size + 1) w3 W) => slOneBind (RO.out.below hb (by omega)) HN.out (T2.out.below (B23.out W hb) (B23.out W hb).size) (Nat.lt_of_lt_of_le RO.out.lt hb.size))
  have EQ3 := Lib.hid e3
  clear e3
  go_wp2_with fail
  rw [← EQ3.out]
  go_loopw [9, 23] (fun v i wr => ∃ (j : Nat) (Av : Option Addr) (cv : Nat), j ≤ l.length ∧ i = .int .i64 j ∧ v = .slice Av j cv ∧ Hid (Gow wr (w2.heap.size + 1) wr.heap.size 46 5 (.slice Av j cv) j (((l.take j).map (subB n t)).map GBind.toD)) ∧ Hid (Below (w2.heap.size + 1) w3 wr)) (fun _ i _ => l.length - (intOf i).toNat)
  case atStart => exact ⟨0, _, _, by omega, by go_num, rfl, G3, Lib.hid (Below.refl _ _)⟩
  case round =>
    clear G3
    obtain ⟨j, Av, cv, hj, rfl, rfl, HG, HB⟩ := hrel
    have BR := Lib.hid (B2.out.trans ((B23.out wr HB.out).mono B2.out.size))
    have hsz := BR.out.size
    have hszb := HB.out.size
    by_cases hlt : j < l.length
    · obtain ⟨b, off, A2, c2, eA, hSb, g0, g1, g2, g3, g4, hat⟩ := GBind.elem (S0.out.below BR.out (Nat.le_refl _)) j hlt
      subst eA
      have HWF := Lib.hid hat.1
      obtain ⟨W0, eW⟩ : ∃ W0, W0 = wr.alloc (.cells #[.int .i64 (l[j]).n, .int .i64 (l[j]).ty.op, .int .i64 (l[j]).ty.n, .string (l[j]).ty.s, .slice A2 (l[j]).ty.kids.length c2] 46) := ⟨_, rfl⟩
      have EW := Lib.hid (show Below wr.heap.size wr W0 by rw [eW]; exact (Below.refl _ _).alloc (Nat.le_refl _) _)
      have RB := Lib.hid (show Row W0 wr.heap.size 46 #[.int .i64 (l[j]).n, .int .i64 (l[j]).ty.op, .int .i64 (l[j]).ty.n, .string (l[j]).ty.s, .slice A2 (l[j]).ty.kids.length c2] by rw [eW]; exact Row.new' _ _ _ rfl)
      have EQW := Lib.hid eW
      obtain ⟨x, ex⟩ : ∃ x, x = (l[j]).ty.sub (oneF n t) := ⟨_, rfl⟩
      have HC := Lib.hid (show Calls Try.prog 12 #[.slice (some ⟨w2.heap.size, 0, none⟩) 1 1, .agg #[.int .i64 (l[j]).ty.op, .int .i64 (l[j]).ty.n, .string (l[j]).ty.s, .slice A2 (l[j]).ty.kids.length c2]] W0.drew (ToTy x W0.drew) by
        rw [ex]
        have hbd : Below (w2.heap.size + 1) w3 W0.drew := (HB.out.trans (EW.out.mono (by omega))).drew
        exact implApply ((l[j]).ty.bulk + 1) [⟨n, t⟩] (some ⟨w2.heap.size, 0, none⟩) 1 (l[j]).ty A2 c2 W0.drew (by omega) (by have := HBJ.out j hlt; omega) (by simp only [bulkL]; have : (GBind.mk n t).bulk = t.bulk := rfl; omega) (SL1.out _ hbd)
          (hat.2.keep fun q hq => ⟨Nat.lt_of_lt_of_le hq (Nat.le_trans hsz EW.out.size), EW.out.block q (Nat.lt_of_lt_of_le hq hsz)⟩))
      have EX := Lib.hid ex
      have hcb := fun i => RB.out.cell i
      have hlb := RB.out.lt
      clear hat eW ex
      go_wp2_with fail
      rw [← EQW.out]
      go_region_law (first
        | (refine step_append_D w4 rfl (.tmp 27) (.tmp 35) 24 rfl 46 zBindU 5 64 Try.underlying24 (by kernel_rfl) rfl (by omega) (w2.heap.size + 1) wr.heap.size _ j _ HG1.out (subB n t (l[j])).toD [.int .i64 (l[j]).n, .int .i64 x.op, .int .i64 x.n, .string x.s, .slice A3 x.kids.length c3] how1.out (by omega) B4.out.size rfl (by simp [Value.oneCell']) (by omega) (by omega) 46 rfl w4.heap.size rfl rfl ?_
           intro g cap w5 G2 Bq2 hs2 hg2 hgl2
           have G5 := Lib.hid G2
           have B5 := Lib.hid Bq2
           clear G2 Bq2)
        | (go_simp
           go_at_call 12
           refine HC.out.mono ?_
           rintro e w4 ⟨A3, c3, rfl, how, hb4⟩
           have B4 := Lib.hid (show Below wr.heap.size wr w4 from EW.out.drew.trans (hb4.mono EW.out.size))
           have RB4 := Lib.hid (RB.out.below (show Below W0.heap.size W0 w4 from (Below.refl _ _).drew.trans hb4) RB.out.lt)
           have hcb4 := fun i => RB4.out.cell i
           have hlb4 := RB4.out.lt
           have HG1 := Lib.hid (HG.out.below B4.out (Nat.le_refl _))
           have how1 := Lib.hid (show (subB n t (l[j])).toD.own w4 (Btw wr.heap.size w4.heap.size) [.int .i64 (l[j]).n, .int .i64 x.op, .int .i64 x.n, .string x.s, .slice A3 x.kids.length c3] by
             have h := GBind.own_mk (t := subB n t (l[j])) (w := w4) (S := Btw wr.heap.size w4.heap.size) (A1 := A3) (c1 := c3) ⟨HWF.out, by
               rw [show (subB n t (l[j])).ty = x from EX.out.symm]
               exact how.keep fun q hq => ⟨⟨Nat.le_trans EW.out.size hq.1, hq.2⟩, rfl⟩⟩
             rw [show (subB n t (l[j])).ty = x from EX.out.symm] at h
             exact h)
           clear hb4 how))
      all_goals
        go_wp2_with fail
        go_roundw
        case rel => exact ⟨j + 1, _, _, by omega, by go_num, rfl, Lib.hid (by rw [take_snoc' l j hlt, List.map_append, List.map_append]; exact G5.out), Lib.hid ((HB.out.trans (B4.out.mono (by omega))).trans B5.out)⟩
        case measure => simp [intOf]; omega
    · have hjl : j = l.length := by omega
      subst hjl
      have HG' := Lib.hid (show Gow wr (w2.heap.size + 1) wr.heap.size 46 5 (.slice Av l.length cv) l.length ((l.map (subB n t)).map GBind.toD) by
        have h := HG.out
        rwa [List.take_length] at h)
      have RR := Lib.hid (R2.out.below (B23.out wr HB.out) R2.out.lt)
      have hlr := RR.out.lt
      have hctr := fun i => RR.out.cell i
      have HCC := Lib.hid (implCopyTy (t.bulk + 1) t At ct wr (by omega) (by omega) (T2.out.below (B23.out wr HB.out) (B23.out wr HB.out).size))
      clear HG hlt
      go_wp2_with fail
      refine HCC.out.mono ?_
      rintro e w4 ⟨A3, c3, rfl, how, hb4⟩
      have B4 := Lib.hid hb4
      have HG1 := Lib.hid (HG'.out.below hb4 (Nat.le_refl _))
      have how1 := Lib.hid (GBind.own_mk (t := GBind.mk n t) (w := w4) (S := Btw wr.heap.size w4.heap.size) (A1 := A3) (c1 := c3) ⟨HN.out, how⟩)
      clear hb4 how HCC
      go_wp2_with (first | (at_builtin; refine wpList_append_D w4 rfl (.tmp 38) (.tmp 43) 24 rfl 46 zBindU 5 64 Try.underlying24 (by kernel_rfl) rfl (by omega) (w2.heap.size + 1) wr.heap.size _ l.length _ HG1.out (GBind.mk n t).toD [.int .i64 n, .int .i64 t.op, .int .i64 t.n, .string t.s, .slice A3 t.kids.length c3] how1.out (by omega) B4.out.size rfl (by simp [Value.oneCell']) (by omega) (by omega) 46 rfl w4.heap.size rfl rfl ?_; intro g cap w5 G5 Bq5 hs5 hg5 hgl5))
      obtain ⟨lr, elr⟩ : ∃ lr, lr = putB n t l := ⟨_, rfl⟩
      have elen : lr.length = l.length + 1 := by rw [elr]; simp [putB]
      have eapp : ((l.map (subB n t)).map GBind.toD) ++ [(GBind.mk n t).toD] = lr.map GBind.toD := by rw [elr]; simp only [putB, List.map_append]; rfl
      have G6 := Lib.hid G5
      rw [eapp] at G6
      have HLR := Lib.hid elr
      have HEL := Lib.hid elen
      obtain ⟨A9, c9, eV, how9⟩ := G6.out.osl
      have hA9 : some (⟨g, 0, none⟩ : Addr) = A9 ∧ cap = c9 := by simpa using eV
      have S9 := Lib.hid (show Sl w5 (Lt w5.heap.size) 5 (some ⟨g, 0, none⟩) cap (lr.map GBind.toD) by rw [hA9.1, hA9.2]; exact how9.slLt)
      have B5 := Lib.hid ((BR.out.trans (B4.out.mono hsz)).trans (Bq5.mono (by omega)))
      have HCF := Lib.hid (containsFuncBind 115 (enters Try.func115 (by kernel_rfl) (by kernel_rfl)) #[] (fun x => decide (200 < x.ty.nodes)) lr (some ⟨g, 0, none⟩) cap w5 S9.out (fun x hx A1 c1 w9 _ h9 => implBind1 x A1 c1 w9 (by
        have hb2 := x.ty.nodes_bulk
        have : x.ty.bulk ≤ 4611686018427387903 := by
          rw [HLR.out] at hx
          rcases List.mem_append.1 hx with hx | hx
          · obtain ⟨y, hy, rfl⟩ := List.mem_map.1 hx
            obtain ⟨j, hj, rfl⟩ := List.getElem_of_mem hy
            have h1 := GTy.sub_bulk (oneF n t) 1000000 (fun m u hu => by rw [(oneF_some hu).2]; exact hbt) ((l[j]).ty.bulk + 1) (l[j]).ty (by omega)
            have h2 := HBJ.out j hj
            have h3 : ((l[j]).ty.bulk + 1) * (1000000 + 1) ≤ 40001 * (1000000 + 1) := Nat.mul_le_mul_right _ (by omega)
            show ((l[j]).ty.sub (oneF n t)).bulk ≤ _
            omega
          · rw [List.mem_singleton] at hx; subst hx
            show t.bulk ≤ _
            omega
        omega) h9))
      rw [elen] at HCF
      clear G5 eV how9 hA9 G6 Bq5 elen eapp elr
      go_wp2_with fail
      refine HCF.out.mono ?_
      rintro e w6 ⟨rfl, hb6⟩
      have B6 := Lib.hid (B5.out.trans (hb6.mono B5.out.size))
      have S6 := Lib.hid (S9.out.below hb6 hb6.size)
      have HE := Lib.hid (show Ending.returned (.tuple #[.slice (some ⟨g, 0, none⟩) (l.length + 1) cap, .bool (!(lr.any fun x => decide (200 < x.ty.nodes)))]) = .returned (.tuple #[.slice (some ⟨g, 0, none⟩) lr.length cap, .bool (!(lr.any fun x => decide (200 < x.ty.nodes)))]) by rw [HEL.out])
      clear hb6 HCF
      go_wp2_with fail
      go_ret2
      exact ⟨_, _, lr, _, HE.out, B6.out, .inr ⟨hh, HLR.out, rfl, S6.out⟩⟩
end Go.Proofs.Ytghldoiblbcacaa
