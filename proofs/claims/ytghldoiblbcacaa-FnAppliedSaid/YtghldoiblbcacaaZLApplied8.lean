/- Texts of the claim LApplied in one: WApplied Joined. Conditions: none but bounds on sizes. -/
import Derived.Test.YtghldoiblbcacaaZLApplied7
import Derived.Test.YtghldoiblbcacaaZLApplied4
import Derived.Test.YtghldoiblbcacaaZLApplied2
import Derived.Test.YtghldoiblbcacaaZLApplied3
import Derived.Deep.CutRange
import Derived.WalkKit
import Derived.ProofKit
import Derived.OpenShut
/- The walk of the law FnApplied. Conditions: none. -/
namespace Go.Proofs.Ytghldoiblbcacaa
open Go.RowKit Go.BigFrame
set_option linter.unusedVariables false
set_option linter.unusedSimpArgs false
set_option maxHeartbeats 600000

theorem bigYesT {n : Nat} (A : Option Addr) (c : Nat) (hbi : (1048576 : Int) < (n : Int)) (w : World) : Calls Try.prog 6 #[.slice A n c] w fun e w' => e = .returned (.bool true) ∧ w = w' := by
  go_enter Try.func6, Try.ntmps6
  go_wp2_with fail
  go_ret
  exact ⟨rfl, rfl⟩
theorem bigNoT {n : Nat} (A : Option Addr) (c : Nat) (hbi : ¬ (1048576 : Int) < (n : Int)) (w : World) : Calls Try.prog 6 #[.slice A n c] w fun e w' => e = .returned (.bool false) ∧ w = w' := by
  go_enter Try.func6, Try.ntmps6
  go_wp2_with fail
  go_ret
  exact ⟨rfl, rfl⟩

theorem shT_nodes' : ∀ (d : Nat) (t : GTy), shT d t → t.nodes + 1 ≤ 2 ^ (d + 1)
  | 0, t, h => by rw [GTy.nodes_eq, h.1]; simp [GTy.nodesL]
  | d + 1, t, h => by
    have ih : ∀ x, x ∈ t.kids → x.nodes + 1 ≤ 2 ^ (d + 1) := fun x hx => shT_nodes' d x (h.2 x hx)
    rw [GTy.nodes_eq, Nat.pow_succ]
    have h1 := h.1
    have h0 : 1 ≤ 2 ^ (d + 1) := Nat.one_le_two_pow
    match hk : t.kids with
    | [] => simp only [GTy.nodesL]; omega
    | [x] => have := ih x (by rw [hk]; simp); simp only [GTy.nodesL]; omega
    | [x, y] => have := ih x (by rw [hk]; simp); have := ih y (by rw [hk]; simp); simp only [GTy.nodesL]; omega
    | x :: y :: z :: r => rw [hk] at h1; simp at h1
theorem shT_nodes {t : GTy} (h : shT 3 t) : t.nodes ≤ 15 := by
  have := shT_nodes' 3 t h
  have h4 : (2 : Nat) ^ (3 + 1) = 16 := rfl
  omega
theorem drT_few {d : Nat} {t : GTy} (h : drT d t) (hd : d ≤ 2) : t.nodes ≤ 200 ∧ t.tx = true := by
  have h1 := h.1.1
  have h2 := t.nodes_bulk
  have h3 : 2 ^ d ≤ 2 ^ 2 := Nat.pow_le_pow_right (by omega) hd
  have h4 : (2 : Nat) ^ 2 = 4 := rfl
  exact ⟨by omega, h.2.2.2⟩
theorem drSub_few {s : List GBind} (h : drSub s) : FewL s := by
  obtain ⟨l0, -, -, hf, h⟩ := h
  rcases h with rfl | ⟨n, U, rfl, -, hU⟩ | rfl
  · exact hf
  · intro x hx
    rcases List.mem_append.1 hx with hx | hx
    · exact hf x hx
    · rw [List.mem_singleton] at hx; subst hx; exact drT_few hU (by omega)
  · intro x hx
    rcases List.mem_append.1 hx with hx | hx
    · exact hf x hx
    · rw [List.mem_singleton] at hx; subst hx; exact ⟨by decide, by decide⟩
theorem bulkL_append {α : Type} (f : α → Nat) (l m : List α) : bulkL f (l ++ m) = bulkL f l + bulkL f m := by
  induction l with
  | nil => simp [bulkL]
  | cons x r ih => simp only [List.cons_append, bulkL, ih]; omega
theorem drSub_bulk {s : List GBind} (h : drSub s) : bulkL GBind.bulk s ≤ 40000 ∧ s.length ≤ 6 := by
  have hall := drSub_few h
  obtain ⟨l0, -, hu, hf, h⟩ := h
  have hl := hu.few
  have h0 := hf.bulkL hl
  rcases h with rfl | ⟨n, U, rfl, -, hU⟩ | rfl
  · exact ⟨by omega, by omega⟩
  · have h1 : (GBind.mk n U).bulk = U.bulk := rfl
    have h2 := hU.1.1
    rw [bulkL_append]
    simp only [bulkL, List.length_append, List.length_cons, List.length_nil]
    exact ⟨by omega, by omega⟩
  · rw [bulkL_append]
    have h1 : (GBind.mk (-1) (.mk 0 0 ⟨#[]⟩ [])).bulk = 0 := by decide
    simp only [bulkL, List.length_append, List.length_cons, List.length_nil]
    exact ⟨by omega, by omega⟩

set_option maxRecDepth 20000 in
theorem walkApplied (l : List Int) (A : Option Addr) (c : Nat) (w : World) (hs : Sl w (Lt w.heap.size) 1 A c (l.map (D.num .u8))) :
    Calls Try.prog 4 #[.slice A l.length c] w fun e w' => e = .returned (.bool true) ∧ Below w.heap.size w w' := by
  have S0 := Lib.hid hs
  have hln : l.length ≤ 9223372036854775807 := by simpa using hs.len
  clear hs
  by_cases hbig : 1048576 < l.length
  · have hbi : (1048576 : Int) < (l.length : Int) := by omega
    go_enter Try.func4, Try.ntmps4
    go_wp2_with fail
    refine (bigYesT A c (by omega) w).mono ?_
    rintro e w1 ⟨rfl, rfl⟩
    go_wp2_with fail
    go_ret
    exact ⟨rfl, Below.refl _ _⟩
  have hbi : ¬ (1048576 : Int) < (l.length : Int) := by omega
  have hl : l.length ≤ 1048576 := by omega
  go_enter Try.func4, Try.ntmps4
  go_wp2_with fail
  refine (bigNoT A c (by omega) w).mono ?_
  rintro e w1 ⟨rfl, rfl⟩
  go_wp2_with fail
  refine (drawApply l A c w S0.out hl).mono ?_
  rintro e w1 ⟨s, t, As, cs, A1, c1, rfl, ps, pt, ass, att, hb1⟩
  have htb : t.bulk ≤ 6142 := by have := pt.1; omega
  have hfs := drSub_few ps
  have hsb := drSub_bulk ps
  obtain ⟨qt, eqt⟩ : ∃ qt, qt = w1.heap.size := ⟨_, rfl⟩
  obtain ⟨v1, ev1⟩ : ∃ v1, v1 = w1.alloc (.cells #[.int .i64 t.op, .int .i64 t.n, .string t.s, .slice A1 t.kids.length c1] 27) := ⟨_, rfl⟩
  have E1 := Lib.hid (show Below w1.heap.size w1 v1 by rw [ev1]; exact (Below.refl _ _).alloc (Nat.le_refl _) _)
  have B1 := Lib.hid (hb1.trans (E1.out.mono hb1.size))
  have RT1 := Lib.hid (show Row v1 qt 27 #[.int .i64 t.op, .int .i64 t.n, .string t.s, .slice A1 t.kids.length c1] by rw [ev1, eqt]; exact Row.new' _ _ _ rfl)
  have TT1 := Lib.hid (att.below E1.out E1.out.size)
  have SS1 := Lib.hid (ass.below E1.out E1.out.size)
  have hct := fun i => RT1.out.cell i
  have hqt := RT1.out.lt
  obtain ⟨a, ea⟩ : ∃ a, a = t.sub (bindOf s) := ⟨_, rfl⟩
  have HC1 := Lib.hid (show Calls Try.prog 12 #[.slice As s.length cs, .agg #[.int .i64 t.op, .int .i64 t.n, .string t.s, .slice A1 t.kids.length c1]] v1 (ToTy a v1) by rw [ea]; exact implApply (t.bulk + 1) s As cs t A1 c1 v1 (by omega) (by omega) (by omega) SS1.out TT1.out)
  have EA := Lib.hid ea
  have EQT := Lib.hid eqt
  have EQ1 := Lib.hid ev1
  have PT := Lib.hid pt
  have PS := Lib.hid ps
  have HFS := Lib.hid hfs
  have HSB := Lib.hid hsb
  have HTB := Lib.hid htb
  clear hb1 ass att ps pt ev1 eqt ea hfs hsb htb
  go_wp2_with fail
  rw [← EQT.out, ← EQ1.out]
  refine HC1.out.mono ?_
  rintro e w2 ⟨A2, c2, rfl, how, hb2⟩
  obtain ⟨qa, eqa⟩ : ∃ qa, qa = w2.heap.size := ⟨_, rfl⟩
  obtain ⟨v2, ev2⟩ : ∃ v2, v2 = w2.alloc (.cells #[.int .i64 a.op, .int .i64 a.n, .string a.s, .slice A2 a.kids.length c2] 27) := ⟨_, rfl⟩
  have E2 := Lib.hid (show Below w2.heap.size w2 v2 by rw [ev2]; exact (Below.refl _ _).alloc (Nat.le_refl _) _)
  have hb2' := hb2.trans (E2.out.mono hb2.size)
  have B2 := Lib.hid (B1.out.trans (hb2'.mono B1.out.size))
  have RT2 := Lib.hid (RT1.out.below hb2' RT1.out.lt)
  have RA2 := Lib.hid (show Row v2 qa 27 #[.int .i64 a.op, .int .i64 a.n, .string a.s, .slice A2 a.kids.length c2] by rw [ev2, eqa]; exact Row.new' _ _ _ rfl)
  have TT2 := Lib.hid (TT1.out.below hb2' hb2'.size)
  have SS2 := Lib.hid (SS1.out.below hb2' hb2'.size)
  have TA2 := Lib.hid (how.at.keep (S' := Lt v2.heap.size) fun q hq => ⟨Nat.lt_of_lt_of_le hq.2 E2.out.size, E2.out.block q hq.2⟩)
  have HD := Lib.hid (drawFreeVarsT l A c v2 (S0.out.below B2.out B2.out.size) hl)
  have EQA := Lib.hid eqa
  have EQ2 := Lib.hid ev2
  clear hb2 hb2' how ev2 eqa hct HC1 EQ1
  go_wp2_with fail
  rw [← EQA.out, ← EQ2.out]
  refine HD.out.mono ?_
  rintro e w3 ⟨f, A3, c3, rfl, pf, atf, hb3⟩
  obtain ⟨qf, eqf⟩ : ∃ qf, qf = w3.heap.size := ⟨_, rfl⟩
  obtain ⟨u, eu⟩ : ∃ u, u = w3.alloc (.cells #[.int .i64 f.op, .int .i64 f.n, .string f.s, .slice A3 f.kids.length c3] 27) := ⟨_, rfl⟩
  have E3 := Lib.hid (show Below w3.heap.size w3 u by rw [eu]; exact (Below.refl _ _).alloc (Nat.le_refl _) _)
  have hb3' := hb3.trans (E3.out.mono hb3.size)
  have BU := Lib.hid (B2.out.trans (hb3'.mono B2.out.size))
  have RT := Lib.hid (RT2.out.below hb3' RT2.out.lt)
  have RA := Lib.hid (RA2.out.below hb3' RA2.out.lt)
  have RF := Lib.hid (show Row u qf 27 #[.int .i64 f.op, .int .i64 f.n, .string f.s, .slice A3 f.kids.length c3] by rw [eu, eqf]; exact Row.new' _ _ _ rfl)
  have TT := Lib.hid (TT2.out.below hb3' hb3'.size)
  have SS := Lib.hid (SS2.out.below hb3' hb3'.size)
  have TA := Lib.hid (TA2.out.below hb3' hb3'.size)
  have TF := Lib.hid (atf.below E3.out E3.out.size)
  have PF := Lib.hid (show f.bulk ≤ 6142 by have := pf.1; omega)
  have EQF := Lib.hid eqf
  have EQ3 := Lib.hid eu
  have hct := fun i => RT.out.cell i
  have hca := fun i => RA.out.cell i
  have hcf := fun i => RF.out.cell i
  have hlt := RT.out.lt
  have hla := RA.out.lt
  have hlf := RF.out.lt
  have HK1 := Lib.hid (show Calls Try.prog 18 #[.slice As s.length cs, .agg #[.int .i64 t.op, .int .i64 t.n, .string t.s, .slice A1 t.kids.length c1]] u.drew (ToTy a u.drew) by rw [EA.out]; exact specApply (t.bulk + 1) s As cs t A1 c1 u.drew (by omega) (by have := HTB.out; omega) (by have := HSB.out; omega) (SS.out.below (Below.refl _ _).drew (Nat.le_refl _)) (TT.out.below (Below.refl _ _).drew (Nat.le_refl _)))
  clear hb3 hb3' atf eu eqf HD EQ2 B1 B2 RT1 RT2 RA2 TT1 TT2 SS1 SS2 TA2 E1 E2 E3 pf
  go_wp2_with fail
  rw [← EQF.out, ← EQ3.out]
  go_cut [34] from 21 to 34 (fun v wx => v = .bool false ∧ Below u.heap.size u wx)
  case first =>
    go_region_law (first
      | (go_simp
         go_at_call 18
         refine HK1.out.mono ?_
         rintro e w4 ⟨A4, c4, rfl, how, hb4⟩
         have B4 := Lib.hid (show Below u.heap.size u w4 from (Below.refl _ _).drew.trans hb4)
         have RT4 := Lib.hid (RT.out.below B4.out RT.out.lt)
         have RA4 := Lib.hid (RA.out.below B4.out RA.out.lt)
         have RF4 := Lib.hid (RF.out.below B4.out RF.out.lt)
         have hct4 := fun i => RT4.out.cell i
         have hca4 := fun i => RA4.out.cell i
         have hcf4 := fun i => RF4.out.cell i
         have hlt4 := RT4.out.lt
         have hla4 := RA4.out.lt
         have hlf4 := RF4.out.lt
         have HK2 := Lib.hid (show Calls Try.prog 13 #[.agg #[.int .i64 a.op, .int .i64 a.n, .string a.s, .slice A2 a.kids.length c2], .agg #[.int .i64 a.op, .int .i64 a.n, .string a.s, .slice A4 a.kids.length c4]] w4 fun e w' => e = .returned (.bool true) ∧ Below w4.heap.size w4 w' by
           have h := implSame (a.bulk + 1) a a A2 c2 A4 c4 w4 (by omega) (TA.out.below B4.out B4.out.size) (how.at.keep fun q hq => ⟨hq.2, rfl⟩)
           rw [GTy.sm_refl] at h
           exact h)
         clear hb4 how)
      | (go_simp
         go_at_call 13
         refine HK2.out.mono ?_
         rintro e w5 ⟨rfl, hb5⟩
         have B5 := Lib.hid (B4.out.trans (hb5.mono B4.out.size))
         have RF5 := Lib.hid (RF.out.below B5.out RF.out.lt)
         have hcf5 := fun i => RF5.out.cell i
         have hlf5 := RF5.out.lt
         have HK3 := Lib.hid (implFreeVars f A3 c3 w5 (by have := PF.out; omega) (TF.out.below B5.out B5.out.size))
         clear hb5)
      | (go_simp
         go_at_call 20
         refine HK3.out.mono ?_
         rintro e w6 ⟨L6, l6, rfl, how6, hb6⟩
         have B6 := Lib.hid (B5.out.trans (hb6.mono B5.out.size))
         have RF6 := Lib.hid (RF.out.below B6.out RF.out.lt)
         have hcf6 := fun i => RF6.out.cell i
         have hlf6 := RF6.out.lt
         have HOW6 := Lib.hid how6.slLt
         have HK4 := Lib.hid (specFreeVars f A3 c3 w6 (by have := PF.out; omega) (TF.out.below B6.out B6.out.size))
         clear hb6 how6)
      | (go_simp
         go_at_call 21
         refine HK4.out.mono ?_
         rintro e w7 ⟨L7, l7, rfl, how7, hb7⟩
         have B7 := Lib.hid (B6.out.trans (hb7.mono B6.out.size))
         have HK5 := Lib.hid (sameIntsL (f.vs []) L6 L7 l6 l7 w7 (HOW6.out.below hb7 hb7.size) how7.slLt)
         clear hb7 how7)
      | (go_simp
         go_at_call 19
         refine HK5.out.mono ?_
         rintro e w8 ⟨rfl, hb8⟩
         have B8 := Lib.hid (B7.out.trans (hb8.mono B7.out.size))
         clear hb8))
    all_goals
      go_wp2_with fail
      go_meet
      exact ⟨rfl, B8.out⟩
  case rest =>
    obtain ⟨rfl, hbc⟩ := hcut
    have BC := Lib.hid hbc
    have RTc := Lib.hid (RT.out.below hbc RT.out.lt)
    have hctc := fun i => RTc.out.cell i
    have hltc := RTc.out.lt
    have HSO := Lib.hid (implSubOk s As cs wc (by have := HSB.out.1; omega) (SS.out.below hbc hbc.size))
    clear HK1 hct hca hcf hbc
    go_wp2_with fail
    refine HSO.out.mono ?_
    rintro e w4 ⟨rfl, hb4⟩
    have B4 := Lib.hid (BC.out.trans (hb4.mono BC.out.size))
    have RT4 := Lib.hid (RT.out.below B4.out RT.out.lt)
    have hct4 := fun i => RT4.out.cell i
    have hlt4 := RT4.out.lt
    clear hb4 HSO hctc RTc
    cases hso : subOkV s
    · clear hso
      go_wp2_with fail
      go_ret
      exact ⟨rfl, BU.out.trans (B4.out.mono BU.out.size)⟩
    have HTO := Lib.hid (implTyOk t A1 c1 w4 (by have := t.nodes_bulk; have := HTB.out; omega) (TT.out.below B4.out B4.out.size))
    have HSOK := Lib.hid hso
    clear hso
    go_wp2_with fail
    refine HTO.out.mono ?_
    rintro e w5 ⟨rfl, hb5⟩
    have B5 := Lib.hid (B4.out.trans (hb5.mono B4.out.size))
    have RA5 := Lib.hid (RA.out.below B5.out RA.out.lt)
    have hca5 := fun i => RA5.out.cell i
    have hla5 := RA5.out.lt
    clear hb5 HTO hct4 RT4
    cases hok : t.ok
    · clear hok
      go_wp2_with fail
      go_ret
      exact ⟨rfl, BU.out.trans (B5.out.mono BU.out.size)⟩
    have hok2 : t.nodes ≤ 200 ∧ t.okS = true := by unfold GTy.ok at hok; rw [Bool.and_eq_true, decide_eq_true_eq] at hok; exact hok
    have hAP := applied HSOK.out hok2.2
    rw [← EA.out] at hAP
    have HAP := Lib.hid hAP
    have HAB := Lib.hid (show a.bulk ≤ 1048576 by
      rcases PT.out.2.2.2 with h | h
      · omega
      · have h1 := HFS.out.sub_nodes t
        have h2 := shT_nodes h
        have h3 : (t.sub (bindOf s)).tx = true := GTy.tx_sub (fun m u hu => by obtain ⟨z, hz, -, rfl⟩ := bindOf_some hu; exact (HFS.out z hz).2) _ PT.out.2.2.1
        rw [← EA.out] at h1 h3
        have h4 := GTy.tx_bulk a h3
        omega)
    have HFV := Lib.hid (implFreeVars a A2 c2 w5 HAB.out (TA.out.below B5.out B5.out.size))
    clear hok hok2 hAP
    go_wp2_with fail
    refine HFV.out.mono ?_
    rintro e w6 ⟨L6, l6, rfl, how6, hb6⟩
    have B6 := Lib.hid (B5.out.trans (hb6.mono B5.out.size))
    have V6 := Lib.hid how6.slLt
    have hsl6 := HSB.out.2
    clear hb6 how6 HFV hca5 RA5
    go_wp2_with fail
    go_loopw [8] (fun i wr => ∃ (j : Nat), j ≤ s.length ∧ i = .int .i64 j ∧ Hid (Below w6.heap.size w6 wr)) (fun i _ => s.length - (intOf i).toNat)
    case atStart => exact ⟨0, by omega, by go_num, Lib.hid (Below.refl _ _)⟩
    case round =>
      obtain ⟨j, hj, rfl, HB⟩ := hrel
      have BR := Lib.hid (B6.out.trans (HB.out.mono B6.out.size))
      by_cases hlt : j < s.length
      · obtain ⟨b, off, A9, c9, eA, hSb, g0, g1, g2, g3, g4, hat⟩ := GBind.elem (SS.out.below BR.out BR.out.size) j hlt
        have HW := Lib.hid (withinL (a.vs []) L6 l6 (s[j]).n wr (V6.out.below HB.out HB.out.size))
        rw [show (a.vs []).any (fun y => y == (s[j]).n) = false by
          rw [List.any_eq_false]
          intro y hy hyn
          have h1 := (GTy.has_vs y a).2 hy
          rw [beq_iff_eq] at hyn
          rw [hyn, HAP.out.1 _ (List.getElem_mem hlt)] at h1
          cases h1] at HW
        subst eA
        clear hat
        go_wp2_with fail
        refine HW.out.mono ?_
        rintro e w7 ⟨rfl, hb7⟩
        have HB7 := Lib.hid (HB.out.trans (hb7.mono HB.out.size))
        clear hb7 HW
        go_wp2_with fail
        go_roundw
        case rel => exact ⟨j + 1, by omega, by go_num, HB7⟩
        case measure => simp [intOf]; omega
      · have RAr := Lib.hid (RA.out.below BR.out RA.out.lt)
        have har := fun i => RAr.out.cell i
        have hlr := RAr.out.lt
        have HKA := Lib.hid (show Calls Try.prog 12 #[.slice As s.length cs, .agg #[.int .i64 a.op, .int .i64 a.n, .string a.s, .slice A2 a.kids.length c2]] wr.drew (ToTy a wr.drew) by
          have h := implApply (a.bulk + 1) s As cs a A2 c2 wr.drew (by omega) HAB.out (by have := HSB.out; omega) ((SS.out.below BR.out BR.out.size).below (Below.refl _ _).drew (Nat.le_refl _)) ((TA.out.below BR.out BR.out.size).below (Below.refl _ _).drew (Nat.le_refl _))
          rw [HAP.out.2] at h
          exact h)
        go_wp2_with fail
        go_region_law (first
          | (go_simp
             go_at_call 12
             refine HKA.out.mono ?_
             rintro e w8 ⟨A8, c8, rfl, how8, hb8⟩
             have B8 := Lib.hid (BR.out.trans ((show Below wr.heap.size wr w8 from (Below.refl _ _).drew.trans hb8).mono BR.out.size))
             have RA8 := Lib.hid (RA.out.below B8.out RA.out.lt)
             have hca8 := fun i => RA8.out.cell i
             have hla8 := RA8.out.lt
             have HKS := Lib.hid (show Calls Try.prog 13 #[.agg #[.int .i64 a.op, .int .i64 a.n, .string a.s, .slice A8 a.kids.length c8], .agg #[.int .i64 a.op, .int .i64 a.n, .string a.s, .slice A2 a.kids.length c2]] w8 fun e w' => e = .returned (.bool true) ∧ Below w8.heap.size w8 w' by
               have h := implSame (a.bulk + 1) a a A8 c8 A2 c2 w8 (by omega) (how8.at.keep fun q hq => ⟨hq.2, rfl⟩) (TA.out.below B8.out B8.out.size)
               rw [GTy.sm_refl] at h
               exact h)
             clear hb8 how8)
          | (go_simp
             go_at_call 13
             refine HKS.out.mono ?_
             rintro e w9 ⟨rfl, hb9⟩
             have B9 := Lib.hid (B8.out.trans (hb9.mono B8.out.size))
             clear hb9))
        all_goals
          go_wp2_with fail
          go_ret
          exact ⟨rfl, BU.out.trans (B9.out.mono BU.out.size)⟩
end Go.Proofs.Ytghldoiblbcacaa

/- The closed facts of a row, one by one (no program in sight). Conditions: none. -/
namespace Go.Proofs.Ytghldoiblbcacaa
open Go.ChangeShapes Go.WideShapes Go.ChangeAt Go.RowKit
set_option linter.unusedVariables false

/-- the number kinds of the parameters of a row with a domain -/
def kindsOf (P : Program) (fn : Func) (c : OpenClaim) : List (Option IntKind) := if c.domain.isEmpty then [] else fn.params.toList.map fun t => match P.underlying t with | some (.int k) => some k | _ => none
theorem joinedAnd {a b : Bool} (h : a = true) (h2 : b = true) : (a && b) = true := by rw [h, h2]; rfl
set_option maxRecDepth 10000 in
theorem joinedOf {P : Program} {f : FuncId} {fn : Func} {s : ChangeSpec} {c : OpenClaim} (h0 : (c.wf (OpenSpec.ofChange s)) = true) (h1 : (laidOutB P) = true) (h2 : (mapsRowed P) = true) (h3 : (fn.params.all (P.readableRec ·)) = true) (h4 : (namedTie P c.named s.vars) = true) (h5 : (c.stops == []) = true) (h6 : (P.stops == []) = true) (h7 : (c.knobs == []) = true) (h8 : (P.stopKnobs == []) = true) (h9 : (c.inPlace == P.inPlace f) = true) (h10 : (c.unfollowed == P.unfollowed f) = true) (h11 : (c.recurses == P.recurses f) = true) (h12 : (c.named == P.varsNamed f) = true) (h13 : (c.maps == (fn.params.toList ++ s.plain.varTypes P).any (P.mapsRec ·)) = true) (h14 : (c.ifaces == (fn.params.toList ++ s.plain.varTypes P).any (P.ifacesRec ·)) = true) (h15 : (c.mapsOut == P.mapsAmong fn.resultTypes.toList) = true) (h16 : (c.loops == (fn.params.toList ++ s.plain.varTypes P).any (P.loopsFrom ·)) = true) (h17 : (c.wideKeys == (fn.params.toList ++ s.plain.varTypes P ++ fn.resultTypes.toList).any (P.wideKeysFrom ·)) = true) (h18 : (s.vars.all (P.varReadable ·)) = true) (h19 : (fn.resultTypes.all (fun t => P.readableRec t && decide (t < P.types.size))) = true) (h20 : (c.ifacesOut == fn.resultTypes.toList.any (P.ifacesRec ·)) = true) (h21 : (c.loopsOut == fn.resultTypes.toList.any (P.loopsFrom ·)) = true) (h22 : (c.plainKeys == P.plainKeys) = true) (h23 : (c.shortTexts.isNone) = true) (h24 : (P.stopsHeard) = true) (h25 : (P.mayEnter) = true) (h26 : (c.lifted == P.liftsFinal) = true) (h27 : (P.make == some c.make) = true) (h28 : (c.kinds == kindsOf P fn c) = true) (h29 : (c.pinned == c.pinnedBy) = true) (h30 : (c.veiled == (fn.params.toList ++ s.plain.varTypes P ++ fn.resultTypes.toList).any (P.veiledRec ·)) = true) (h31 : (c.veiledFits P fn.params.toList (fn.params.toList ++ s.plain.varTypes P ++ fn.resultTypes.toList)) = true) : joinedFacts P f fn s c = true := by
  unfold joinedFacts
  exact (joinedAnd (joinedAnd (joinedAnd (joinedAnd (joinedAnd (joinedAnd (joinedAnd (joinedAnd (joinedAnd (joinedAnd (joinedAnd (joinedAnd (joinedAnd (joinedAnd (joinedAnd (joinedAnd (joinedAnd (joinedAnd (joinedAnd (joinedAnd (joinedAnd (joinedAnd (joinedAnd (joinedAnd (joinedAnd (joinedAnd (joinedAnd (joinedAnd (joinedAnd (joinedAnd (joinedAnd h0 h1) h2) h3) h4) h5) h6) h7) h8) h9) h10) h11) h12) h13) h14) h15) h16) h17) h18) h19) h20) h21) h22) h23) h24) h25) h26) h27) h28) h29) h30) h31)
end Go.Proofs.Ytghldoiblbcacaa
