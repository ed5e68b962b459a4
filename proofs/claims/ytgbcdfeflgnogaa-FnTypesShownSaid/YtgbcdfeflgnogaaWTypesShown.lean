/- The walk of the law FnTypesShown. Conditions: none. -/
import Derived.Test.YtgbcdfeflgnogaaDrawSame
import Derived.Test.YtgbcdfeflgnogaaShownP
import Derived.Test.YtgbcdfeflgnogaaFreeVars
import Derived.Test.YtgbcdfeflgnogaaSame
import Derived.Test.YtgbcdfeflgnogaaApply
import Derived.Test.YtgbcdfeflgnogaaUp
import Derived.Test.YtgbcdfeflgnogaaGrow
import Derived.Test.YtgbcdfeflgnogaaInt
namespace Go.Proofs.Ytgbcdfeflgnogaa
open Go.RowKit Go.BigFrame
set_option linter.unusedVariables false
set_option linter.unusedSimpArgs false
set_option maxHeartbeats 600000

theorem bigYesT {n : Nat} (A : Option Addr) (c : Nat) (hbi : (1048576 : Int) < (n : Int)) (w : World) : Calls Try.prog 34 #[.slice A n c] w fun e w' => e = .returned (.bool true) ∧ w = w' := by
  go_enter Try.func34, Try.ntmps34
  go_wp2_with fail
  go_ret
  exact ⟨rfl, rfl⟩
theorem bigNoT {n : Nat} (A : Option Addr) (c : Nat) (hbi : ¬ (1048576 : Int) < (n : Int)) (w : World) : Calls Try.prog 34 #[.slice A n c] w fun e w' => e = .returned (.bool false) ∧ w = w' := by
  go_enter Try.func34, Try.ntmps34
  go_wp2_with fail
  go_ret
  exact ⟨rfl, rfl⟩
mutual
theorem GTy.sm_refl : ∀ t : GTy, t.sm t = true
  | .mk op n s kids => by
    rw [GTy.sm_eq]
    simp only [GTy.op, GTy.n, GTy.s, GTy.kids, GTy.smL_refl kids, beq_self_eq_true, Bool.and_self]
theorem GTy.smL_refl : ∀ l : List GTy, GTy.smL l l = true
  | [] => by rw [GTy.smL]
  | t :: r => by rw [GTy.smL, GTy.sm_refl t, GTy.smL_refl r]; rfl
end
def zBindW : Value := .agg #[.int .i64 0, .int .i64 0, .int .i64 0, .string ⟨#[]⟩, .slice none 0 0]
theorem back_bulk (t : GTy) (vs : List Int) : (t.sub (bindOf (zipB vs (backT vs.length)))).bulk ≤ t.bulk := by
  have := GTy.sub_bulk (bindOf (zipB vs (backT vs.length))) 0 (fun n u h => by
    rw [bindOf_zip] at h
    obtain ⟨i, hi, rfl⟩ := List.mem_map.1 (instOf_mem h)
    exact Nat.le_refl _) (t.bulk + 1) t (by omega)
  omega

set_option maxRecDepth 20000 in
theorem walkTypesShown (l : List Int) (A : Option Addr) (c : Nat) (w : World) (hs : Sl w (Lt w.heap.size) 1 A c (l.map (D.num .u8))) :
    Calls Try.prog 7 #[.slice A l.length c] w fun e w' => e = .returned (.bool true) ∧ Below w.heap.size w w' := by
  have S0 := Lib.hid hs
  have hln : l.length ≤ 9223372036854775807 := by simpa using hs.len
  clear hs
  by_cases hbig : 1048576 < l.length
  · have hbi : (1048576 : Int) < (l.length : Int) := by omega
    go_enter Try.func7, Try.ntmps7
    go_wp2_with fail
    refine (bigYesT A c (by omega) w).mono ?_
    rintro e w1 ⟨rfl, rfl⟩
    go_wp2_with fail
    go_ret
    exact ⟨rfl, Below.refl _ _⟩
  have hbi : ¬ (1048576 : Int) < (l.length : Int) := by omega
  have hl : l.length ≤ 1048576 := by omega
  go_enter Try.func7, Try.ntmps7
  go_wp2_with fail
  refine (bigNoT A c (by omega) w).mono ?_
  rintro e w1 ⟨rfl, rfl⟩
  go_wp2_with fail
  refine (drawTyShown l A c w S0.out hl).mono ?_
  rintro e w1 ⟨t, A1, c1, rfl, pt, att, hb1⟩
  have htb : t.bulk ≤ 6142 := by have := pt.1; omega
  obtain ⟨v1, ev1⟩ : ∃ v1, v1 = w1.alloc (.cells #[.int .i64 t.op, .int .i64 t.n, .string t.s, .slice A1 t.kids.length c1] 59) := ⟨_, rfl⟩
  have E1 := Lib.hid (show Below w1.heap.size w1 v1 by rw [ev1]; exact (Below.refl _ _).alloc (Nat.le_refl _) _)
  have B1 := Lib.hid (hb1.trans (E1.out.mono hb1.size))
  have R1 := Lib.hid (show Row v1 w1.heap.size 59 #[.int .i64 t.op, .int .i64 t.n, .string t.s, .slice A1 t.kids.length c1] by rw [ev1]; exact Row.new' _ _ _ rfl)
  have T1 := Lib.hid (att.below E1.out E1.out.size)
  have hc1 := fun i => R1.out.cell i
  have EQ1 := Lib.hid ev1
  have HTB := Lib.hid htb
  obtain ⟨tb, etb⟩ : ∃ tb, tb = w1.heap.size := ⟨_, rfl⟩
  rw [← etb] at R1 hc1
  have HTT := Lib.hid etb
  have hwt : w.heap.size ≤ tb := by rw [etb]; exact hb1.size
  obtain ⟨s, es⟩ : ∃ s, s = shownT t := ⟨_, rfl⟩
  have HS1 := Lib.hid (show Calls Try.prog 36 #[.agg #[.int .i64 t.op, .int .i64 t.n, .string t.s, .slice A1 t.kids.length c1]] v1 fun e w' => e = .returned (.string s) ∧ Below v1.heap.size v1 w' by rw [es]; exact implTyShown t A1 c1 v1 (by omega) T1.out)
  have HES := Lib.hid es
  have PT := Lib.hid pt
  clear hb1 att pt ev1 etb es htb
  go_wp2_with fail
  rw [← HTT.out, ← EQ1.out]
  refine HS1.out.mono ?_
  rintro e w2 ⟨rfl, hb2⟩
  have B2 := Lib.hid (B1.out.trans (hb2.mono B1.out.size))
  have R2 := Lib.hid (R1.out.below hb2 R1.out.lt)
  have T2 := Lib.hid (T1.out.below hb2 hb2.size)
  clear hb2 hc1 HS1
  go_wp2_with fail
  refine (drawSame l A c w2 (S0.out.below B2.out B2.out.size) hl).mono ?_
  rintro e w3 ⟨a, b, Aa, ca, Ab, cb, rfl, pa, pb, ata, atb, hb3⟩
  obtain ⟨v3, ev3⟩ : ∃ v3, v3 = (w3.alloc (.cells #[.int .i64 a.op, .int .i64 a.n, .string a.s, .slice Aa a.kids.length ca] 59)).alloc (.cells #[.int .i64 b.op, .int .i64 b.n, .string b.s, .slice Ab b.kids.length cb] 59) := ⟨_, rfl⟩
  have E3 := Lib.hid (show Below w3.heap.size w3 v3 by rw [ev3]; exact ((Below.refl _ _).alloc (Nat.le_refl _) _).alloc (by simp) _)
  have RA := Lib.hid (show Row v3 w3.heap.size 59 #[.int .i64 a.op, .int .i64 a.n, .string a.s, .slice Aa a.kids.length ca] by rw [ev3]; exact (Row.new _ _ _).alloc _)
  have RB := Lib.hid (show Row v3 (w3.heap.size + 1) 59 #[.int .i64 b.op, .int .i64 b.n, .string b.s, .slice Ab b.kids.length cb] by rw [ev3]; exact Row.new' _ _ _ (by simp))
  have B3 := Lib.hid ((B2.out.trans (hb3.mono B2.out.size)).trans (E3.out.mono (Nat.le_trans B2.out.size hb3.size)))
  have R3 := Lib.hid ((R2.out.below hb3 R2.out.lt).below E3.out (Nat.lt_of_lt_of_le R2.out.lt hb3.size))
  have T3 := Lib.hid ((T2.out.below hb3 hb3.size).below E3.out E3.out.size)
  have AA := Lib.hid (ata.below E3.out E3.out.size)
  have AB := Lib.hid (atb.below E3.out E3.out.size)
  have EQ3 := Lib.hid ev3
  have H1 := Lib.hid (fun (wx : World) (hb : Below v3.heap.size v3 wx) => show Calls Try.prog 38 #[.agg #[.int .i64 t.op, .int .i64 t.n, .string t.s, .slice A1 t.kids.length c1]] wx fun e w' => e = .returned (.string s) ∧ Below wx.heap.size wx w' by rw [HES.out]; exact specTyShown t A1 c1 wx (by have := HTB.out; omega) (T3.out.below hb hb.size))
  have H2 := Lib.hid (fun (wx : World) (hb : Below v3.heap.size v3 wx) => implSame (a.bulk + 1) a b Aa ca Ab cb wx (by omega) (AA.out.below hb hb.size) (AB.out.below hb hb.size))
  have H3 := Lib.hid (fun (wx : World) (hb : Below v3.heap.size v3 wx) => specSame (a.bulk + 1) a b Aa ca Ab cb wx (by omega) (AA.out.below hb hb.size) (AB.out.below hb hb.size))
  have H4 := Lib.hid (fun (wx : World) (hb : Below v3.heap.size v3 wx) => show Calls Try.prog 39 #[.agg #[.int .i64 a.op, .int .i64 a.n, .string a.s, .slice Aa a.kids.length ca], .agg #[.int .i64 a.op, .int .i64 a.n, .string a.s, .slice Aa a.kids.length ca]] wx fun e w' => e = .returned (.bool true) ∧ Below wx.heap.size wx w' by
    have h := implSame (a.bulk + 1) a a Aa ca Aa ca wx (by omega) (AA.out.below hb hb.size) (AA.out.below hb hb.size)
    rw [GTy.sm_refl] at h
    exact h)
  have q1 := upRow R3.out
  have q2 := upRow RA.out
  have q3 := upRow RB.out
  have hss : (s.toList != s.toList) = false := by simp
  clear hb3 ata atb ev3 pa pb
  go_wp2_with fail
  rw [← EQ3.out]
  cases hab : a.sm b
  all_goals
    rw [hab] at H2 H3
    clear hab
    refine wp_region_up v3 (Below.refl _ _) (by kernel_rfl) (by kernel_rfl) ?_
    repeat (go_big_quiet_step (first
      | (go_at_call 38; exact upCall (H1.out _ (Up.h _)))
      | (go_at_call_of 39 b; exact upCall (H2.out _ (Up.h _)))
      | (go_at_call 40; exact upCall (H3.out _ (Up.h _)))
      | (go_at_call 39; exact upCall (H4.out _ (Up.h _)))))
    refine wpQuiet_nil ?_
    rintro w4 ⟨x4, e4⟩
    have hb4 : Below v3.heap.size v3 w4 := by rw [e4]; exact x4.h
    have B4 := Lib.hid (B3.out.trans (hb4.mono B3.out.size))
    have R4 := Lib.hid (R3.out.below hb4 R3.out.lt)
    have T4 := Lib.hid (T3.out.below hb4 hb4.size)
    have hc4 := fun i => R4.out.cell i
    clear e4 x4 hb4 q1 q2 q3 H1 H2 H3 H4
    have H5 := Lib.hid (implTyOk t A1 c1 w4 (by have := GTy.nodes_bulk t; have := HTB.out; omega) T4.out)
    go_wp2_with fail
    refine H5.out.mono ?_
    rintro e w5 ⟨rfl, hb5⟩
    have B5 := Lib.hid (B4.out.trans (hb5.mono B4.out.size))
    have R5 := Lib.hid (R4.out.below hb5 R4.out.lt)
    have T5 := Lib.hid (T4.out.below hb5 hb5.size)
    clear hb5 hc4 H5
    cases hok : t.ok
    · clear hok
      go_wp2_with fail
      go_ret
      exact ⟨rfl, B5.out⟩
    have hos : t.okS = true := by unfold GTy.ok at hok; rw [Bool.and_eq_true] at hok; exact hok.2
    clear hok
    obtain ⟨gb, egb⟩ : ∃ gb, gb = w5.heap.size := ⟨_, rfl⟩
    obtain ⟨v5, ev5⟩ : ∃ v5, v5 = w5.alloc (.cells #[] 70) := ⟨_, rfl⟩
    have E5 := Lib.hid (show Below w5.heap.size w5 v5 by rw [ev5]; exact (Below.refl _ _).alloc (Nat.le_refl _) _)
    have G5 := Lib.hid (show Gsh v5 gb 70 5 (.slice (some ⟨gb, 0, none⟩) 0 0) 0 [] from Gsh.made (by rw [ev5, egb]; exact Row.new' _ _ _ rfl) (Nat.le_refl _))
    have R6 := Lib.hid (R5.out.below E5.out R5.out.lt)
    have T6 := Lib.hid (T5.out.below E5.out E5.out.size)
    have hsv5 : v5.heap.size = gb + 1 := by rw [ev5, egb]; simp
    have HSV := Lib.hid hsv5
    have htg : tb < gb := by rw [egb]; exact R5.out.lt
    have hwg : w.heap.size ≤ gb := by rw [egb]; exact B5.out.size
    have HTG := Lib.hid (show GTy.At v5 (Lt gb) A1 c1 t from T5.out.keep (fun q hq => ⟨by rw [egb]; exact hq, E5.out.block q hq⟩))
    have BG := Lib.hid (show Below w.heap.size w v5 from B5.out.trans (E5.out.mono B5.out.size))
    have HFV := Lib.hid (implFreeVars t A1 c1 v5 (by have := HTB.out; omega) T6.out)
    have hc6 := fun i => R5.out.cell i
    have htw5 : tb < w5.heap.size := R5.out.lt
    have EQ5 := Lib.hid ev5
    have HGB := Lib.hid egb
    have HOS := Lib.hid hos
    clear ev5 egb hsv5 hos
    go_wp2_with fail
    rw [← HGB.out, ← EQ5.out]
    refine HFV.out.mono ?_
    rintro e w6 ⟨Vl, vc, rfl, hvs, hb6⟩
    have hvl := GTy.vs_len t []
    obtain ⟨vs, evs⟩ : ∃ vs, vs = t.vs [] := ⟨_, rfl⟩
    rw [← evs] at hvs hvl
    rw [← evs]
    have hvl2 : vs.length ≤ 6144 := by have := HTB.out; simp only [List.length_nil] at hvl; omega
    have HSH := Lib.hid (show shownT (t.sub (bindOf (zipB vs (backT vs.length)))) = s by rw [HES.out, evs]; exact shown_back t HOS.out)
    have G6 := Lib.hid (G5.out.below hb6 (by have := HSV.out; omega))
    have B6 := Lib.hid (show Below gb v5 w6 from hb6.mono (by have := HSV.out; omega))
    have V6 := Lib.hid (hvs.sl.keep (w' := w6) (S' := fun b => b < w6.heap.size ∧ (Value.slice (some ⟨gb, 0, none⟩) 0 0).ownBlock ≠ some b) (fun b hb => ⟨⟨hb.2, fun e => by
      have h1 : gb = b := by simpa [Value.ownBlock] using e
      have h2 := hb.1
      have := HSV.out
      omega⟩, rfl⟩))
    clear hvs hb6 hvl evs hc6 htw5
    go_wp2_with fail
    go_loopw [7, 9] (fun v i wr => ∃ (j : Nat) (Av : Option Addr) (cv : Nat), j ≤ vs.length ∧ i = .int .i64 j ∧ v = .slice Av j cv ∧ Hid (Gsh wr gb 70 5 (.slice Av j cv) j (((zipB vs (backT vs.length)).take j).map GBind.toD)) ∧ Hid (Sl wr (fun b => b < wr.heap.size ∧ (Value.slice Av j cv).ownBlock ≠ some b) 1 Vl vc (vs.map (D.num .i64))) ∧ Hid (Below gb v5 wr)) (fun _ i _ => vs.length - (intOf i).toNat)
    case atStart => exact ⟨0, _, _, by omega, by go_num, rfl, G6, V6, B6⟩
    case round =>
      clear G6 V6 B6
      obtain ⟨j, Av, cv, hj, rfl, rfl, HG, HV, HB⟩ := hrel
      have hszg : gb ≤ wr.heap.size := by have := HB.out.size; have := HSV.out; omega
      by_cases hlt : j < vs.length
      · obtain ⟨bv, fv, eV, hSv, hz, hwf⟩ := int_elem HV.out j hlt
        subst eV
        have hw40 : IntKind.i64.wrap (40 - (j : Int)) = 40 - (j : Int) := by rw [IntKind.wrap_i64]; omega
        have hj61 : j ≤ 6144 := by omega
        have HZT := Lib.hid (show (zipB vs (backT vs.length)).take (j + 1) = (zipB vs (backT vs.length)).take j ++ [⟨vs[j], .mk 2 (40 - (j : Int)) ⟨#[]⟩ []⟩] by
          rw [zipB_take (by rw [backT_length]) j hlt (by rw [backT_length]; exact hlt), backT_get])
        have HD := Lib.hid (show (GBind.toD ⟨vs[j], .mk 2 (40 - (j : Int)) ⟨#[]⟩ []⟩).rd wr (Lt gb) [.int .i64 vs[j], .int .i64 2, .int .i64 (40 - (j : Int)), .string ⟨#[]⟩, .slice none 0 0] from
          GBind.rd_mk (t := ⟨vs[j], .mk 2 (40 - (j : Int)) ⟨#[]⟩ []⟩) (A1 := none) (c1 := 0) ⟨hwf, show (Lit.int .i64 2).wf = true by decide, show (Lit.int .i64 (40 - (j : Int))).wf = true by simp [Lit.wf, IntKind.min, IntKind.max, IntKind.signed, IntKind.bits]; omega, show (ByteArray.mk #[]).size ≤ maxLen by decide, Sl.nil (by unfold maxLen; omega)⟩)
        clear hwf
        go_wp2_with (first | (at_builtin; refine wpList_append_G wr rfl (.tmp 52) (.tmp 61) 66 rfl 70 zBindW 5 64 Try.underlying66 (by kernel_rfl) rfl (by omega) gb (.slice Av j cv) j _ HG.out (GBind.toD ⟨vs[j], .mk 2 (40 - (j : Int)) ⟨#[]⟩ []⟩) [.int .i64 vs[j], .int .i64 2, .int .i64 (40 - (j : Int)), .string ⟨#[]⟩, .slice none 0 0] HD.out hszg rfl (by simp [Value.oneCell']) (by omega) (by omega) 70 rfl wr.heap.size rfl rfl ?_; intro g cap w7 G7 K7))
        go_roundw
        case rel => exact ⟨j + 1, some ⟨g, 0, none⟩, cap, by omega, by go_num, rfl, Lib.hid (by rw [HZT.out, List.map_append]; exact G7), Lib.hid (HV.out.keep (fun b hb => ⟨⟨Nat.lt_of_lt_of_le hb.1 K7.size, K7.ne hb.2 hb.1⟩, K7.grow.block b hb.1 fun e => hb.2 e.symm⟩)), Lib.hid (HB.out.trans (K7.below hszg (fun g hg => (HG.out.own g hg).1)))⟩
        case measure => simp [intOf]; omega
      · have hjl : j = vs.length := by omega
        subst hjl
        have HTK := Lib.hid (show (zipB vs (backT vs.length)).take vs.length = zipB vs (backT vs.length) by rw [List.take_of_length_le (by rw [zipB_length (by rw [backT_length])]; omega)])
        rw [HTK.out] at HG
        obtain ⟨A9, C9, eS, hSL⟩ := HG.out.sl hszg
        cases eS
        have RT := Lib.hid (R6.out.below HB.out htg)
        have hcT := fun i => RT.out.cell i
        have TT9 := Lib.hid (HTG.out.below HB.out hszg)
        have BW := Lib.hid (show Below w.heap.size w wr from BG.out.trans (HB.out.mono hwg))
        have HAP := Lib.hid (implApply (t.bulk + 1) (zipB vs (backT vs.length)) Av cv t A1 c1 wr (by omega) (by have := HTB.out; omega) (Nat.le_trans (zipB_bulk _ _) (by rw [backT_bulk]; omega)) hSL TT9.out)
        rw [zipB_length (by rw [backT_length])] at HAP
        have hbk := Lib.hid (back_bulk t vs)
        clear hSL
        go_wp2_with fail
        refine HAP.out.mono ?_
        rintro e w8 ⟨A8, c8, rfl, how, hb8⟩
        have B8 := Lib.hid (BW.out.trans (hb8.mono BW.out.size))
        have HSX := Lib.hid (implTyShown (t.sub (bindOf (zipB vs (backT vs.length)))) A8 c8 w8 (by have := hbk.out; have := HTB.out; omega) (how.at.keep (fun b hb => ⟨hb.2, rfl⟩)))
        rw [HSH.out] at HSX
        clear hb8 how hcT
        go_wp2_with fail
        refine HSX.out.mono ?_
        rintro e w9 ⟨rfl, hb9⟩
        have B9 := Lib.hid (B8.out.trans (hb9.mono B8.out.size))
        clear hb9
        go_wp2_with fail
        go_ret
        exact ⟨rfl, B9.out⟩
end Go.Proofs.Ytgbcdfeflgnogaa
