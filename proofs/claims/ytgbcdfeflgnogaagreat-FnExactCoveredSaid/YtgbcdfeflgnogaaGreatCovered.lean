/- Covered, in the reference and in the program. Conditions: what the program holds is at most 1048576. -/
import Derived.Test.YtgbcdfeflgnogaaGreatMg12
import Derived.Test.YtgbcdfeflgnogaaGreatTidyI
import Derived.Test.YtgbcdfeflgnogaaGreatMg14
import Derived.Test.YtgbcdfeflgnogaaGreatMg15
namespace Go.Proofs.YtgbcdfeflgnogaaGreat
open Go.RowKit Go.BigFrame
set_option linter.unusedVariables false
set_option linter.unusedSimpArgs false
set_option maxHeartbeats 4000000

set_option maxRecDepth 20000 in
theorem specCov (ds : List GData) (A0 : Option Addr) (c0 : Nat) (hd : bulkL GData.bulk ds ≤ 1048576) (k : Nat) : ∀ (t : GNode) (A1 : Option Addr) (c1 : Nat) (w : World), t.bulk < k → t.bulk ≤ 1048576 → t.caseOk = true → Sl w (Lt w.heap.size) 3 A0 c0 (ds.map GData.toD) → GNode.At w (Lt w.heap.size) A1 c1 t →
    Calls Tryz.prog 12 #[.slice A0 ds.length c0, .agg #[.int .i64 t.op, .int .i64 t.n, .string t.s, .string t.t, .slice A1 t.kids.length c1]] w fun e w' => e = .returned (.bool (t.cov ds)) ∧ Below w.heap.size w w' := by
  induction k with
  | zero => intros; omega
  | succ k ih =>
    intro t A1 c1 w hk0 hb hc hs ht
    obtain ⟨h0, h1, h2, h3, hk⟩ := id ht
    have hlen : t.kids.length ≤ 9223372036854775807 := by simpa using hk.len
    have hbe := t.bulk_eq
    have S0 := Lib.hid hs
    have K0 := Lib.hid hk
    have HIH := Lib.hid (fun (j : Nat) (hj : j < t.kids.length) (A2 : Option Addr) (c2 : Nat) (w2 : World) (hs2 : Sl w2 (Lt w2.heap.size) 3 A0 c0 (ds.map GData.toD)) (hx2 : GNode.At w2 (Lt w2.heap.size) A2 c2 t.kids[j]) =>
      ih t.kids[j] A2 c2 w2 (by have := bulkL_mem GNode.bulk t.kids _ (List.getElem_mem hj); omega) (by have := bulkL_mem GNode.bulk t.kids _ (List.getElem_mem hj); omega) (GNode.caseOk_kid hc (List.getElem_mem hj)) hs2 hx2)
    have R0 := Lib.hid (Row.new w 33 #[.int .i64 t.op, .int .i64 t.n, .string t.s, .string t.t, .slice A1 t.kids.length c1])
    have E0 := Lib.hid (show Below w.heap.size w (w.alloc (.cells #[.int .i64 t.op, .int .i64 t.n, .string t.s, .string t.t, .slice A1 t.kids.length c1] 33)) from (Below.refl _ _).alloc (Nat.le_refl _) _)
    have HBK := Lib.hid (show bulkL GNode.bulk t.kids ≤ 1048576 by omega)
    have HC7 := Lib.hid (fun (h7 : t.op = 7) => GNode.caseOk_case hc h7)
    clear ih hk0 hb hc hs ht h0 h1 h2 h3 hk hbe
    go_enter Tryz.func12, Tryz.ntmps12
    go_wp2_with fail
    go_loopw [5] (fun i wr => ∃ (j : Nat), j ≤ t.kids.length ∧ i = .int .i64 j ∧ Hid ((t.kids.take j).all (GNode.cov ds) = true) ∧ Hid (Row wr w.heap.size 33 #[.int .i64 t.op, .int .i64 t.n, .string t.s, .string t.t, .slice A1 t.kids.length c1]) ∧ Below w.heap.size w wr) (fun i _ => t.kids.length - (intOf i).toNat)
    case atStart => exact ⟨0, by omega, by go_num, Lib.hid (by simp), R0, E0.out⟩
    case round =>
      clear R0 E0
      obtain ⟨j, hj, rfl, HN, HR, hbl⟩ := hrel
      have hsz := hbl.size
      have hR := fun i => HR.out.cell i
      have hRl := HR.out.lt
      have HSD := Lib.hid (S0.out.below hbl hsz)
      by_cases hlt : j < t.kids.length
      · obtain ⟨b, off, A2, c2, eA, hSb, g0, g1, g2, g3, g4, hat⟩ := GNode.elem (K0.out.below hbl (Nat.le_refl _)) j hlt
        subst eA
        have HX := Lib.hid (fun (wx : World) (hbx : Below wr.heap.size wr wx) => HIH.out j hlt A2 c2 wx (HSD.out.below hbx hbx.size) ((hat.below (Below.refl _ _) hsz).below hbx hbx.size))
        have HT := Lib.hid (allN_take (p := GNode.cov ds) hlt)
        have HF := Lib.hid (fun (e : (t.kids[j]).cov ds = false) => cov_kid hlt e)
        clear hat
        cases he : (t.kids[j]).cov ds
        all_goals
          rw [he] at HX
          have HE := Lib.hid he
          clear he
          go_wp2_with fail
          refine (HX.out _ (Below.refl _ _)).mono ?_
          rintro e w1 ⟨rfl, hb1⟩
          have B1 := Lib.hid (hbl.trans (hb1.mono hsz))
          have R1 := Lib.hid (HR.out.below hb1 hRl)
          clear hb1
          go_wp2_with fail
          first
          | (go_ret; exact ⟨ret_bool (HF.out HE.out).symm, B1.out⟩)
          | (go_roundw
             case rel => exact ⟨j + 1, by omega, by go_num, Lib.hid (by rw [HT.out, HN.out, HE.out]; rfl), R1, B1.out⟩
             case measure => simp [intOf]; omega)
      · have HA := Lib.hid (show t.kids.all (GNode.cov ds) = true by have := HN.out; rwa [show j = t.kids.length by omega, List.take_length] at this)
        by_cases h7 : t.op = 7
        · have o7 : (t.op != 7) = false := by rw [h7]; rfl
          have hl1 := HC7.out h7
          obtain ⟨x, r, hxr⟩ := List.exists_cons_of_length_pos (l := t.kids) (by omega)
          have HV := Lib.hid (cov_case (ds := ds) h7 hxr)
          have hsk := K0.out.below hbl hsz
          rw [hxr] at hsk
          obtain ⟨b1, off1, A4, c4, eA, hS1, x0, x1, x2, x3, x4, hatx⟩ := GNode.elem hsk 0 (by simp)
          subst eA
          have hll : t.kids.length = r.length + 1 := by rw [hxr]; rfl
          have hlc : t.kids.length ≤ c1 := by have := hsk.1; simp at this; omega
          have HTL := Lib.hid (Sl.tailAt hsk)
          have htl := fun (wx : World) => run_tailAt (P := Tryz.prog) 31 33 5 Tryz.underlying31 (by kernel_rfl) b1 off1 r.length c1 (by omega) wx
          rw [← hll] at htl
          have hn1 : 1 ≤ t.kids.length := by omega
          have HMI := Lib.hid (fun (wx : World) (hbx : Below wr.heap.size wr wx) => specMissing ds A0 c0 r (tailAt b1 off1 5 c1) (c1 - 1) wx hd (by have := HBK.out; rw [hxr] at this; simp only [bulkL] at this; omega) (HSD.out.below hbx hbx.size) (HTL.out.below hbx hbx.size))
          clear hxr hsk x0 x1 x2 x3 x4 hatx hll h7
          cases hm : missingG patOf ds r
          all_goals
            rw [hm] at HMI
            have HE := Lib.hid (HV.out.trans (by rw [hm, HA.out]))
            clear hm
            go_wp2_with fail
            refine (HMI.out _ (Below.refl _ _)).mono ?_
            rintro e w1 ⟨rfl, hb1⟩
            have B1 := Lib.hid (hbl.trans (hb1.mono hsz))
            clear hb1
            go_wp2_with fail
            go_ret
            exact ⟨ret_bool HE.out.symm, B1.out⟩
        · have o7 : (t.op != 7) = true := bne_iff_ne.2 h7
          have HE := Lib.hid ((cov_other (ds := ds) h7).trans HA.out)
          clear h7
          go_wp2_with fail
          go_ret
          exact ⟨ret_bool HE.out.symm, hbl⟩

set_option maxRecDepth 20000 in
theorem implCov (ds : List GData) (A0 : Option Addr) (c0 : Nat) (hd : bulkL GData.bulk ds ≤ 1048576) (k : Nat) : ∀ (t : GNode) (A1 : Option Addr) (c1 : Nat) (w : World), t.bulk < k → t.bulk ≤ 1048576 → t.caseOk = true → Sl w (Lt w.heap.size) 3 A0 c0 (ds.map GData.toD) → GNode.At w (Lt w.heap.size) A1 c1 t →
    Calls Tryz.prog 16 #[.slice A0 ds.length c0, .agg #[.int .i64 t.op, .int .i64 t.n, .string t.s, .string t.t, .slice A1 t.kids.length c1]] w fun e w' => e = .returned (.bool (t.cov ds)) ∧ Below w.heap.size w w' := by
  induction k with
  | zero => intros; omega
  | succ k ih =>
    intro t A1 c1 w hk0 hb hc hs ht
    obtain ⟨h0, h1, h2, h3, hk⟩ := id ht
    have hlen : t.kids.length ≤ 9223372036854775807 := by simpa using hk.len
    have hbe := t.bulk_eq
    have HBK := Lib.hid (show bulkL GNode.bulk t.kids ≤ 1048576 by omega)
    have HC7 := Lib.hid (fun (h7 : t.op = 7) => GNode.caseOk_case hc h7)
    obtain ⟨w0, e0⟩ : ∃ w0, w0 = (w.alloc (.cells #[.slice A0 ds.length c0] 30)).alloc (.cells #[.int .i64 t.op, .int .i64 t.n, .string t.s, .string t.t, .slice A1 t.kids.length c1] 33) := ⟨_, rfl⟩
    have E := Lib.hid (show Below w.heap.size w w0 by rw [e0]; exact ((Below.refl _ _).alloc (Nat.le_refl _) _).alloc (by simp) _)
    have RL := Lib.hid (show Row w0 w.heap.size 30 #[.slice A0 ds.length c0] by rw [e0]; exact (Row.new _ _ _).alloc _)
    have RN := Lib.hid (show Row w0 (w.heap.size + 1) 33 #[.int .i64 t.op, .int .i64 t.n, .string t.s, .string t.t, .slice A1 t.kids.length c1] by rw [e0]; exact Row.new' _ _ _ (by simp))
    have EQ := Lib.hid e0
    have SD := Lib.hid (hs.below E.out E.out.size)
    have SK := Lib.hid (hk.below E.out E.out.size)
    have HC : ∀ x, x ∈ t.kids → ∀ (A2 : Option Addr) (c2 : Nat) (w2 : World), Below w0.heap.size w0 w2 → GNode.At w2 (Lt w2.heap.size) A2 c2 x →
        Calls Tryz.prog 37 (#[.agg #[.int .i64 x.op, .int .i64 x.n, .string x.s, .string x.t, .slice A2 x.kids.length c2]] ++ #[.pointer (some ⟨w.heap.size, 0, none⟩)]) w2 fun e w' => e = .returned (.bool (x.cov ds)) ∧ Below w2.heap.size w2 w' := by
      intro x hx A2 c2 w2 hbw hx2
      have E2 : Below w2.heap.size w2 (w2.alloc (.cells #[.int .i64 x.op, .int .i64 x.n, .string x.s, .string x.t, .slice A2 x.kids.length c2] 33)) := (Below.refl _ _).alloc (Nat.le_refl _) _
      have R2 := (RL.out.below hbw RL.out.lt).alloc (.cells #[.int .i64 x.op, .int .i64 x.n, .string x.s, .string x.t, .slice A2 x.kids.length c2] 33)
      have hc2 := fun i => R2.cell i
      have HX := Lib.hid (fun (wx : World) (hbx : Below w2.heap.size w2 wx) => ih x A2 c2 wx (by have := bulkL_mem GNode.bulk t.kids x hx; omega) (by have := bulkL_mem GNode.bulk t.kids x hx; omega) (GNode.caseOk_kid hc hx) ((SD.out.below hbw hbw.size).below hbx hbx.size) (hx2.below hbx hbx.size))
      have EE := Lib.hid E2
      clear hbe h0 h1 h2 h3 hk ht hlen e0 hs hx2 ih
      go_enter Tryz.func37, Tryz.ntmps37
      go_wp2_with fail
      refine (HX.out _ EE.out).mono ?_
      rintro e w3 ⟨rfl, hb3⟩
      go_wp2_with fail
      go_ret
      exact ⟨rfl, EE.out.trans (hb3.mono EE.out.size)⟩
    have HCC := Lib.hid HC
    have HA := Lib.hid (fun (wx : World) (hbx : Below w0.heap.size w0 wx) => implAllNodes 37 (enters Tryz.func37 (by kernel_rfl) (by kernel_rfl)) #[.pointer (some ⟨w.heap.size, 0, none⟩)] (GNode.cov ds) t.kids A1 c1 wx (SK.out.below hbx hbx.size) (fun x hx A2 c2 w2 hb2 hx2 => HCC.out x hx A2 c2 w2 (hbx.trans (hb2.mono hbx.size)) hx2))
    have q0 := upRow RN.out
    have q1 := upRow RL.out
    clear HC ih hk0 hb hc hs ht h0 h1 h2 h3 hk hbe e0
    by_cases h7 : t.op = 7
    · have o7 : (t.op == 7) = true := by rw [h7]; rfl
      have hl1 := HC7.out h7
      obtain ⟨x, r, hxr⟩ := List.exists_cons_of_length_pos (l := t.kids) (by omega)
      have HV := Lib.hid (cov_case (ds := ds) h7 hxr)
      have hsk := SK.out
      rw [hxr] at hsk
      obtain ⟨b1, off1, A4, c4, eA, hS1, x0, x1, x2, x3, x4, hatx⟩ := GNode.elem hsk 0 (by simp)
      subst eA
      have hll : t.kids.length = r.length + 1 := by rw [hxr]; rfl
      have hlc : t.kids.length ≤ c1 := by have := hsk.1; simp at this; omega
      have HTL := Lib.hid (Sl.tailAt hsk)
      have htl := fun (wx : World) => run_tailAt (P := Tryz.prog) 31 33 5 Tryz.underlying31 (by kernel_rfl) b1 off1 r.length c1 (by omega) wx
      rw [← hll] at htl
      have hn1 : 1 ≤ t.kids.length := by omega
      have HMI := Lib.hid (fun (wx : World) (hbx : Below w0.heap.size w0 wx) => implMissing ds A0 c0 r (tailAt b1 off1 5 c1) (c1 - 1) wx hd (by have := HBK.out; rw [hxr] at this; simp only [bulkL] at this; omega) (SD.out.below hbx hbx.size) (HTL.out.below hbx hbx.size))
      rw [missing_eq] at HMI
      clear hxr hsk x0 x1 x2 x3 x4 hatx hll h7
      cases hm : missingG patOf ds r
      · rw [hm] at HMI
        have HE := Lib.hid (show t.cov ds = t.kids.all (GNode.cov ds) by rw [HV.out, hm]; rfl)
        clear hm
        go_enter Tryz.func16, Tryz.ntmps16
        go_wp2_with fail
        rw [← EQ.out]
        refine wp_region_up w0 (Below.refl _ _) (by kernel_rfl) (by kernel_rfl) ?_
        repeat (go_big_quiet_step (first
          | (go_at_call 35; exact upCall (HMI.out _ (Up.h _)))))
        refine wpQuiet_nil ?_
        rintro w9 ⟨x9, e9⟩
        have B9 := Lib.hid (show Below w0.heap.size w0 w9 by rw [e9]; exact x9.h)
        have RN9 := Lib.hid (RN.out.below B9.out RN.out.lt)
        have hc9 := fun i => RN9.out.cell i
        clear e9 x9 q0 q1
        go_wp2_with fail
        refine (HA.out _ B9.out).mono ?_
        rintro e w8 ⟨rfl, hb8⟩
        go_wp2_with fail
        go_ret
        exact ⟨ret_bool HE.out.symm, E.out.trans ((B9.out.trans (hb8.mono B9.out.size)).mono E.out.size)⟩
      · rw [hm] at HMI
        have HE := Lib.hid (show t.cov ds = false by rw [HV.out, hm]; rfl)
        clear hm
        go_enter Tryz.func16, Tryz.ntmps16
        go_wp2_with fail
        rw [← EQ.out]
        refine wp_region_up w0 (Below.refl _ _) (by kernel_rfl) (by kernel_rfl) ?_
        repeat (go_big_quiet_step (first
          | (go_at_call 35; exact upCall (HMI.out _ (Up.h _)))))
        refine wpQuiet_nil ?_
        rintro w9 ⟨x9, e9⟩
        have B9 := Lib.hid (show Below w0.heap.size w0 w9 by rw [e9]; exact x9.h)
        clear e9 x9 q0 q1
        go_wp2_with fail
        go_ret
        exact ⟨ret_bool HE.out.symm, E.out.trans (B9.out.mono E.out.size)⟩
    · have o7 : (t.op == 7) = false := beq_eq_false_iff_ne.2 h7
      have HE := Lib.hid (cov_other (ds := ds) h7)
      clear h7
      go_enter Tryz.func16, Tryz.ntmps16
      go_wp2_with fail
      rw [← EQ.out]
      refine wp_region_up w0 (Below.refl _ _) (by kernel_rfl) (by kernel_rfl) ?_
      repeat (go_big_quiet_step (fail))
      refine wpQuiet_nil ?_
      rintro w9 ⟨x9, e9⟩
      have B9 := Lib.hid (show Below w0.heap.size w0 w9 by rw [e9]; exact x9.h)
      have RN9 := Lib.hid (RN.out.below B9.out RN.out.lt)
      have hc9 := fun i => RN9.out.cell i
      clear e9 x9 q0 q1
      go_wp2_with fail
      refine (HA.out _ B9.out).mono ?_
      rintro e w8 ⟨rfl, hb8⟩
      go_wp2_with fail
      go_ret
      exact ⟨ret_bool HE.out.symm, E.out.trans ((B9.out.trans (hb8.mono B9.out.size)).mono E.out.size)⟩

set_option maxRecDepth 20000 in
theorem specCovered (p : GProg) (A1 : Option Addr) (c1 : Nat) (A2 : Option Addr) (c2 : Nat) (w : World) (hb : p.bulk ≤ 1048576) (hat : GProg.At w (Lt w.heap.size) A1 c1 A2 c2 p) :
    Calls Tryz.prog 5 #[.agg #[.slice A1 p.datas.length c1, .int .i64 p.main.op, .int .i64 p.main.n, .string p.main.s, .string p.main.t, .slice A2 p.main.kids.length c2]] w fun e w' => e = .returned (.bool (coveredB (tidyP p) p)) ∧ Below w.heap.size w w' := by
  have hbe := p.bulk_eq
  have R0 := Lib.hid (Row.new w 35 #[.slice A1 p.datas.length c1, .int .i64 p.main.op, .int .i64 p.main.n, .string p.main.s, .string p.main.t, .slice A2 p.main.kids.length c2])
  have E0 := Lib.hid (show Below w.heap.size w (w.alloc (.cells #[.slice A1 p.datas.length c1, .int .i64 p.main.op, .int .i64 p.main.n, .string p.main.s, .string p.main.t, .slice A2 p.main.kids.length c2] 35)) from (Below.refl _ _).alloc (Nat.le_refl _) _)
  have HT := Lib.hid (fun (wx : World) (hx : GProg.At wx (Lt wx.heap.size) A1 c1 A2 c2 p) => specTidy p A1 c1 A2 c2 wx hb hx)
  have HC := Lib.hid (fun (hc : p.main.caseOk = true) (wx : World) (hx : GProg.At wx (Lt wx.heap.size) A1 c1 A2 c2 p) => specCov p.datas A1 c1 (by omega) (p.main.bulk + 1) p.main A2 c2 wx (by omega) (by omega) hc hx.1 hx.2)
  have AT := Lib.hid hat
  clear hat hbe
  cases ht : tidyP p
  · rw [ht] at HT
    clear ht HC
    go_enter Tryz.func5, Tryz.ntmps5
    go_wp2_with fail
    refine (HT.out _ (AT.out.below E0.out E0.out.size)).mono ?_
    rintro e w1 ⟨rfl, hb1⟩
    have B1 := Lib.hid (E0.out.trans (hb1.mono E0.out.size))
    clear hb1
    go_wp2_with fail
    go_ret
    exact ⟨rfl, B1.out⟩
  · rw [ht] at HT
    have hc : p.main.caseOk = true := GNode.caseOk_exp p.main (by unfold tidyP at ht; rw [Bool.and_eq_true, Bool.and_eq_true] at ht; exact ht.2.2)
    have HC2 := Lib.hid (HC.out hc)
    clear ht HC hc
    go_enter Tryz.func5, Tryz.ntmps5
    go_wp2_with fail
    refine (HT.out _ (AT.out.below E0.out E0.out.size)).mono ?_
    rintro e w1 ⟨rfl, hb1⟩
    have B1 := Lib.hid (E0.out.trans (hb1.mono E0.out.size))
    have R1 := Lib.hid (R0.out.below hb1 R0.out.lt)
    have hR1 := fun i => R1.out.cell i
    clear hb1
    go_wp2_with fail
    refine (HC2.out _ (AT.out.below B1.out B1.out.size)).mono ?_
    rintro e w2 ⟨rfl, hb2⟩
    have B2 := Lib.hid (B1.out.trans (hb2.mono B1.out.size))
    clear hb2
    go_wp2_with fail
    go_ret
    exact ⟨rfl, B2.out⟩

set_option maxRecDepth 20000 in
theorem implCovered (p : GProg) (A1 : Option Addr) (c1 : Nat) (A2 : Option Addr) (c2 : Nat) (w : World) (hb : p.bulk ≤ 1048576) (hat : GProg.At w (Lt w.heap.size) A1 c1 A2 c2 p) :
    Calls Tryz.prog 7 #[.agg #[.slice A1 p.datas.length c1, .int .i64 p.main.op, .int .i64 p.main.n, .string p.main.s, .string p.main.t, .slice A2 p.main.kids.length c2]] w fun e w' => e = .returned (.bool (coveredB (tidyP p) p)) ∧ Below w.heap.size w w' := by
  have hbe := p.bulk_eq
  have R0 := Lib.hid (Row.new w 35 #[.slice A1 p.datas.length c1, .int .i64 p.main.op, .int .i64 p.main.n, .string p.main.s, .string p.main.t, .slice A2 p.main.kids.length c2])
  have E0 := Lib.hid (show Below w.heap.size w (w.alloc (.cells #[.slice A1 p.datas.length c1, .int .i64 p.main.op, .int .i64 p.main.n, .string p.main.s, .string p.main.t, .slice A2 p.main.kids.length c2] 35)) from (Below.refl _ _).alloc (Nat.le_refl _) _)
  have HT := Lib.hid (fun (wx : World) (hx : GProg.At wx (Lt wx.heap.size) A1 c1 A2 c2 p) => implTidy p A1 c1 A2 c2 wx hb hx)
  have HC := Lib.hid (fun (hc : p.main.caseOk = true) (wx : World) (hx : GProg.At wx (Lt wx.heap.size) A1 c1 A2 c2 p) => implCov p.datas A1 c1 (by omega) (p.main.bulk + 1) p.main A2 c2 wx (by omega) (by omega) hc hx.1 hx.2)
  have AT := Lib.hid hat
  clear hat hbe
  cases ht : tidyP p
  · rw [ht] at HT
    clear ht HC
    go_enter Tryz.func7, Tryz.ntmps7
    go_wp2_with fail
    refine (HT.out _ (AT.out.below E0.out E0.out.size)).mono ?_
    rintro e w1 ⟨rfl, hb1⟩
    have B1 := Lib.hid (E0.out.trans (hb1.mono E0.out.size))
    clear hb1
    go_wp2_with fail
    go_ret
    exact ⟨rfl, B1.out⟩
  · rw [ht] at HT
    have hc : p.main.caseOk = true := GNode.caseOk_exp p.main (by unfold tidyP at ht; rw [Bool.and_eq_true, Bool.and_eq_true] at ht; exact ht.2.2)
    have HC2 := Lib.hid (HC.out hc)
    clear ht HC hc
    go_enter Tryz.func7, Tryz.ntmps7
    go_wp2_with fail
    refine (HT.out _ (AT.out.below E0.out E0.out.size)).mono ?_
    rintro e w1 ⟨rfl, hb1⟩
    have B1 := Lib.hid (E0.out.trans (hb1.mono E0.out.size))
    have R1 := Lib.hid (R0.out.below hb1 R0.out.lt)
    have hR1 := fun i => R1.out.cell i
    clear hb1
    go_wp2_with fail
    refine (HC2.out _ (AT.out.below B1.out B1.out.size)).mono ?_
    rintro e w2 ⟨rfl, hb2⟩
    have B2 := Lib.hid (B1.out.trans (hb2.mono B1.out.size))
    clear hb2
    go_wp2_with fail
    go_ret
    exact ⟨rfl, B2.out⟩

end Go.Proofs.YtgbcdfeflgnogaaGreat
