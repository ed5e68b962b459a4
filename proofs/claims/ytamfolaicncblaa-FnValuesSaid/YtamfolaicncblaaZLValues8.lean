/- Texts of the claim LValues in one: PaU PaV. Conditions: none but bounds on sizes. -/
import Derived.Test.YtamfolaicncblaaZLValues7
import Derived.Deep.CutRange
import Derived.Test.YtamfolaicncblaaZLValues2
namespace Go.Proofs.Ytamfolaicncblaa
set_option maxRecDepth 20000
set_option linter.unusedVariables false
set_option linter.unusedSimpArgs false
open Go.RowKit
set_option maxHeartbeats 2000000
theorem pTy_succ (ts : List GToken) (k : Nat) (st : PSt) : pTy ts (k + 1) st =
 ((if pCon ts st then (pTyKids ts k (pText ts true st).2 []).map fun r => (GTy.mk 4 0 (pText ts true st).1 r.1, r.2) else pTyAtom ts k st).bind fun a =>
   if pSign ts [45, 62] a.2 then (pTy ts k (pNext ts a.2)).map fun b => (.mk 3 0 ⟨#[]⟩ [a.1, b.1], b.2) else some a) := by simp only [pTy]
theorem l3Ty (k : Nat) (hkk : k ≤ 1000000) (hA : ∀ j, j ≤ k → OkT 70 pTyAtom j) (hT : OkT 78 pTy k) : OkT 78 pTy (k + 1) := by
 intro ts g L cl V cv st w h n st' hp
 rw [pTy_succ] at hp
 have HA := LH hA
 have HTY := LH hT
 clear hA hT
 have HC := LH h
 have M0 := LH h.mv
 have hgl := h.row.lt
 clear h
 go_enter Try.func78, Try.ntmps78
 refine wp_hide (fun BP hBP => ?_)
 have HBP := LH hBP
 clear hBP
 go_wp2_with fail
 obtain ⟨w1, e1, Rr1, hz1, K1⟩ := boxed w 96 #[.int .i64 0, .int .i64 0, .string ⟨#[]⟩, .slice none 0 0]
 have M1 := LH (M0.out.chg K1.out (by omega) (by omega))
 obtain ⟨w2, e2, Ra2, hz2, K2⟩ := boxed w1 96 #[.int .i64 0, .int .i64 0, .string ⟨#[]⟩, .slice none 0 0]
 have hy2 : w1.heap.size = (w.heap.size + 1) := by omega
 rw [hy2] at Ra2 K2
 have Rr2 := LH (K2.out.row Rr1.out (by omega))
 have M2 := LH (M1.out.chg K2.out (by omega) (by omega))
 clear Rr1 M1
 rw [← e1, ← e2]
 clear e1 e2
 have hlu2 := M2.out.row.lt
 have hcr2 := fun i => Rr2.out.cell i
 have hlr2 := Rr2.out.lt
 have hca2 := fun i => Ra2.out.cell i
 have hla2 := Ra2.out.lt
 refine (l3Con ts g L cl V cv st w2 (M2.out.cur HC.out)).mono ?_
 clear hlu2 hcr2 hlr2 hca2 hla2
 rintro e w3 ⟨rfl, hb3⟩
 have hz3 := hb3.size
 have K3 := LH (Bx.of_below (g := g) hb3 (Nat.le_refl _))
 have Rr3 := LH (K3.out.row Rr2.out (by omega))
 have Ra3 := LH (K3.out.row Ra2.out (by omega))
 have M3 := LH (M2.out.below hb3)
 clear Rr2 Ra2 M2
 clear hb3
 have hlu3 := M3.out.row.lt
 have hcr3 := fun i => Rr3.out.cell i
 have hlr3 := Rr3.out.lt
 have hca3 := fun i => Ra3.out.cell i
 have hla3 := Ra3.out.lt
 cases hs1 : pCon ts st
 ·
  simp only [hs1, Bool.false_eq_true, if_false, Option.bind_eq_some_iff] at hp
  obtain ⟨⟨n1, s1⟩, hq1, hb0⟩ := hp
  have HB := LH hb0
  clear hb0
  go_wp2_with fail
  refine (HA.out k (Nat.le_refl _) ts g L cl V cv st w3 (M3.out.cur HC.out) n1 s1 hq1).mono ?_
  clear hlu3 hcr3 hlr3 hca3 hla3
  rintro e w4 ⟨Ax, cx, rfl, ha4, hm4⟩
  have hz4 := hm4.size
  have K4 := LH hm4.bx
  have DN4 := LH ha4
  have Rr4 := LH (K4.out.row Rr3.out (by omega))
  have Ra4 := LH (K4.out.row Ra3.out (by omega))
  have M4 := LH (M3.out.trans hm4)
  clear Rr3 Ra3 M3
  clear hm4 ha4
  have hlu4 := M4.out.row.lt
  have hcr4 := fun i => Rr4.out.cell i
  have hlr4 := Rr4.out.lt
  have hca4 := fun i => Ra4.out.cell i
  have hfa4 := fun i => Ra4.out.frozen i
  have hla4 := Ra4.out.lt
  clear hq1
  go_upto_region 7 with (fail)
  clear hlu4 hcr4 hlr4 hca4 hfa4 hla4
  obtain ⟨w5, e5, RN5, hz5, K5⟩ := stored4 Ra4.out (.int .i64 n1.op) (.int .i64 n1.n) (.string n1.s) (.slice Ax n1.kids.length cx)
  have Rr5 := LH (K5.out.row Rr4.out (by omega))
  have Dx5 := LH (DN4.out.keep fun b hb => K5.out.kq hb (by have h1 := hb.1; have h2 := hb.2; omega))
  have M5 := LH (M4.out.chg K5.out (by omega) (by omega))
  clear Rr4 DN4 M4
  clear Ra4
  rw [← e5]
  clear e5
  have hlu5 := M5.out.row.lt
  have hcr5 := fun i => Rr5.out.cell i
  have hlr5 := Rr5.out.lt
  have hca5 := fun i => RN5.out.cell i
  have hla5 := RN5.out.lt
  go_wp2_with fail
  refine (l3Sign ts g L cl V cv s1 w5 (M5.out.cur HC.out) ⟨#[45, 62]⟩).mono ?_
  clear hlu5 hcr5 hlr5 hca5 hla5
  rintro e w6 ⟨rfl, hb6⟩
  have hz6 := hb6.size
  have K6 := LH (Bx.of_below (g := g) hb6 (Nat.le_refl _))
  have Rr6 := LH (K6.out.row Rr5.out (by omega))
  have Ra6 := LH (K6.out.row RN5.out (by omega))
  have Dx6 := LH (Dx5.out.keep fun b hb => K6.out.kq hb (by have h1 := hb.1; have h2 := hb.2; omega))
  have M6 := LH (M5.out.below hb6)
  clear Rr5 RN5 Dx5 M5
  clear hb6
  have hlu6 := M6.out.row.lt
  have hcr6 := fun i => Rr6.out.cell i
  have hfr6 := fun i => Rr6.out.frozen i
  have hlr6 := Rr6.out.lt
  have hca6 := fun i => Ra6.out.cell i
  have hla6 := Ra6.out.lt
  cases hs3 : pSign ts [45, 62] s1
  ·
   have hb := HB.out
   simp [hs3] at hb
   obtain ⟨hb1, hb2⟩ := hb
   have HB1 := LH hb1
   have HB2 := LH hb2
   clear hb1 hb2
   go_wp2_with fail
   clear hlu6 hcr6 hfr6 hlr6 hca6 hla6
   obtain ⟨w7, e7, RN7, hz7, K7⟩ := stored4 Rr6.out (.int .i64 n1.op) (.int .i64 n1.n) (.string n1.s) (.slice Ax n1.kids.length cx)
   have Ra7 := LH (K7.out.row Ra6.out (by omega))
   have Dx7 := LH (Dx6.out.keep fun b hb => K7.out.kq hb (by have h1 := hb.1; have h2 := hb.2; omega))
   have M7 := LH (M6.out.chg K7.out (by omega) (by omega))
   clear Ra6 Dx6 M6
   clear Rr6
   rw [← e7]
   clear e7
   have hlu7 := M7.out.row.lt
   have hca7 := fun i => Ra7.out.cell i
   have hla7 := Ra7.out.lt
   have hcr7 := fun i => RN7.out.cell i
   have hlr7 := RN7.out.lt
   obtain rfl := HB1.out
   obtain rfl := HB2.out
   show BP _ _
   rw [HBP.out]
   refine bodyPost_ret (v := .agg #[.int .i64 n1.op, .int .i64 n1.n, .string n1.s, .slice Ax n1.kids.length cx]) (by simp [results, Try.results78, go_sem, hcr7]) rfl ?_
   exact ⟨Ax, cx, rfl, Dx7.out.keep fun b hb => ⟨⟨by have h1 := hb.1; have h2 := hb.2; omega, by have h1 := hb.1; have h2 := hb.2; omega⟩, rfl⟩, M7.out⟩
  ·
   have hb := HB.out
   simp [hs3, Option.map_eq_some_iff] at hb
   obtain ⟨n2, hq2, hn⟩ := hb
   have HNN := LH hn
   have HQ2 := LH hq2
   clear hn hq2
   go_wp2_with fail
   refine (l3Next ts g L cl V cv s1 w6 (M6.out.cur HC.out)).mono ?_
   clear hlu6 hcr6 hfr6 hlr6 hca6 hla6
   rintro e w7 ⟨rfl, hm7⟩
   replace hm7 : Mv ts g L cl V cv s1.vars (pNext ts s1) w6 w7 := hm7
   have hz7 := hm7.size
   have K7 := LH hm7.bx
   have Rr7 := LH (K7.out.row Rr6.out (by omega))
   have Ra7 := LH (K7.out.row Ra6.out (by omega))
   have Dx7 := LH (Dx6.out.keep fun b hb => K7.out.kq hb (by have h1 := hb.1; have h2 := hb.2; omega))
   have M7 := LH (M6.out.trans hm7)
   clear Rr6 Ra6 Dx6 M6
   clear hm7
   have hlu7 := M7.out.row.lt
   have hcr7 := fun i => Rr7.out.cell i
   have hfr7 := fun i => Rr7.out.frozen i
   have hlr7 := Rr7.out.lt
   have hca7 := fun i => Ra7.out.cell i
   have hla7 := Ra7.out.lt
   go_wp2_with fail
   refine (HTY.out ts g L cl V cv (pNext ts s1) w7 (M7.out.cur HC.out) n2 st' HQ2.out).mono ?_
   clear hlu7 hcr7 hlr7 hca7 hla7
   rintro e w8 ⟨Ab, cb, rfl, ha8, hm8⟩
   have hz8 := hm8.size
   have K8 := LH hm8.bx
   have DN8 := LH ha8
   have Rr8 := LH (K8.out.row Rr7.out (by omega))
   have Ra8 := LH (K8.out.row Ra7.out (by omega))
   have Dx8 := LH (Dx7.out.keep fun b hb => K8.out.kq hb (by have h1 := hb.1; have h2 := hb.2; omega))
   have M8 := LH (M7.out.trans hm8)
   clear Rr7 Ra7 Dx7 M7
   clear hm8 ha8
   have hlu8 := M8.out.row.lt
   have hcr8 := fun i => Rr8.out.cell i
   have hfr8 := fun i => Rr8.out.frozen i
   have hlr8 := Rr8.out.lt
   have hca8 := fun i => Ra8.out.cell i
   have hla8 := Ra8.out.lt
   go_wp2_with fail
   clear hlu8 hcr8 hlr8 hca8 hla8
   obtain ⟨w9, e9, RN9, hz9, K9⟩ := stored4 Rr8.out (.int .i64 3) (.int .i64 0) (.string ⟨#[]⟩) (.slice (some ⟨(w8.heap.size + 1), 0, none⟩) 2 2)
   have Ra9 := LH (K9.out.row Ra8.out (by omega))
   have Dx9 := LH (Dx8.out.keep fun b hb => K9.out.kq hb (by have h1 := hb.1; have h2 := hb.2; omega))
   have Db9 := LH (DN8.out.keep fun b hb => K9.out.kq hb (by have h1 := hb.1; have h2 := hb.2; omega))
   have M9 := LH (M8.out.chg K9.out (by omega) (by omega))
   clear Ra8 Dx8 DN8 M8
   clear Rr8
   obtain ⟨w10, e10, Rb10, hz10, K10⟩ := boxed w9 96 #[.int .i64 n2.op, .int .i64 n2.n, .string n2.s, .slice Ab n2.kids.length cb]
   have hy10 : w9.heap.size = w8.heap.size := by omega
   rw [hy10] at Rb10 K10
   have Ra10 := LH (K10.out.row Ra9.out (by omega))
   have Rr10 := LH (K10.out.row RN9.out (by omega))
   have Dx10 := LH (Dx9.out.keep fun b hb => K10.out.kq hb (by have h1 := hb.1; have h2 := hb.2; omega))
   have Db10 := LH (Db9.out.keep fun b hb => K10.out.kq hb (by have h1 := hb.1; have h2 := hb.2; omega))
   have M10 := LH (M9.out.chg K10.out (by omega) (by omega))
   clear Ra9 RN9 Dx9 Db9 M9
   obtain ⟨w11, e11, Rrow11, hz11, K11⟩ := boxed w10 96 #[.int .i64 n1.op, .int .i64 n1.n, .string n1.s, .slice Ax n1.kids.length cx, .int .i64 n2.op, .int .i64 n2.n, .string n2.s, .slice Ab n2.kids.length cb]
   have hy11 : w10.heap.size = (w8.heap.size + 1) := by omega
   rw [hy11] at Rrow11 K11
   have Ra11 := LH (K11.out.row Ra10.out (by omega))
   have Rr11 := LH (K11.out.row Rr10.out (by omega))
   have Rb11 := LH (K11.out.row Rb10.out (by omega))
   have Dx11 := LH (Dx10.out.keep fun b hb => K11.out.kq hb (by have h1 := hb.1; have h2 := hb.2; omega))
   have Db11 := LH (Db10.out.keep fun b hb => K11.out.kq hb (by have h1 := hb.1; have h2 := hb.2; omega))
   have M11 := LH (M10.out.chg K11.out (by omega) (by omega))
   clear Ra10 Rr10 Rb10 Dx10 Db10 M10
   have SL11 := LH (show Sl w11 (fun b => b < w11.heap.size ∧ w.heap.size ≤ b ∧ b ≠ w.heap.size) 4 (some ⟨(w8.heap.size + 1), 0, none⟩) 2 ([n1, n2].map GTy.toD) from Sl.ofRow Rrow11.out (rdC_cons (GTy.rd_mk (Dx11.out.keep (w' := w11) (S' := fun b => b < w11.heap.size ∧ w.heap.size ≤ b ∧ b ≠ w.heap.size) fun b hb => ⟨⟨by have h1 := hb.1; have h2 := hb.2; omega, by have h1 := hb.1; have h2 := hb.2; omega⟩, rfl⟩)) rfl (rdC_one1 (GTy.rd_mk (Db11.out.keep (w' := w11) (S' := fun b => b < w11.heap.size ∧ w.heap.size ≤ b ∧ b ≠ w.heap.size) fun b hb => ⟨⟨by have h1 := hb.1; have h2 := hb.2; omega, by have h1 := hb.1; have h2 := hb.2; omega⟩, rfl⟩)) rfl)) ⟨by omega, by omega⟩ (by simp) (by unfold maxLen; omega))
   rw [← e9, ← e10, ← e11]
   clear e9 e10 e11
   have hlu11 := M11.out.row.lt
   have hca11 := fun i => Ra11.out.cell i
   have hla11 := Ra11.out.lt
   have hcr11 := fun i => Rr11.out.cell i
   have hlr11 := Rr11.out.lt
   have hcb11 := fun i => Rb11.out.cell i
   have hlb11 := Rb11.out.lt
   have hcrow11 := fun i => Rrow11.out.cell i
   have hlrow11 := Rrow11.out.lt
   obtain rfl := HNN.out
   show BP _ _
   rw [HBP.out]
   refine bodyPost_ret (v := .agg #[.int .i64 3, .int .i64 0, .string ⟨#[]⟩, .slice (some ⟨(w8.heap.size + 1), 0, none⟩) 2 2]) (by simp [results, Try.results78, go_sem, hcr11]) rfl ?_
   exact ⟨some ⟨(w8.heap.size + 1), 0, none⟩, 2, rfl, ⟨show (Lit.int .i64 3).wf = true by decide, show (Lit.int .i64 0).wf = true by decide, empty_le, SL11.out.keep fun b hb => ⟨⟨by have h1 := hb.1; have h2 := hb.2; omega, by have h1 := hb.1; have h2 := hb.2; omega⟩, rfl⟩⟩, M11.out⟩
 ·
  simp only [hs1, if_true, Option.bind_eq_some_iff, Option.map_eq_some_iff] at hp
  obtain ⟨⟨n1, s8⟩, ⟨⟨ks, s9⟩, hk0, he⟩, hb0⟩ := hp
  obtain ⟨he1, rfl⟩ := Prod.mk.inj he
  have HTX := LH (HC.out.ptext_le true)
  obtain ⟨tx, htx⟩ : ∃ x, (pText ts true st).1 = x := ⟨_, rfl⟩
  obtain ⟨s0, hs0⟩ : ∃ x, (pText ts true st).2 = x := ⟨_, rfl⟩
  have he2 := he1
  rw [htx] at he2 HTX
  obtain rfl := he2
  clear he1 he
  have HB := LH hb0
  have HK0 := LH hk0
  clear hb0 hk0
  go_wp2_with fail
  refine (l3TextC ts g L cl V cv st w3 (M3.out.cur HC.out)).mono ?_
  clear hlu3 hcr3 hlr3 hca3 hla3
  rintro e w4 ⟨rfl, hm4⟩
  replace hm4 : Mv ts g L cl V cv st.vars ((pText ts true st).2) w3 w4 := hm4
  have hz4 := hm4.size
  have K4 := LH hm4.bx
  have Rr4 := LH (K4.out.row Rr3.out (by omega))
  have Ra4 := LH (K4.out.row Ra3.out (by omega))
  have M4 := LH (M3.out.trans hm4)
  clear Rr3 Ra3 M3
  clear hm4
  have hlu4 := M4.out.row.lt
  have hcr4 := fun i => Rr4.out.cell i
  have hlr4 := Rr4.out.lt
  have hca4 := fun i => Ra4.out.cell i
  have hfa4 := fun i => Ra4.out.frozen i
  have hla4 := Ra4.out.lt
  rw [hs0] at M4 HK0
  rw [htx]
  clear hs0 htx
  clear hlu4 hcr4 hlr4 hca4 hfa4 hla4
  have hlu4 := M4.out.row.lt
  have hcr4 := fun i => Rr4.out.cell i
  have hlr4 := Rr4.out.lt
  have hca4 := fun i => Ra4.out.cell i
  have hfa4 := fun i => Ra4.out.frozen i
  have hla4 := Ra4.out.lt
  go_wp2_with fail
  clear hlu4 hcr4 hlr4 hca4 hfa4 hla4
  obtain ⟨w5, e5, RN5, hz5, K5⟩ := stored4 Ra4.out (.int .i64 4) (.int .i64 0) (.string tx) (.slice none 0 0)
  have Rr5 := LH (K5.out.row Rr4.out (by omega))
  have M5 := LH (M4.out.chg K5.out (by omega) (by omega))
  clear Rr4 M4
  clear Ra4
  rw [← e5]
  clear e5
  have hlu5 := M5.out.row.lt
  have hcr5 := fun i => Rr5.out.cell i
  have hlr5 := Rr5.out.lt
  have hca5 := fun i => RN5.out.cell i
  have hla5 := RN5.out.lt
  clear hlu5 hcr5 hlr5 hca5 hla5
  have hINV : ∃ I : Nat → World → Prop, I = fun j wr => ∃ (acc : List GTy) (s : PSt) (A : Option Addr) (c : Nat), pTyKids ts j s acc = some (ks, s9) ∧ j ≤ k ∧ acc.length + j ≤ k + 1 ∧ Row wr (w.heap.size + 1) 96 #[.int .i64 4, .int .i64 0, .string tx, .slice A acc.length c] ∧ Row wr w.heap.size 96 #[.int .i64 0, .int .i64 0, .string ⟨#[]⟩, .slice none 0 0] ∧ Grx (fun b => w.heap.size ≤ b ∧ b ≠ (w.heap.size + 1) ∧ b ≠ w.heap.size) wr ((w.heap.size + 1) + 1) 96 4 (.slice A acc.length c) acc.length (acc.map GTy.toD) ∧ Mv ts g L cl V cv st.vars s w wr ∧ (w.heap.size + 1) < wr.heap.size := ⟨_, rfl⟩
  obtain ⟨I, hI⟩ := hINV
  have HI := LH hI
  have I0 : I k w5 := by
   rw [hI]
   exact ⟨[], s0, none, 0, HK0.out, Nat.le_refl _, by simp, RN5.out, Rr5.out, Grx.nil _ _ _ _ _, M5.out, RN5.out.lt⟩
  have hnw : w.heap.size < (w.heap.size + 1) := by omega
  have hzw : w.heap.size ≤ w5.heap.size := M5.out.size
  go_loopw [12] (fun v wr => ∃ j, I j wr) (fun _ wr => leastK (fun j => I j wr))
  case atStart => exact ⟨k, I0⟩
  case round =>
   have hex := hrel
   have hleast := leastK_spec (I := fun j => I j wr) hex
   obtain ⟨j, hj⟩ : ∃ j, leastK (fun j => I j wr) = j := ⟨_, rfl⟩
   rw [hj] at hleast
   have HJ := LH hj
   clear hj hex hrel I0
   rw [hI] at hleast
   obtain ⟨acc, s, A, c, hx, hjk, hal, ra, rr, gg, hm, hnl⟩ := hleast
   clear RN5 Rr5 M5 hI
   have RA0 := LH ra
   have RR0 := LH rr
   have GG0 := LH gg
   have MR0 := LH hm
   have hzr := hm.size
   clear ra rr gg hm
   have hlu5 := MR0.out.row.lt
   have hcr5 := fun i => RR0.out.cell i
   have hlr5 := RR0.out.lt
   have hca5 := fun i => RA0.out.cell i
   have hla5 := RA0.out.lt
   cases j with
   | zero => simp [pTyKids] at hx
   | succ j =>
    go_wp2_with fail
    refine (l3Small ts g L cl V cv s wr (MR0.out.cur HC.out)).mono ?_
    clear hlu5 hcr5 hlr5 hca5 hla5
    rintro e w6 ⟨rfl, hb6⟩
    have hz6 := hb6.size
    have K6 := LH (Bx.of_below (g := g) hb6 (Nat.le_refl _))
    have Rr6 := LH (K6.out.row RR0.out (by omega))
    have Ra6 := LH (K6.out.row RA0.out (by omega))
    have GG6 := LH (GG0.out.keepP (w' := w6) (by omega) fun b hb h => K6.out.block b hb (by
      rcases h with h | h
      · have := GG0.out.own b h; omega
      · obtain ⟨x1, x2, x3⟩ := h; omega))
    have M6 := LH (MR0.out.below hb6)
    clear RR0 RA0 GG0 MR0
    clear hb6
    have hlu6 := M6.out.row.lt
    have hcr6 := fun i => Rr6.out.cell i
    have hfr6 := fun i => Rr6.out.frozen i
    have hlr6 := Rr6.out.lt
    have hca6 := fun i => Ra6.out.cell i
    have hla6 := Ra6.out.lt
    cases hs : pSmall ts s
    ·
     simp [pTyKids, hs] at hx
     obtain ⟨hxa, hxs⟩ := hx
     obtain rfl := hxa
     rw [← hxs] at HB
     clear hxs
     have SX0 := LH (show GTy.At w6 (fun b => b < w6.heap.size ∧ w.heap.size ≤ b ∧ b ≠ (w.heap.size + 1) ∧ b ≠ w.heap.size) A c (.mk 4 0 tx acc) from ⟨show (Lit.int .i64 4).wf = true by decide, show (Lit.int .i64 0).wf = true by decide, HTX.out, sl_of_grx GG6.out (fun b h => by omega)⟩)
     go_wp2_with fail
     refine (l3Sign ts g L cl V cv s w6 (M6.out.cur HC.out) ⟨#[45, 62]⟩).mono ?_
     clear hlu6 hcr6 hfr6 hlr6 hca6 hla6
     rintro e w7 ⟨rfl, hb7⟩
     have hz7 := hb7.size
     have K7 := LH (Bx.of_below (g := g) hb7 (Nat.le_refl _))
     have Rr7 := LH (K7.out.row Rr6.out (by omega))
     have Ra7 := LH (K7.out.row Ra6.out (by omega))
     have Dx7 := LH (SX0.out.keep fun b hb => K7.out.kq hb (by have h1 := hb.1; have h2 := hb.2; omega))
     have M7 := LH (M6.out.below hb7)
     clear Rr6 Ra6 SX0 M6
     clear hb7
     have hlu7 := M7.out.row.lt
     have hcr7 := fun i => Rr7.out.cell i
     have hfr7 := fun i => Rr7.out.frozen i
     have hlr7 := Rr7.out.lt
     have hca7 := fun i => Ra7.out.cell i
     have hla7 := Ra7.out.lt
     cases hs3 : pSign ts [45, 62] s
     ·
      have hb := HB.out
      simp [hs3] at hb
      obtain ⟨hb1, hb2⟩ := hb
      have HB1 := LH hb1
      have HB2 := LH hb2
      clear hb1 hb2
      go_wp2_with fail
      clear hlu7 hcr7 hlr7 hca7 hla7
      obtain ⟨w8, e8, RN8, hz8, K8⟩ := stored4 Rr7.out (.int .i64 4) (.int .i64 0) (.string tx) (.slice A acc.length c)
      have Ra8 := LH (K8.out.row Ra7.out (by omega))
      have Dx8 := LH (Dx7.out.keep fun b hb => K8.out.kq hb (by have h1 := hb.1; have h2 := hb.2; omega))
      have M8 := LH (M7.out.chg K8.out (by omega) (by omega))
      clear Ra7 Dx7 M7
      clear Rr7
      rw [← e8]
      clear e8
      have hlu8 := M8.out.row.lt
      have hca8 := fun i => Ra8.out.cell i
      have hla8 := Ra8.out.lt
      have hcr8 := fun i => RN8.out.cell i
      have hlr8 := RN8.out.lt
      obtain rfl := HB1.out
      obtain rfl := HB2.out
      show BP _ _
      rw [HBP.out]
      refine bodyPost_ret (v := .agg #[.int .i64 4, .int .i64 0, .string tx, .slice A acc.length c]) (by simp [results, Try.results78, go_sem, hcr8]) rfl ?_
      exact ⟨A, c, rfl, Dx8.out.keep fun b hb => ⟨⟨by have h1 := hb.1; have h2 := hb.2; omega, by have h1 := hb.1; have h2 := hb.2; omega⟩, rfl⟩, M8.out⟩
     ·
      have hb := HB.out
      simp [hs3, Option.map_eq_some_iff] at hb
      obtain ⟨n2, hq2, hn⟩ := hb
      have HNN := LH hn
      have HQ2 := LH hq2
      clear hn hq2
      go_wp2_with fail
      refine (l3Next ts g L cl V cv s w7 (M7.out.cur HC.out)).mono ?_
      clear hlu7 hcr7 hlr7 hca7 hla7
      rintro e w8 ⟨rfl, hm8⟩
      replace hm8 : Mv ts g L cl V cv s.vars (pNext ts s) w7 w8 := hm8
      have hz8 := hm8.size
      have K8 := LH hm8.bx
      have Rr8 := LH (K8.out.row Rr7.out (by omega))
      have Ra8 := LH (K8.out.row Ra7.out (by omega))
      have Dx8 := LH (Dx7.out.keep fun b hb => K8.out.kq hb (by have h1 := hb.1; have h2 := hb.2; omega))
      have M8 := LH (M7.out.trans hm8)
      clear Rr7 Ra7 Dx7 M7
      clear hm8
      have hlu8 := M8.out.row.lt
      have hcr8 := fun i => Rr8.out.cell i
      have hfr8 := fun i => Rr8.out.frozen i
      have hlr8 := Rr8.out.lt
      have hca8 := fun i => Ra8.out.cell i
      have hla8 := Ra8.out.lt
      go_wp2_with fail
      refine (HTY.out ts g L cl V cv (pNext ts s) w8 (M8.out.cur HC.out) n2 st' HQ2.out).mono ?_
      clear hlu8 hcr8 hlr8 hca8 hla8
      rintro e w9 ⟨Ab, cb, rfl, ha9, hm9⟩
      have hz9 := hm9.size
      have K9 := LH hm9.bx
      have DN9 := LH ha9
      have Rr9 := LH (K9.out.row Rr8.out (by omega))
      have Ra9 := LH (K9.out.row Ra8.out (by omega))
      have Dx9 := LH (Dx8.out.keep fun b hb => K9.out.kq hb (by have h1 := hb.1; have h2 := hb.2; omega))
      have M9 := LH (M8.out.trans hm9)
      clear Rr8 Ra8 Dx8 M8
      clear hm9 ha9
      have hlu9 := M9.out.row.lt
      have hcr9 := fun i => Rr9.out.cell i
      have hfr9 := fun i => Rr9.out.frozen i
      have hlr9 := Rr9.out.lt
      have hca9 := fun i => Ra9.out.cell i
      have hla9 := Ra9.out.lt
      go_wp2_with fail
      clear hlu9 hcr9 hfr9 hlr9 hca9 hla9
      obtain ⟨w10, e10, RN10, hz10, K10⟩ := stored4 Rr9.out (.int .i64 3) (.int .i64 0) (.string ⟨#[]⟩) (.slice (some ⟨(w9.heap.size + 1), 0, none⟩) 2 2)
      have Ra10 := LH (K10.out.row Ra9.out (by omega))
      have Dx10 := LH (Dx9.out.keep fun b hb => K10.out.kq hb (by have h1 := hb.1; have h2 := hb.2; omega))
      have Db10 := LH (DN9.out.keep fun b hb => K10.out.kq hb (by have h1 := hb.1; have h2 := hb.2; omega))
      have M10 := LH (M9.out.chg K10.out (by omega) (by omega))
      clear Ra9 Dx9 DN9 M9
      clear Rr9
      obtain ⟨w11, e11, Rb11, hz11, K11⟩ := boxed w10 96 #[.int .i64 n2.op, .int .i64 n2.n, .string n2.s, .slice Ab n2.kids.length cb]
      have hy11 : w10.heap.size = w9.heap.size := by omega
      rw [hy11] at Rb11 K11
      have Ra11 := LH (K11.out.row Ra10.out (by omega))
      have Rr11 := LH (K11.out.row RN10.out (by omega))
      have Dx11 := LH (Dx10.out.keep fun b hb => K11.out.kq hb (by have h1 := hb.1; have h2 := hb.2; omega))
      have Db11 := LH (Db10.out.keep fun b hb => K11.out.kq hb (by have h1 := hb.1; have h2 := hb.2; omega))
      have M11 := LH (M10.out.chg K11.out (by omega) (by omega))
      clear Ra10 RN10 Dx10 Db10 M10
      obtain ⟨w12, e12, Rrow12, hz12, K12⟩ := boxed w11 96 #[.int .i64 4, .int .i64 0, .string tx, .slice A acc.length c, .int .i64 n2.op, .int .i64 n2.n, .string n2.s, .slice Ab n2.kids.length cb]
      have hy12 : w11.heap.size = (w9.heap.size + 1) := by omega
      rw [hy12] at Rrow12 K12
      have Ra12 := LH (K12.out.row Ra11.out (by omega))
      have Rr12 := LH (K12.out.row Rr11.out (by omega))
      have Rb12 := LH (K12.out.row Rb11.out (by omega))
      have Dx12 := LH (Dx11.out.keep fun b hb => K12.out.kq hb (by have h1 := hb.1; have h2 := hb.2; omega))
      have Db12 := LH (Db11.out.keep fun b hb => K12.out.kq hb (by have h1 := hb.1; have h2 := hb.2; omega))
      have M12 := LH (M11.out.chg K12.out (by omega) (by omega))
      clear Ra11 Rr11 Rb11 Dx11 Db11 M11
      have SL12 := LH (show Sl w12 (fun b => b < w12.heap.size ∧ w.heap.size ≤ b ∧ b ≠ w.heap.size) 4 (some ⟨(w9.heap.size + 1), 0, none⟩) 2 ([(GTy.mk 4 0 tx acc), n2].map GTy.toD) from Sl.ofRow Rrow12.out (rdC_cons (GTy.rd_mk (Dx12.out.keep (w' := w12) (S' := fun b => b < w12.heap.size ∧ w.heap.size ≤ b ∧ b ≠ w.heap.size) fun b hb => ⟨⟨by have h1 := hb.1; have h2 := hb.2; omega, by have h1 := hb.1; have h2 := hb.2; omega⟩, rfl⟩)) rfl (rdC_one1 (GTy.rd_mk (Db12.out.keep (w' := w12) (S' := fun b => b < w12.heap.size ∧ w.heap.size ≤ b ∧ b ≠ w.heap.size) fun b hb => ⟨⟨by have h1 := hb.1; have h2 := hb.2; omega, by have h1 := hb.1; have h2 := hb.2; omega⟩, rfl⟩)) rfl)) ⟨by omega, by omega⟩ (by simp) (by unfold maxLen; omega))
      rw [← e10, ← e11, ← e12]
      clear e10 e11 e12
      have hlu12 := M12.out.row.lt
      have hca12 := fun i => Ra12.out.cell i
      have hla12 := Ra12.out.lt
      have hcr12 := fun i => Rr12.out.cell i
      have hlr12 := Rr12.out.lt
      have hcb12 := fun i => Rb12.out.cell i
      have hlb12 := Rb12.out.lt
      have hcrow12 := fun i => Rrow12.out.cell i
      have hlrow12 := Rrow12.out.lt
      obtain rfl := HNN.out
      show BP _ _
      rw [HBP.out]
      refine bodyPost_ret (v := .agg #[.int .i64 3, .int .i64 0, .string ⟨#[]⟩, .slice (some ⟨(w9.heap.size + 1), 0, none⟩) 2 2]) (by simp [results, Try.results78, go_sem, hcr12]) rfl ?_
      exact ⟨some ⟨(w9.heap.size + 1), 0, none⟩, 2, rfl, ⟨show (Lit.int .i64 3).wf = true by decide, show (Lit.int .i64 0).wf = true by decide, empty_le, SL12.out.keep fun b hb => ⟨⟨by have h1 := hb.1; have h2 := hb.2; omega, by have h1 := hb.1; have h2 := hb.2; omega⟩, rfl⟩⟩, M12.out⟩
    ·
     simp [pTyKids, hs, Option.bind_eq_some_iff] at hx
     obtain ⟨n1, s1, hq, hr⟩ := hx
     have HR := LH hr
     clear hr
     have HOW := LH (fun q (hq : (Value.slice A acc.length c).ownBlock = some q) => GG6.out.own q hq)
     go_upto_region 5 with (fail)
     refine wp_region_T (fun x => x.cell? ⟨(w.heap.size + 1), 3, none⟩ = some (.slice A acc.length c)) 7 (by kernel_rfl) ?_
     clear hlu6 hcr6 hfr6 hlr6 hca6 hla6
     obtain ⟨w7, e7⟩ : ∃ x, x = w6.drew := ⟨_, rfl⟩
     rw [← e7]
     have hz7 : w7.heap.size ≤ w6.heap.size ∧ w6.heap.size ≤ w7.heap.size := by rw [e7]; exact ⟨Nat.le_refl _, Nat.le_refl _⟩
     have K7 := LH (show Bx w6.heap.size w6 w7 by rw [e7]; exact Bx.of_below ((Below.refl _ _).drew) (Nat.le_refl _))
     clear e7
     have Rr7 := LH (K7.out.row Rr6.out (by omega))
     have Ra7 := LH (K7.out.row Ra6.out (by omega))
     have GG7 := LH (GG6.out.keepP (w' := w7) (by omega) fun b hb h => K7.out.block b hb (by
       rcases h with h | h
       · have := GG6.out.own b h; omega
       · obtain ⟨x1, x2, x3⟩ := h; omega))
     have M7 := LH (M6.out.chg K7.out (by omega) (by omega))
     clear Rr6 Ra6 GG6 M6
     have hlu7 := M7.out.row.lt
     have hcr7 := fun i => Rr7.out.cell i
     have hfr7 := fun i => Rr7.out.frozen i
     have hlr7 := Rr7.out.lt
     have hca7 := fun i => Ra7.out.cell i
     have hla7 := Ra7.out.lt
     have hS1 : w7.cell? ⟨(w.heap.size + 1), 3, none⟩ = some (.slice A acc.length c) := Ra7.out.cell 3
     refine wpAnyT_tk (i := 0) (oi := _) (v := ?tv1) rfl (Or.inl ⟨by rfl, ?th1⟩) hS1 ?_
     case th1 => (intro x hSx; (try dsimp only at hSx); go_simp; (try with_reducible rfl))
     try simp only [List.getElem_toArray, List.getElem_cons_succ, List.getElem_cons_zero, Act.put, List.setIfInBounds_toArray, List.set_cons_zero, List.set_cons_succ]
     refine wpAnyT_tk (i := 1) (oi := _) (v := ?tv2) rfl (Or.inl ⟨by rfl, ?th2⟩) hS1 ?_
     case th2 => (intro x hSx; (try dsimp only at hSx); go_simp; (try with_reducible rfl))
     try simp only [List.getElem_toArray, List.getElem_cons_succ, List.getElem_cons_zero, Act.put, List.setIfInBounds_toArray, List.set_cons_zero, List.set_cons_succ]
     refine wpAnyT_tk (i := 2) (oi := _) (v := ?tv3) rfl (Or.inl ⟨by rfl, ?th3⟩) hS1 ?_
     case th3 => (intro x hSx; (try dsimp only at hSx); go_simp; (try with_reducible rfl))
     try simp only [List.getElem_toArray, List.getElem_cons_succ, List.getElem_cons_zero, Act.put, List.setIfInBounds_toArray, List.set_cons_zero, List.set_cons_succ]
     refine wpAnyT_step (i := 3) (by kernel_rfl) rfl (fun K hK => ?_)
     try simp only [List.getElem_toArray, List.getElem_cons_succ, List.getElem_cons_zero]
     go_simp
     go_at_call 70
     refine (HA.out j (by omega) ts g L cl V cv s w7 (M7.out.cur HC.out) n1 s1 hq).mono ?_
     clear hlu7 hcr7 hlr7 hca7 hla7
     rintro e w8 ⟨An1, cn1, rfl, ha8, hm8⟩
     have hz8 := hm8.size
     have K8 := LH hm8.bx
     have DN8 := LH ha8
     have Rr8 := LH (K8.out.row Rr7.out (by omega))
     have Ra8 := LH (K8.out.row Ra7.out (by omega))
     have GG8 := LH (GG7.out.keepP (w' := w8) (by omega) fun b hb h => K8.out.block b hb (by
       rcases h with h | h
       · have := GG7.out.own b h; omega
       · obtain ⟨x1, x2, x3⟩ := h; omega))
     have M8 := LH (M7.out.trans hm8)
     clear Rr7 Ra7 GG7 M7
     clear hm8 ha8
     have hlu8 := M8.out.row.lt
     have hcr8 := fun i => Rr8.out.cell i
     have hfr8 := fun i => Rr8.out.frozen i
     have hlr8 := Rr8.out.lt
     have hca8 := fun i => Ra8.out.cell i
     have hla8 := Ra8.out.lt
     clear hq
     have hS2 : w8.cell? ⟨(w.heap.size + 1), 3, none⟩ = some (.slice A acc.length c) := Ra8.out.cell 3
     refine hK.out _ _ hS2 (fun hS3 => ?_)
     clear hK K hS1 hS2
     try simp only [List.getElem_toArray, List.getElem_cons_succ, List.getElem_cons_zero, Act.put, List.setIfInBounds_toArray, List.set_cons_zero, List.set_cons_succ]
     refine wpAnyT_step (i := 4) (by kernel_rfl) rfl (fun K hK => ?_)
     try simp only [List.getElem_toArray, List.getElem_cons_succ, List.getElem_cons_zero]
     go_simp
     clear hlu8 hcr8 hlr8 hca8 hla8
     obtain ⟨w9, e9, Rrow9, hz9, K9⟩ := boxed w8 96 #[.int .i64 n1.op, .int .i64 n1.n, .string n1.s, .slice An1 n1.kids.length cn1]
     have Rr9 := LH (K9.out.row Rr8.out (by omega))
     have Ra9 := LH (K9.out.row Ra8.out (by omega))
     have Dn19 := LH (DN8.out.keep fun b hb => K9.out.kq hb (by have h1 := hb.1; have h2 := hb.2; omega))
     have GG9 := LH (GG8.out.keepP (w' := w9) (by omega) fun b hb h => K9.out.block b hb (by
       rcases h with h | h
       · have := GG8.out.own b h; omega
       · obtain ⟨x1, x2, x3⟩ := h; omega))
     have M9 := LH (M8.out.chg K9.out (by omega) (by omega))
     clear Rr8 Ra8 DN8 GG8 M8
     have SL9 := LH (show Sl w9 (fun b => b < w9.heap.size ∧ (Value.slice A acc.length c).ownBlock ≠ some b ∧ w.heap.size ≤ b ∧ b ≠ (w.heap.size + 1) ∧ b ≠ w.heap.size) 4 (some ⟨w8.heap.size, 0, none⟩) 1 ([n1].map GTy.toD) from Sl.ofRow Rrow9.out (rdC_one1 (GTy.rd_mk (Dn19.out.keep (w' := w9) (S' := fun b => b < w9.heap.size ∧ (Value.slice A acc.length c).ownBlock ≠ some b ∧ w.heap.size ≤ b ∧ b ≠ (w.heap.size + 1) ∧ b ≠ w.heap.size) fun b hb => ⟨⟨by have h1 := hb.1; have h2 := hb.2; omega, fun e => by have h1 := hb.1; have h3 := (HOW.out b e).2; omega, by have h1 := hb.1; have h2 := hb.2; omega⟩, rfl⟩)) rfl) ⟨by omega, fun e => by have h3 := (HOW.out _ e).2; omega, by omega⟩ (by simp) (by unfold maxLen; omega))
     rw [← e9]
     clear e9
     have hlu9 := M9.out.row.lt
     have hcr9 := fun i => Rr9.out.cell i
     have hfr9 := fun i => Rr9.out.frozen i
     have hlr9 := Rr9.out.lt
     have hca9 := fun i => Ra9.out.cell i
     have hla9 := Ra9.out.lt
     have hcrow9 := fun i => Rrow9.out.cell i
     have hlrow9 := Rrow9.out.lt
     have hS4 : w9.cell? ⟨(w.heap.size + 1), 3, none⟩ = some (.slice A acc.length c) := Ra9.out.cell 3
     refine hK.out _ _ hS4 (fun hS5 => ?_)
     clear hK K hS3 hS4
     try simp only [List.getElem_toArray, List.getElem_cons_succ, List.getElem_cons_zero, Act.put, List.setIfInBounds_toArray, List.set_cons_zero, List.set_cons_succ]
     refine wpAnyT_step (i := 5) (by kernel_rfl) rfl (fun K hK => ?_)
     refine step_append_X w9 rfl (.tmp 14) (.tmp 17) 58 rfl 96 zTyv 4 56 Try.underlying58 (by kernel_rfl) rfl (by omega) ((w.heap.size + 1) + 1) (.slice A acc.length c) acc.length _ GG9.out (some ⟨w8.heap.size, 0, none⟩) 1 1 _ rfl SL9.out (by omega) (by unfold maxLen; omega) (by omega) rfl rfl ?_
     clear hlu9 hcr9 hfr9 hlr9 hca9 hla9 hcrow9 hlrow9
     intro A10 c10 w10 hG10 hGr10
     obtain ⟨acc10, hac10⟩ : ∃ x, x = acc ++ [n1] := ⟨_, rfl⟩
     have HAC10 := LH hac10
     have hal10 : acc10.length = acc.length + 1 := by rw [hac10]; simp
     have GN10 := LH (show Grx (fun b => w.heap.size ≤ b ∧ b ≠ (w.heap.size + 1) ∧ b ≠ w.heap.size) w10 ((w.heap.size + 1) + 1) 96 4 (.slice A10 acc10.length c10) acc10.length (acc10.map GTy.toD) from by rw [hal10, hac10]; simpa using hG10)
     rw [← hal10]
     have HAL10 := LH hal10
     clear hal10 hac10
     obtain ⟨q10, hq10, hk10⟩ := hGr10.bxe (B := (w.heap.size + 1) + 1) (fun q hq => (HOW.out q hq).1) (by omega)
     have hz10 := hGr10.size
     have K10 := LH hk10
     clear hG10 hGr10 hk10
     have Rr10 := LH (K10.out.row Rr9.out (by omega))
     have Ra10 := LH (K10.out.row Ra9.out (by omega))
     have M10 := LH (M9.out.chg K10.out (by omega) (by omega))
     clear Rr9 Ra9 M9
     clear GG9
     have hlu10 := M10.out.row.lt
     have hcr10 := fun i => Rr10.out.cell i
     have hlr10 := Rr10.out.lt
     have hca10 := fun i => Ra10.out.cell i
     have hfa10 := fun i => Ra10.out.frozen i
     have hla10 := Ra10.out.lt
     have hS6 : w10.cell? ⟨(w.heap.size + 1), 3, none⟩ = some (.slice A acc.length c) := Ra10.out.cell 3
     refine hK.out _ _ hS6 (fun hS7 => ?_)
     clear hK K hS5 hS6
     try simp only [List.getElem_toArray, List.getElem_cons_succ, List.getElem_cons_zero, Act.put, List.setIfInBounds_toArray, List.set_cons_zero, List.set_cons_succ]
     refine wpAnyT_tk (i := 6) (oi := _) (v := ?tv4) rfl (Or.inl ⟨by rfl, ?th4⟩) hS7 ?_
     case th4 => (intro x hSx; (try dsimp only at hSx); go_simp; (try with_reducible rfl))
     try simp only [List.getElem_toArray, List.getElem_cons_succ, List.getElem_cons_zero, Act.put, List.setIfInBounds_toArray, List.set_cons_zero, List.set_cons_succ]
     refine wpAnyT_last (by kernel_rfl) (by kernel_rfl) rfl (fun K hK => ?_)
     try simp only [List.getElem_toArray, List.getElem_cons_succ, List.getElem_cons_zero]
     go_simp
     refine hK.out _ _ ?_
     clear hK K
     try simp only [List.getElem_toArray, List.getElem_cons_succ, List.getElem_cons_zero, Act.put, List.setIfInBounds_toArray, List.set_cons_zero, List.set_cons_succ]
     clear hS7 HOW
     clear hlu10 hcr10 hlr10 hca10 hfa10 hla10
     obtain ⟨w11, e11, RO11, hz11, K11⟩ := storedF Ra10.out 3 (.slice A10 acc10.length c10)
     have RN11 := LH (show Row w11 ((w.heap.size + 1)) 96 #[.int .i64 4, .int .i64 0, .string tx, .slice A10 acc10.length c10] from RO11.out)
     clear RO11
     have Rr11 := LH (K11.out.row Rr10.out (by omega))
     have GG11 := LH (GN10.out.keepP (w' := w11) (by omega) fun b hb h => K11.out.block b hb (by
       rcases h with h | h
       · have := GN10.out.own b h; omega
       · obtain ⟨x1, x2, x3⟩ := h; omega))
     have M11 := LH (M10.out.chg K11.out (by omega) (by omega))
     clear Rr10 GN10 M10
     clear Ra10
     rw [← e11]
     clear e11
     have hlu11 := M11.out.row.lt
     have hcr11 := fun i => Rr11.out.cell i
     have hlr11 := Rr11.out.lt
     have hca11 := fun i => RN11.out.cell i
     have hla11 := RN11.out.lt
     have hall := HAL10.out
     have HN : I j w11 := by
      rw [HI.out]
      exact ⟨acc10, s1, A10, c10, (by rw [HAC10.out]; exact HR.out), by omega, by omega, RN11.out, Rr11.out, GG11.out, M11.out, RN11.out.lt⟩
     go_roundw
     case rel => first | exact ⟨j, HN⟩ | ((repeat apply Exists.intro); exact ⟨⟨j, HN⟩, rfl⟩)
     case measure => rw [HJ.out]; exact Nat.lt_succ_of_le (leastK_le (I := fun j => I j w11) HN)
theorem OkT.zero {F : FuncId} {p : List GToken → Nat → PSt → Option (GTy × PSt)} (h : ∀ ts st, p ts 0 st = none) : OkT F p 0 := by
 intro ts g L cl V cv st w _ n st' hp
 rw [h] at hp
 cases hp
theorem tyOk : ∀ n k, k ≤ n → k ≤ 1000000 → OkT 70 pTyAtom k ∧ OkT 78 pTy k
 | _, 0, _, _ => ⟨OkT.zero fun ts st => by simp [pTyAtom], OkT.zero fun ts st => by simp [pTy]⟩
 | 0, k + 1, h, _ => by omega
 | n + 1, k + 1, h, hk => by
  have ih := fun i (hi : i ≤ k) => tyOk n i (by omega) (by omega)
  exact ⟨l3TyAtom k (ih k (Nat.le_refl _)).2, l3Ty k (by omega) (fun i hi => (ih i hi).1) (ih k (Nat.le_refl _)).2⟩
def PToCon (ts : List GToken) (g : Nat) (L : Option Addr) (cl : Nat) (V : Option Addr) (cv : Nat) (vs : List ByteArray) (n : GCon) (st : PSt) (w : World) (e : Ending) (w' : World) : Prop :=
 ∃ A c, e = .returned (.agg #[.string n.name, .slice A n.args.length c]) ∧ GCon.At w' (fun b => w.heap.size ≤ b ∧ b < w'.heap.size) A c n ∧ Mv ts g L cl V cv vs st w w'
def OkC (F : FuncId) (p : List GToken → Nat → PSt → Option (GCon × PSt)) (k : Nat) : Prop :=
 ∀ (ts : List GToken) (g : Nat) (L : Option Addr) (cl : Nat) (V : Option Addr) (cv : Nat) (st : PSt) (w : World), PCur ts g L cl V cv st w → ∀ (n : GCon) (st' : PSt), p ts k st = some (n, st') →
  Calls Try.prog F #[.pointer (some ⟨g, 0, none⟩)] w (PToCon ts g L cl V cv st.vars n st' w)
theorem l3Alt (k : Nat) (hkk : k ≤ 1000000) : OkC 49 pAlt k := by
 intro ts g L cl V cv st w h n st' hp
 simp [pAlt] at hp
 obtain ⟨ks, hk0, hn⟩ := hp
 have HA := LH (fun j (hj : j ≤ k) => (tyOk j j (Nat.le_refl _) (by omega)).1)
 have HTX := LH (h.ptext_le true)
 obtain ⟨tx, htx⟩ : ∃ x, (pText ts true st).1 = x := ⟨_, rfl⟩
 obtain ⟨s0, hs0⟩ : ∃ x, (pText ts true st).2 = x := ⟨_, rfl⟩
 rw [htx] at hn HTX
 rw [hs0] at hk0
 have HNN := LH hn
 obtain ⟨s9, hs9⟩ : ∃ x, x = st' := ⟨_, rfl⟩
 rw [← hs9] at hk0
 have HST := LH hs9
 have HK0 := LH hk0
 clear hk0 hn hs9
 have HC := LH h
 have M0 := LH h.mv
 have hgl := h.row.lt
 clear h
 go_enter Try.func49, Try.ntmps49
 refine wp_hide (fun BP hBP => ?_)
 have HBP := LH hBP
 clear hBP
 go_wp2_with fail
 obtain ⟨w1, e1, Rr1, hz1, K1⟩ := boxed w 60 #[.string ⟨#[]⟩, .slice none 0 0]
 have M1 := LH (M0.out.chg K1.out (by omega) (by omega))
 rw [← e1]
 clear e1
 have hlu1 := M1.out.row.lt
 have hcr1 := fun i => Rr1.out.cell i
 have hlr1 := Rr1.out.lt
 refine (l3TextC ts g L cl V cv st w1 (M1.out.cur HC.out)).mono ?_
 clear hlu1 hcr1 hlr1
 rintro e w2 ⟨rfl, hm2⟩
 replace hm2 : Mv ts g L cl V cv st.vars ((pText ts true st).2) w1 w2 := hm2
 have hz2 := hm2.size
 have K2 := LH hm2.bx
 have Rr2 := LH (K2.out.row Rr1.out (by omega))
 have M2 := LH (M1.out.trans hm2)
 clear Rr1 M1
 clear hm2
 have hlu2 := M2.out.row.lt
 have hcr2 := fun i => Rr2.out.cell i
 have hlr2 := Rr2.out.lt
 rw [hs0] at M2
 rw [htx]
 clear hs0 htx
 clear hlu2 hcr2 hlr2
 have hlu2 := M2.out.row.lt
 have hcr2 := fun i => Rr2.out.cell i
 have hlr2 := Rr2.out.lt
 go_wp2_with fail
 clear hlu2 hcr2 hlr2
 obtain ⟨w3, e3, Ra3, hz3, K3⟩ := boxed w2 60 #[.string tx, .slice none 0 0]
 have Rr3 := LH (K3.out.row Rr2.out (by omega))
 have M3 := LH (M2.out.chg K3.out (by omega) (by omega))
 clear Rr2 M2
 rw [← e3]
 clear e3
 have hlu3 := M3.out.row.lt
 have hcr3 := fun i => Rr3.out.cell i
 have hlr3 := Rr3.out.lt
 have hca3 := fun i => Ra3.out.cell i
 have hla3 := Ra3.out.lt
 clear hlu3 hcr3 hlr3 hca3 hla3
 have hINV : ∃ I : Nat → World → Prop, I = fun j wr => ∃ (acc : List GTy) (s : PSt) (A : Option Addr) (c : Nat), pTyKids ts j s acc = some (ks, s9) ∧ j ≤ k ∧ acc.length + j ≤ k + 1 ∧ Row wr w2.heap.size 60 #[.string tx, .slice A acc.length c] ∧ Row wr w.heap.size 60 #[.string ⟨#[]⟩, .slice none 0 0] ∧ Grx (fun b => w.heap.size ≤ b ∧ b ≠ w2.heap.size ∧ b ≠ w.heap.size) wr (w2.heap.size + 1) 96 4 (.slice A acc.length c) acc.length (acc.map GTy.toD) ∧ Mv ts g L cl V cv st.vars s w wr ∧ w2.heap.size < wr.heap.size := ⟨_, rfl⟩
 obtain ⟨I, hI⟩ := hINV
 have HI := LH hI
 have I0 : I k w3 := by
  rw [hI]
  exact ⟨[], s0, none, 0, HK0.out, Nat.le_refl _, by simp, Ra3.out, Rr3.out, Grx.nil _ _ _ _ _, M3.out, Ra3.out.lt⟩
 have hnw : w.heap.size < w2.heap.size := by omega
 have hzw : w.heap.size ≤ w3.heap.size := M3.out.size
 go_loopw [8] (fun v wr => ∃ j, I j wr) (fun _ wr => leastK (fun j => I j wr))
 case atStart => exact ⟨k, I0⟩
 case round =>
  have hex := hrel
  have hleast := leastK_spec (I := fun j => I j wr) hex
  obtain ⟨j, hj⟩ : ∃ j, leastK (fun j => I j wr) = j := ⟨_, rfl⟩
  rw [hj] at hleast
  have HJ := LH hj
  clear hj hex hrel I0
  rw [hI] at hleast
  obtain ⟨acc, s, A, c, hx, hjk, hal, ra, rr, gg, hm, hnl⟩ := hleast
  clear Ra3 Rr3 M3 hI
  have RA0 := LH ra
  have RR0 := LH rr
  have GG0 := LH gg
  have MR0 := LH hm
  have hzr := hm.size
  clear ra rr gg hm
  have hlu3 := MR0.out.row.lt
  have hcr3 := fun i => RR0.out.cell i
  have hlr3 := RR0.out.lt
  have hca3 := fun i => RA0.out.cell i
  have hla3 := RA0.out.lt
  cases j with
  | zero => simp [pTyKids] at hx
  | succ j =>
   go_wp2_with fail
   refine (l3Small ts g L cl V cv s wr (MR0.out.cur HC.out)).mono ?_
   clear hlu3 hcr3 hlr3 hca3 hla3
   rintro e w4 ⟨rfl, hb4⟩
   have hz4 := hb4.size
   have K4 := LH (Bx.of_below (g := g) hb4 (Nat.le_refl _))
   have Rr4 := LH (K4.out.row RR0.out (by omega))
   have Ra4 := LH (K4.out.row RA0.out (by omega))
   have GG4 := LH (GG0.out.keepP (w' := w4) (by omega) fun b hb h => K4.out.block b hb (by
     rcases h with h | h
     · have := GG0.out.own b h; omega
     · obtain ⟨x1, x2, x3⟩ := h; omega))
   have M4 := LH (MR0.out.below hb4)
   clear RR0 RA0 GG0 MR0
   clear hb4
   have hlu4 := M4.out.row.lt
   have hcr4 := fun i => Rr4.out.cell i
   have hfr4 := fun i => Rr4.out.frozen i
   have hlr4 := Rr4.out.lt
   have hca4 := fun i => Ra4.out.cell i
   have hla4 := Ra4.out.lt
   cases hs : pSmall ts s
   ·
    simp [pTyKids, hs] at hx
    obtain ⟨hxa, hxs⟩ := hx
    obtain rfl := hxa
    rw [← hxs] at HST
    clear hxs
    go_wp2_with fail
    clear hlu4 hcr4 hfr4 hlr4 hca4 hla4
    obtain ⟨w5, e5, RN5, hz5, K5⟩ := stored2 Rr4.out (.string tx) (.slice A acc.length c)
    have Ra5 := LH (K5.out.row Ra4.out (by omega))
    have GG5 := LH (GG4.out.keepP (w' := w5) (by omega) fun b hb h => K5.out.block b hb (by
      rcases h with h | h
      · have := GG4.out.own b h; omega
      · obtain ⟨x1, x2, x3⟩ := h; omega))
    have M5 := LH (M4.out.chg K5.out (by omega) (by omega))
    clear Ra4 GG4 M4
    clear Rr4
    rw [← e5]
    clear e5
    have hlu5 := M5.out.row.lt
    have hca5 := fun i => Ra5.out.cell i
    have hla5 := Ra5.out.lt
    have hcr5 := fun i => RN5.out.cell i
    have hlr5 := RN5.out.lt
    have SX := LH (sl_of_grx GG5.out (fun b h => by omega))
    obtain rfl := HNN.out
    obtain rfl := HST.out
    show BP _ _
    rw [HBP.out]
    refine bodyPost_ret (v := .agg #[.string tx, .slice A acc.length c]) (by simp [results, Try.results49, go_sem, hcr5]) rfl ?_
    exact ⟨A, c, rfl, ⟨HTX.out, SX.out.keep fun b hb => ⟨⟨by have h1 := hb.1; have h2 := hb.2; omega, by have h1 := hb.1; have h2 := hb.2; omega⟩, rfl⟩⟩, M5.out⟩
   ·
    simp [pTyKids, hs, Option.bind_eq_some_iff] at hx
    obtain ⟨n1, s1, hq, hr⟩ := hx
    have HR := LH hr
    clear hr
    have HOW := LH (fun q (hq : (Value.slice A acc.length c).ownBlock = some q) => GG4.out.own q hq)
    go_upto_region 3 with (fail)
    refine wp_region_T (fun x => x.cell? ⟨w2.heap.size, 1, none⟩ = some (.slice A acc.length c)) 7 (by kernel_rfl) ?_
    clear hlu4 hcr4 hfr4 hlr4 hca4 hla4
    obtain ⟨w5, e5⟩ : ∃ x, x = w4.drew := ⟨_, rfl⟩
    rw [← e5]
    have hz5 : w5.heap.size ≤ w4.heap.size ∧ w4.heap.size ≤ w5.heap.size := by rw [e5]; exact ⟨Nat.le_refl _, Nat.le_refl _⟩
    have K5 := LH (show Bx w4.heap.size w4 w5 by rw [e5]; exact Bx.of_below ((Below.refl _ _).drew) (Nat.le_refl _))
    clear e5
    have Rr5 := LH (K5.out.row Rr4.out (by omega))
    have Ra5 := LH (K5.out.row Ra4.out (by omega))
    have GG5 := LH (GG4.out.keepP (w' := w5) (by omega) fun b hb h => K5.out.block b hb (by
      rcases h with h | h
      · have := GG4.out.own b h; omega
      · obtain ⟨x1, x2, x3⟩ := h; omega))
    have M5 := LH (M4.out.chg K5.out (by omega) (by omega))
    clear Rr4 Ra4 GG4 M4
    have hlu5 := M5.out.row.lt
    have hcr5 := fun i => Rr5.out.cell i
    have hlr5 := Rr5.out.lt
    have hca5 := fun i => Ra5.out.cell i
    have hla5 := Ra5.out.lt
    have hS1 : w5.cell? ⟨w2.heap.size, 1, none⟩ = some (.slice A acc.length c) := Ra5.out.cell 1
    refine wpAnyT_tk (i := 0) (oi := _) (v := ?tv5) rfl (Or.inl ⟨by rfl, ?th5⟩) hS1 ?_
    case th5 => (intro x hSx; (try dsimp only at hSx); go_simp; (try with_reducible rfl))
    try simp only [List.getElem_toArray, List.getElem_cons_succ, List.getElem_cons_zero, Act.put, List.setIfInBounds_toArray, List.set_cons_zero, List.set_cons_succ]
    refine wpAnyT_tk (i := 1) (oi := _) (v := ?tv6) rfl (Or.inl ⟨by rfl, ?th6⟩) hS1 ?_
    case th6 => (intro x hSx; (try dsimp only at hSx); go_simp; (try with_reducible rfl))
    try simp only [List.getElem_toArray, List.getElem_cons_succ, List.getElem_cons_zero, Act.put, List.setIfInBounds_toArray, List.set_cons_zero, List.set_cons_succ]
    refine wpAnyT_tk (i := 2) (oi := _) (v := ?tv7) rfl (Or.inl ⟨by rfl, ?th7⟩) hS1 ?_
    case th7 => (intro x hSx; (try dsimp only at hSx); go_simp; (try with_reducible rfl))
    try simp only [List.getElem_toArray, List.getElem_cons_succ, List.getElem_cons_zero, Act.put, List.setIfInBounds_toArray, List.set_cons_zero, List.set_cons_succ]
    refine wpAnyT_step (i := 3) (by kernel_rfl) rfl (fun K hK => ?_)
    try simp only [List.getElem_toArray, List.getElem_cons_succ, List.getElem_cons_zero]
    go_simp
    go_at_call 70
    refine (HA.out j (by omega) ts g L cl V cv s w5 (M5.out.cur HC.out) n1 s1 hq).mono ?_
    clear hlu5 hcr5 hlr5 hca5 hla5
    rintro e w6 ⟨An1, cn1, rfl, ha6, hm6⟩
    have hz6 := hm6.size
    have K6 := LH hm6.bx
    have DN6 := LH ha6
    have Rr6 := LH (K6.out.row Rr5.out (by omega))
    have Ra6 := LH (K6.out.row Ra5.out (by omega))
    have GG6 := LH (GG5.out.keepP (w' := w6) (by omega) fun b hb h => K6.out.block b hb (by
      rcases h with h | h
      · have := GG5.out.own b h; omega
      · obtain ⟨x1, x2, x3⟩ := h; omega))
    have M6 := LH (M5.out.trans hm6)
    clear Rr5 Ra5 GG5 M5
    clear hm6 ha6
    have hlu6 := M6.out.row.lt
    have hcr6 := fun i => Rr6.out.cell i
    have hlr6 := Rr6.out.lt
    have hca6 := fun i => Ra6.out.cell i
    have hla6 := Ra6.out.lt
    clear hq
    have hS2 : w6.cell? ⟨w2.heap.size, 1, none⟩ = some (.slice A acc.length c) := Ra6.out.cell 1
    refine hK.out _ _ hS2 (fun hS3 => ?_)
    clear hK K hS1 hS2
    try simp only [List.getElem_toArray, List.getElem_cons_succ, List.getElem_cons_zero, Act.put, List.setIfInBounds_toArray, List.set_cons_zero, List.set_cons_succ]
    refine wpAnyT_step (i := 4) (by kernel_rfl) rfl (fun K hK => ?_)
    try simp only [List.getElem_toArray, List.getElem_cons_succ, List.getElem_cons_zero]
    go_simp
    clear hlu6 hcr6 hlr6 hca6 hla6
    obtain ⟨w7, e7, Rrow7, hz7, K7⟩ := boxed w6 96 #[.int .i64 n1.op, .int .i64 n1.n, .string n1.s, .slice An1 n1.kids.length cn1]
    have Rr7 := LH (K7.out.row Rr6.out (by omega))
    have Ra7 := LH (K7.out.row Ra6.out (by omega))
    have Dn17 := LH (DN6.out.keep fun b hb => K7.out.kq hb (by have h1 := hb.1; have h2 := hb.2; omega))
    have GG7 := LH (GG6.out.keepP (w' := w7) (by omega) fun b hb h => K7.out.block b hb (by
      rcases h with h | h
      · have := GG6.out.own b h; omega
      · obtain ⟨x1, x2, x3⟩ := h; omega))
    have M7 := LH (M6.out.chg K7.out (by omega) (by omega))
    clear Rr6 Ra6 DN6 GG6 M6
    have SL7 := LH (show Sl w7 (fun b => b < w7.heap.size ∧ (Value.slice A acc.length c).ownBlock ≠ some b ∧ w.heap.size ≤ b ∧ b ≠ w2.heap.size ∧ b ≠ w.heap.size) 4 (some ⟨w6.heap.size, 0, none⟩) 1 ([n1].map GTy.toD) from Sl.ofRow Rrow7.out (rdC_one1 (GTy.rd_mk (Dn17.out.keep (w' := w7) (S' := fun b => b < w7.heap.size ∧ (Value.slice A acc.length c).ownBlock ≠ some b ∧ w.heap.size ≤ b ∧ b ≠ w2.heap.size ∧ b ≠ w.heap.size) fun b hb => ⟨⟨by have h1 := hb.1; have h2 := hb.2; omega, fun e => by have h1 := hb.1; have h3 := (HOW.out b e).2; omega, by have h1 := hb.1; have h2 := hb.2; omega⟩, rfl⟩)) rfl) ⟨by omega, fun e => by have h3 := (HOW.out _ e).2; omega, by omega⟩ (by simp) (by unfold maxLen; omega))
    rw [← e7]
    clear e7
    have hlu7 := M7.out.row.lt
    have hcr7 := fun i => Rr7.out.cell i
    have hlr7 := Rr7.out.lt
    have hca7 := fun i => Ra7.out.cell i
    have hla7 := Ra7.out.lt
    have hcrow7 := fun i => Rrow7.out.cell i
    have hlrow7 := Rrow7.out.lt
    have hS4 : w7.cell? ⟨w2.heap.size, 1, none⟩ = some (.slice A acc.length c) := Ra7.out.cell 1
    refine hK.out _ _ hS4 (fun hS5 => ?_)
    clear hK K hS3 hS4
    try simp only [List.getElem_toArray, List.getElem_cons_succ, List.getElem_cons_zero, Act.put, List.setIfInBounds_toArray, List.set_cons_zero, List.set_cons_succ]
    refine wpAnyT_step (i := 5) (by kernel_rfl) rfl (fun K hK => ?_)
    refine step_append_X w7 rfl (.tmp 10) (.tmp 13) 58 rfl 96 zTyv 4 56 Try.underlying58 (by kernel_rfl) rfl (by omega) (w2.heap.size + 1) (.slice A acc.length c) acc.length _ GG7.out (some ⟨w6.heap.size, 0, none⟩) 1 1 _ rfl SL7.out (by omega) (by unfold maxLen; omega) (by omega) rfl rfl ?_
    clear hlu7 hcr7 hlr7 hca7 hla7 hcrow7 hlrow7
    intro A8 c8 w8 hG8 hGr8
    obtain ⟨acc8, hac8⟩ : ∃ x, x = acc ++ [n1] := ⟨_, rfl⟩
    have HAC8 := LH hac8
    have hal8 : acc8.length = acc.length + 1 := by rw [hac8]; simp
    have GN8 := LH (show Grx (fun b => w.heap.size ≤ b ∧ b ≠ w2.heap.size ∧ b ≠ w.heap.size) w8 (w2.heap.size + 1) 96 4 (.slice A8 acc8.length c8) acc8.length (acc8.map GTy.toD) from by rw [hal8, hac8]; simpa using hG8)
    rw [← hal8]
    have HAL8 := LH hal8
    clear hal8 hac8
    obtain ⟨q8, hq8, hk8⟩ := hGr8.bxe (B := w2.heap.size + 1) (fun q hq => (HOW.out q hq).1) (by omega)
    have hz8 := hGr8.size
    have K8 := LH hk8
    clear hG8 hGr8 hk8
    have Rr8 := LH (K8.out.row Rr7.out (by omega))
    have Ra8 := LH (K8.out.row Ra7.out (by omega))
    have M8 := LH (M7.out.chg K8.out (by omega) (by omega))
    clear Rr7 Ra7 M7
    clear GG7
    have hlu8 := M8.out.row.lt
    have hcr8 := fun i => Rr8.out.cell i
    have hlr8 := Rr8.out.lt
    have hca8 := fun i => Ra8.out.cell i
    have hfa8 := fun i => Ra8.out.frozen i
    have hla8 := Ra8.out.lt
    have hS6 : w8.cell? ⟨w2.heap.size, 1, none⟩ = some (.slice A acc.length c) := Ra8.out.cell 1
    refine hK.out _ _ hS6 (fun hS7 => ?_)
    clear hK K hS5 hS6
    try simp only [List.getElem_toArray, List.getElem_cons_succ, List.getElem_cons_zero, Act.put, List.setIfInBounds_toArray, List.set_cons_zero, List.set_cons_succ]
    refine wpAnyT_tk (i := 6) (oi := _) (v := ?tv8) rfl (Or.inl ⟨by rfl, ?th8⟩) hS7 ?_
    case th8 => (intro x hSx; (try dsimp only at hSx); go_simp; (try with_reducible rfl))
    try simp only [List.getElem_toArray, List.getElem_cons_succ, List.getElem_cons_zero, Act.put, List.setIfInBounds_toArray, List.set_cons_zero, List.set_cons_succ]
    refine wpAnyT_last (by kernel_rfl) (by kernel_rfl) rfl (fun K hK => ?_)
    try simp only [List.getElem_toArray, List.getElem_cons_succ, List.getElem_cons_zero]
    go_simp
    refine hK.out _ _ ?_
    clear hK K
    try simp only [List.getElem_toArray, List.getElem_cons_succ, List.getElem_cons_zero, Act.put, List.setIfInBounds_toArray, List.set_cons_zero, List.set_cons_succ]
    clear hS7 HOW
    clear hlu8 hcr8 hlr8 hca8 hfa8 hla8
    obtain ⟨w9, e9, RO9, hz9, K9⟩ := storedF Ra8.out 1 (.slice A8 acc8.length c8)
    have RN9 := LH (show Row w9 w2.heap.size 60 #[.string tx, .slice A8 acc8.length c8] from RO9.out)
    clear RO9
    have Rr9 := LH (K9.out.row Rr8.out (by omega))
    have GG9 := LH (GN8.out.keepP (w' := w9) (by omega) fun b hb h => K9.out.block b hb (by
      rcases h with h | h
      · have := GN8.out.own b h; omega
      · obtain ⟨x1, x2, x3⟩ := h; omega))
    have M9 := LH (M8.out.chg K9.out (by omega) (by omega))
    clear Rr8 GN8 M8
    clear Ra8
    rw [← e9]
    clear e9
    have hlu9 := M9.out.row.lt
    have hcr9 := fun i => Rr9.out.cell i
    have hlr9 := Rr9.out.lt
    have hca9 := fun i => RN9.out.cell i
    have hla9 := RN9.out.lt
    have hall := HAL8.out
    have HN : I j w9 := by
     rw [HI.out]
     exact ⟨acc8, s1, A8, c8, (by rw [HAC8.out]; exact HR.out), by omega, by omega, RN9.out, Rr9.out, GG9.out, M9.out, RN9.out.lt⟩
    go_roundw
    case rel => first | exact ⟨j, HN⟩ | ((repeat apply Exists.intro); exact ⟨⟨j, HN⟩, rfl⟩)
    case measure => rw [HJ.out]; exact Nat.lt_succ_of_le (leastK_le (I := fun j => I j w9) HN)
end Go.Proofs.Ytamfolaicncblaa
