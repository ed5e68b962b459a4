/- Texts of the claim LTags in one: PaO PaR NameOk FuncP FNode. Conditions: none but bounds on sizes. -/
import Derived.Test.YtgbjdhfaklmjcaaGreatZLTags4
import Derived.Test.YtgbjdhfaklmjcaaGreatZLTags3
import Derived.Test.YtgbjdhfaklmjcaaGreatZLTags9
import Derived.Test.YtgbjdhfaklmjcaaGreatZLTags10
import Derived.Test.YtgbjdhfaklmjcaaGreatZLTags11
import Derived.Test.YtgbjdhfaklmjcaaGreatZLTags5
import Derived.WalkKit
import Derived.Test.YtgbjdhfaklmjcaaGreatRows
import Derived.Test.YtgbjdhfaklmjcaaGreatZLTags0
import Derived.Lib.Hide
import Derived.Test.YtgbjdhfaklmjcaaGreatZLTags1
namespace Go.Proofs.YtgbjdhfaklmjcaaGreat
set_option maxRecDepth 20000
set_option linter.unusedVariables false
set_option linter.unusedSimpArgs false
open Go.RowKit
set_option maxHeartbeats 2000000
theorem l3E (k:Nat) (hE:Ok1 56 pE k) (hC:Ok1 73 pCompare k) (hL:Ok1 69 pLet k) (hR:Ok1 70 pRec k) (hK:Ok1 71 pCase k):Ok1 56 pE (k+1):=by
 intro ts g L cl V cv st w h n st' hp
 rw [pE_succ] at hp
 have HE:=LH hE
 have HCM:=LH hC
 have HL:=LH hL
 have HRC:=LH hR
 have HK:=LH hK
 clear hE hC hL hR hK
 have HC:=LH h
 have M0:=LH h.mv
 have hgl:=h.row.lt
 clear h
 go_enter Tryz.func56,Tryz.ntmps56
 refine wp_hide (fun BP hBP=>?_)
 have HBP:=LH hBP
 clear hBP
 go_wp2_with fail
 obtain⟨w1,e1,Rr1,hz1,K1⟩:=boxed w 45 #[.int .i64 0,.int .i64 0,.string ⟨#[]⟩,.string ⟨#[]⟩,.slice none 0 0]
 have M1:=LH (M0.out.chg K1.out (by omega) (by omega))
 rw [<- e1]
 clear e1
 have hlu1:=M1.out.row.lt
 have hcr1:=fun i=>Rr1.out.cell i
 have hlr1:=Rr1.out.lt
 refine(l3Is ts g L cl V cv st w1 (M1.out.cur HC.out) ⟨#[102,117,110]⟩).mono ?_
 clear hlu1 hcr1 hlr1
 rintro e w2 ⟨rfl,hb2⟩
 have hz2:=hb2.size
 have K2:=LH (Bx.of_below (g:=g) hb2 (Nat.le_refl _))
 have Rr2:=LH (K2.out.row Rr1.out (by omega))
 have M2:=LH (M1.out.below hb2)
 clear Rr1 M1
 clear hb2
 have hlu2:=M2.out.row.lt
 have hcr2:=fun i=>Rr2.out.cell i
 have hlr2:=Rr2.out.lt
 cases h1:pIs ts [102,117,110] st
 ·
  simp only [h1,Bool.false_eq_true,if_false] at hp
  go_wp2_with fail
  refine(l3Is ts g L cl V cv st w2 (M2.out.cur HC.out) ⟨#[108,101,116]⟩).mono ?_
  clear hlu2 hcr2 hlr2
  rintro e w3 ⟨rfl,hb3⟩
  have hz3:=hb3.size
  have K3:=LH (Bx.of_below (g:=g) hb3 (Nat.le_refl _))
  have Rr3:=LH (K3.out.row Rr2.out (by omega))
  have M3:=LH (M2.out.below hb3)
  clear Rr2 M2
  clear hb3
  have hlu3:=M3.out.row.lt
  have hcr3:=fun i=>Rr3.out.cell i
  have hlr3:=Rr3.out.lt
  cases h2:pIs ts [108,101,116] st
  ·
   simp only [h2,Bool.false_eq_true,if_false] at hp
   go_wp2_with fail
   refine(l3Is ts g L cl V cv st w3 (M3.out.cur HC.out) ⟨#[114,101,99]⟩).mono ?_
   clear hlu3 hcr3 hlr3
   rintro e w4 ⟨rfl,hb4⟩
   have hz4:=hb4.size
   have K4:=LH (Bx.of_below (g:=g) hb4 (Nat.le_refl _))
   have Rr4:=LH (K4.out.row Rr3.out (by omega))
   have M4:=LH (M3.out.below hb4)
   clear Rr3 M3
   clear hb4
   have hlu4:=M4.out.row.lt
   have hcr4:=fun i=>Rr4.out.cell i
   have hfr4:=fun i=>Rr4.out.frozen i
   have hlr4:=Rr4.out.lt
   cases h3:pIs ts [114,101,99] st
   ·
    simp only [h3,Bool.false_eq_true,if_false] at hp
    go_wp2_with fail
    refine(l3Is ts g L cl V cv st w4 (M4.out.cur HC.out) ⟨#[99,97,115,101]⟩).mono ?_
    clear hlu4 hcr4 hfr4 hlr4
    rintro e w5 ⟨rfl,hb5⟩
    have hz5:=hb5.size
    have K5:=LH (Bx.of_below (g:=g) hb5 (Nat.le_refl _))
    have Rr5:=LH (K5.out.row Rr4.out (by omega))
    have M5:=LH (M4.out.below hb5)
    clear Rr4 M4
    clear hb5
    have hlu5:=M5.out.row.lt
    have hcr5:=fun i=>Rr5.out.cell i
    have hfr5:=fun i=>Rr5.out.frozen i
    have hlr5:=Rr5.out.lt
    cases h4:pIs ts [99,97,115,101] st
    ·
     simp only [h4,Bool.false_eq_true,if_false] at hp
     go_wp2_with fail
     refine(l3Is ts g L cl V cv st w5 (M5.out.cur HC.out) ⟨#[105,102]⟩).mono ?_
     clear hlu5 hcr5 hlr5
     rintro e w6 ⟨rfl,hb6⟩
     have hz6:=hb6.size
     have K6:=LH (Bx.of_below (g:=g) hb6 (Nat.le_refl _))
     have Rr6:=LH (K6.out.row Rr5.out (by omega))
     have M6:=LH (M5.out.below hb6)
     clear Rr5 M5
     clear hb6
     have hlu6:=M6.out.row.lt
     have hcr6:=fun i=>Rr6.out.cell i
     have hfr6:=fun i=>Rr6.out.frozen i
     have hlr6:=Rr6.out.lt
     cases h5:pIs ts [105,102] st
     ·
      simp only [h5,Bool.false_eq_true,if_false] at hp
      go_wp2_with fail
      refine(HCM.out ts g L cl V cv st w6 (M6.out.cur HC.out) n st' hp).mono ?_
      clear hlu6 hcr6 hlr6
      rintro e w7 ⟨A0,c0,rfl,ha7,hm7⟩
      have hz7:=hm7.size
      have K7:=LH hm7.bx
      have DN7:=LH ha7
      have Rr7:=LH (K7.out.row Rr6.out (by omega))
      have M7:=LH (M6.out.trans hm7)
      clear Rr6 M6
      clear hm7 ha7
      have hlu7:=M7.out.row.lt
      have hcr7:=fun i=>Rr7.out.cell i
      have hfr7:=fun i=>Rr7.out.frozen i
      have hlr7:=Rr7.out.lt
      clear hp
      go_wp2_with fail
      clear hlu7 hcr7 hlr7
      obtain⟨w8,e8,RN8,hz8,K8⟩:=stored5 Rr7.out (.int .i64 n.op) (.int .i64 n.n) (.string n.s) (.string n.t) (.slice A0 n.kids.length c0)
      have D08:=LH (DN7.out.keep fun b hb=>K8.out.kq hb (by have h1:=hb.1;have h2:=hb.2;omega))
      have M8:=LH (M7.out.chg K8.out (by omega) (by omega))
      clear DN7 M7
      clear Rr7
      rw [<- e8]
      clear e8
      have hlu8:=M8.out.row.lt
      have hcr8:=fun i=>RN8.out.cell i
      have hlr8:=RN8.out.lt
      show BP _ _
      rw [HBP.out]
      refine bodyPost_ret (v:=.agg #[.int .i64 n.op,.int .i64 n.n,.string n.s,.string n.t,.slice A0 n.kids.length c0]) (by simp [results,Tryz.results56,go_sem,hcr8]) rfl ?_
      exact⟨A0,c0,rfl,D08.out.keep fun b hb=>⟨⟨by have h1:=hb.1;have h2:=hb.2;omega,by have h1:=hb.1;have h2:=hb.2;omega⟩,rfl⟩,M8.out⟩
     ·
      simp [h5,Option.bind_eq_some_iff] at hp
      obtain⟨n1,s1,hq1,n2,s2,hq2,n3,hq3,hn⟩:=hp
      have HNN:=LH hn
      have HQ1:=LH hq1
      have HQ2:=LH hq2
      have HQ3:=LH hq3
      clear hn hq1 hq2 hq3
      go_wp2_with fail
      refine(l3Next ts g L cl V cv st w6 (M6.out.cur HC.out)).mono ?_
      clear hlu6 hcr6 hlr6
      rintro e w7 ⟨rfl,hm7⟩
      replace hm7:Mv ts g L cl V cv st.vars (pNext ts st) w6 w7:=hm7
      have hz7:=hm7.size
      have K7:=LH hm7.bx
      have Rr7:=LH (K7.out.row Rr6.out (by omega))
      have M7:=LH (M6.out.trans hm7)
      clear Rr6 M6
      clear hm7
      have hlu7:=M7.out.row.lt
      have hcr7:=fun i=>Rr7.out.cell i
      have hfr7:=fun i=>Rr7.out.frozen i
      have hlr7:=Rr7.out.lt
      go_wp2_with fail
      refine(HE.out ts g L cl V cv (pNext ts st) w7 (M7.out.cur HC.out) n1 s1 HQ1.out).mono ?_
      clear hlu7 hcr7 hlr7
      rintro e w8 ⟨A1,c1,rfl,ha8,hm8⟩
      have hz8:=hm8.size
      have K8:=LH hm8.bx
      have DN8:=LH ha8
      have Rr8:=LH (K8.out.row Rr7.out (by omega))
      have M8:=LH (M7.out.trans hm8)
      clear Rr7 M7
      clear hm8 ha8
      have hlu8:=M8.out.row.lt
      have hcr8:=fun i=>Rr8.out.cell i
      have hlr8:=Rr8.out.lt
      go_wp2_with fail
      clear hlu8 hcr8 hlr8
      obtain⟨w9,e9,Ra9,hz9,K9⟩:=boxed w8 45 #[.int .i64 n1.op,.int .i64 n1.n,.string n1.s,.string n1.t,.slice A1 n1.kids.length c1]
      have Rr9:=LH (K9.out.row Rr8.out (by omega))
      have D19:=LH (DN8.out.keep fun b hb=>K9.out.kq hb (by have h1:=hb.1;have h2:=hb.2;omega))
      have M9:=LH (M8.out.chg K9.out (by omega) (by omega))
      clear Rr8 DN8 M8
      rw [<- e9]
      clear e9
      have hlu9:=M9.out.row.lt
      have hcr9:=fun i=>Rr9.out.cell i
      have hlr9:=Rr9.out.lt
      have hca9:=fun i=>Ra9.out.cell i
      have hla9:=Ra9.out.lt
      refine(l3Word ts g L cl V cv s1 w9 (M9.out.cur HC.out) ⟨#[116,104,101,110]⟩).mono ?_
      clear hlu9 hcr9 hlr9 hca9 hla9
      rintro e w10 ⟨rfl,hm10⟩
      replace hm10:Mv ts g L cl V cv s1.vars (pWord ts [116,104,101,110] s1) w9 w10:=hm10
      have hz10:=hm10.size
      have K10:=LH hm10.bx
      have Rr10:=LH (K10.out.row Rr9.out (by omega))
      have Ra10:=LH (K10.out.row Ra9.out (by omega))
      have D110:=LH (D19.out.keep fun b hb=>K10.out.kq hb (by have h1:=hb.1;have h2:=hb.2;omega))
      have M10:=LH (M9.out.trans hm10)
      clear Rr9 Ra9 D19 M9
      clear hm10
      have hlu10:=M10.out.row.lt
      have hcr10:=fun i=>Rr10.out.cell i
      have hlr10:=Rr10.out.lt
      have hca10:=fun i=>Ra10.out.cell i
      have hla10:=Ra10.out.lt
      go_wp2_with fail
      refine(HE.out ts g L cl V cv (pWord ts [116,104,101,110] s1) w10 (M10.out.cur HC.out) n2 s2 HQ2.out).mono ?_
      clear hlu10 hcr10 hlr10 hca10 hla10
      rintro e w11 ⟨A2,c2,rfl,ha11,hm11⟩
      have hz11:=hm11.size
      have K11:=LH hm11.bx
      have DN11:=LH ha11
      have Rr11:=LH (K11.out.row Rr10.out (by omega))
      have Ra11:=LH (K11.out.row Ra10.out (by omega))
      have D111:=LH (D110.out.keep fun b hb=>K11.out.kq hb (by have h1:=hb.1;have h2:=hb.2;omega))
      have M11:=LH (M10.out.trans hm11)
      clear Rr10 Ra10 D110 M10
      clear hm11 ha11
      have hlu11:=M11.out.row.lt
      have hcr11:=fun i=>Rr11.out.cell i
      have hlr11:=Rr11.out.lt
      have hca11:=fun i=>Ra11.out.cell i
      have hla11:=Ra11.out.lt
      go_wp2_with fail
      clear hlu11 hcr11 hlr11 hca11 hla11
      obtain⟨w12,e12,Rb12,hz12,K12⟩:=boxed w11 45 #[.int .i64 n2.op,.int .i64 n2.n,.string n2.s,.string n2.t,.slice A2 n2.kids.length c2]
      have Rr12:=LH (K12.out.row Rr11.out (by omega))
      have Ra12:=LH (K12.out.row Ra11.out (by omega))
      have D112:=LH (D111.out.keep fun b hb=>K12.out.kq hb (by have h1:=hb.1;have h2:=hb.2;omega))
      have D212:=LH (DN11.out.keep fun b hb=>K12.out.kq hb (by have h1:=hb.1;have h2:=hb.2;omega))
      have M12:=LH (M11.out.chg K12.out (by omega) (by omega))
      clear Rr11 Ra11 D111 DN11 M11
      rw [<- e12]
      clear e12
      have hlu12:=M12.out.row.lt
      have hcr12:=fun i=>Rr12.out.cell i
      have hlr12:=Rr12.out.lt
      have hca12:=fun i=>Ra12.out.cell i
      have hla12:=Ra12.out.lt
      have hcb12:=fun i=>Rb12.out.cell i
      have hlb12:=Rb12.out.lt
      refine(l3Word ts g L cl V cv s2 w12 (M12.out.cur HC.out) ⟨#[101,108,115,101]⟩).mono ?_
      clear hlu12 hcr12 hlr12 hca12 hla12 hcb12 hlb12
      rintro e w13 ⟨rfl,hm13⟩
      replace hm13:Mv ts g L cl V cv s2.vars (pWord ts [101,108,115,101] s2) w12 w13:=hm13
      have hz13:=hm13.size
      have K13:=LH hm13.bx
      have Rr13:=LH (K13.out.row Rr12.out (by omega))
      have Ra13:=LH (K13.out.row Ra12.out (by omega))
      have Rb13:=LH (K13.out.row Rb12.out (by omega))
      have D113:=LH (D112.out.keep fun b hb=>K13.out.kq hb (by have h1:=hb.1;have h2:=hb.2;omega))
      have D213:=LH (D212.out.keep fun b hb=>K13.out.kq hb (by have h1:=hb.1;have h2:=hb.2;omega))
      have M13:=LH (M12.out.trans hm13)
      clear Rr12 Ra12 Rb12 D112 D212 M12
      clear hm13
      have hlu13:=M13.out.row.lt
      have hcr13:=fun i=>Rr13.out.cell i
      have hlr13:=Rr13.out.lt
      have hca13:=fun i=>Ra13.out.cell i
      have hla13:=Ra13.out.lt
      have hcb13:=fun i=>Rb13.out.cell i
      have hlb13:=Rb13.out.lt
      go_wp2_with fail
      refine(HE.out ts g L cl V cv (pWord ts [101,108,115,101] s2) w13 (M13.out.cur HC.out) n3 st' HQ3.out).mono ?_
      clear hlu13 hcr13 hlr13 hca13 hla13 hcb13 hlb13
      rintro e w14 ⟨A3,c3,rfl,ha14,hm14⟩
      have hz14:=hm14.size
      have K14:=LH hm14.bx
      have DN14:=LH ha14
      have Rr14:=LH (K14.out.row Rr13.out (by omega))
      have Ra14:=LH (K14.out.row Ra13.out (by omega))
      have Rb14:=LH (K14.out.row Rb13.out (by omega))
      have D114:=LH (D113.out.keep fun b hb=>K14.out.kq hb (by have h1:=hb.1;have h2:=hb.2;omega))
      have D214:=LH (D213.out.keep fun b hb=>K14.out.kq hb (by have h1:=hb.1;have h2:=hb.2;omega))
      have M14:=LH (M13.out.trans hm14)
      clear Rr13 Ra13 Rb13 D113 D213 M13
      clear hm14 ha14
      have hlu14:=M14.out.row.lt
      have hcr14:=fun i=>Rr14.out.cell i
      have hlr14:=Rr14.out.lt
      have hca14:=fun i=>Ra14.out.cell i
      have hla14:=Ra14.out.lt
      have hcb14:=fun i=>Rb14.out.cell i
      have hlb14:=Rb14.out.lt
      go_wp2_with fail
      clear hlu14 hcr14 hlr14 hca14 hla14 hcb14 hlb14
      obtain⟨w15,e15,Rd15,hz15,K15⟩:=boxed w14 45 #[.int .i64 n3.op,.int .i64 n3.n,.string n3.s,.string n3.t,.slice A3 n3.kids.length c3]
      have Rr15:=LH (K15.out.row Rr14.out (by omega))
      have Ra15:=LH (K15.out.row Ra14.out (by omega))
      have Rb15:=LH (K15.out.row Rb14.out (by omega))
      have D115:=LH (D114.out.keep fun b hb=>K15.out.kq hb (by have h1:=hb.1;have h2:=hb.2;omega))
      have D215:=LH (D214.out.keep fun b hb=>K15.out.kq hb (by have h1:=hb.1;have h2:=hb.2;omega))
      have D315:=LH (DN14.out.keep fun b hb=>K15.out.kq hb (by have h1:=hb.1;have h2:=hb.2;omega))
      have M15:=LH (M14.out.chg K15.out (by omega) (by omega))
      clear Rr14 Ra14 Rb14 D114 D214 DN14 M14
      obtain⟨w16,e16,Rrow16,hz16,K16⟩:=boxed w15 45 #[.int .i64 n1.op,.int .i64 n1.n,.string n1.s,.string n1.t,.slice A1 n1.kids.length c1,.int .i64 n2.op,.int .i64 n2.n,.string n2.s,.string n2.t,.slice A2 n2.kids.length c2,.int .i64 n3.op,.int .i64 n3.n,.string n3.s,.string n3.t,.slice A3 n3.kids.length c3]
      have hy16:w15.heap.size=(w14.heap.size+1):=by omega
      rw [hy16] at Rrow16 K16
      have Rr16:=LH (K16.out.row Rr15.out (by omega))
      have Ra16:=LH (K16.out.row Ra15.out (by omega))
      have Rb16:=LH (K16.out.row Rb15.out (by omega))
      have Rd16:=LH (K16.out.row Rd15.out (by omega))
      have D116:=LH (D115.out.keep fun b hb=>K16.out.kq hb (by have h1:=hb.1;have h2:=hb.2;omega))
      have D216:=LH (D215.out.keep fun b hb=>K16.out.kq hb (by have h1:=hb.1;have h2:=hb.2;omega))
      have D316:=LH (D315.out.keep fun b hb=>K16.out.kq hb (by have h1:=hb.1;have h2:=hb.2;omega))
      have M16:=LH (M15.out.chg K16.out (by omega) (by omega))
      clear Rr15 Ra15 Rb15 Rd15 D115 D215 D315 M15
      have SL16:=LH (show Sl w16 (fun b=>b<w16.heap.size/\w.heap.size<=b/\b≠w.heap.size) 5 (some ⟨(w14.heap.size+1),0,none⟩) 3 ([n1,n2,n3].map GNode.toD) from Sl.ofRow Rrow16.out (rdC_cons (GNode.rd_mk (D116.out.keep (w':=w16) (S':=fun b=>b<w16.heap.size/\w.heap.size<=b/\b≠w.heap.size) fun b hb=>⟨⟨by have h1:=hb.1;have h2:=hb.2;omega,by have h1:=hb.1;have h2:=hb.2;omega⟩,rfl⟩)) rfl (rdC_cons (GNode.rd_mk (D216.out.keep (w':=w16) (S':=fun b=>b<w16.heap.size/\w.heap.size<=b/\b≠w.heap.size) fun b hb=>⟨⟨by have h1:=hb.1;have h2:=hb.2;omega,by have h1:=hb.1;have h2:=hb.2;omega⟩,rfl⟩)) rfl (rdC_one1 (GNode.rd_mk (D316.out.keep (w':=w16) (S':=fun b=>b<w16.heap.size/\w.heap.size<=b/\b≠w.heap.size) fun b hb=>⟨⟨by have h1:=hb.1;have h2:=hb.2;omega,by have h1:=hb.1;have h2:=hb.2;omega⟩,rfl⟩)) rfl))) ⟨by omega,by omega⟩ (by simp) (by unfold maxLen;omega))
      rw [<- e15,<- e16]
      clear e15 e16
      have hlu16:=M16.out.row.lt
      have hcr16:=fun i=>Rr16.out.cell i
      have hlr16:=Rr16.out.lt
      have hca16:=fun i=>Ra16.out.cell i
      have hla16:=Ra16.out.lt
      have hcb16:=fun i=>Rb16.out.cell i
      have hlb16:=Rb16.out.lt
      have hcd16:=fun i=>Rd16.out.cell i
      have hld16:=Rd16.out.lt
      have hcrow16:=fun i=>Rrow16.out.cell i
      have hlrow16:=Rrow16.out.lt
      refine(l3Node (fun b=>w.heap.size<=b/\b≠w.heap.size) (9) [n1,n2,n3] (some ⟨(w14.heap.size+1),0,none⟩) 3 w16 SL16.out (by simp)).mono ?_
      clear hlu16 hcr16 hlr16 hca16 hla16 hcb16 hlb16 hcd16 hld16 hcrow16 hlrow16
      rintro e w17 ⟨A4,c4,rfl,hG17,hb17⟩
      have hz17:=hb17.size
      have K17:=LH (Bx.of_below (g:=g) hb17 (Nat.le_refl _))
      have GN17:=LH hG17
      have Rr17:=LH (K17.out.row Rr16.out (by omega))
      have Ra17:=LH (K17.out.row Ra16.out (by omega))
      have Rb17:=LH (K17.out.row Rb16.out (by omega))
      have Rd17:=LH (K17.out.row Rd16.out (by omega))
      have Rrow17:=LH (K17.out.row Rrow16.out (by omega))
      have D117:=LH (D116.out.keep fun b hb=>K17.out.kq hb (by have h1:=hb.1;have h2:=hb.2;omega))
      have D217:=LH (D216.out.keep fun b hb=>K17.out.kq hb (by have h1:=hb.1;have h2:=hb.2;omega))
      have D317:=LH (D316.out.keep fun b hb=>K17.out.kq hb (by have h1:=hb.1;have h2:=hb.2;omega))
      have M17:=LH (M16.out.below hb17)
      clear Rr16 Ra16 Rb16 Rd16 Rrow16 D116 D216 D316 M16
      clear hb17 hG17
      have hlu17:=M17.out.row.lt
      have hcr17:=fun i=>Rr17.out.cell i
      have hfr17:=fun i=>Rr17.out.frozen i
      have hlr17:=Rr17.out.lt
      have hca17:=fun i=>Ra17.out.cell i
      have hla17:=Ra17.out.lt
      have hcb17:=fun i=>Rb17.out.cell i
      have hlb17:=Rb17.out.lt
      have hcd17:=fun i=>Rd17.out.cell i
      have hld17:=Rd17.out.lt
      have hcrow17:=fun i=>Rrow17.out.cell i
      have hlrow17:=Rrow17.out.lt
      have DD4:=LH (ndOf (op:=9) GN17.out (fun b h=>by omega) (by decide))
      go_wp2_with fail
      clear hlu17 hcr17 hfr17 hlr17 hca17 hla17 hcb17 hlb17 hcd17 hld17 hcrow17 hlrow17
      obtain⟨w18,e18,RN18,hz18,K18⟩:=stored5 Rr17.out (.int .i64 9) (.int .i64 0) (.string ⟨#[]⟩) (.string ⟨#[]⟩) (.slice A4 3 c4)
      have Ra18:=LH (K18.out.row Ra17.out (by omega))
      have Rb18:=LH (K18.out.row Rb17.out (by omega))
      have Rd18:=LH (K18.out.row Rd17.out (by omega))
      have D418:=LH (DD4.out.keep fun b hb=>K18.out.kq hb (by have h1:=hb.1;have h2:=hb.2;omega))
      have M18:=LH (M17.out.chg K18.out (by omega) (by omega))
      clear Ra17 Rb17 Rd17 DD4 M17
      clear Rr17
      rw [<- e18]
      clear e18
      have hlu18:=M18.out.row.lt
      have hca18:=fun i=>Ra18.out.cell i
      have hla18:=Ra18.out.lt
      have hcb18:=fun i=>Rb18.out.cell i
      have hlb18:=Rb18.out.lt
      have hcd18:=fun i=>Rd18.out.cell i
      have hld18:=Rd18.out.lt
      have hcr18:=fun i=>RN18.out.cell i
      have hlr18:=RN18.out.lt
      obtain rfl:=HNN.out
      show BP _ _
      rw [HBP.out]
      refine bodyPost_ret (v:=.agg #[.int .i64 9,.int .i64 0,.string ⟨#[]⟩,.string ⟨#[]⟩,.slice A4 3 c4]) (by simp [results,Tryz.results56,go_sem,hcr18]) rfl ?_
      exact⟨A4,c4,rfl,D418.out.keep fun b hb=>⟨⟨by have h1:=hb.1;have h2:=hb.2;omega,by have h1:=hb.1;have h2:=hb.2;omega⟩,rfl⟩,M18.out⟩
    ·
     simp [h4] at hp
     go_wp2_with fail
     refine(HK.out ts g L cl V cv st w5 (M5.out.cur HC.out) n st' hp).mono ?_
     clear hlu5 hcr5 hlr5
     rintro e w6 ⟨A0,c0,rfl,ha6,hm6⟩
     have hz6:=hm6.size
     have K6:=LH hm6.bx
     have DN6:=LH ha6
     have Rr6:=LH (K6.out.row Rr5.out (by omega))
     have M6:=LH (M5.out.trans hm6)
     clear Rr5 M5
     clear hm6 ha6
     have hlu6:=M6.out.row.lt
     have hcr6:=fun i=>Rr6.out.cell i
     have hfr6:=fun i=>Rr6.out.frozen i
     have hlr6:=Rr6.out.lt
     clear hp
     go_wp2_with fail
     clear hlu6 hcr6 hlr6
     obtain⟨w7,e7,RN7,hz7,K7⟩:=stored5 Rr6.out (.int .i64 n.op) (.int .i64 n.n) (.string n.s) (.string n.t) (.slice A0 n.kids.length c0)
     have D07:=LH (DN6.out.keep fun b hb=>K7.out.kq hb (by have h1:=hb.1;have h2:=hb.2;omega))
     have M7:=LH (M6.out.chg K7.out (by omega) (by omega))
     clear DN6 M6
     clear Rr6
     rw [<- e7]
     clear e7
     have hlu7:=M7.out.row.lt
     have hcr7:=fun i=>RN7.out.cell i
     have hlr7:=RN7.out.lt
     show BP _ _
     rw [HBP.out]
     refine bodyPost_ret (v:=.agg #[.int .i64 n.op,.int .i64 n.n,.string n.s,.string n.t,.slice A0 n.kids.length c0]) (by simp [results,Tryz.results56,go_sem,hcr7]) rfl ?_
     exact⟨A0,c0,rfl,D07.out.keep fun b hb=>⟨⟨by have h1:=hb.1;have h2:=hb.2;omega,by have h1:=hb.1;have h2:=hb.2;omega⟩,rfl⟩,M7.out⟩
   ·
    simp [h3] at hp
    go_wp2_with fail
    refine(HRC.out ts g L cl V cv st w4 (M4.out.cur HC.out) n st' hp).mono ?_
    clear hlu4 hcr4 hfr4 hlr4
    rintro e w5 ⟨A0,c0,rfl,ha5,hm5⟩
    have hz5:=hm5.size
    have K5:=LH hm5.bx
    have DN5:=LH ha5
    have Rr5:=LH (K5.out.row Rr4.out (by omega))
    have M5:=LH (M4.out.trans hm5)
    clear Rr4 M4
    clear hm5 ha5
    have hlu5:=M5.out.row.lt
    have hcr5:=fun i=>Rr5.out.cell i
    have hfr5:=fun i=>Rr5.out.frozen i
    have hlr5:=Rr5.out.lt
    clear hp
    go_wp2_with fail
    clear hlu5 hcr5 hlr5
    obtain⟨w6,e6,RN6,hz6,K6⟩:=stored5 Rr5.out (.int .i64 n.op) (.int .i64 n.n) (.string n.s) (.string n.t) (.slice A0 n.kids.length c0)
    have D06:=LH (DN5.out.keep fun b hb=>K6.out.kq hb (by have h1:=hb.1;have h2:=hb.2;omega))
    have M6:=LH (M5.out.chg K6.out (by omega) (by omega))
    clear DN5 M5
    clear Rr5
    rw [<- e6]
    clear e6
    have hlu6:=M6.out.row.lt
    have hcr6:=fun i=>RN6.out.cell i
    have hlr6:=RN6.out.lt
    show BP _ _
    rw [HBP.out]
    refine bodyPost_ret (v:=.agg #[.int .i64 n.op,.int .i64 n.n,.string n.s,.string n.t,.slice A0 n.kids.length c0]) (by simp [results,Tryz.results56,go_sem,hcr6]) rfl ?_
    exact⟨A0,c0,rfl,D06.out.keep fun b hb=>⟨⟨by have h1:=hb.1;have h2:=hb.2;omega,by have h1:=hb.1;have h2:=hb.2;omega⟩,rfl⟩,M6.out⟩
  ·
   simp [h2] at hp
   go_wp2_with fail
   refine(HL.out ts g L cl V cv st w3 (M3.out.cur HC.out) n st' hp).mono ?_
   clear hlu3 hcr3 hlr3
   rintro e w4 ⟨A0,c0,rfl,ha4,hm4⟩
   have hz4:=hm4.size
   have K4:=LH hm4.bx
   have DN4:=LH ha4
   have Rr4:=LH (K4.out.row Rr3.out (by omega))
   have M4:=LH (M3.out.trans hm4)
   clear Rr3 M3
   clear hm4 ha4
   have hlu4:=M4.out.row.lt
   have hcr4:=fun i=>Rr4.out.cell i
   have hfr4:=fun i=>Rr4.out.frozen i
   have hlr4:=Rr4.out.lt
   clear hp
   go_wp2_with fail
   clear hlu4 hcr4 hfr4 hlr4
   obtain⟨w5,e5,RN5,hz5,K5⟩:=stored5 Rr4.out (.int .i64 n.op) (.int .i64 n.n) (.string n.s) (.string n.t) (.slice A0 n.kids.length c0)
   have D05:=LH (DN4.out.keep fun b hb=>K5.out.kq hb (by have h1:=hb.1;have h2:=hb.2;omega))
   have M5:=LH (M4.out.chg K5.out (by omega) (by omega))
   clear DN4 M4
   clear Rr4
   rw [<- e5]
   clear e5
   have hlu5:=M5.out.row.lt
   have hcr5:=fun i=>RN5.out.cell i
   have hlr5:=RN5.out.lt
   show BP _ _
   rw [HBP.out]
   refine bodyPost_ret (v:=.agg #[.int .i64 n.op,.int .i64 n.n,.string n.s,.string n.t,.slice A0 n.kids.length c0]) (by simp [results,Tryz.results56,go_sem,hcr5]) rfl ?_
   exact⟨A0,c0,rfl,D05.out.keep fun b hb=>⟨⟨by have h1:=hb.1;have h2:=hb.2;omega,by have h1:=hb.1;have h2:=hb.2;omega⟩,rfl⟩,M5.out⟩
 ·
  simp [h1,Option.bind_eq_some_iff] at hp
  obtain⟨n1,hq1,hn⟩:=hp
  have HNN:=LH hn
  have HQ1:=LH hq1
  clear hn hq1
  go_wp2_with fail
  refine(l3Next ts g L cl V cv st w2 (M2.out.cur HC.out)).mono ?_
  clear hlu2 hcr2 hlr2
  rintro e w3 ⟨rfl,hm3⟩
  replace hm3:Mv ts g L cl V cv st.vars (pNext ts st) w2 w3:=hm3
  have hz3:=hm3.size
  have K3:=LH hm3.bx
  have Rr3:=LH (K3.out.row Rr2.out (by omega))
  have M3:=LH (M2.out.trans hm3)
  clear Rr2 M2
  clear hm3
  have hlu3:=M3.out.row.lt
  have hcr3:=fun i=>Rr3.out.cell i
  have hlr3:=Rr3.out.lt
  go_wp2_with fail
  have HTX1:=LH ((M3.out.cur HC.out).ptext_le false)
  refine(l3TextN ts g L cl V cv (pNext ts st) w3 (M3.out.cur HC.out)).mono ?_
  clear hlu3 hcr3 hlr3
  rintro e w4 ⟨rfl,hm4⟩
  replace hm4:Mv ts g L cl V cv (pNext ts st).vars ((pText ts false (pNext ts st)).2) w3 w4:=hm4
  have hz4:=hm4.size
  have K4:=LH hm4.bx
  have Rr4:=LH (K4.out.row Rr3.out (by omega))
  have M4:=LH (M3.out.trans hm4)
  clear Rr3 M3
  clear hm4
  have hlu4:=M4.out.row.lt
  have hcr4:=fun i=>Rr4.out.cell i
  have hfr4:=fun i=>Rr4.out.frozen i
  have hlr4:=Rr4.out.lt
  obtain⟨tx1,htx⟩:∃ x,(pText ts false (pNext ts st)).1=x:=⟨_,rfl⟩
  obtain⟨sx1,hsx⟩:∃ x,(pText ts false (pNext ts st)).2=x:=⟨_,rfl⟩
  rw [htx] at HTX1 HNN ⊢
  rw [hsx] at M4 HQ1
  clear htx hsx
  clear hlu4 hcr4 hfr4 hlr4
  have hlu4:=M4.out.row.lt
  have hcr4:=fun i=>Rr4.out.cell i
  have hfr4:=fun i=>Rr4.out.frozen i
  have hlr4:=Rr4.out.lt
  go_wp2_with fail
  refine(l3Take ts g L cl V cv sx1 w4 (M4.out.cur HC.out) ⟨#[45,62]⟩).mono ?_
  clear hlu4 hcr4 hfr4 hlr4
  rintro e w5 ⟨rfl,hm5⟩
  replace hm5:Mv ts g L cl V cv sx1.vars (pTake ts [45,62] sx1) w4 w5:=hm5
  have hz5:=hm5.size
  have K5:=LH hm5.bx
  have Rr5:=LH (K5.out.row Rr4.out (by omega))
  have M5:=LH (M4.out.trans hm5)
  clear Rr4 M4
  clear hm5
  have hlu5:=M5.out.row.lt
  have hcr5:=fun i=>Rr5.out.cell i
  have hfr5:=fun i=>Rr5.out.frozen i
  have hlr5:=Rr5.out.lt
  go_wp2_with fail
  refine(HE.out ts g L cl V cv (pTake ts [45,62] sx1) w5 (M5.out.cur HC.out) n1 st' HQ1.out).mono ?_
  clear hlu5 hcr5 hlr5
  rintro e w6 ⟨A1,c1,rfl,ha6,hm6⟩
  have hz6:=hm6.size
  have K6:=LH hm6.bx
  have DN6:=LH ha6
  have Rr6:=LH (K6.out.row Rr5.out (by omega))
  have M6:=LH (M5.out.trans hm6)
  clear Rr5 M5
  clear hm6 ha6
  have hlu6:=M6.out.row.lt
  have hcr6:=fun i=>Rr6.out.cell i
  have hfr6:=fun i=>Rr6.out.frozen i
  have hlr6:=Rr6.out.lt
  go_wp2_with fail
  clear hlu6 hcr6 hlr6
  obtain⟨w7,e7,RN7,hz7,K7⟩:=stored5 Rr6.out (.int .i64 3) (.int .i64 0) (.string tx1) (.string ⟨#[]⟩) (.slice (some ⟨(w6.heap.size+1),0,none⟩) 1 1)
  have D17:=LH (DN6.out.keep fun b hb=>K7.out.kq hb (by have h1:=hb.1;have h2:=hb.2;omega))
  have M7:=LH (M6.out.chg K7.out (by omega) (by omega))
  clear DN6 M6
  clear Rr6
  obtain⟨w8,e8,Re8,hz8,K8⟩:=boxed w7 45 #[.int .i64 n1.op,.int .i64 n1.n,.string n1.s,.string n1.t,.slice A1 n1.kids.length c1]
  have hy8:w7.heap.size=w6.heap.size:=by omega
  rw [hy8] at Re8 K8
  have Rr8:=LH (K8.out.row RN7.out (by omega))
  have D18:=LH (D17.out.keep fun b hb=>K8.out.kq hb (by have h1:=hb.1;have h2:=hb.2;omega))
  have M8:=LH (M7.out.chg K8.out (by omega) (by omega))
  clear RN7 D17 M7
  obtain⟨w9,e9,Rrow9,hz9,K9⟩:=boxed w8 45 #[.int .i64 n1.op,.int .i64 n1.n,.string n1.s,.string n1.t,.slice A1 n1.kids.length c1]
  have hy9:w8.heap.size=(w6.heap.size+1):=by omega
  rw [hy9] at Rrow9 K9
  have Rr9:=LH (K9.out.row Rr8.out (by omega))
  have Re9:=LH (K9.out.row Re8.out (by omega))
  have D19:=LH (D18.out.keep fun b hb=>K9.out.kq hb (by have h1:=hb.1;have h2:=hb.2;omega))
  have M9:=LH (M8.out.chg K9.out (by omega) (by omega))
  clear Rr8 Re8 D18 M8
  have SL9:=LH (show Sl w9 (fun b=>b<w9.heap.size/\w.heap.size<=b/\b≠w.heap.size) 5 (some ⟨(w6.heap.size+1),0,none⟩) 1 ([n1].map GNode.toD) from Sl.ofRow Rrow9.out (rdC_one1 (GNode.rd_mk (D19.out.keep (w':=w9) (S':=fun b=>b<w9.heap.size/\w.heap.size<=b/\b≠w.heap.size) fun b hb=>⟨⟨by have h1:=hb.1;have h2:=hb.2;omega,by have h1:=hb.1;have h2:=hb.2;omega⟩,rfl⟩)) rfl) ⟨by omega,by omega⟩ (by simp) (by unfold maxLen;omega))
  rw [<- e7,<- e8,<- e9]
  clear e7 e8 e9
  have hlu9:=M9.out.row.lt
  have hcr9:=fun i=>Rr9.out.cell i
  have hlr9:=Rr9.out.lt
  have hce9:=fun i=>Re9.out.cell i
  have hle9:=Re9.out.lt
  have hcrow9:=fun i=>Rrow9.out.cell i
  have hlrow9:=Rrow9.out.lt
  obtain rfl:=HNN.out
  show BP _ _
  rw [HBP.out]
  refine bodyPost_ret (v:=.agg #[.int .i64 3,.int .i64 0,.string tx1,.string ⟨#[]⟩,.slice (some ⟨(w6.heap.size+1),0,none⟩) 1 1]) (by simp [results,Tryz.results56,go_sem,hcr9]) rfl ?_
  exact⟨some ⟨(w6.heap.size+1),0,none⟩,1,rfl,⟨show(Lit.int .i64 3).wf=true by decide,show(Lit.int .i64 0).wf=true by decide,HTX1.out,empty_le,SL9.out.keep fun b hb=>⟨⟨by have h1:=hb.1;have h2:=hb.2;omega,by have h1:=hb.1;have h2:=hb.2;omega⟩,rfl⟩⟩,M9.out⟩
theorem Ok1.zero {F:FuncId} {p:List GToken->Nat->PSt->Option (GNode × PSt)} (h:∀ ts st,p ts 0 st=none):Ok1 F p 0:=by
 intro ts g L cl V cv st w _ n st' hp
 rw [h] at hp
 cases hp
theorem patOk:∀ n k,k<=n->k<=1000000->Ok1 100 pPatAtom k/\Ok1 89 pPat k
 | _,0,_,_=>⟨Ok1.zero fun ts st=>by simp [pPatAtom],Ok1.zero fun ts st=>by simp [pPat]⟩
 | 0,k+1,h,_=>by omega
 | n+1,k+1,h,hk=>by
  have ih:=fun i (hi:i<=k)=>patOk n i (by omega) (by omega)
  exact⟨l3PatAtom k (ih k (Nat.le_refl _)).2,l3Pat k (by omega) fun i hi=>(ih i hi).1⟩
structure EOk (k:Nat):Prop where
 e:Ok1 56 pE k
 atom:Ok1 105 pAtom k
 apply:Ok1 104 pApply k
 product:Ok1 102 pProduct k
 sum:Ok1 90 pSum k
 compare:Ok1 73 pCompare k
theorem exprOk:∀ n k,k<=n->k<=1000000->EOk k
 | _,0,_,_=>⟨Ok1.zero fun ts st=>by simp [pE],Ok1.zero fun ts st=>by simp [pAtom],Ok1.zero fun ts st=>by simp [pApply],Ok1.zero fun ts st=>by simp [pProduct],Ok1.zero fun ts st=>by simp [pSum],Ok1.zero fun ts st=>by simp [pCompare]⟩
 | 0,k+1,h,_=>by omega
 | n+1,k+1,h,hk=>by
  have ih:=fun i (hi:i<=k)=>exprOk n i (by omega) (by omega)
  have he:=(ih k (Nat.le_refl _)).e
  exact⟨l3E k he (ih k (Nat.le_refl _)).compare (l3Let k he) (l3Rec k he) (l3Case k (by omega) (fun i hi=>(ih i hi).e) (fun i hi=>(patOk i i (Nat.le_refl _) (by omega)).2)),
    l3Atom k he,l3Apply k (by omega) fun i hi=>(ih i hi).atom,l3Product k fun i hi=>(ih i hi).apply,l3Sum k fun i hi=>(ih i hi).product,l3Compare k fun i hi=>(ih i hi).sum⟩
theorem l3E_ok (k:Nat) (hk:k<=1000000):Ok1 56 pE k:=(exprOk k k (Nat.le_refl _) hk).e
set_option maxHeartbeats 1000000
theorem intS_list:intS.toList= [73,110,116]:=by rw [ByteArray.toList_eq];rfl
theorem all_no {p:UInt8->Bool} {l:List UInt8} {k:Nat} (h:k<l.length) (hd:p l[k]=false):l.all p=false:=by
 rw [<- Bool.not_eq_true];intro hh
 have:=List.all_eq_true.1 hh _ (List.getElem_mem h)
 rw [hd] at this;cases this
theorem lettersB_size {f:UInt8->Bool} {s:ByteArray} (h:inB (s.size:Int) 1 8=false):lettersB f s=false:=by
 unfold lettersB inB at*
 have:decide (1<=s.size/\s.size<=8)=false:=by
  simp only [decide_eq_false_iff_not] at h ⊢;omega
 rw [this];rfl
theorem inB_size {s:ByteArray} (h:inB (s.size:Int) 1 8=true):0<s.size/\s.size<=8/\decide (1<=s.size/\s.size<=8)=true:=by
 unfold inB at h
 simp only [decide_eq_true_eq] at h
 exact⟨by omega,by omega,by simp;omega⟩
theorem specName (s:ByteArray) (w:World) (hs:s.size<=9223372036854775807):Calls Tryz.prog 92 #[.string s] w fun e w'=>e= .returned (.bool (nameB s))/\Below w.heap.size w w':=by
 have HSM:=LH (fun(c:UInt8) (v:Bool) (h:smB c=v)=>show Calls Tryz.prog 80 #[.int .u8 c.toNat] w fun e w'=>e= .returned (.bool v)/\w=w' from by rw [<- h];exact specSmall c w)
 have HLG:=LH (fun(c:UInt8) (v:Bool) (h:lgB c=v)=>show Calls Tryz.prog 81 #[.int .u8 c.toNat] w fun e w'=>e= .returned (.bool v)/\w=w' from by rw [<- h];exact specLarge c w)
 have HIN:=LH (fun(v:Bool) (h:inB (s.size:Int) 1 8=v)=>show Calls Tryz.prog 75 #[.int .i64 (s.size:Int),.int .i64 1,.int .i64 8] w fun e w'=>e= .returned (.bool v)/\w=w' from by rw [<- h];exact specIn (s.size:Int) 1 8 w)
 go_enter Tryz.func92,Tryz.ntmps92
 go_wp2_with fail
 go_loop [3] (fun i=>∃ k:Nat,k<=s.size/\i= .int .i64 k/\Hid ((s.data.toList.take k).all ltB=true)) (fun i=>s.size - (intOf i).toNat)
 case atStart=>exact⟨0,by omega,by go_num,LH (by simp)⟩
 case round=>
  obtain⟨k,hk,rfl,HA⟩:=hrel
  by_cases hlt:k<s.size
  ·
   have HSN:=LH (take_snoc_b s k hlt)
   cases hsm:smB s[k]
   case' false=>cases hlg:lgB s[k]
   case false.false=>
    have HNO:=LH (show s.data.toList.all ltB=false by
      have h:=all_no (p:=ltB) (l:=s.data.toList) (k:=k) (by rw [ba_len];exact hlt) (by show ltB s[k]=false;unfold ltB;rw [hsm,hlg];rfl)
      exact h)
    have HV:=LH (show nameB s=false by unfold nameB lettersB;rw [HNO.out];simp)
    have C1:=LH (HSM.out s[k] _ hsm)
    have C2:=LH (HLG.out s[k] _ hlg)
    clear hsm hlg
    go_wp2_with fail
    refine C1.out.mono ?_
    rintro e w1 ⟨rfl,rfl⟩
    go_wp2_with fail
    refine C2.out.mono ?_
    rintro e w1 ⟨rfl,rfl⟩
    go_wp2_with fail
    go_ret
    exact⟨ret_bool HV.out.symm,Below.refl _ _⟩
   case false.true=>
    have HA2:=LH (show(s.data.toList.take (k+1)).all ltB=true by rw [HSN.out,List.all_append,HA.out];simp [ltB,hlg])
    have C1:=LH (HSM.out s[k] _ hsm)
    have C2:=LH (HLG.out s[k] _ hlg)
    clear hsm hlg
    go_wp2_with fail
    refine C1.out.mono ?_
    rintro e w1 ⟨rfl,rfl⟩
    go_wp2_with fail
    refine C2.out.mono ?_
    rintro e w1 ⟨rfl,rfl⟩
    go_wp2_with fail
    go_round
    case rel=>exact⟨k+1,by omega,by go_num,HA2⟩
    case measure=>simp [intOf];omega
   case true=>
    have HA2:=LH (show(s.data.toList.take (k+1)).all ltB=true by rw [HSN.out,List.all_append,HA.out];simp [ltB,hsm])
    have C1:=LH (HSM.out s[k] _ hsm)
    clear hsm
    go_wp2_with fail
    refine C1.out.mono ?_
    rintro e w1 ⟨rfl,rfl⟩
    go_wp2_with fail
    go_round
    case rel=>exact⟨k+1,by omega,by go_num,HA2⟩
    case measure=>simp [intOf];omega
  ·
   have HALL:=LH (show s.data.toList.all ltB=true by
     have h1:=HA.out
     rw [List.take_of_length_le (by rw [ba_len];omega)] at h1
     exact h1)
   cases hin:inB (s.size:Int) 1 8
   ·
    have HV:=LH (show nameB s=false by unfold nameB;rw [lettersB_size hin];rfl)
    have C1:=LH (HIN.out _ hin)
    clear hin
    go_wp2_with fail
    refine C1.out.mono ?_
    rintro e w1 ⟨rfl,rfl⟩
    go_wp2_with fail
    go_ret
    exact⟨ret_bool HV.out.symm,Below.refl _ _⟩
   ·
    obtain⟨h0,h8,hd⟩:=inB_size hin
    have C1:=LH (HIN.out _ hin)
    have HF:=LH (firstB_at (f:=smB) h0)
    have HD:=LH hd
    have h0i:(0:Int)<s.size:=by omega
    clear hin hd
    cases hp:smB s[0]
    ·
     have HV:=LH (show nameB s=false by unfold nameB lettersB;rw [HD.out,HF.out,hp];rfl)
     have C2:=LH (HSM.out s[0] _ hp)
     clear hp
     go_wp2_with fail
     refine C1.out.mono ?_
     rintro e w1 ⟨rfl,rfl⟩
     go_wp2_with fail
     refine C2.out.mono ?_
     rintro e w1 ⟨rfl,rfl⟩
     go_wp2_with fail
     go_ret
     exact⟨ret_bool HV.out.symm,Below.refl _ _⟩
    ·
     have C2:=LH (HSM.out s[0] _ hp)
     have HV:=LH (show nameB s= !inStrs kws s by unfold nameB lettersB;rw [HD.out,HF.out,hp,HALL.out];rfl)
     clear hp
     go_wp2_with fail
     refine C1.out.mono ?_
     rintro e w1 ⟨rfl,rfl⟩
     go_wp2_with fail
     refine C2.out.mono ?_
     rintro e w1 ⟨rfl,rfl⟩
     go_wp2_with fail
     refine(specKeyword s _).mono ?_
     rintro e w2 ⟨rfl,hb⟩
     have HB:=LH hb
     clear hb
     go_wp2_with fail
     go_ret
     exact⟨ret_bool HV.out.symm,HB.out⟩
theorem specCon (s:ByteArray) (w:World) (hs:s.size<=9223372036854775807):Calls Tryz.prog 74 #[.string s] w fun e w'=>e= .returned (.bool (conB s))/\w=w':=by
 have HSM:=LH (fun(c:UInt8) (v:Bool) (h:smB c=v)=>show Calls Tryz.prog 80 #[.int .u8 c.toNat] w fun e w'=>e= .returned (.bool v)/\w=w' from by rw [<- h];exact specSmall c w)
 have HLG:=LH (fun(c:UInt8) (v:Bool) (h:lgB c=v)=>show Calls Tryz.prog 81 #[.int .u8 c.toNat] w fun e w'=>e= .returned (.bool v)/\w=w' from by rw [<- h];exact specLarge c w)
 have HIN:=LH (fun(v:Bool) (h:inB (s.size:Int) 1 8=v)=>show Calls Tryz.prog 75 #[.int .i64 (s.size:Int),.int .i64 1,.int .i64 8] w fun e w'=>e= .returned (.bool v)/\w=w' from by rw [<- h];exact specIn (s.size:Int) 1 8 w)
 go_enter Tryz.func74,Tryz.ntmps74
 go_wp2_with fail
 go_loop [3] (fun i=>∃ k:Nat,k<=s.size/\i= .int .i64 k/\Hid ((s.data.toList.take k).all ltB=true)) (fun i=>s.size - (intOf i).toNat)
 case atStart=>exact⟨0,by omega,by go_num,LH (by simp)⟩
 case round=>
  obtain⟨k,hk,rfl,HA⟩:=hrel
  by_cases hlt:k<s.size
  ·
   have HSN:=LH (take_snoc_b s k hlt)
   cases hsm:smB s[k]
   case' false=>cases hlg:lgB s[k]
   case false.false=>
    have HNO:=LH (show s.data.toList.all ltB=false by
      have h:=all_no (p:=ltB) (l:=s.data.toList) (k:=k) (by rw [ba_len];exact hlt) (by show ltB s[k]=false;unfold ltB;rw [hsm,hlg];rfl)
      exact h)
    have HV:=LH (show conB s=false by unfold conB lettersB;rw [HNO.out];simp)
    have C1:=LH (HSM.out s[k] _ hsm)
    have C2:=LH (HLG.out s[k] _ hlg)
    clear hsm hlg
    go_wp2_with fail
    refine C1.out.mono ?_
    rintro e w1 ⟨rfl,rfl⟩
    go_wp2_with fail
    refine C2.out.mono ?_
    rintro e w1 ⟨rfl,rfl⟩
    go_wp2_with fail
    go_ret
    exact⟨ret_bool HV.out.symm,rfl⟩
   case false.true=>
    have HA2:=LH (show(s.data.toList.take (k+1)).all ltB=true by rw [HSN.out,List.all_append,HA.out];simp [ltB,hlg])
    have C1:=LH (HSM.out s[k] _ hsm)
    have C2:=LH (HLG.out s[k] _ hlg)
    clear hsm hlg
    go_wp2_with fail
    refine C1.out.mono ?_
    rintro e w1 ⟨rfl,rfl⟩
    go_wp2_with fail
    refine C2.out.mono ?_
    rintro e w1 ⟨rfl,rfl⟩
    go_wp2_with fail
    go_round
    case rel=>exact⟨k+1,by omega,by go_num,HA2⟩
    case measure=>simp [intOf];omega
   case true=>
    have HA2:=LH (show(s.data.toList.take (k+1)).all ltB=true by rw [HSN.out,List.all_append,HA.out];simp [ltB,hsm])
    have C1:=LH (HSM.out s[k] _ hsm)
    clear hsm
    go_wp2_with fail
    refine C1.out.mono ?_
    rintro e w1 ⟨rfl,rfl⟩
    go_wp2_with fail
    go_round
    case rel=>exact⟨k+1,by omega,by go_num,HA2⟩
    case measure=>simp [intOf];omega
  ·
   have HALL:=LH (show s.data.toList.all ltB=true by
     have h1:=HA.out
     rw [List.take_of_length_le (by rw [ba_len];omega)] at h1
     exact h1)
   cases hin:inB (s.size:Int) 1 8
   ·
    have HV:=LH (show conB s=false by unfold conB;rw [lettersB_size hin];rfl)
    have C1:=LH (HIN.out _ hin)
    clear hin
    go_wp2_with fail
    refine C1.out.mono ?_
    rintro e w1 ⟨rfl,rfl⟩
    go_wp2_with fail
    go_ret
    exact⟨ret_bool HV.out.symm,rfl⟩
   ·
    obtain⟨h0,h8,hd⟩:=inB_size hin
    have C1:=LH (HIN.out _ hin)
    have HF:=LH (firstB_at (f:=lgB) h0)
    have HD:=LH hd
    have h0i:(0:Int)<s.size:=by omega
    clear hin hd
    cases hp:lgB s[0]
    ·
     have HV:=LH (show conB s=false by unfold conB lettersB;rw [HD.out,HF.out,hp];rfl)
     have C2:=LH (HLG.out s[0] _ hp)
     clear hp
     go_wp2_with fail
     refine C1.out.mono ?_
     rintro e w1 ⟨rfl,rfl⟩
     go_wp2_with fail
     refine C2.out.mono ?_
     rintro e w1 ⟨rfl,rfl⟩
     go_wp2_with fail
     go_ret
     exact⟨ret_bool HV.out.symm,rfl⟩
    ·
     have C2:=LH (HLG.out s[0] _ hp)
     have HV:=LH (show conB s= !(s.toList ==intS.toList) by unfold conB lettersB;rw [HD.out,HF.out,hp,HALL.out];rfl)
     clear hp
     go_wp2_with fail
     refine C1.out.mono ?_
     rintro e w1 ⟨rfl,rfl⟩
     go_wp2_with fail
     refine C2.out.mono ?_
     rintro e w1 ⟨rfl,rfl⟩
     go_wp2_with fail
     go_ret
     exact⟨ret_bool (by rw [HV.out,intS_list]),rfl⟩
end Go.Proofs.YtgbjdhfaklmjcaaGreat
namespace Go.Proofs.YtgbjdhfaklmjcaaGreat
set_option maxRecDepth 20000
set_option linter.unusedVariables false
set_option linter.unusedSimpArgs false
def idxI {α:Type} (p:α->Bool):List α->Int
 | []=> -1
 | x::r=>if p x then 0 else if idxI p r<0 then -1 else idxI p r+1
def noneTo {α:Type} (p:α->Bool) (l:List α) (j:Nat):Prop:=∀ i (h:i<l.length),i<j->p l[i]=false
theorem noneTo_zero {α:Type} (p:α->Bool) (l:List α):noneTo p l 0:=fun i _ h=>by omega
theorem noneTo_succ {α:Type} {p:α->Bool} {l:List α} {j:Nat} (h:noneTo p l j) (hj:j<l.length) (he:p l[j]=false):noneTo p l (j+1):=fun i hi hij=>by
 rcases Nat.lt_or_ge i j with h1 | h1
 · exact h i hi h1
 · obtain rfl:i=j:=by omega
   exact he
theorem noneTo_tail {α:Type} {p:α->Bool} {x:α} {r:List α} {j:Nat} (h:noneTo p (x::r) (j+1)):noneTo p r j:=fun i hi hij=>by
 have:=h (i+1) (by simpa using hi) (by omega)
 simpa using this
theorem idxI_none {α:Type} {p:α->Bool}:∀ {l:List α},noneTo p l l.length->idxI p l= -1
 | [],_=>rfl
 | x::r,h=>by
  have h0:=h 0 (by simp) (by simp)
  simp only [List.getElem_cons_zero] at h0
  have h1:=idxI_none (p:=p) (l:=r) (noneTo_tail (j:=r.length) (by simpa using h))
  simp [idxI,h0,h1]
theorem idxI_at {α:Type} {p:α->Bool}:∀ {l:List α} {j:Nat},noneTo p l j->(hj:j<l.length)->p l[j]=true->idxI p l=j
 | [],_,_,hj,_=>by simp at hj
 | x::r,0,_,_,he=>by simp only [List.getElem_cons_zero] at he;simp [idxI,he]
 | x::r,j+1,h,hj,he=>by
  have h0:=h 0 (by simp) (by omega)
  simp only [List.getElem_cons_zero] at h0
  have h1:=idxI_at (p:=p) (l:=r) (j:=j) (noneTo_tail h) (by simpa using hj) (by simpa using he)
  simp only [idxI,h0,h1]
  have:¬ ((j:Int)<0):=by omega
  simp [this]
theorem idxI_any_false {α:Type} {p:α->Bool}:∀ {l:List α},l.any p=false->idxI p l= -1
 | [],_=>rfl
 | x::r,h=>by
  simp only [List.any_cons,Bool.or_eq_false_iff] at h
  simp [idxI,h.1,idxI_any_false h.2]
theorem idxI_any_true {α:Type} {p:α->Bool}:∀ {l:List α},l.any p=true->0<=idxI p l
 | [],h=>by simp at h
 | x::r,h=>by
  simp only [List.any_cons,Bool.or_eq_true] at h
  unfold idxI
  split
  · omega
  · rename_i hx
    rcases h with h | h
    · exact absurd h hx
    · have:=idxI_any_true h
      split<;>omega
theorem idxI_spec {α:Type} {p:α->Bool}:∀ {l:List α},0<=idxI p l->∃ j,∃ h:j<l.length,idxI p l=j/\p l[j]=true/\noneTo p l j
 | [],h=>by simp [idxI] at h
 | x::r,h=>by
  unfold idxI at h ⊢
  by_cases hx:p x=true
  · rw [if_pos hx] at h ⊢
    exact⟨0,by simp,rfl,by simpa using hx,fun i _ h=>by omega⟩
  ·
   rw [if_neg hx] at h ⊢
   by_cases hr:idxI p r<0
   · rw [if_pos hr] at h;omega
   · rw [if_neg hr] at h ⊢
     obtain⟨j,hj,e,hp,hn⟩:=idxI_spec (p:=p) (l:=r) (by omega)
     refine⟨j+1,by simpa using hj,by rw [e];simp,by simpa using hp,fun i hi hij=>?_⟩
     match i with
     | 0=>simpa using hx
     | i+1=>have:=hn i (by simpa using hi) (by omega);simpa using this
end Go.Proofs.YtgbjdhfaklmjcaaGreat
namespace Go.Proofs.YtgbjdhfaklmjcaaGreat
set_option maxRecDepth 20000
set_option linter.unusedVariables false
set_option linter.unusedSimpArgs false
open Go.RowKit
set_option maxHeartbeats 400000
end Go.Proofs.YtgbjdhfaklmjcaaGreat
