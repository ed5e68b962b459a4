/- Texts of the claim LTags in one: PaH PaI PaQ Digits. Conditions: none but bounds on sizes. -/
import Derived.Test.YtgbjdhfaklmjcaaGreatZLTags3
import Derived.Test.YtgbjdhfaklmjcaaGreatRows
import Derived.Test.YtgbjdhfaklmjcaaGreatZLTags0
import Derived.Lib.Hide
import Derived.Test.YtgbjdhfaklmjcaaGreatZLTags1
namespace Go.Proofs.YtgbjdhfaklmjcaaGreat
set_option maxRecDepth 20000
set_option linter.unusedVariables false
set_option linter.unusedSimpArgs false
open Go.RowKit
set_option maxHeartbeats 2000000
theorem l3Sum (k:Nat) (hA:∀ j,j<=k->Ok1 102 pProduct j):Ok1 90 pSum (k+1):=by
 intro ts g L cl V cv st w h n st' hp
 simp [pSum,Option.bind_eq_some_iff] at hp
 obtain⟨n0,s0,hp0,hp1⟩:=hp
 have HA:=LH hA
 have HL:=LH hp1
 clear hA hp1
 have HC:=LH h
 have M0:=LH h.mv
 have hgl:=h.row.lt
 clear h
 go_enter Tryz.func90,Tryz.ntmps90
 go_wp2_with fail
 obtain⟨w1,e1,Rr1,hz1,K1⟩:=boxed w 45 #[.int .i64 0,.int .i64 0,.string ⟨#[]⟩,.string ⟨#[]⟩,.slice none 0 0]
 have M1:=LH (M0.out.chg K1.out (by omega) (by omega))
 rw [<- e1]
 clear e1
 have hlu1:=M1.out.row.lt
 have hcr1:=fun i=>Rr1.out.cell i
 have hlr1:=Rr1.out.lt
 refine(HA.out k (Nat.le_refl _) ts g L cl V cv st w1 (M1.out.cur HC.out) n0 s0 hp0).mono ?_
 clear hlu1 hcr1 hlr1
 rintro e w2 ⟨A0,c0,rfl,ha2,hm2⟩
 have hz2:=hm2.size
 have K2:=LH hm2.bx
 have DN2:=LH ha2
 have Rr2:=LH (K2.out.row Rr1.out (by omega))
 have M2:=LH (M1.out.trans hm2)
 clear Rr1 M1
 clear hm2 ha2
 have hlu2:=M2.out.row.lt
 have hcr2:=fun i=>Rr2.out.cell i
 have hlr2:=Rr2.out.lt
 clear hp0
 go_wp2_with fail
 clear hlu2 hcr2 hlr2
 obtain⟨w3,e3,Ra3,hz3,K3⟩:=boxed w2 45 #[.int .i64 n0.op,.int .i64 n0.n,.string n0.s,.string n0.t,.slice A0 n0.kids.length c0]
 have Rr3:=LH (K3.out.row Rr2.out (by omega))
 have D03:=LH (DN2.out.keep fun b hb=>K3.out.kq hb (by have h1:=hb.1;have h2:=hb.2;omega))
 have M3:=LH (M2.out.chg K3.out (by omega) (by omega))
 clear Rr2 DN2 M2
 rw [<- e3]
 clear e3
 have hlu3:=M3.out.row.lt
 have hcr3:=fun i=>Rr3.out.cell i
 have hlr3:=Rr3.out.lt
 have hca3:=fun i=>Ra3.out.cell i
 have hla3:=Ra3.out.lt
 clear hlu3 hcr3 hlr3 hca3 hla3
 have hINV:∃ I:Nat->World->Prop,I=fun j wr=>∃ (x:GNode) (s:PSt) (A:Option Addr) (c:Nat),pAdds ts j s x=some (n,st')/\j<=k/\Row wr w2.heap.size 45 #[.int .i64 x.op,.int .i64 x.n,.string x.s,.string x.t,.slice A x.kids.length c]/\Row wr w.heap.size 45 #[.int .i64 0,.int .i64 0,.string ⟨#[]⟩,.string ⟨#[]⟩,.slice none 0 0]/\GNode.At wr (fun b=>b<wr.heap.size/\w.heap.size<=b/\b≠w2.heap.size/\b≠w.heap.size) A c x/\Mv ts g L cl V cv st.vars s w wr/\w2.heap.size<wr.heap.size:=⟨_,rfl⟩
 obtain⟨I,hI⟩:=hINV
 have HI:=LH hI
 have I0:I k w3:=by
  rw [hI]
  exact⟨n0,s0,A0,c0,HL.out,Nat.le_refl _,Ra3.out,Rr3.out,D03.out.keep fun b hb=>⟨⟨by have h1:=hb.1;have h2:=hb.2;omega,by have h1:=hb.1;have h2:=hb.2;omega⟩,rfl⟩,M3.out,Ra3.out.lt⟩
 have hnw:w.heap.size<w2.heap.size:=by omega
 have hzw:w.heap.size<=w3.heap.size:=M3.out.size
 go_loopw [5] (fun v wr=>∃ j,I j wr) (fun _ wr=>leastK (fun j=>I j wr))
 case atStart=>exact⟨k,I0⟩
 case round=>
  have hex:=hrel
  have hleast:=leastK_spec (I:=fun j=>I j wr) hex
  obtain⟨j,hj⟩:∃ j,leastK (fun j=>I j wr)=j:=⟨_,rfl⟩
  rw [hj] at hleast
  have HJ:=LH hj
  clear hj hex hrel I0
  rw [hI] at hleast
  obtain⟨x,s,A,c,hx,hjk,ra,rr,da,hm,hnl⟩:=hleast
  clear Ra3 Rr3 D03 M3 hI
  have RA0:=LH ra
  have RR0:=LH rr
  have DA0:=LH da
  have MR0:=LH hm
  have hzr:=hm.size
  clear ra rr da hm
  have hlu3:=MR0.out.row.lt
  have hcr3:=fun i=>RR0.out.cell i
  have hlr3:=RR0.out.lt
  have hca3:=fun i=>RA0.out.cell i
  have hla3:=RA0.out.lt
  cases j with
  | zero=>simp [pAdds] at hx
  | succ j=>
   go_wp2_with fail
   refine(l3Sign ts g L cl V cv s wr (MR0.out.cur HC.out) ⟨#[43]⟩).mono ?_
   clear hlu3 hcr3 hlr3 hca3 hla3
   rintro e w4 ⟨rfl,hb4⟩
   have hz4:=hb4.size
   have K4:=LH (Bx.of_below (g:=g) hb4 (Nat.le_refl _))
   have Rr4:=LH (K4.out.row RR0.out (by omega))
   have Ra4:=LH (K4.out.row RA0.out (by omega))
   have Da4:=LH (DA0.out.keep fun b hb=>K4.out.kq hb (by have h1:=hb.1;have h2:=hb.2;omega))
   have M4:=LH (MR0.out.below hb4)
   clear RR0 RA0 DA0 MR0
   clear hb4
   have hlu4:=M4.out.row.lt
   have hcr4:=fun i=>Rr4.out.cell i
   have hlr4:=Rr4.out.lt
   have hca4:=fun i=>Ra4.out.cell i
   have hla4:=Ra4.out.lt
   cases hs:pSign ts [43] s
   ·
    go_wp2_with fail
    refine(l3Sign ts g L cl V cv s w4 (M4.out.cur HC.out) ⟨#[45]⟩).mono ?_
    clear hlu4 hcr4 hlr4 hca4 hla4
    rintro e w5 ⟨rfl,hb5⟩
    have hz5:=hb5.size
    have K5:=LH (Bx.of_below (g:=g) hb5 (Nat.le_refl _))
    have Rr5:=LH (K5.out.row Rr4.out (by omega))
    have Ra5:=LH (K5.out.row Ra4.out (by omega))
    have Da5:=LH (Da4.out.keep fun b hb=>K5.out.kq hb (by have h1:=hb.1;have h2:=hb.2;omega))
    have M5:=LH (M4.out.below hb5)
    clear Rr4 Ra4 Da4 M4
    clear hb5
    have hlu5:=M5.out.row.lt
    have hcr5:=fun i=>Rr5.out.cell i
    have hfr5:=fun i=>Rr5.out.frozen i
    have hlr5:=Rr5.out.lt
    have hca5:=fun i=>Ra5.out.cell i
    have hla5:=Ra5.out.lt
    cases hs2:pSign ts [45] s
    ·
     simp [pAdds,hs,hs2,Option.bind_eq_some_iff] at hx
     obtain⟨rfl,rfl⟩:=hx
     go_wp2_with fail
     clear hlu5 hcr5 hfr5 hlr5 hca5 hla5
     obtain⟨w6,e6,RN6,hz6,K6⟩:=stored5 Rr5.out (.int .i64 x.op) (.int .i64 x.n) (.string x.s) (.string x.t) (.slice A x.kids.length c)
     have Ra6:=LH (K6.out.row Ra5.out (by omega))
     have Da6:=LH (Da5.out.keep fun b hb=>K6.out.kq hb (by have h1:=hb.1;have h2:=hb.2;omega))
     have M6:=LH (M5.out.chg K6.out (by omega) (by omega))
     clear Ra5 Da5 M5
     clear Rr5
     rw [<- e6]
     clear e6
     have hlu6:=M6.out.row.lt
     have hca6:=fun i=>Ra6.out.cell i
     have hla6:=Ra6.out.lt
     have hcr6:=fun i=>RN6.out.cell i
     have hlr6:=RN6.out.lt
     refine bodyPost_ret (v:=.agg #[.int .i64 x.op,.int .i64 x.n,.string x.s,.string x.t,.slice A x.kids.length c]) (by simp [results,Tryz.results90,go_sem,hcr6]) rfl ?_
     exact⟨A,c,rfl,Da6.out.keep fun b hb=>⟨⟨by have h1:=hb.1;have h2:=hb.2;omega,by have h1:=hb.1;have h2:=hb.2;omega⟩,rfl⟩,M6.out⟩
    ·
     go_wp2_with fail
     refine(l3Sign ts g L cl V cv s w5 (M5.out.cur HC.out) ⟨#[45]⟩).mono ?_
     clear hlu5 hcr5 hfr5 hlr5 hca5 hla5
     rintro e w6 ⟨rfl,hb6⟩
     have hz6:=hb6.size
     have K6:=LH (Bx.of_below (g:=g) hb6 (Nat.le_refl _))
     have Rr6:=LH (K6.out.row Rr5.out (by omega))
     have Ra6:=LH (K6.out.row Ra5.out (by omega))
     have Da6:=LH (Da5.out.keep fun b hb=>K6.out.kq hb (by have h1:=hb.1;have h2:=hb.2;omega))
     have M6:=LH (M5.out.below hb6)
     clear Rr5 Ra5 Da5 M5
     clear hb6
     have hlu6:=M6.out.row.lt
     have hcr6:=fun i=>Rr6.out.cell i
     have hlr6:=Rr6.out.lt
     have hca6:=fun i=>Ra6.out.cell i
     have hla6:=Ra6.out.lt
     rw [hs2]
     simp [pAdds,hs,hs2,Option.bind_eq_some_iff] at hx
     obtain⟨n1,s1,hq,hr⟩:=hx
     have HR:=LH hr
     clear hr
     go_wp2_with fail
     refine(l3Next ts g L cl V cv s w6 (M6.out.cur HC.out)).mono ?_
     clear hlu6 hcr6 hlr6 hca6 hla6
     rintro e w7 ⟨rfl,hm7⟩
     replace hm7:Mv ts g L cl V cv s.vars (pNext ts s) w6 w7:=hm7
     have hz7:=hm7.size
     have K7:=LH hm7.bx
     have Rr7:=LH (K7.out.row Rr6.out (by omega))
     have Ra7:=LH (K7.out.row Ra6.out (by omega))
     have Da7:=LH (Da6.out.keep fun b hb=>K7.out.kq hb (by have h1:=hb.1;have h2:=hb.2;omega))
     have M7:=LH (M6.out.trans hm7)
     clear Rr6 Ra6 Da6 M6
     clear hm7
     have hlu7:=M7.out.row.lt
     have hcr7:=fun i=>Rr7.out.cell i
     have hlr7:=Rr7.out.lt
     have hca7:=fun i=>Ra7.out.cell i
     have hla7:=Ra7.out.lt
     go_wp2_with fail
     refine(HA.out j (by omega) ts g L cl V cv (pNext ts s) w7 (M7.out.cur HC.out) n1 s1 hq).mono ?_
     clear hlu7 hcr7 hlr7 hca7 hla7
     rintro e w8 ⟨A1,c1,rfl,ha8,hm8⟩
     have hz8:=hm8.size
     have K8:=LH hm8.bx
     have DN8:=LH ha8
     have Rr8:=LH (K8.out.row Rr7.out (by omega))
     have Ra8:=LH (K8.out.row Ra7.out (by omega))
     have Da8:=LH (Da7.out.keep fun b hb=>K8.out.kq hb (by have h1:=hb.1;have h2:=hb.2;omega))
     have M8:=LH (M7.out.trans hm8)
     clear Rr7 Ra7 Da7 M7
     clear hm8 ha8
     have hlu8:=M8.out.row.lt
     have hcr8:=fun i=>Rr8.out.cell i
     have hlr8:=Rr8.out.lt
     have hca8:=fun i=>Ra8.out.cell i
     have hla8:=Ra8.out.lt
     clear hq
     go_wp2_with fail
     clear hlu8 hcr8 hlr8 hca8 hla8
     obtain⟨w9,e9,Rb9,hz9,K9⟩:=boxed w8 45 #[.int .i64 n1.op,.int .i64 n1.n,.string n1.s,.string n1.t,.slice A1 n1.kids.length c1]
     have Rr9:=LH (K9.out.row Rr8.out (by omega))
     have Ra9:=LH (K9.out.row Ra8.out (by omega))
     have Da9:=LH (Da8.out.keep fun b hb=>K9.out.kq hb (by have h1:=hb.1;have h2:=hb.2;omega))
     have D19:=LH (DN8.out.keep fun b hb=>K9.out.kq hb (by have h1:=hb.1;have h2:=hb.2;omega))
     have M9:=LH (M8.out.chg K9.out (by omega) (by omega))
     clear Rr8 Ra8 Da8 DN8 M8
     obtain⟨w10,e10,Rrow10,hz10,K10⟩:=boxed w9 45 #[.int .i64 x.op,.int .i64 x.n,.string x.s,.string x.t,.slice A x.kids.length c,.int .i64 n1.op,.int .i64 n1.n,.string n1.s,.string n1.t,.slice A1 n1.kids.length c1]
     have hy10:w9.heap.size=(w8.heap.size+1):=by omega
     rw [hy10] at Rrow10 K10
     have Rr10:=LH (K10.out.row Rr9.out (by omega))
     have Ra10:=LH (K10.out.row Ra9.out (by omega))
     have Rb10:=LH (K10.out.row Rb9.out (by omega))
     have Da10:=LH (Da9.out.keep fun b hb=>K10.out.kq hb (by have h1:=hb.1;have h2:=hb.2;omega))
     have D110:=LH (D19.out.keep fun b hb=>K10.out.kq hb (by have h1:=hb.1;have h2:=hb.2;omega))
     have M10:=LH (M9.out.chg K10.out (by omega) (by omega))
     clear Rr9 Ra9 Rb9 Da9 D19 M9
     have SL10:=LH (show Sl w10 (fun b=>b<w10.heap.size/\w.heap.size<=b/\b≠w2.heap.size/\b≠w.heap.size) 5 (some ⟨(w8.heap.size+1),0,none⟩) 2 ([x,n1].map GNode.toD) from Sl.ofRow Rrow10.out (rdC_cons (GNode.rd_mk (Da10.out.keep (w':=w10) (S':=fun b=>b<w10.heap.size/\w.heap.size<=b/\b≠w2.heap.size/\b≠w.heap.size) fun b hb=>⟨⟨by have h1:=hb.1;have h2:=hb.2;omega,by have h1:=hb.1;have h2:=hb.2;omega⟩,rfl⟩)) rfl (rdC_one1 (GNode.rd_mk (D110.out.keep (w':=w10) (S':=fun b=>b<w10.heap.size/\w.heap.size<=b/\b≠w2.heap.size/\b≠w.heap.size) fun b hb=>⟨⟨by have h1:=hb.1;have h2:=hb.2;omega,by have h1:=hb.1;have h2:=hb.2;omega⟩,rfl⟩)) rfl)) ⟨by omega,by omega⟩ (by simp) (by unfold maxLen;omega))
     rw [<- e9,<- e10]
     clear e9 e10
     have hlu10:=M10.out.row.lt
     have hcr10:=fun i=>Rr10.out.cell i
     have hlr10:=Rr10.out.lt
     have hca10:=fun i=>Ra10.out.cell i
     have hfa10:=fun i=>Ra10.out.frozen i
     have hla10:=Ra10.out.lt
     have hcb10:=fun i=>Rb10.out.cell i
     have hlb10:=Rb10.out.lt
     have hcrow10:=fun i=>Rrow10.out.cell i
     have hlrow10:=Rrow10.out.lt
     refine(l3Node (fun b=>w.heap.size<=b/\b≠w2.heap.size/\b≠w.heap.size) (11) [x,n1] (some ⟨(w8.heap.size+1),0,none⟩) 2 w10 SL10.out (by simp)).mono ?_
     clear hlu10 hcr10 hlr10 hca10 hfa10 hla10 hcb10 hlb10 hcrow10 hlrow10
     rintro e w11 ⟨A2,c2,rfl,hG11,hb11⟩
     have hz11:=hb11.size
     have K11:=LH (Bx.of_below (g:=g) hb11 (Nat.le_refl _))
     have GN11:=LH hG11
     have Rr11:=LH (K11.out.row Rr10.out (by omega))
     have Ra11:=LH (K11.out.row Ra10.out (by omega))
     have Rb11:=LH (K11.out.row Rb10.out (by omega))
     have Rrow11:=LH (K11.out.row Rrow10.out (by omega))
     have Da11:=LH (Da10.out.keep fun b hb=>K11.out.kq hb (by have h1:=hb.1;have h2:=hb.2;omega))
     have D111:=LH (D110.out.keep fun b hb=>K11.out.kq hb (by have h1:=hb.1;have h2:=hb.2;omega))
     have M11:=LH (M10.out.below hb11)
     clear Rr10 Ra10 Rb10 Rrow10 Da10 D110 M10
     clear hb11 hG11
     have hlu11:=M11.out.row.lt
     have hcr11:=fun i=>Rr11.out.cell i
     have hlr11:=Rr11.out.lt
     have hca11:=fun i=>Ra11.out.cell i
     have hfa11:=fun i=>Ra11.out.frozen i
     have hla11:=Ra11.out.lt
     have hcb11:=fun i=>Rb11.out.cell i
     have hlb11:=Rb11.out.lt
     have hcrow11:=fun i=>Rrow11.out.cell i
     have hlrow11:=Rrow11.out.lt
     have DD:=LH (ndOf (op:=11) GN11.out (fun b h=>by omega) (by decide))
     go_wp2_with fail
     clear hlu11 hcr11 hlr11 hca11 hla11 hcb11 hlb11 hcrow11 hlrow11
     obtain⟨w12,e12,RN12,hz12,K12⟩:=stored5 Ra11.out (.int .i64 11) (.int .i64 0) (.string ⟨#[]⟩) (.string ⟨#[]⟩) (.slice A2 2 c2)
     have Rr12:=LH (K12.out.row Rr11.out (by omega))
     have Rb12:=LH (K12.out.row Rb11.out (by omega))
     have D212:=LH (DD.out.keep fun b hb=>K12.out.kq hb (by have h1:=hb.1;have h2:=hb.2;omega))
     have M12:=LH (M11.out.chg K12.out (by omega) (by omega))
     clear Rr11 Rb11 DD M11
     clear Ra11
     rw [<- e12]
     clear e12
     have hlu12:=M12.out.row.lt
     have hcr12:=fun i=>Rr12.out.cell i
     have hlr12:=Rr12.out.lt
     have hcb12:=fun i=>Rb12.out.cell i
     have hlb12:=Rb12.out.lt
     have hca12:=fun i=>RN12.out.cell i
     have hla12:=RN12.out.lt
     have HN:I j w12:=by
      rw [HI.out]
      exact⟨nd (11) [x,n1],s1,A2,c2,HR.out,by omega,RN12.out,Rr12.out,D212.out.keep fun b hb=>⟨⟨by have h1:=hb.1;have h2:=hb.2;omega,hb.2⟩,rfl⟩,M12.out,RN12.out.lt⟩
     go_roundw
     case rel=>exact⟨j,HN⟩
     case measure=>rw [HJ.out];exact Nat.lt_succ_of_le (leastK_le (I:=fun j=>I j w12) HN)
   ·
    go_wp2_with fail
    refine(l3Sign ts g L cl V cv s w4 (M4.out.cur HC.out) ⟨#[45]⟩).mono ?_
    clear hlu4 hcr4 hlr4 hca4 hla4
    rintro e w5 ⟨rfl,hb5⟩
    have hz5:=hb5.size
    have K5:=LH (Bx.of_below (g:=g) hb5 (Nat.le_refl _))
    have Rr5:=LH (K5.out.row Rr4.out (by omega))
    have Ra5:=LH (K5.out.row Ra4.out (by omega))
    have Da5:=LH (Da4.out.keep fun b hb=>K5.out.kq hb (by have h1:=hb.1;have h2:=hb.2;omega))
    have M5:=LH (M4.out.below hb5)
    clear Rr4 Ra4 Da4 M4
    clear hb5
    have hlu5:=M5.out.row.lt
    have hcr5:=fun i=>Rr5.out.cell i
    have hfr5:=fun i=>Rr5.out.frozen i
    have hlr5:=Rr5.out.lt
    have hca5:=fun i=>Ra5.out.cell i
    have hla5:=Ra5.out.lt
    cases hs2:pSign ts [45] s
    ·
     simp [pAdds,hs,hs2,Option.bind_eq_some_iff] at hx
     obtain⟨n1,s1,hq,hr⟩:=hx
     have HR:=LH hr
     clear hr
     go_wp2_with fail
     refine(l3Next ts g L cl V cv s w5 (M5.out.cur HC.out)).mono ?_
     clear hlu5 hcr5 hfr5 hlr5 hca5 hla5
     rintro e w6 ⟨rfl,hm6⟩
     replace hm6:Mv ts g L cl V cv s.vars (pNext ts s) w5 w6:=hm6
     have hz6:=hm6.size
     have K6:=LH hm6.bx
     have Rr6:=LH (K6.out.row Rr5.out (by omega))
     have Ra6:=LH (K6.out.row Ra5.out (by omega))
     have Da6:=LH (Da5.out.keep fun b hb=>K6.out.kq hb (by have h1:=hb.1;have h2:=hb.2;omega))
     have M6:=LH (M5.out.trans hm6)
     clear Rr5 Ra5 Da5 M5
     clear hm6
     have hlu6:=M6.out.row.lt
     have hcr6:=fun i=>Rr6.out.cell i
     have hlr6:=Rr6.out.lt
     have hca6:=fun i=>Ra6.out.cell i
     have hla6:=Ra6.out.lt
     go_wp2_with fail
     refine(HA.out j (by omega) ts g L cl V cv (pNext ts s) w6 (M6.out.cur HC.out) n1 s1 hq).mono ?_
     clear hlu6 hcr6 hlr6 hca6 hla6
     rintro e w7 ⟨A1,c1,rfl,ha7,hm7⟩
     have hz7:=hm7.size
     have K7:=LH hm7.bx
     have DN7:=LH ha7
     have Rr7:=LH (K7.out.row Rr6.out (by omega))
     have Ra7:=LH (K7.out.row Ra6.out (by omega))
     have Da7:=LH (Da6.out.keep fun b hb=>K7.out.kq hb (by have h1:=hb.1;have h2:=hb.2;omega))
     have M7:=LH (M6.out.trans hm7)
     clear Rr6 Ra6 Da6 M6
     clear hm7 ha7
     have hlu7:=M7.out.row.lt
     have hcr7:=fun i=>Rr7.out.cell i
     have hlr7:=Rr7.out.lt
     have hca7:=fun i=>Ra7.out.cell i
     have hla7:=Ra7.out.lt
     clear hq
     go_wp2_with fail
     clear hlu7 hcr7 hlr7 hca7 hla7
     obtain⟨w8,e8,Rb8,hz8,K8⟩:=boxed w7 45 #[.int .i64 n1.op,.int .i64 n1.n,.string n1.s,.string n1.t,.slice A1 n1.kids.length c1]
     have Rr8:=LH (K8.out.row Rr7.out (by omega))
     have Ra8:=LH (K8.out.row Ra7.out (by omega))
     have Da8:=LH (Da7.out.keep fun b hb=>K8.out.kq hb (by have h1:=hb.1;have h2:=hb.2;omega))
     have D18:=LH (DN7.out.keep fun b hb=>K8.out.kq hb (by have h1:=hb.1;have h2:=hb.2;omega))
     have M8:=LH (M7.out.chg K8.out (by omega) (by omega))
     clear Rr7 Ra7 Da7 DN7 M7
     obtain⟨w9,e9,Rrow9,hz9,K9⟩:=boxed w8 45 #[.int .i64 x.op,.int .i64 x.n,.string x.s,.string x.t,.slice A x.kids.length c,.int .i64 n1.op,.int .i64 n1.n,.string n1.s,.string n1.t,.slice A1 n1.kids.length c1]
     have hy9:w8.heap.size=(w7.heap.size+1):=by omega
     rw [hy9] at Rrow9 K9
     have Rr9:=LH (K9.out.row Rr8.out (by omega))
     have Ra9:=LH (K9.out.row Ra8.out (by omega))
     have Rb9:=LH (K9.out.row Rb8.out (by omega))
     have Da9:=LH (Da8.out.keep fun b hb=>K9.out.kq hb (by have h1:=hb.1;have h2:=hb.2;omega))
     have D19:=LH (D18.out.keep fun b hb=>K9.out.kq hb (by have h1:=hb.1;have h2:=hb.2;omega))
     have M9:=LH (M8.out.chg K9.out (by omega) (by omega))
     clear Rr8 Ra8 Rb8 Da8 D18 M8
     have SL9:=LH (show Sl w9 (fun b=>b<w9.heap.size/\w.heap.size<=b/\b≠w2.heap.size/\b≠w.heap.size) 5 (some ⟨(w7.heap.size+1),0,none⟩) 2 ([x,n1].map GNode.toD) from Sl.ofRow Rrow9.out (rdC_cons (GNode.rd_mk (Da9.out.keep (w':=w9) (S':=fun b=>b<w9.heap.size/\w.heap.size<=b/\b≠w2.heap.size/\b≠w.heap.size) fun b hb=>⟨⟨by have h1:=hb.1;have h2:=hb.2;omega,by have h1:=hb.1;have h2:=hb.2;omega⟩,rfl⟩)) rfl (rdC_one1 (GNode.rd_mk (D19.out.keep (w':=w9) (S':=fun b=>b<w9.heap.size/\w.heap.size<=b/\b≠w2.heap.size/\b≠w.heap.size) fun b hb=>⟨⟨by have h1:=hb.1;have h2:=hb.2;omega,by have h1:=hb.1;have h2:=hb.2;omega⟩,rfl⟩)) rfl)) ⟨by omega,by omega⟩ (by simp) (by unfold maxLen;omega))
     rw [<- e8,<- e9]
     clear e8 e9
     have hlu9:=M9.out.row.lt
     have hcr9:=fun i=>Rr9.out.cell i
     have hlr9:=Rr9.out.lt
     have hca9:=fun i=>Ra9.out.cell i
     have hla9:=Ra9.out.lt
     have hcb9:=fun i=>Rb9.out.cell i
     have hlb9:=Rb9.out.lt
     have hcrow9:=fun i=>Rrow9.out.cell i
     have hlrow9:=Rrow9.out.lt
     refine(l3Node (fun b=>w.heap.size<=b/\b≠w2.heap.size/\b≠w.heap.size) (10) [x,n1] (some ⟨(w7.heap.size+1),0,none⟩) 2 w9 SL9.out (by simp)).mono ?_
     clear hlu9 hcr9 hlr9 hca9 hla9 hcb9 hlb9 hcrow9 hlrow9
     rintro e w10 ⟨A2,c2,rfl,hG10,hb10⟩
     have hz10:=hb10.size
     have K10:=LH (Bx.of_below (g:=g) hb10 (Nat.le_refl _))
     have GN10:=LH hG10
     have Rr10:=LH (K10.out.row Rr9.out (by omega))
     have Ra10:=LH (K10.out.row Ra9.out (by omega))
     have Rb10:=LH (K10.out.row Rb9.out (by omega))
     have Rrow10:=LH (K10.out.row Rrow9.out (by omega))
     have Da10:=LH (Da9.out.keep fun b hb=>K10.out.kq hb (by have h1:=hb.1;have h2:=hb.2;omega))
     have D110:=LH (D19.out.keep fun b hb=>K10.out.kq hb (by have h1:=hb.1;have h2:=hb.2;omega))
     have M10:=LH (M9.out.below hb10)
     clear Rr9 Ra9 Rb9 Rrow9 Da9 D19 M9
     clear hb10 hG10
     have hlu10:=M10.out.row.lt
     have hcr10:=fun i=>Rr10.out.cell i
     have hlr10:=Rr10.out.lt
     have hca10:=fun i=>Ra10.out.cell i
     have hfa10:=fun i=>Ra10.out.frozen i
     have hla10:=Ra10.out.lt
     have hcb10:=fun i=>Rb10.out.cell i
     have hlb10:=Rb10.out.lt
     have hcrow10:=fun i=>Rrow10.out.cell i
     have hlrow10:=Rrow10.out.lt
     have DD:=LH (ndOf (op:=10) GN10.out (fun b h=>by omega) (by decide))
     go_wp2_with fail
     clear hlu10 hcr10 hlr10 hca10 hfa10 hla10 hcb10 hlb10 hcrow10 hlrow10
     obtain⟨w11,e11,RN11,hz11,K11⟩:=stored5 Ra10.out (.int .i64 10) (.int .i64 0) (.string ⟨#[]⟩) (.string ⟨#[]⟩) (.slice A2 2 c2)
     have Rr11:=LH (K11.out.row Rr10.out (by omega))
     have Rb11:=LH (K11.out.row Rb10.out (by omega))
     have D211:=LH (DD.out.keep fun b hb=>K11.out.kq hb (by have h1:=hb.1;have h2:=hb.2;omega))
     have M11:=LH (M10.out.chg K11.out (by omega) (by omega))
     clear Rr10 Rb10 DD M10
     clear Ra10
     rw [<- e11]
     clear e11
     have hlu11:=M11.out.row.lt
     have hcr11:=fun i=>Rr11.out.cell i
     have hlr11:=Rr11.out.lt
     have hcb11:=fun i=>Rb11.out.cell i
     have hlb11:=Rb11.out.lt
     have hca11:=fun i=>RN11.out.cell i
     have hla11:=RN11.out.lt
     have HN:I j w11:=by
      rw [HI.out]
      exact⟨nd (10) [x,n1],s1,A2,c2,HR.out,by omega,RN11.out,Rr11.out,D211.out.keep fun b hb=>⟨⟨by have h1:=hb.1;have h2:=hb.2;omega,hb.2⟩,rfl⟩,M11.out,RN11.out.lt⟩
     go_roundw
     case rel=>exact⟨j,HN⟩
     case measure=>rw [HJ.out];exact Nat.lt_succ_of_le (leastK_le (I:=fun j=>I j w11) HN)
    ·
     simp [pAdds,hs,hs2,Option.bind_eq_some_iff] at hx
     obtain⟨n1,s1,hq,hr⟩:=hx
     have HR:=LH hr
     clear hr
     go_wp2_with fail
     refine(l3Next ts g L cl V cv s w5 (M5.out.cur HC.out)).mono ?_
     clear hlu5 hcr5 hfr5 hlr5 hca5 hla5
     rintro e w6 ⟨rfl,hm6⟩
     replace hm6:Mv ts g L cl V cv s.vars (pNext ts s) w5 w6:=hm6
     have hz6:=hm6.size
     have K6:=LH hm6.bx
     have Rr6:=LH (K6.out.row Rr5.out (by omega))
     have Ra6:=LH (K6.out.row Ra5.out (by omega))
     have Da6:=LH (Da5.out.keep fun b hb=>K6.out.kq hb (by have h1:=hb.1;have h2:=hb.2;omega))
     have M6:=LH (M5.out.trans hm6)
     clear Rr5 Ra5 Da5 M5
     clear hm6
     have hlu6:=M6.out.row.lt
     have hcr6:=fun i=>Rr6.out.cell i
     have hlr6:=Rr6.out.lt
     have hca6:=fun i=>Ra6.out.cell i
     have hla6:=Ra6.out.lt
     go_wp2_with fail
     refine(HA.out j (by omega) ts g L cl V cv (pNext ts s) w6 (M6.out.cur HC.out) n1 s1 hq).mono ?_
     clear hlu6 hcr6 hlr6 hca6 hla6
     rintro e w7 ⟨A1,c1,rfl,ha7,hm7⟩
     have hz7:=hm7.size
     have K7:=LH hm7.bx
     have DN7:=LH ha7
     have Rr7:=LH (K7.out.row Rr6.out (by omega))
     have Ra7:=LH (K7.out.row Ra6.out (by omega))
     have Da7:=LH (Da6.out.keep fun b hb=>K7.out.kq hb (by have h1:=hb.1;have h2:=hb.2;omega))
     have M7:=LH (M6.out.trans hm7)
     clear Rr6 Ra6 Da6 M6
     clear hm7 ha7
     have hlu7:=M7.out.row.lt
     have hcr7:=fun i=>Rr7.out.cell i
     have hlr7:=Rr7.out.lt
     have hca7:=fun i=>Ra7.out.cell i
     have hla7:=Ra7.out.lt
     clear hq
     go_wp2_with fail
     clear hlu7 hcr7 hlr7 hca7 hla7
     obtain⟨w8,e8,Rb8,hz8,K8⟩:=boxed w7 45 #[.int .i64 n1.op,.int .i64 n1.n,.string n1.s,.string n1.t,.slice A1 n1.kids.length c1]
     have Rr8:=LH (K8.out.row Rr7.out (by omega))
     have Ra8:=LH (K8.out.row Ra7.out (by omega))
     have Da8:=LH (Da7.out.keep fun b hb=>K8.out.kq hb (by have h1:=hb.1;have h2:=hb.2;omega))
     have D18:=LH (DN7.out.keep fun b hb=>K8.out.kq hb (by have h1:=hb.1;have h2:=hb.2;omega))
     have M8:=LH (M7.out.chg K8.out (by omega) (by omega))
     clear Rr7 Ra7 Da7 DN7 M7
     obtain⟨w9,e9,Rrow9,hz9,K9⟩:=boxed w8 45 #[.int .i64 x.op,.int .i64 x.n,.string x.s,.string x.t,.slice A x.kids.length c,.int .i64 n1.op,.int .i64 n1.n,.string n1.s,.string n1.t,.slice A1 n1.kids.length c1]
     have hy9:w8.heap.size=(w7.heap.size+1):=by omega
     rw [hy9] at Rrow9 K9
     have Rr9:=LH (K9.out.row Rr8.out (by omega))
     have Ra9:=LH (K9.out.row Ra8.out (by omega))
     have Rb9:=LH (K9.out.row Rb8.out (by omega))
     have Da9:=LH (Da8.out.keep fun b hb=>K9.out.kq hb (by have h1:=hb.1;have h2:=hb.2;omega))
     have D19:=LH (D18.out.keep fun b hb=>K9.out.kq hb (by have h1:=hb.1;have h2:=hb.2;omega))
     have M9:=LH (M8.out.chg K9.out (by omega) (by omega))
     clear Rr8 Ra8 Rb8 Da8 D18 M8
     have SL9:=LH (show Sl w9 (fun b=>b<w9.heap.size/\w.heap.size<=b/\b≠w2.heap.size/\b≠w.heap.size) 5 (some ⟨(w7.heap.size+1),0,none⟩) 2 ([x,n1].map GNode.toD) from Sl.ofRow Rrow9.out (rdC_cons (GNode.rd_mk (Da9.out.keep (w':=w9) (S':=fun b=>b<w9.heap.size/\w.heap.size<=b/\b≠w2.heap.size/\b≠w.heap.size) fun b hb=>⟨⟨by have h1:=hb.1;have h2:=hb.2;omega,by have h1:=hb.1;have h2:=hb.2;omega⟩,rfl⟩)) rfl (rdC_one1 (GNode.rd_mk (D19.out.keep (w':=w9) (S':=fun b=>b<w9.heap.size/\w.heap.size<=b/\b≠w2.heap.size/\b≠w.heap.size) fun b hb=>⟨⟨by have h1:=hb.1;have h2:=hb.2;omega,by have h1:=hb.1;have h2:=hb.2;omega⟩,rfl⟩)) rfl)) ⟨by omega,by omega⟩ (by simp) (by unfold maxLen;omega))
     rw [<- e8,<- e9]
     clear e8 e9
     have hlu9:=M9.out.row.lt
     have hcr9:=fun i=>Rr9.out.cell i
     have hlr9:=Rr9.out.lt
     have hca9:=fun i=>Ra9.out.cell i
     have hla9:=Ra9.out.lt
     have hcb9:=fun i=>Rb9.out.cell i
     have hlb9:=Rb9.out.lt
     have hcrow9:=fun i=>Rrow9.out.cell i
     have hlrow9:=Rrow9.out.lt
     refine(l3Node (fun b=>w.heap.size<=b/\b≠w2.heap.size/\b≠w.heap.size) (11) [x,n1] (some ⟨(w7.heap.size+1),0,none⟩) 2 w9 SL9.out (by simp)).mono ?_
     clear hlu9 hcr9 hlr9 hca9 hla9 hcb9 hlb9 hcrow9 hlrow9
     rintro e w10 ⟨A2,c2,rfl,hG10,hb10⟩
     have hz10:=hb10.size
     have K10:=LH (Bx.of_below (g:=g) hb10 (Nat.le_refl _))
     have GN10:=LH hG10
     have Rr10:=LH (K10.out.row Rr9.out (by omega))
     have Ra10:=LH (K10.out.row Ra9.out (by omega))
     have Rb10:=LH (K10.out.row Rb9.out (by omega))
     have Rrow10:=LH (K10.out.row Rrow9.out (by omega))
     have Da10:=LH (Da9.out.keep fun b hb=>K10.out.kq hb (by have h1:=hb.1;have h2:=hb.2;omega))
     have D110:=LH (D19.out.keep fun b hb=>K10.out.kq hb (by have h1:=hb.1;have h2:=hb.2;omega))
     have M10:=LH (M9.out.below hb10)
     clear Rr9 Ra9 Rb9 Rrow9 Da9 D19 M9
     clear hb10 hG10
     have hlu10:=M10.out.row.lt
     have hcr10:=fun i=>Rr10.out.cell i
     have hlr10:=Rr10.out.lt
     have hca10:=fun i=>Ra10.out.cell i
     have hfa10:=fun i=>Ra10.out.frozen i
     have hla10:=Ra10.out.lt
     have hcb10:=fun i=>Rb10.out.cell i
     have hlb10:=Rb10.out.lt
     have hcrow10:=fun i=>Rrow10.out.cell i
     have hlrow10:=Rrow10.out.lt
     have DD:=LH (ndOf (op:=11) GN10.out (fun b h=>by omega) (by decide))
     go_wp2_with fail
     clear hlu10 hcr10 hlr10 hca10 hfa10 hla10 hcb10 hlb10 hcrow10 hlrow10
     obtain⟨w11,e11,RN11,hz11,K11⟩:=stored5 Ra10.out (.int .i64 11) (.int .i64 0) (.string ⟨#[]⟩) (.string ⟨#[]⟩) (.slice A2 2 c2)
     have Rr11:=LH (K11.out.row Rr10.out (by omega))
     have Rb11:=LH (K11.out.row Rb10.out (by omega))
     have D211:=LH (DD.out.keep fun b hb=>K11.out.kq hb (by have h1:=hb.1;have h2:=hb.2;omega))
     have M11:=LH (M10.out.chg K11.out (by omega) (by omega))
     clear Rr10 Rb10 DD M10
     clear Ra10
     rw [<- e11]
     clear e11
     have hlu11:=M11.out.row.lt
     have hcr11:=fun i=>Rr11.out.cell i
     have hlr11:=Rr11.out.lt
     have hcb11:=fun i=>Rb11.out.cell i
     have hlb11:=Rb11.out.lt
     have hca11:=fun i=>RN11.out.cell i
     have hla11:=RN11.out.lt
     have HN:I j w11:=by
      rw [HI.out]
      exact⟨nd (11) [x,n1],s1,A2,c2,HR.out,by omega,RN11.out,Rr11.out,D211.out.keep fun b hb=>⟨⟨by have h1:=hb.1;have h2:=hb.2;omega,hb.2⟩,rfl⟩,M11.out,RN11.out.lt⟩
     go_roundw
     case rel=>exact⟨j,HN⟩
     case measure=>rw [HJ.out];exact Nat.lt_succ_of_le (leastK_le (I:=fun j=>I j w11) HN)
theorem Gr.bxe {w w':World} {v v':Value} {B:Nat} (h:Gr w w' v v') (ho:∀ q,v.ownBlock=some q->B<=q) (hB:B<=w.heap.size):∃ q,B<=q/\Bx q w w':=by
 cases hv:v.ownBlock with
 | none=>exact⟨w.heap.size,hB,h.grow.os,h.grow.tape,h.grow.output,h.size,fun b hb _=>h.keepB hb (by rw [hv];simp)⟩
 | some q=>exact⟨q,ho q hv,h.grow.os,h.grow.tape,h.grow.output,h.size,fun b hb hne=>h.keepB hb (by rw [hv];intro e;exact hne (by simpa using e.symm))⟩
theorem PCur.text_le {ts:List GToken} {g:Nat} {L:Option Addr} {cl:Nat} {V:Option Addr} {cv:Nat} {st:PSt} {w:World} (h:PCur ts g L cl V cv st w):(pNow ts st).text.size<=maxLen:=by
 obtain⟨b,off,-,-,-,-,-,-,hat⟩:=h.now
 exact hat.2.1
theorem PCur.ptext_le {ts:List GToken} {g:Nat} {L:Option Addr} {cl:Nat} {V:Option Addr} {cv:Nat} {st:PSt} {w:World} (h:PCur ts g L cl V cv st w) (con:Bool):(pText ts con st).1.size<=maxLen:=by
 unfold pText;split
 · exact empty_le
 · exact h.text_le
theorem sl_of_grx {X:Nat->Prop} {w:World} {B:Nat} {T:TypeId} {size:Nat} {A:Option Addr} {c n:Nat} {xs:List D} (h:Grx X w B T size (.slice A n c) n xs) (hX:∀ b,B<=b->X b):Sl w (fun b=>b<w.heap.size/\X b) size A c xs:=by
 obtain⟨A',c',e,hs⟩:=h.sl hX
 obtain⟨rfl,rfl⟩:A=A'/\c=c':=by simpa using e
 exact hs
theorem l3Compare (k:Nat) (hA:∀ j,j<=k->Ok1 90 pSum j):Ok1 73 pCompare (k+1):=by
 intro ts g L cl V cv st w h n st' hp
 have HA:=LH hA
 clear hA
 simp [pCompare,Option.bind_eq_some_iff] at hp
 obtain⟨n0,s0,hp0,hp1⟩:=hp
 have HC:=LH h
 have M0:=LH h.mv
 have hgl:=h.row.lt
 clear h
 go_enter Tryz.func73,Tryz.ntmps73
 go_wp2_with fail
 obtain⟨w1,e1,Rr1,hz1,K1⟩:=boxed w 45 #[.int .i64 0,.int .i64 0,.string ⟨#[]⟩,.string ⟨#[]⟩,.slice none 0 0]
 have M1:=LH (M0.out.chg K1.out (by omega) (by omega))
 rw [<- e1]
 clear e1
 have hlu1:=M1.out.row.lt
 have hcr1:=fun i=>Rr1.out.cell i
 have hlr1:=Rr1.out.lt
 refine(HA.out k (Nat.le_refl _) ts g L cl V cv st w1 (M1.out.cur HC.out) n0 s0 hp0).mono ?_
 clear hlu1 hcr1 hlr1
 rintro e w2 ⟨A0,c0,rfl,ha2,hm2⟩
 have hz2:=hm2.size
 have K2:=LH hm2.bx
 have DN2:=LH ha2
 have Rr2:=LH (K2.out.row Rr1.out (by omega))
 have M2:=LH (M1.out.trans hm2)
 clear Rr1 M1
 clear hm2 ha2
 have hlu2:=M2.out.row.lt
 have hcr2:=fun i=>Rr2.out.cell i
 have hlr2:=Rr2.out.lt
 clear hp0
 go_wp2_with fail
 clear hlu2 hcr2 hlr2
 obtain⟨w3,e3,Ra3,hz3,K3⟩:=boxed w2 45 #[.int .i64 n0.op,.int .i64 n0.n,.string n0.s,.string n0.t,.slice A0 n0.kids.length c0]
 have Rr3:=LH (K3.out.row Rr2.out (by omega))
 have D03:=LH (DN2.out.keep fun b hb=>K3.out.kq hb (by have h1:=hb.1;have h2:=hb.2;omega))
 have M3:=LH (M2.out.chg K3.out (by omega) (by omega))
 clear Rr2 DN2 M2
 rw [<- e3]
 clear e3
 have hlu3:=M3.out.row.lt
 have hcr3:=fun i=>Rr3.out.cell i
 have hlr3:=Rr3.out.lt
 have hca3:=fun i=>Ra3.out.cell i
 have hla3:=Ra3.out.lt
 refine(l3Sign ts g L cl V cv s0 w3 (M3.out.cur HC.out) ⟨#[60]⟩).mono ?_
 clear hlu3 hcr3 hlr3 hca3 hla3
 rintro e w4 ⟨rfl,hb4⟩
 have hz4:=hb4.size
 have K4:=LH (Bx.of_below (g:=g) hb4 (Nat.le_refl _))
 have Rr4:=LH (K4.out.row Rr3.out (by omega))
 have Ra4:=LH (K4.out.row Ra3.out (by omega))
 have D04:=LH (D03.out.keep fun b hb=>K4.out.kq hb (by have h1:=hb.1;have h2:=hb.2;omega))
 have M4:=LH (M3.out.below hb4)
 clear Rr3 Ra3 D03 M3
 clear hb4
 have hlu4:=M4.out.row.lt
 have hcr4:=fun i=>Rr4.out.cell i
 have hlr4:=Rr4.out.lt
 have hca4:=fun i=>Ra4.out.cell i
 have hla4:=Ra4.out.lt
 cases hs:pSign ts [60] s0
 ·
  go_wp2_with fail
  refine(l3Sign ts g L cl V cv s0 w4 (M4.out.cur HC.out) ⟨#[61,61]⟩).mono ?_
  clear hlu4 hcr4 hlr4 hca4 hla4
  rintro e w5 ⟨rfl,hb5⟩
  have hz5:=hb5.size
  have K5:=LH (Bx.of_below (g:=g) hb5 (Nat.le_refl _))
  have Rr5:=LH (K5.out.row Rr4.out (by omega))
  have Ra5:=LH (K5.out.row Ra4.out (by omega))
  have D05:=LH (D04.out.keep fun b hb=>K5.out.kq hb (by have h1:=hb.1;have h2:=hb.2;omega))
  have M5:=LH (M4.out.below hb5)
  clear Rr4 Ra4 D04 M4
  clear hb5
  have hlu5:=M5.out.row.lt
  have hcr5:=fun i=>Rr5.out.cell i
  have hfr5:=fun i=>Rr5.out.frozen i
  have hlr5:=Rr5.out.lt
  have hca5:=fun i=>Ra5.out.cell i
  have hla5:=Ra5.out.lt
  cases hs2:pSign ts [61,61] s0
  ·
   simp [hs,hs2] at hp1
   obtain⟨rfl,rfl⟩:=hp1
   go_wp2_with fail
   clear hlu5 hcr5 hfr5 hlr5 hca5 hla5
   obtain⟨w6,e6,RN6,hz6,K6⟩:=stored5 Rr5.out (.int .i64 n0.op) (.int .i64 n0.n) (.string n0.s) (.string n0.t) (.slice A0 n0.kids.length c0)
   have Ra6:=LH (K6.out.row Ra5.out (by omega))
   have D06:=LH (D05.out.keep fun b hb=>K6.out.kq hb (by have h1:=hb.1;have h2:=hb.2;omega))
   have M6:=LH (M5.out.chg K6.out (by omega) (by omega))
   clear Ra5 D05 M5
   clear Rr5
   rw [<- e6]
   clear e6
   have hlu6:=M6.out.row.lt
   have hca6:=fun i=>Ra6.out.cell i
   have hla6:=Ra6.out.lt
   have hcr6:=fun i=>RN6.out.cell i
   have hlr6:=RN6.out.lt
   refine bodyPost_ret (v:=.agg #[.int .i64 n0.op,.int .i64 n0.n,.string n0.s,.string n0.t,.slice A0 n0.kids.length c0]) (by simp [results,Tryz.results73,go_sem,hcr6]) rfl ?_
   exact⟨A0,c0,rfl,D06.out.keep fun b hb=>⟨⟨by have h1:=hb.1;have h2:=hb.2;omega,by have h1:=hb.1;have h2:=hb.2;omega⟩,rfl⟩,M6.out⟩
  ·
   simp [hs,hs2] at hp1
   obtain⟨n1,hq,rfl⟩:=hp1
   go_wp2_with fail
   refine(l3Next ts g L cl V cv s0 w5 (M5.out.cur HC.out)).mono ?_
   clear hlu5 hcr5 hfr5 hlr5 hca5 hla5
   rintro e w6 ⟨rfl,hm6⟩
   replace hm6:Mv ts g L cl V cv s0.vars (pNext ts s0) w5 w6:=hm6
   have hz6:=hm6.size
   have K6:=LH hm6.bx
   have Rr6:=LH (K6.out.row Rr5.out (by omega))
   have Ra6:=LH (K6.out.row Ra5.out (by omega))
   have D06:=LH (D05.out.keep fun b hb=>K6.out.kq hb (by have h1:=hb.1;have h2:=hb.2;omega))
   have M6:=LH (M5.out.trans hm6)
   clear Rr5 Ra5 D05 M5
   clear hm6
   have hlu6:=M6.out.row.lt
   have hcr6:=fun i=>Rr6.out.cell i
   have hlr6:=Rr6.out.lt
   have hca6:=fun i=>Ra6.out.cell i
   have hla6:=Ra6.out.lt
   go_wp2_with fail
   refine(HA.out k (Nat.le_refl _) ts g L cl V cv (pNext ts s0) w6 (M6.out.cur HC.out) n1 st' hq).mono ?_
   clear hlu6 hcr6 hlr6 hca6 hla6
   rintro e w7 ⟨A1,c1,rfl,ha7,hm7⟩
   have hz7:=hm7.size
   have K7:=LH hm7.bx
   have DN7:=LH ha7
   have Rr7:=LH (K7.out.row Rr6.out (by omega))
   have Ra7:=LH (K7.out.row Ra6.out (by omega))
   have D07:=LH (D06.out.keep fun b hb=>K7.out.kq hb (by have h1:=hb.1;have h2:=hb.2;omega))
   have M7:=LH (M6.out.trans hm7)
   clear Rr6 Ra6 D06 M6
   clear hm7 ha7
   have hlu7:=M7.out.row.lt
   have hcr7:=fun i=>Rr7.out.cell i
   have hlr7:=Rr7.out.lt
   have hca7:=fun i=>Ra7.out.cell i
   have hla7:=Ra7.out.lt
   clear hq
   go_wp2_with fail
   clear hlu7 hcr7 hlr7 hca7 hla7
   obtain⟨w8,e8,Rb8,hz8,K8⟩:=boxed w7 45 #[.int .i64 n1.op,.int .i64 n1.n,.string n1.s,.string n1.t,.slice A1 n1.kids.length c1]
   have Rr8:=LH (K8.out.row Rr7.out (by omega))
   have Ra8:=LH (K8.out.row Ra7.out (by omega))
   have D08:=LH (D07.out.keep fun b hb=>K8.out.kq hb (by have h1:=hb.1;have h2:=hb.2;omega))
   have D18:=LH (DN7.out.keep fun b hb=>K8.out.kq hb (by have h1:=hb.1;have h2:=hb.2;omega))
   have M8:=LH (M7.out.chg K8.out (by omega) (by omega))
   clear Rr7 Ra7 D07 DN7 M7
   obtain⟨w9,e9,Rrow9,hz9,K9⟩:=boxed w8 45 #[.int .i64 n0.op,.int .i64 n0.n,.string n0.s,.string n0.t,.slice A0 n0.kids.length c0,.int .i64 n1.op,.int .i64 n1.n,.string n1.s,.string n1.t,.slice A1 n1.kids.length c1]
   have hy9:w8.heap.size=(w7.heap.size+1):=by omega
   rw [hy9] at Rrow9 K9
   have Rr9:=LH (K9.out.row Rr8.out (by omega))
   have Ra9:=LH (K9.out.row Ra8.out (by omega))
   have Rb9:=LH (K9.out.row Rb8.out (by omega))
   have D09:=LH (D08.out.keep fun b hb=>K9.out.kq hb (by have h1:=hb.1;have h2:=hb.2;omega))
   have D19:=LH (D18.out.keep fun b hb=>K9.out.kq hb (by have h1:=hb.1;have h2:=hb.2;omega))
   have M9:=LH (M8.out.chg K9.out (by omega) (by omega))
   clear Rr8 Ra8 Rb8 D08 D18 M8
   have SL9:=LH (show Sl w9 (fun b=>b<w9.heap.size/\w.heap.size<=b/\b≠w.heap.size) 5 (some ⟨(w7.heap.size+1),0,none⟩) 2 ([n0,n1].map GNode.toD) from Sl.ofRow Rrow9.out (rdC_cons (GNode.rd_mk (D09.out.keep (w':=w9) (S':=fun b=>b<w9.heap.size/\w.heap.size<=b/\b≠w.heap.size) fun b hb=>⟨⟨by have h1:=hb.1;have h2:=hb.2;omega,by have h1:=hb.1;have h2:=hb.2;omega⟩,rfl⟩)) rfl (rdC_one1 (GNode.rd_mk (D19.out.keep (w':=w9) (S':=fun b=>b<w9.heap.size/\w.heap.size<=b/\b≠w.heap.size) fun b hb=>⟨⟨by have h1:=hb.1;have h2:=hb.2;omega,by have h1:=hb.1;have h2:=hb.2;omega⟩,rfl⟩)) rfl)) ⟨by omega,by omega⟩ (by simp) (by unfold maxLen;omega))
   rw [<- e8,<- e9]
   clear e8 e9
   have hlu9:=M9.out.row.lt
   have hcr9:=fun i=>Rr9.out.cell i
   have hfr9:=fun i=>Rr9.out.frozen i
   have hlr9:=Rr9.out.lt
   have hca9:=fun i=>Ra9.out.cell i
   have hla9:=Ra9.out.lt
   have hcb9:=fun i=>Rb9.out.cell i
   have hlb9:=Rb9.out.lt
   have hcrow9:=fun i=>Rrow9.out.cell i
   have hlrow9:=Rrow9.out.lt
   refine(l3Node (fun b=>w.heap.size<=b/\b≠w.heap.size) (14) [n0,n1] (some ⟨(w7.heap.size+1),0,none⟩) 2 w9 SL9.out (by simp)).mono ?_
   clear hlu9 hcr9 hfr9 hlr9 hca9 hla9 hcb9 hlb9 hcrow9 hlrow9
   rintro e w10 ⟨A2,c2,rfl,hG10,hb10⟩
   have hz10:=hb10.size
   have K10:=LH (Bx.of_below (g:=g) hb10 (Nat.le_refl _))
   have GN10:=LH hG10
   have Rr10:=LH (K10.out.row Rr9.out (by omega))
   have Ra10:=LH (K10.out.row Ra9.out (by omega))
   have Rb10:=LH (K10.out.row Rb9.out (by omega))
   have Rrow10:=LH (K10.out.row Rrow9.out (by omega))
   have D010:=LH (D09.out.keep fun b hb=>K10.out.kq hb (by have h1:=hb.1;have h2:=hb.2;omega))
   have D110:=LH (D19.out.keep fun b hb=>K10.out.kq hb (by have h1:=hb.1;have h2:=hb.2;omega))
   have M10:=LH (M9.out.below hb10)
   clear Rr9 Ra9 Rb9 Rrow9 D09 D19 M9
   clear hb10 hG10
   have hlu10:=M10.out.row.lt
   have hcr10:=fun i=>Rr10.out.cell i
   have hfr10:=fun i=>Rr10.out.frozen i
   have hlr10:=Rr10.out.lt
   have hca10:=fun i=>Ra10.out.cell i
   have hla10:=Ra10.out.lt
   have hcb10:=fun i=>Rb10.out.cell i
   have hlb10:=Rb10.out.lt
   have hcrow10:=fun i=>Rrow10.out.cell i
   have hlrow10:=Rrow10.out.lt
   have DD2:=LH (ndOf (op:=14) GN10.out (fun b h=>by omega) (by decide))
   go_wp2_with fail
   clear hlu10 hcr10 hlr10 hca10 hla10 hcb10 hlb10 hcrow10 hlrow10
   obtain⟨w11,e11,RN11,hz11,K11⟩:=stored5 Rr10.out (.int .i64 14) (.int .i64 0) (.string ⟨#[]⟩) (.string ⟨#[]⟩) (.slice A2 2 c2)
   have Ra11:=LH (K11.out.row Ra10.out (by omega))
   have Rb11:=LH (K11.out.row Rb10.out (by omega))
   have D211:=LH (DD2.out.keep fun b hb=>K11.out.kq hb (by have h1:=hb.1;have h2:=hb.2;omega))
   have M11:=LH (M10.out.chg K11.out (by omega) (by omega))
   clear Ra10 Rb10 DD2 M10
   clear Rr10
   rw [<- e11]
   clear e11
   have hlu11:=M11.out.row.lt
   have hca11:=fun i=>Ra11.out.cell i
   have hla11:=Ra11.out.lt
   have hcb11:=fun i=>Rb11.out.cell i
   have hlb11:=Rb11.out.lt
   have hcr11:=fun i=>RN11.out.cell i
   have hlr11:=RN11.out.lt
   refine bodyPost_ret (v:=.agg #[.int .i64 14,.int .i64 0,.string ⟨#[]⟩,.string ⟨#[]⟩,.slice A2 2 c2]) (by simp [results,Tryz.results73,go_sem,hcr11]) rfl ?_
   exact⟨A2,c2,rfl,D211.out.keep fun b hb=>⟨⟨by have h1:=hb.1;have h2:=hb.2;omega,by have h1:=hb.1;have h2:=hb.2;omega⟩,rfl⟩,M11.out⟩
 ·
  simp [hs] at hp1
  obtain⟨n1,hq,rfl⟩:=hp1
  go_wp2_with fail
  refine(l3Next ts g L cl V cv s0 w4 (M4.out.cur HC.out)).mono ?_
  clear hlu4 hcr4 hlr4 hca4 hla4
  rintro e w5 ⟨rfl,hm5⟩
  replace hm5:Mv ts g L cl V cv s0.vars (pNext ts s0) w4 w5:=hm5
  have hz5:=hm5.size
  have K5:=LH hm5.bx
  have Rr5:=LH (K5.out.row Rr4.out (by omega))
  have Ra5:=LH (K5.out.row Ra4.out (by omega))
  have D05:=LH (D04.out.keep fun b hb=>K5.out.kq hb (by have h1:=hb.1;have h2:=hb.2;omega))
  have M5:=LH (M4.out.trans hm5)
  clear Rr4 Ra4 D04 M4
  clear hm5
  have hlu5:=M5.out.row.lt
  have hcr5:=fun i=>Rr5.out.cell i
  have hfr5:=fun i=>Rr5.out.frozen i
  have hlr5:=Rr5.out.lt
  have hca5:=fun i=>Ra5.out.cell i
  have hla5:=Ra5.out.lt
  go_wp2_with fail
  refine(HA.out k (Nat.le_refl _) ts g L cl V cv (pNext ts s0) w5 (M5.out.cur HC.out) n1 st' hq).mono ?_
  clear hlu5 hcr5 hfr5 hlr5 hca5 hla5
  rintro e w6 ⟨A1,c1,rfl,ha6,hm6⟩
  have hz6:=hm6.size
  have K6:=LH hm6.bx
  have DN6:=LH ha6
  have Rr6:=LH (K6.out.row Rr5.out (by omega))
  have Ra6:=LH (K6.out.row Ra5.out (by omega))
  have D06:=LH (D05.out.keep fun b hb=>K6.out.kq hb (by have h1:=hb.1;have h2:=hb.2;omega))
  have M6:=LH (M5.out.trans hm6)
  clear Rr5 Ra5 D05 M5
  clear hm6 ha6
  have hlu6:=M6.out.row.lt
  have hcr6:=fun i=>Rr6.out.cell i
  have hlr6:=Rr6.out.lt
  have hca6:=fun i=>Ra6.out.cell i
  have hla6:=Ra6.out.lt
  clear hq
  go_wp2_with fail
  clear hlu6 hcr6 hlr6 hca6 hla6
  obtain⟨w7,e7,Rb7,hz7,K7⟩:=boxed w6 45 #[.int .i64 n1.op,.int .i64 n1.n,.string n1.s,.string n1.t,.slice A1 n1.kids.length c1]
  have Rr7:=LH (K7.out.row Rr6.out (by omega))
  have Ra7:=LH (K7.out.row Ra6.out (by omega))
  have D07:=LH (D06.out.keep fun b hb=>K7.out.kq hb (by have h1:=hb.1;have h2:=hb.2;omega))
  have D17:=LH (DN6.out.keep fun b hb=>K7.out.kq hb (by have h1:=hb.1;have h2:=hb.2;omega))
  have M7:=LH (M6.out.chg K7.out (by omega) (by omega))
  clear Rr6 Ra6 D06 DN6 M6
  obtain⟨w8,e8,Rrow8,hz8,K8⟩:=boxed w7 45 #[.int .i64 n0.op,.int .i64 n0.n,.string n0.s,.string n0.t,.slice A0 n0.kids.length c0,.int .i64 n1.op,.int .i64 n1.n,.string n1.s,.string n1.t,.slice A1 n1.kids.length c1]
  have hy8:w7.heap.size=(w6.heap.size+1):=by omega
  rw [hy8] at Rrow8 K8
  have Rr8:=LH (K8.out.row Rr7.out (by omega))
  have Ra8:=LH (K8.out.row Ra7.out (by omega))
  have Rb8:=LH (K8.out.row Rb7.out (by omega))
  have D08:=LH (D07.out.keep fun b hb=>K8.out.kq hb (by have h1:=hb.1;have h2:=hb.2;omega))
  have D18:=LH (D17.out.keep fun b hb=>K8.out.kq hb (by have h1:=hb.1;have h2:=hb.2;omega))
  have M8:=LH (M7.out.chg K8.out (by omega) (by omega))
  clear Rr7 Ra7 Rb7 D07 D17 M7
  have SL8:=LH (show Sl w8 (fun b=>b<w8.heap.size/\w.heap.size<=b/\b≠w.heap.size) 5 (some ⟨(w6.heap.size+1),0,none⟩) 2 ([n0,n1].map GNode.toD) from Sl.ofRow Rrow8.out (rdC_cons (GNode.rd_mk (D08.out.keep (w':=w8) (S':=fun b=>b<w8.heap.size/\w.heap.size<=b/\b≠w.heap.size) fun b hb=>⟨⟨by have h1:=hb.1;have h2:=hb.2;omega,by have h1:=hb.1;have h2:=hb.2;omega⟩,rfl⟩)) rfl (rdC_one1 (GNode.rd_mk (D18.out.keep (w':=w8) (S':=fun b=>b<w8.heap.size/\w.heap.size<=b/\b≠w.heap.size) fun b hb=>⟨⟨by have h1:=hb.1;have h2:=hb.2;omega,by have h1:=hb.1;have h2:=hb.2;omega⟩,rfl⟩)) rfl)) ⟨by omega,by omega⟩ (by simp) (by unfold maxLen;omega))
  rw [<- e7,<- e8]
  clear e7 e8
  have hlu8:=M8.out.row.lt
  have hcr8:=fun i=>Rr8.out.cell i
  have hlr8:=Rr8.out.lt
  have hca8:=fun i=>Ra8.out.cell i
  have hla8:=Ra8.out.lt
  have hcb8:=fun i=>Rb8.out.cell i
  have hlb8:=Rb8.out.lt
  have hcrow8:=fun i=>Rrow8.out.cell i
  have hlrow8:=Rrow8.out.lt
  refine(l3Node (fun b=>w.heap.size<=b/\b≠w.heap.size) (13) [n0,n1] (some ⟨(w6.heap.size+1),0,none⟩) 2 w8 SL8.out (by simp)).mono ?_
  clear hlu8 hcr8 hlr8 hca8 hla8 hcb8 hlb8 hcrow8 hlrow8
  rintro e w9 ⟨A2,c2,rfl,hG9,hb9⟩
  have hz9:=hb9.size
  have K9:=LH (Bx.of_below (g:=g) hb9 (Nat.le_refl _))
  have GN9:=LH hG9
  have Rr9:=LH (K9.out.row Rr8.out (by omega))
  have Ra9:=LH (K9.out.row Ra8.out (by omega))
  have Rb9:=LH (K9.out.row Rb8.out (by omega))
  have Rrow9:=LH (K9.out.row Rrow8.out (by omega))
  have D09:=LH (D08.out.keep fun b hb=>K9.out.kq hb (by have h1:=hb.1;have h2:=hb.2;omega))
  have D19:=LH (D18.out.keep fun b hb=>K9.out.kq hb (by have h1:=hb.1;have h2:=hb.2;omega))
  have M9:=LH (M8.out.below hb9)
  clear Rr8 Ra8 Rb8 Rrow8 D08 D18 M8
  clear hb9 hG9
  have hlu9:=M9.out.row.lt
  have hcr9:=fun i=>Rr9.out.cell i
  have hfr9:=fun i=>Rr9.out.frozen i
  have hlr9:=Rr9.out.lt
  have hca9:=fun i=>Ra9.out.cell i
  have hla9:=Ra9.out.lt
  have hcb9:=fun i=>Rb9.out.cell i
  have hlb9:=Rb9.out.lt
  have hcrow9:=fun i=>Rrow9.out.cell i
  have hlrow9:=Rrow9.out.lt
  have DD2:=LH (ndOf (op:=13) GN9.out (fun b h=>by omega) (by decide))
  go_wp2_with fail
  clear hlu9 hcr9 hfr9 hlr9 hca9 hla9 hcb9 hlb9 hcrow9 hlrow9
  obtain⟨w10,e10,RN10,hz10,K10⟩:=stored5 Rr9.out (.int .i64 13) (.int .i64 0) (.string ⟨#[]⟩) (.string ⟨#[]⟩) (.slice A2 2 c2)
  have Ra10:=LH (K10.out.row Ra9.out (by omega))
  have Rb10:=LH (K10.out.row Rb9.out (by omega))
  have D210:=LH (DD2.out.keep fun b hb=>K10.out.kq hb (by have h1:=hb.1;have h2:=hb.2;omega))
  have M10:=LH (M9.out.chg K10.out (by omega) (by omega))
  clear Ra9 Rb9 DD2 M9
  clear Rr9
  rw [<- e10]
  clear e10
  have hlu10:=M10.out.row.lt
  have hca10:=fun i=>Ra10.out.cell i
  have hla10:=Ra10.out.lt
  have hcb10:=fun i=>Rb10.out.cell i
  have hlb10:=Rb10.out.lt
  have hcr10:=fun i=>RN10.out.cell i
  have hlr10:=RN10.out.lt
  refine bodyPost_ret (v:=.agg #[.int .i64 13,.int .i64 0,.string ⟨#[]⟩,.string ⟨#[]⟩,.slice A2 2 c2]) (by simp [results,Tryz.results73,go_sem,hcr10]) rfl ?_
  exact⟨A2,c2,rfl,D210.out.keep fun b hb=>⟨⟨by have h1:=hb.1;have h2:=hb.2;omega,by have h1:=hb.1;have h2:=hb.2;omega⟩,rfl⟩,M10.out⟩
def hidQ (Q:Exit->Act->World->Prop) (R:Act->World->Prop):Exit->Act->World->Prop
 | .ret,a,w=>R a w
 | e,a,w=>Q e a w
theorem wp_hide {P:Program} {c:Code} {Q:Exit->Act->World->Prop} {a:Act} {w:World} (h:∀ BP:Act->World->Prop,BP=Q .ret->c.wp P (hidQ Q BP) a w):c.wp P Q a w:=by
 have e:hidQ Q (Q .ret)=Q:=by funext e a w;cases e<;>rfl
 have:=h _ rfl
 rwa [e] at this
def pLet (ts:List GToken) (k:Nat) (st:PSt):Option (GNode × PSt):=let a:=pText ts false (pNext ts st);(pE ts k (pTake ts [61] a.2)).bind fun e=>(pE ts k (pWord ts [105,110] e.2)).map fun b=>(.mk 5 0 a.1 ⟨#[]⟩ [e.1,b.1],b.2)
def pRec (ts:List GToken) (k:Nat) (st:PSt):Option (GNode × PSt):=let a:=pText ts false (pNext ts st);let a2:=pText ts false a.2;(pE ts k (pTake ts [61] a2.2)).bind fun e=>(pE ts k (pWord ts [105,110] e.2)).map fun b=>(.mk 6 0 a.1 a2.1 [e.1,b.1],b.2)
def pCase (ts:List GToken) (k:Nat) (st:PSt):Option (GNode × PSt):=(pE ts k (pNext ts st)).bind fun e=>(pCaseAlts ts k (pTake ts [123] (pWord ts [111,102] e.2)) [e.1]).map fun r=>(nd 7 r.1,pTake ts [125] r.2)
theorem pE_succ (ts:List GToken) (k:Nat) (st:PSt):pE ts (k+1) st=
 (if pIs ts [102,117,110] st then let a:=pText ts false (pNext ts st);(pE ts k (pTake ts [45,62] a.2)).map fun e=>(.mk 3 0 a.1 ⟨#[]⟩ [e.1],e.2)
 else if pIs ts [108,101,116] st then pLet ts k st
 else if pIs ts [114,101,99] st then pRec ts k st
 else if pIs ts [99,97,115,101] st then pCase ts k st
 else if pIs ts [105,102] st then(pE ts k (pNext ts st)).bind fun a=>(pE ts k (pWord ts [116,104,101,110] a.2)).bind fun b=>(pE ts k (pWord ts [101,108,115,101] b.2)).map fun d=>(nd 9 [a.1,b.1,d.1],d.2)
 else pCompare ts k st):=by
 simp only [pE,pLet,pRec,pCase]
theorem specDigits (n:Int) (w:World) (h1: -9223372036854775808<=n) (h2:n<=9223372036854775807):
 Calls Tryz.prog 96 #[.int .i64 n] w fun e w'=>e= .returned (.string (digI n))/\Below w.heap.size w w':=by
 have hcv:=fun(w:World) (x:Int)=>run_string_one (P:=Tryz.prog) w 22 9 5 x Tryz.underlying22 Tryz.underlying5 Tryz.underlying9
 by_cases h0:n=0
 · subst h0
   go_enter Tryz.func96,Tryz.ntmps96
   go_wp2
   go_ret
   exact⟨ret_str (by decide+kernel),Below.refl _ _⟩
 ·
  have hz:(n ==0)=false:=by simp [h0]
  have hz':(n != 0)=true:=by simp [h0]
  by_cases hn:n<0
  ·
   go_enter Tryz.func96,Tryz.ntmps96
   go_wp2
   go_loopw [0,4,5] (fun t i _ wr=>∃ (a:Nat) (s:ByteArray),a<=9223372036854775808/\t= .int .i64 (-a)/\i= .string s/\digR a s=digR n.natAbs ⟨#[]⟩/\Below w.heap.size w wr) (fun t _ _ _=>(- (intOf t)).toNat)
   case atStart=>exact⟨n.natAbs,⟨#[]⟩,by omega,by go_num,rfl,rfl,Below.refl _ _⟩
   case round=>
    obtain⟨a,s,ha,rfl,rfl,hd,hb⟩:=hrel
    have hs:s.size<=19:=by
     have g1:=digR_size a s
     rw [hd,digR_start (by omega)] at g1
     have:=digU_size19 n.natAbs (by omega)
     omega
    have Hd:=LH hd
    clear hd
    have hbs:=hb.size
    rcases Nat.eq_zero_or_pos a with hz0 | hp
    · subst hz0
      go_wp2
      go_ret
      refine⟨ret_str ?_,hb⟩
      have e:=Hd.out
      rw [digR_zero,digR_start (by omega)] at e
      rw [e];unfold digI;rw [if_pos hn];congr 2;omega
    ·
     have hk1:(-(a:Int) != 0)=true:=by simp;omega
     have e1:(-(a:Int)).tmod 10= -((a:Int) % 10):=by have:=(tmod10 (-(a:Int))).2 (by omega);rw [this];simp
     have e2:(-(a:Int)).tdiv 10= -((a:Int) / 10):=by have:=(tdiv10 (-(a:Int))).2 (by omega);rw [this];simp
     have hm:0<=(a:Int) % 10/\(a:Int) % 10<=9:=by omega
     have Hst:=LH (digR_step (a:=a) (by omega) s)
     by_cases hq:0<(a:Int) % 10
     · go_wp2
       go_roundw
       case rel=>exact⟨a / 10,one (48+(a:Int) % 10)++s,by omega,by go_num,rfl,by rw [<- Hd.out,<- Hst.out];simp,hb.alloc hbs _⟩
       case measure=>simp [intOf];omega
     · have hq0:(a:Int) % 10=0:=by omega
       have Hq:=LH hq0
       clear hq0
       go_wp2
       go_roundw
       case rel=>exact⟨a / 10,one (48+ -((a:Int) % 10))++s,by omega,by go_num,rfl,by rw [<- Hd.out,<- Hst.out,Hq.out];congr 3;omega,hb.alloc hbs _⟩
       case measure=>simp [intOf];omega
  ·
   go_enter Tryz.func96,Tryz.ntmps96
   go_wp2
   go_loopw [0,4,5] (fun t i _ wr=>∃ (a:Nat) (s:ByteArray),a<=9223372036854775807/\t= .int .i64 a/\i= .string s/\digR a s=digR n.toNat ⟨#[]⟩/\Below w.heap.size w wr) (fun t _ _ _=>(intOf t).toNat)
   case atStart=>exact⟨n.toNat,⟨#[]⟩,by omega,by go_num,rfl,rfl,Below.refl _ _⟩
   case round=>
    obtain⟨a,s,ha,rfl,rfl,hd,hb⟩:=hrel
    have hs:s.size<=19:=by
     have g1:=digR_size a s
     rw [hd,digR_start (by omega)] at g1
     have:=digU_size19 n.toNat (by omega)
     omega
    have Hd:=LH hd
    clear hd
    have hbs:=hb.size
    rcases Nat.eq_zero_or_pos a with hz0 | hp
    · subst hz0
      go_wp2
      go_ret
      refine⟨ret_str ?_,hb⟩
      have e:=Hd.out
      rw [digR_zero,digR_start (by omega)] at e
      rw [e];unfold digI;rw [if_neg (by omega)]
    · have hk1:((a:Int) != 0)=true:=by simp;omega
      have hm:0<=(a:Int) % 10/\(a:Int) % 10<=9:=by omega
      have Hst:=LH (digR_step (a:=a) (by omega) s)
      go_wp2
      go_roundw
      case rel=>exact⟨a / 10,one (48+(a:Int) % 10)++s,by omega,by go_num,rfl,by rw [<- Hd.out,<- Hst.out];simp,hb.alloc hbs _⟩
      case measure=>simp [intOf];omega
end Go.Proofs.YtgbjdhfaklmjcaaGreat
