/- Texts of the claim LTreesRight in one: PaG PaH PaI PaQ GValue Dn. Conditions: none but bounds on sizes. -/
import Derived.Test.YtamfolaicncblaaGreatZLTreesRight4
import Derived.Test.YtamfolaicncblaaGreatZLTreesRight0
import Derived.Test.YtamfolaicncblaaGreatZLTreesRight2
namespace Go.Proofs.YtamfolaicncblaaGreat
set_option maxRecDepth 20000
set_option linter.unusedVariables false
set_option linter.unusedSimpArgs false
open Go.RowKit
set_option maxHeartbeats 2000000
theorem ndOf {X:Nat->Prop} {w:World} {B:Nat} {T:TypeId} {A:Option Addr} {c:Nat} {op:Int} {ks:List GNode} (h:Grx X w B T 5 (.slice A ks.length c) ks.length (ks.map GNode.toD)) (hX:∀ b,B<=b->X b) (ho:(Lit.int .i64 op).wf=true):GNode.At w (fun b=>b<w.heap.size/\X b) A c (nd op ks):=by
 obtain⟨A',c',e,hs⟩:=h.sl hX
 obtain⟨rfl,rfl⟩:A=A'/\c=c':=by simpa using e
 exact⟨ho,(show(Lit.int .i64 0).wf=true by decide),empty_le,empty_le,hs⟩
theorem l3Product (k:Nat) (hA:∀ j,j<=k->Ok1 141 pApply j):Ok1 139 pProduct (k+1):=by
 intro ts g L cl V cv st w h n st' hp
 simp [pProduct,Option.bind_eq_some_iff] at hp
 obtain⟨n0,s0,hp0,hp1⟩:=hp
 have HA:=LH hA
 have HL:=LH hp1
 clear hA hp1
 have HC:=LH h
 have M0:=LH h.mv
 have hgl:=h.row.lt
 clear h
 go_enter Tryz.func139,Tryz.ntmps139
 go_wp2_with fail
 obtain⟨w1,e1,Rr1,hz1,K1⟩:=boxed w 49 #[.int .i64 0,.int .i64 0,.string ⟨#[]⟩,.string ⟨#[]⟩,.slice none 0 0]
 have M1:=LH (M0.out.chg K1.out (by omega) (by omega))
 rw [<- e1]
 clear e1
 refine(HA.out k (Nat.le_refl _) ts g L cl V cv st w1 (M1.out.cur HC.out) n0 s0 hp0).mono ?_
 rintro e w2 ⟨A0,c0,rfl,ha2,hm2⟩
 have hz2:=hm2.size
 have K2:=LH hm2.bx
 have DN2:=LH ha2
 have Rr2:=LH (K2.out.row Rr1.out (by omega))
 have M2:=LH (M1.out.trans hm2)
 clear Rr1 M1
 clear hm2 ha2
 clear hp0
 go_wp2_with fail
 obtain⟨w3,e3,Ra3,hz3,K3⟩:=boxed w2 49 #[.int .i64 n0.op,.int .i64 n0.n,.string n0.s,.string n0.t,.slice A0 n0.kids.length c0]
 have Rr3:=LH (K3.out.row Rr2.out (by omega))
 have D03:=LH (DN2.out.keep fun b hb=>K3.out.kq hb (by have h2:=hb.2;omega))
 have M3:=LH (M2.out.chg K3.out (by omega) (by omega))
 clear Rr2 DN2 M2
 rw [<- e3]
 clear e3
 have hINV:∃ I:Nat->World->Prop,I=fun j wr=>∃ (x:GNode) (s:PSt) (A:Option Addr) (c:Nat),pMuls ts j s x=some (n,st')/\j<=k/\Row wr w2.heap.size 49 #[.int .i64 x.op,.int .i64 x.n,.string x.s,.string x.t,.slice A x.kids.length c]/\Row wr w.heap.size 49 #[.int .i64 0,.int .i64 0,.string ⟨#[]⟩,.string ⟨#[]⟩,.slice none 0 0]/\GNode.At wr (fun b=>b<wr.heap.size/\w.heap.size<=b/\b≠w2.heap.size/\b≠w.heap.size) A c x/\Mv ts g L cl V cv st.vars s w wr/\w2.heap.size<wr.heap.size:=⟨_,rfl⟩
 obtain⟨I,hI⟩:=hINV
 have HI:=LH hI
 have I0:I k w3:=by
  rw [hI]
  exact⟨n0,s0,A0,c0,HL.out,Nat.le_refl _,Ra3.out,Rr3.out,D03.out.keep fun b hb=>⟨⟨by have h2:=hb.2;omega,by have h2:=hb.2;omega⟩,rfl⟩,M3.out,Ra3.out.lt⟩
 go_loopw [4] (fun v wr=>∃ j,I j wr) (fun _ wr=>leastK (fun j=>I j wr))
 case atStart=>exact⟨k,I0⟩
 case round=>
  have hex:=hrel
  have hleast:=leastK_spec (I:=fun j=>I j wr) hex
  obtain⟨j,hj⟩:∃ j,leastK (fun j=>I j wr)=j:=⟨_,rfl⟩
  rw [hj] at hleast
  have HJ:=LH hj
  clear hj hex hrel I0
  rw [hI] at hleast
  obtain⟨x,s,A,c,hx,hjk,ra,rr,da,hm,hnl⟩:=hleast
  clear Ra3 Rr3 D03 M3 hI
  have RA0:=LH ra
  have RR0:=LH rr
  have DA0:=LH da
  have MR0:=LH hm
  clear ra rr da hm
  cases j with
  | zero=>simp [pMuls] at hx
  | succ j=>
   go_wp2_with fail
   refine(l3Sign ts g L cl V cv s wr (MR0.out.cur HC.out) ⟨#[42]⟩).mono ?_
   rintro e w4 ⟨rfl,hb4⟩
   have hz4:=hb4.size
   have K4:=LH (Bx.of_below (g:=g) hb4 (Nat.le_refl _))
   have Rr4:=LH (K4.out.row RR0.out (by omega))
   have Ra4:=LH (K4.out.row RA0.out (by omega))
   have Da4:=LH (DA0.out.keep fun b hb=>K4.out.kq hb (by have h2:=hb.2;omega))
   have M4:=LH (MR0.out.below hb4)
   clear RR0 RA0 DA0 MR0
   clear hb4
   have hcr4:=fun i=>Rr4.out.cell i
   have hfr4:=fun i=>Rr4.out.frozen i
   have hca4:=fun i=>Ra4.out.cell i
   cases hs:pSign ts [42] s
   ·
    simp [pMuls,hs,Option.bind_eq_some_iff] at hx
    obtain⟨rfl,rfl⟩:=hx
    go_wp2_with fail
    clear hcr4 hfr4 hca4
    obtain⟨w5,e5,RN5,hz5,K5⟩:=stored5 Rr4.out (.int .i64 x.op) (.int .i64 x.n) (.string x.s) (.string x.t) (.slice A x.kids.length c)
    have Da5:=LH (Da4.out.keep fun b hb=>K5.out.kq hb (by have h2:=hb.2;omega))
    have M5:=LH (M4.out.chg K5.out (by omega) (by omega))
    clear Ra4 Da4 M4
    clear Rr4
    rw [<- e5]
    clear e5
    have hcr5:=fun i=>RN5.out.cell i
    refine bodyPost_ret (v:=.agg #[.int .i64 x.op,.int .i64 x.n,.string x.s,.string x.t,.slice A x.kids.length c]) (by simp [results,Tryz.results139,go_sem,hcr5]) rfl ?_
    exact⟨A,c,rfl,Da5.out.keep fun b hb=>⟨⟨by have h2:=hb.2;omega,by have h2:=hb.2;omega⟩,rfl⟩,M5.out⟩
   ·
    simp [pMuls,hs,Option.bind_eq_some_iff] at hx
    obtain⟨n1,s1,hq,hr⟩:=hx
    have HR:=LH hr
    clear hr
    go_wp2_with fail
    refine(l3Next ts g L cl V cv s w4 (M4.out.cur HC.out)).mono ?_
    clear hcr4 hfr4 hca4
    rintro e w5 ⟨rfl,hm5⟩
    replace hm5:Mv ts g L cl V cv s.vars (pNext ts s) w4 w5:=hm5
    have hz5:=hm5.size
    have K5:=LH hm5.bx
    have Rr5:=LH (K5.out.row Rr4.out (by omega))
    have Ra5:=LH (K5.out.row Ra4.out (by omega))
    have Da5:=LH (Da4.out.keep fun b hb=>K5.out.kq hb (by have h2:=hb.2;omega))
    have M5:=LH (M4.out.trans hm5)
    clear Rr4 Ra4 Da4 M4
    clear hm5
    go_wp2_with fail
    refine(HA.out j (by omega) ts g L cl V cv (pNext ts s) w5 (M5.out.cur HC.out) n1 s1 hq).mono ?_
    rintro e w6 ⟨A1,c1,rfl,ha6,hm6⟩
    have hz6:=hm6.size
    have K6:=LH hm6.bx
    have DN6:=LH ha6
    have Rr6:=LH (K6.out.row Rr5.out (by omega))
    have Ra6:=LH (K6.out.row Ra5.out (by omega))
    have Da6:=LH (Da5.out.keep fun b hb=>K6.out.kq hb (by have h2:=hb.2;omega))
    have M6:=LH (M5.out.trans hm6)
    clear Rr5 Ra5 Da5 M5
    clear hm6 ha6
    have hca6:=fun i=>Ra6.out.cell i
    have hla6:=Ra6.out.lt
    clear hq
    go_wp2_with fail
    clear hca6 hla6
    obtain⟨w7,e7,Rb7,hz7,K7⟩:=boxed w6 49 #[.int .i64 n1.op,.int .i64 n1.n,.string n1.s,.string n1.t,.slice A1 n1.kids.length c1]
    have Rr7:=LH (K7.out.row Rr6.out (by omega))
    have Ra7:=LH (K7.out.row Ra6.out (by omega))
    have Da7:=LH (Da6.out.keep fun b hb=>K7.out.kq hb (by have h2:=hb.2;omega))
    have D17:=LH (DN6.out.keep fun b hb=>K7.out.kq hb (by have h2:=hb.2;omega))
    have M7:=LH (M6.out.chg K7.out (by omega) (by omega))
    clear Rr6 Ra6 Da6 DN6 M6
    obtain⟨w8,e8,Rrow8,hz8,K8⟩:=boxed w7 49 #[.int .i64 x.op,.int .i64 x.n,.string x.s,.string x.t,.slice A x.kids.length c,.int .i64 n1.op,.int .i64 n1.n,.string n1.s,.string n1.t,.slice A1 n1.kids.length c1]
    have hy8:w7.heap.size=(w6.heap.size+1):=by omega
    rw [hy8] at Rrow8 K8
    have Rr8:=LH (K8.out.row Rr7.out (by omega))
    have Ra8:=LH (K8.out.row Ra7.out (by omega))
    have Da8:=LH (Da7.out.keep fun b hb=>K8.out.kq hb (by have h2:=hb.2;omega))
    have D18:=LH (D17.out.keep fun b hb=>K8.out.kq hb (by have h2:=hb.2;omega))
    have M8:=LH (M7.out.chg K8.out (by omega) (by omega))
    clear Rr7 Ra7 Rb7 Da7 D17 M7
    have SL8:=LH (show Sl w8 (fun b=>b<w8.heap.size/\w.heap.size<=b/\b≠w2.heap.size/\b≠w.heap.size) 5 (some ⟨(w6.heap.size+1),0,none⟩) 2 ([x,n1].map GNode.toD) from Sl.ofRow Rrow8.out (rdC_cons (GNode.rd_mk (Da8.out.keep (w':=w8) (S':=fun b=>b<w8.heap.size/\w.heap.size<=b/\b≠w2.heap.size/\b≠w.heap.size) fun b hb=>⟨⟨by have h2:=hb.2;omega,by have h2:=hb.2;omega⟩,rfl⟩)) rfl (rdC_one1 (GNode.rd_mk (D18.out.keep (w':=w8) (S':=fun b=>b<w8.heap.size/\w.heap.size<=b/\b≠w2.heap.size/\b≠w.heap.size) fun b hb=>⟨⟨by have h2:=hb.2;omega,by have h2:=hb.2;omega⟩,rfl⟩)) rfl)) ⟨by omega,by omega⟩ (by simp) (by unfold maxLen;omega))
    rw [<- e7,<- e8]
    clear e7 e8
    refine(l3Node (fun b=>w.heap.size<=b/\b≠w2.heap.size/\b≠w.heap.size) (12) [x,n1] (some ⟨(w6.heap.size+1),0,none⟩) 2 w8 SL8.out (by simp)).mono ?_
    rintro e w9 ⟨A2,c2,rfl,hG9,hb9⟩
    have K9:=LH (Bx.of_below (g:=g) hb9 (Nat.le_refl _))
    have GN9:=LH hG9
    have Rr9:=LH (K9.out.row Rr8.out (by omega))
    have Ra9:=LH (K9.out.row Ra8.out (by omega))
    have M9:=LH (M8.out.below hb9)
    clear Rr8 Ra8 Rrow8 Da8 D18 M8
    clear hb9 hG9
    have hca9:=fun i=>Ra9.out.cell i
    have hfa9:=fun i=>Ra9.out.frozen i
    have DD:=LH (ndOf (op:=12) GN9.out (fun b h=>by omega) (by decide))
    go_wp2_with fail
    clear hca9 hfa9
    obtain⟨w10,e10,RN10,hz10,K10⟩:=stored5 Ra9.out (.int .i64 12) (.int .i64 0) (.string ⟨#[]⟩) (.string ⟨#[]⟩) (.slice A2 2 c2)
    have Rr10:=LH (K10.out.row Rr9.out (by omega))
    have D210:=LH (DD.out.keep fun b hb=>K10.out.kq hb (by have h2:=hb.2;omega))
    have M10:=LH (M9.out.chg K10.out (by omega) (by omega))
    clear Rr9 DD M9
    clear Ra9
    rw [<- e10]
    clear e10
    have HN:I j w10:=by
     rw [HI.out]
     exact⟨nd (12) [x,n1],s1,A2,c2,HR.out,by omega,RN10.out,Rr10.out,D210.out.keep fun b hb=>⟨⟨by have h2:=hb.2;omega,hb.2⟩,rfl⟩,M10.out,RN10.out.lt⟩
    go_roundw
    case rel=>exact⟨j,HN⟩
    case measure=>rw [HJ.out];exact Nat.lt_succ_of_le (leastK_le (I:=fun j=>I j w10) HN)
theorem l3Sum (k:Nat) (hA:∀ j,j<=k->Ok1 139 pProduct j):Ok1 128 pSum (k+1):=by
 intro ts g L cl V cv st w h n st' hp
 simp [pSum,Option.bind_eq_some_iff] at hp
 obtain⟨n0,s0,hp0,hp1⟩:=hp
 have HA:=LH hA
 have HL:=LH hp1
 clear hA hp1
 have HC:=LH h
 have M0:=LH h.mv
 have hgl:=h.row.lt
 clear h
 go_enter Tryz.func128,Tryz.ntmps128
 go_wp2_with fail
 obtain⟨w1,e1,Rr1,hz1,K1⟩:=boxed w 49 #[.int .i64 0,.int .i64 0,.string ⟨#[]⟩,.string ⟨#[]⟩,.slice none 0 0]
 have M1:=LH (M0.out.chg K1.out (by omega) (by omega))
 rw [<- e1]
 clear e1
 refine(HA.out k (Nat.le_refl _) ts g L cl V cv st w1 (M1.out.cur HC.out) n0 s0 hp0).mono ?_
 rintro e w2 ⟨A0,c0,rfl,ha2,hm2⟩
 have hz2:=hm2.size
 have K2:=LH hm2.bx
 have DN2:=LH ha2
 have Rr2:=LH (K2.out.row Rr1.out (by omega))
 have M2:=LH (M1.out.trans hm2)
 clear Rr1 M1
 clear hm2 ha2
 clear hp0
 go_wp2_with fail
 obtain⟨w3,e3,Ra3,hz3,K3⟩:=boxed w2 49 #[.int .i64 n0.op,.int .i64 n0.n,.string n0.s,.string n0.t,.slice A0 n0.kids.length c0]
 have Rr3:=LH (K3.out.row Rr2.out (by omega))
 have D03:=LH (DN2.out.keep fun b hb=>K3.out.kq hb (by have h2:=hb.2;omega))
 have M3:=LH (M2.out.chg K3.out (by omega) (by omega))
 clear Rr2 DN2 M2
 rw [<- e3]
 clear e3
 have hINV:∃ I:Nat->World->Prop,I=fun j wr=>∃ (x:GNode) (s:PSt) (A:Option Addr) (c:Nat),pAdds ts j s x=some (n,st')/\j<=k/\Row wr w2.heap.size 49 #[.int .i64 x.op,.int .i64 x.n,.string x.s,.string x.t,.slice A x.kids.length c]/\Row wr w.heap.size 49 #[.int .i64 0,.int .i64 0,.string ⟨#[]⟩,.string ⟨#[]⟩,.slice none 0 0]/\GNode.At wr (fun b=>b<wr.heap.size/\w.heap.size<=b/\b≠w2.heap.size/\b≠w.heap.size) A c x/\Mv ts g L cl V cv st.vars s w wr/\w2.heap.size<wr.heap.size:=⟨_,rfl⟩
 obtain⟨I,hI⟩:=hINV
 have HI:=LH hI
 have I0:I k w3:=by
  rw [hI]
  exact⟨n0,s0,A0,c0,HL.out,Nat.le_refl _,Ra3.out,Rr3.out,D03.out.keep fun b hb=>⟨⟨by have h2:=hb.2;omega,by have h2:=hb.2;omega⟩,rfl⟩,M3.out,Ra3.out.lt⟩
 go_loopw [5] (fun v wr=>∃ j,I j wr) (fun _ wr=>leastK (fun j=>I j wr))
 case atStart=>exact⟨k,I0⟩
 case round=>
  have hex:=hrel
  have hleast:=leastK_spec (I:=fun j=>I j wr) hex
  obtain⟨j,hj⟩:∃ j,leastK (fun j=>I j wr)=j:=⟨_,rfl⟩
  rw [hj] at hleast
  have HJ:=LH hj
  clear hj hex hrel I0
  rw [hI] at hleast
  obtain⟨x,s,A,c,hx,hjk,ra,rr,da,hm,hnl⟩:=hleast
  clear Ra3 Rr3 D03 M3 hI
  have RA0:=LH ra
  have RR0:=LH rr
  have DA0:=LH da
  have MR0:=LH hm
  clear ra rr da hm
  cases j with
  | zero=>simp [pAdds] at hx
  | succ j=>
   go_wp2_with fail
   refine(l3Sign ts g L cl V cv s wr (MR0.out.cur HC.out) ⟨#[43]⟩).mono ?_
   rintro e w4 ⟨rfl,hb4⟩
   have hz4:=hb4.size
   have K4:=LH (Bx.of_below (g:=g) hb4 (Nat.le_refl _))
   have Rr4:=LH (K4.out.row RR0.out (by omega))
   have Ra4:=LH (K4.out.row RA0.out (by omega))
   have Da4:=LH (DA0.out.keep fun b hb=>K4.out.kq hb (by have h2:=hb.2;omega))
   have M4:=LH (MR0.out.below hb4)
   clear RR0 RA0 DA0 MR0
   clear hb4
   cases hs:pSign ts [43] s
   ·
    go_wp2_with fail
    refine(l3Sign ts g L cl V cv s w4 (M4.out.cur HC.out) ⟨#[45]⟩).mono ?_
    rintro e w5 ⟨rfl,hb5⟩
    have hz5:=hb5.size
    have K5:=LH (Bx.of_below (g:=g) hb5 (Nat.le_refl _))
    have Rr5:=LH (K5.out.row Rr4.out (by omega))
    have Ra5:=LH (K5.out.row Ra4.out (by omega))
    have Da5:=LH (Da4.out.keep fun b hb=>K5.out.kq hb (by have h2:=hb.2;omega))
    have M5:=LH (M4.out.below hb5)
    clear Rr4 Ra4 Da4 M4
    clear hb5
    have hcr5:=fun i=>Rr5.out.cell i
    have hfr5:=fun i=>Rr5.out.frozen i
    have hca5:=fun i=>Ra5.out.cell i
    cases hs2:pSign ts [45] s
    ·
     simp [pAdds,hs,hs2,Option.bind_eq_some_iff] at hx
     obtain⟨rfl,rfl⟩:=hx
     go_wp2_with fail
     clear hcr5 hfr5 hca5
     obtain⟨w6,e6,RN6,hz6,K6⟩:=stored5 Rr5.out (.int .i64 x.op) (.int .i64 x.n) (.string x.s) (.string x.t) (.slice A x.kids.length c)
     have Da6:=LH (Da5.out.keep fun b hb=>K6.out.kq hb (by have h2:=hb.2;omega))
     have M6:=LH (M5.out.chg K6.out (by omega) (by omega))
     clear Ra5 Da5 M5
     clear Rr5
     rw [<- e6]
     clear e6
     have hcr6:=fun i=>RN6.out.cell i
     refine bodyPost_ret (v:=.agg #[.int .i64 x.op,.int .i64 x.n,.string x.s,.string x.t,.slice A x.kids.length c]) (by simp [results,Tryz.results128,go_sem,hcr6]) rfl ?_
     exact⟨A,c,rfl,Da6.out.keep fun b hb=>⟨⟨by have h2:=hb.2;omega,by have h2:=hb.2;omega⟩,rfl⟩,M6.out⟩
    ·
     go_wp2_with fail
     refine(l3Sign ts g L cl V cv s w5 (M5.out.cur HC.out) ⟨#[45]⟩).mono ?_
     clear hcr5 hfr5 hca5
     rintro e w6 ⟨rfl,hb6⟩
     have hz6:=hb6.size
     have K6:=LH (Bx.of_below (g:=g) hb6 (Nat.le_refl _))
     have Rr6:=LH (K6.out.row Rr5.out (by omega))
     have Ra6:=LH (K6.out.row Ra5.out (by omega))
     have Da6:=LH (Da5.out.keep fun b hb=>K6.out.kq hb (by have h2:=hb.2;omega))
     have M6:=LH (M5.out.below hb6)
     clear Rr5 Ra5 Da5 M5
     clear hb6
     rw [hs2]
     simp [pAdds,hs,hs2,Option.bind_eq_some_iff] at hx
     obtain⟨n1,s1,hq,hr⟩:=hx
     have HR:=LH hr
     clear hr
     go_wp2_with fail
     refine(l3Next ts g L cl V cv s w6 (M6.out.cur HC.out)).mono ?_
     rintro e w7 ⟨rfl,hm7⟩
     replace hm7:Mv ts g L cl V cv s.vars (pNext ts s) w6 w7:=hm7
     have hz7:=hm7.size
     have K7:=LH hm7.bx
     have Rr7:=LH (K7.out.row Rr6.out (by omega))
     have Ra7:=LH (K7.out.row Ra6.out (by omega))
     have Da7:=LH (Da6.out.keep fun b hb=>K7.out.kq hb (by have h2:=hb.2;omega))
     have M7:=LH (M6.out.trans hm7)
     clear Rr6 Ra6 Da6 M6
     clear hm7
     go_wp2_with fail
     refine(HA.out j (by omega) ts g L cl V cv (pNext ts s) w7 (M7.out.cur HC.out) n1 s1 hq).mono ?_
     rintro e w8 ⟨A1,c1,rfl,ha8,hm8⟩
     have hz8:=hm8.size
     have K8:=LH hm8.bx
     have DN8:=LH ha8
     have Rr8:=LH (K8.out.row Rr7.out (by omega))
     have Ra8:=LH (K8.out.row Ra7.out (by omega))
     have Da8:=LH (Da7.out.keep fun b hb=>K8.out.kq hb (by have h2:=hb.2;omega))
     have M8:=LH (M7.out.trans hm8)
     clear Rr7 Ra7 Da7 M7
     clear hm8 ha8
     have hca8:=fun i=>Ra8.out.cell i
     have hla8:=Ra8.out.lt
     clear hq
     go_wp2_with fail
     clear hca8 hla8
     obtain⟨w9,e9,Rb9,hz9,K9⟩:=boxed w8 49 #[.int .i64 n1.op,.int .i64 n1.n,.string n1.s,.string n1.t,.slice A1 n1.kids.length c1]
     have Rr9:=LH (K9.out.row Rr8.out (by omega))
     have Ra9:=LH (K9.out.row Ra8.out (by omega))
     have Da9:=LH (Da8.out.keep fun b hb=>K9.out.kq hb (by have h2:=hb.2;omega))
     have D19:=LH (DN8.out.keep fun b hb=>K9.out.kq hb (by have h2:=hb.2;omega))
     have M9:=LH (M8.out.chg K9.out (by omega) (by omega))
     clear Rr8 Ra8 Da8 DN8 M8
     obtain⟨w10,e10,Rrow10,hz10,K10⟩:=boxed w9 49 #[.int .i64 x.op,.int .i64 x.n,.string x.s,.string x.t,.slice A x.kids.length c,.int .i64 n1.op,.int .i64 n1.n,.string n1.s,.string n1.t,.slice A1 n1.kids.length c1]
     have hy10:w9.heap.size=(w8.heap.size+1):=by omega
     rw [hy10] at Rrow10 K10
     have Rr10:=LH (K10.out.row Rr9.out (by omega))
     have Ra10:=LH (K10.out.row Ra9.out (by omega))
     have Da10:=LH (Da9.out.keep fun b hb=>K10.out.kq hb (by have h2:=hb.2;omega))
     have D110:=LH (D19.out.keep fun b hb=>K10.out.kq hb (by have h2:=hb.2;omega))
     have M10:=LH (M9.out.chg K10.out (by omega) (by omega))
     clear Rr9 Ra9 Rb9 Da9 D19 M9
     have SL10:=LH (show Sl w10 (fun b=>b<w10.heap.size/\w.heap.size<=b/\b≠w2.heap.size/\b≠w.heap.size) 5 (some ⟨(w8.heap.size+1),0,none⟩) 2 ([x,n1].map GNode.toD) from Sl.ofRow Rrow10.out (rdC_cons (GNode.rd_mk (Da10.out.keep (w':=w10) (S':=fun b=>b<w10.heap.size/\w.heap.size<=b/\b≠w2.heap.size/\b≠w.heap.size) fun b hb=>⟨⟨by have h2:=hb.2;omega,by have h2:=hb.2;omega⟩,rfl⟩)) rfl (rdC_one1 (GNode.rd_mk (D110.out.keep (w':=w10) (S':=fun b=>b<w10.heap.size/\w.heap.size<=b/\b≠w2.heap.size/\b≠w.heap.size) fun b hb=>⟨⟨by have h2:=hb.2;omega,by have h2:=hb.2;omega⟩,rfl⟩)) rfl)) ⟨by omega,by omega⟩ (by simp) (by unfold maxLen;omega))
     rw [<- e9,<- e10]
     clear e9 e10
     refine(l3Node (fun b=>w.heap.size<=b/\b≠w2.heap.size/\b≠w.heap.size) (11) [x,n1] (some ⟨(w8.heap.size+1),0,none⟩) 2 w10 SL10.out (by simp)).mono ?_
     rintro e w11 ⟨A2,c2,rfl,hG11,hb11⟩
     have K11:=LH (Bx.of_below (g:=g) hb11 (Nat.le_refl _))
     have GN11:=LH hG11
     have Rr11:=LH (K11.out.row Rr10.out (by omega))
     have Ra11:=LH (K11.out.row Ra10.out (by omega))
     have M11:=LH (M10.out.below hb11)
     clear Rr10 Ra10 Rrow10 Da10 D110 M10
     clear hb11 hG11
     have hca11:=fun i=>Ra11.out.cell i
     have hfa11:=fun i=>Ra11.out.frozen i
     have DD:=LH (ndOf (op:=11) GN11.out (fun b h=>by omega) (by decide))
     go_wp2_with fail
     clear hca11
     obtain⟨w12,e12,RN12,hz12,K12⟩:=stored5 Ra11.out (.int .i64 11) (.int .i64 0) (.string ⟨#[]⟩) (.string ⟨#[]⟩) (.slice A2 2 c2)
     have Rr12:=LH (K12.out.row Rr11.out (by omega))
     have D212:=LH (DD.out.keep fun b hb=>K12.out.kq hb (by have h2:=hb.2;omega))
     have M12:=LH (M11.out.chg K12.out (by omega) (by omega))
     clear Rr11 DD M11
     clear Ra11
     rw [<- e12]
     clear e12
     have HN:I j w12:=by
      rw [HI.out]
      exact⟨nd (11) [x,n1],s1,A2,c2,HR.out,by omega,RN12.out,Rr12.out,D212.out.keep fun b hb=>⟨⟨by have h2:=hb.2;omega,hb.2⟩,rfl⟩,M12.out,RN12.out.lt⟩
     go_roundw
     case rel=>exact⟨j,HN⟩
     case measure=>rw [HJ.out];exact Nat.lt_succ_of_le (leastK_le (I:=fun j=>I j w12) HN)
   ·
    go_wp2_with fail
    refine(l3Sign ts g L cl V cv s w4 (M4.out.cur HC.out) ⟨#[45]⟩).mono ?_
    rintro e w5 ⟨rfl,hb5⟩
    have hz5:=hb5.size
    have K5:=LH (Bx.of_below (g:=g) hb5 (Nat.le_refl _))
    have Rr5:=LH (K5.out.row Rr4.out (by omega))
    have Ra5:=LH (K5.out.row Ra4.out (by omega))
    have Da5:=LH (Da4.out.keep fun b hb=>K5.out.kq hb (by have h2:=hb.2;omega))
    have M5:=LH (M4.out.below hb5)
    clear Rr4 Ra4 Da4 M4
    clear hb5
    cases hs2:pSign ts [45] s
    ·
     simp [pAdds,hs,hs2,Option.bind_eq_some_iff] at hx
     obtain⟨n1,s1,hq,hr⟩:=hx
     have HR:=LH hr
     clear hr
     go_wp2_with fail
     refine(l3Next ts g L cl V cv s w5 (M5.out.cur HC.out)).mono ?_
     rintro e w6 ⟨rfl,hm6⟩
     replace hm6:Mv ts g L cl V cv s.vars (pNext ts s) w5 w6:=hm6
     have hz6:=hm6.size
     have K6:=LH hm6.bx
     have Rr6:=LH (K6.out.row Rr5.out (by omega))
     have Ra6:=LH (K6.out.row Ra5.out (by omega))
     have Da6:=LH (Da5.out.keep fun b hb=>K6.out.kq hb (by have h2:=hb.2;omega))
     have M6:=LH (M5.out.trans hm6)
     clear Rr5 Ra5 Da5 M5
     clear hm6
     go_wp2_with fail
     refine(HA.out j (by omega) ts g L cl V cv (pNext ts s) w6 (M6.out.cur HC.out) n1 s1 hq).mono ?_
     rintro e w7 ⟨A1,c1,rfl,ha7,hm7⟩
     have hz7:=hm7.size
     have K7:=LH hm7.bx
     have DN7:=LH ha7
     have Rr7:=LH (K7.out.row Rr6.out (by omega))
     have Ra7:=LH (K7.out.row Ra6.out (by omega))
     have Da7:=LH (Da6.out.keep fun b hb=>K7.out.kq hb (by have h2:=hb.2;omega))
     have M7:=LH (M6.out.trans hm7)
     clear Rr6 Ra6 Da6 M6
     clear hm7 ha7
     have hca7:=fun i=>Ra7.out.cell i
     have hla7:=Ra7.out.lt
     clear hq
     go_wp2_with fail
     clear hca7 hla7
     obtain⟨w8,e8,Rb8,hz8,K8⟩:=boxed w7 49 #[.int .i64 n1.op,.int .i64 n1.n,.string n1.s,.string n1.t,.slice A1 n1.kids.length c1]
     have Rr8:=LH (K8.out.row Rr7.out (by omega))
     have Ra8:=LH (K8.out.row Ra7.out (by omega))
     have Da8:=LH (Da7.out.keep fun b hb=>K8.out.kq hb (by have h2:=hb.2;omega))
     have D18:=LH (DN7.out.keep fun b hb=>K8.out.kq hb (by have h2:=hb.2;omega))
     have M8:=LH (M7.out.chg K8.out (by omega) (by omega))
     clear Rr7 Ra7 Da7 DN7 M7
     obtain⟨w9,e9,Rrow9,hz9,K9⟩:=boxed w8 49 #[.int .i64 x.op,.int .i64 x.n,.string x.s,.string x.t,.slice A x.kids.length c,.int .i64 n1.op,.int .i64 n1.n,.string n1.s,.string n1.t,.slice A1 n1.kids.length c1]
     have hy9:w8.heap.size=(w7.heap.size+1):=by omega
     rw [hy9] at Rrow9 K9
     have Rr9:=LH (K9.out.row Rr8.out (by omega))
     have Ra9:=LH (K9.out.row Ra8.out (by omega))
     have Da9:=LH (Da8.out.keep fun b hb=>K9.out.kq hb (by have h2:=hb.2;omega))
     have D19:=LH (D18.out.keep fun b hb=>K9.out.kq hb (by have h2:=hb.2;omega))
     have M9:=LH (M8.out.chg K9.out (by omega) (by omega))
     clear Rr8 Ra8 Rb8 Da8 D18 M8
     have SL9:=LH (show Sl w9 (fun b=>b<w9.heap.size/\w.heap.size<=b/\b≠w2.heap.size/\b≠w.heap.size) 5 (some ⟨(w7.heap.size+1),0,none⟩) 2 ([x,n1].map GNode.toD) from Sl.ofRow Rrow9.out (rdC_cons (GNode.rd_mk (Da9.out.keep (w':=w9) (S':=fun b=>b<w9.heap.size/\w.heap.size<=b/\b≠w2.heap.size/\b≠w.heap.size) fun b hb=>⟨⟨by have h2:=hb.2;omega,by have h2:=hb.2;omega⟩,rfl⟩)) rfl (rdC_one1 (GNode.rd_mk (D19.out.keep (w':=w9) (S':=fun b=>b<w9.heap.size/\w.heap.size<=b/\b≠w2.heap.size/\b≠w.heap.size) fun b hb=>⟨⟨by have h2:=hb.2;omega,by have h2:=hb.2;omega⟩,rfl⟩)) rfl)) ⟨by omega,by omega⟩ (by simp) (by unfold maxLen;omega))
     rw [<- e8,<- e9]
     clear e8 e9
     refine(l3Node (fun b=>w.heap.size<=b/\b≠w2.heap.size/\b≠w.heap.size) (10) [x,n1] (some ⟨(w7.heap.size+1),0,none⟩) 2 w9 SL9.out (by simp)).mono ?_
     rintro e w10 ⟨A2,c2,rfl,hG10,hb10⟩
     have K10:=LH (Bx.of_below (g:=g) hb10 (Nat.le_refl _))
     have GN10:=LH hG10
     have Rr10:=LH (K10.out.row Rr9.out (by omega))
     have Ra10:=LH (K10.out.row Ra9.out (by omega))
     have M10:=LH (M9.out.below hb10)
     clear Rr9 Ra9 Rrow9 Da9 D19 M9
     clear hb10 hG10
     have hca10:=fun i=>Ra10.out.cell i
     have hfa10:=fun i=>Ra10.out.frozen i
     have DD:=LH (ndOf (op:=10) GN10.out (fun b h=>by omega) (by decide))
     go_wp2_with fail
     clear hca10 hfa10
     obtain⟨w11,e11,RN11,hz11,K11⟩:=stored5 Ra10.out (.int .i64 10) (.int .i64 0) (.string ⟨#[]⟩) (.string ⟨#[]⟩) (.slice A2 2 c2)
     have Rr11:=LH (K11.out.row Rr10.out (by omega))
     have D211:=LH (DD.out.keep fun b hb=>K11.out.kq hb (by have h2:=hb.2;omega))
     have M11:=LH (M10.out.chg K11.out (by omega) (by omega))
     clear Rr10 DD M10
     clear Ra10
     rw [<- e11]
     clear e11
     have hca11:=fun i=>RN11.out.cell i
     have HN:I j w11:=by
      rw [HI.out]
      exact⟨nd (10) [x,n1],s1,A2,c2,HR.out,by omega,RN11.out,Rr11.out,D211.out.keep fun b hb=>⟨⟨by have h2:=hb.2;omega,hb.2⟩,rfl⟩,M11.out,RN11.out.lt⟩
     go_roundw
     case rel=>exact⟨j,HN⟩
     case measure=>rw [HJ.out];exact Nat.lt_succ_of_le (leastK_le (I:=fun j=>I j w11) HN)
    ·
     simp [pAdds,hs,hs2,Option.bind_eq_some_iff] at hx
     obtain⟨n1,s1,hq,hr⟩:=hx
     have HR:=LH hr
     clear hr
     go_wp2_with fail
     refine(l3Next ts g L cl V cv s w5 (M5.out.cur HC.out)).mono ?_
     rintro e w6 ⟨rfl,hm6⟩
     replace hm6:Mv ts g L cl V cv s.vars (pNext ts s) w5 w6:=hm6
     have hz6:=hm6.size
     have K6:=LH hm6.bx
     have Rr6:=LH (K6.out.row Rr5.out (by omega))
     have Ra6:=LH (K6.out.row Ra5.out (by omega))
     have Da6:=LH (Da5.out.keep fun b hb=>K6.out.kq hb (by have h2:=hb.2;omega))
     have M6:=LH (M5.out.trans hm6)
     clear Rr5 Ra5 Da5 M5
     clear hm6
     go_wp2_with fail
     refine(HA.out j (by omega) ts g L cl V cv (pNext ts s) w6 (M6.out.cur HC.out) n1 s1 hq).mono ?_
     rintro e w7 ⟨A1,c1,rfl,ha7,hm7⟩
     have hz7:=hm7.size
     have K7:=LH hm7.bx
     have DN7:=LH ha7
     have Rr7:=LH (K7.out.row Rr6.out (by omega))
     have Ra7:=LH (K7.out.row Ra6.out (by omega))
     have Da7:=LH (Da6.out.keep fun b hb=>K7.out.kq hb (by have h2:=hb.2;omega))
     have M7:=LH (M6.out.trans hm7)
     clear Rr6 Ra6 Da6 M6
     clear hm7 ha7
     have hca7:=fun i=>Ra7.out.cell i
     have hla7:=Ra7.out.lt
     clear hq
     go_wp2_with fail
     clear hca7 hla7
     obtain⟨w8,e8,Rb8,hz8,K8⟩:=boxed w7 49 #[.int .i64 n1.op,.int .i64 n1.n,.string n1.s,.string n1.t,.slice A1 n1.kids.length c1]
     have Rr8:=LH (K8.out.row Rr7.out (by omega))
     have Ra8:=LH (K8.out.row Ra7.out (by omega))
     have Da8:=LH (Da7.out.keep fun b hb=>K8.out.kq hb (by have h2:=hb.2;omega))
     have D18:=LH (DN7.out.keep fun b hb=>K8.out.kq hb (by have h2:=hb.2;omega))
     have M8:=LH (M7.out.chg K8.out (by omega) (by omega))
     clear Rr7 Ra7 Da7 DN7 M7
     obtain⟨w9,e9,Rrow9,hz9,K9⟩:=boxed w8 49 #[.int .i64 x.op,.int .i64 x.n,.string x.s,.string x.t,.slice A x.kids.length c,.int .i64 n1.op,.int .i64 n1.n,.string n1.s,.string n1.t,.slice A1 n1.kids.length c1]
     have hy9:w8.heap.size=(w7.heap.size+1):=by omega
     rw [hy9] at Rrow9 K9
     have Rr9:=LH (K9.out.row Rr8.out (by omega))
     have Ra9:=LH (K9.out.row Ra8.out (by omega))
     have Da9:=LH (Da8.out.keep fun b hb=>K9.out.kq hb (by have h2:=hb.2;omega))
     have D19:=LH (D18.out.keep fun b hb=>K9.out.kq hb (by have h2:=hb.2;omega))
     have M9:=LH (M8.out.chg K9.out (by omega) (by omega))
     clear Rr8 Ra8 Rb8 Da8 D18 M8
     have SL9:=LH (show Sl w9 (fun b=>b<w9.heap.size/\w.heap.size<=b/\b≠w2.heap.size/\b≠w.heap.size) 5 (some ⟨(w7.heap.size+1),0,none⟩) 2 ([x,n1].map GNode.toD) from Sl.ofRow Rrow9.out (rdC_cons (GNode.rd_mk (Da9.out.keep (w':=w9) (S':=fun b=>b<w9.heap.size/\w.heap.size<=b/\b≠w2.heap.size/\b≠w.heap.size) fun b hb=>⟨⟨by have h2:=hb.2;omega,by have h2:=hb.2;omega⟩,rfl⟩)) rfl (rdC_one1 (GNode.rd_mk (D19.out.keep (w':=w9) (S':=fun b=>b<w9.heap.size/\w.heap.size<=b/\b≠w2.heap.size/\b≠w.heap.size) fun b hb=>⟨⟨by have h2:=hb.2;omega,by have h2:=hb.2;omega⟩,rfl⟩)) rfl)) ⟨by omega,by omega⟩ (by simp) (by unfold maxLen;omega))
     rw [<- e8,<- e9]
     clear e8 e9
     refine(l3Node (fun b=>w.heap.size<=b/\b≠w2.heap.size/\b≠w.heap.size) (11) [x,n1] (some ⟨(w7.heap.size+1),0,none⟩) 2 w9 SL9.out (by simp)).mono ?_
     rintro e w10 ⟨A2,c2,rfl,hG10,hb10⟩
     have K10:=LH (Bx.of_below (g:=g) hb10 (Nat.le_refl _))
     have GN10:=LH hG10
     have Rr10:=LH (K10.out.row Rr9.out (by omega))
     have Ra10:=LH (K10.out.row Ra9.out (by omega))
     have M10:=LH (M9.out.below hb10)
     clear Rr9 Ra9 Rrow9 Da9 D19 M9
     clear hb10 hG10
     have hca10:=fun i=>Ra10.out.cell i
     have hfa10:=fun i=>Ra10.out.frozen i
     have DD:=LH (ndOf (op:=11) GN10.out (fun b h=>by omega) (by decide))
     go_wp2_with fail
     clear hca10 hfa10
     obtain⟨w11,e11,RN11,hz11,K11⟩:=stored5 Ra10.out (.int .i64 11) (.int .i64 0) (.string ⟨#[]⟩) (.string ⟨#[]⟩) (.slice A2 2 c2)
     have Rr11:=LH (K11.out.row Rr10.out (by omega))
     have D211:=LH (DD.out.keep fun b hb=>K11.out.kq hb (by have h2:=hb.2;omega))
     have M11:=LH (M10.out.chg K11.out (by omega) (by omega))
     clear Rr10 DD M10
     clear Ra10
     rw [<- e11]
     clear e11
     have hca11:=fun i=>RN11.out.cell i
     have HN:I j w11:=by
      rw [HI.out]
      exact⟨nd (11) [x,n1],s1,A2,c2,HR.out,by omega,RN11.out,Rr11.out,D211.out.keep fun b hb=>⟨⟨by have h2:=hb.2;omega,hb.2⟩,rfl⟩,M11.out,RN11.out.lt⟩
     go_roundw
     case rel=>exact⟨j,HN⟩
     case measure=>rw [HJ.out];exact Nat.lt_succ_of_le (leastK_le (I:=fun j=>I j w11) HN)
theorem Gr.bxe {w w':World} {v v':Value} {B:Nat} (h:Gr w w' v v') (ho:∀ q,v.ownBlock=some q->B<=q) (hB:B<=w.heap.size):∃ q,B<=q/\Bx q w w':=by
 cases hv:v.ownBlock with
 | none=>exact⟨w.heap.size,hB,h.grow.os,h.grow.tape,h.grow.output,h.size,fun b hb _=>h.keepB hb (by rw [hv];simp)⟩
 | some q=>exact⟨q,ho q hv,h.grow.os,h.grow.tape,h.grow.output,h.size,fun b hb hne=>h.keepB hb (by rw [hv];intro e;exact hne (by simpa using e.symm))⟩
theorem PCur.text_le {ts:List GToken} {g:Nat} {L:Option Addr} {cl:Nat} {V:Option Addr} {cv:Nat} {st:PSt} {w:World} (h:PCur ts g L cl V cv st w):(pNow ts st).text.size<=maxLen:=by
 obtain⟨b,off,-,-,-,-,-,-,hat⟩:=h.now
 exact hat.2.1
theorem PCur.ptext_le {ts:List GToken} {g:Nat} {L:Option Addr} {cl:Nat} {V:Option Addr} {cv:Nat} {st:PSt} {w:World} (h:PCur ts g L cl V cv st w) (con:Bool):(pText ts con st).1.size<=maxLen:=by
 unfold pText;split
 · exact empty_le
 · exact h.text_le
theorem sl_of_grx {X:Nat->Prop} {w:World} {B:Nat} {T:TypeId} {size:Nat} {A:Option Addr} {c n:Nat} {xs:List D} (h:Grx X w B T size (.slice A n c) n xs) (hX:∀ b,B<=b->X b):Sl w (fun b=>b<w.heap.size/\X b) size A c xs:=by
 obtain⟨A',c',e,hs⟩:=h.sl hX
 obtain⟨rfl,rfl⟩:A=A'/\c=c':=by simpa using e
 exact hs
theorem l3Compare (k:Nat) (hA:∀ j,j<=k->Ok1 128 pSum j):Ok1 109 pCompare (k+1):=by
 intro ts g L cl V cv st w h n st' hp
 have HA:=LH hA
 clear hA
 simp [pCompare,Option.bind_eq_some_iff] at hp
 obtain⟨n0,s0,hp0,hp1⟩:=hp
 have HC:=LH h
 have M0:=LH h.mv
 have hgl:=h.row.lt
 clear h
 go_enter Tryz.func109,Tryz.ntmps109
 go_wp2_with fail
 obtain⟨w1,e1,Rr1,hz1,K1⟩:=boxed w 49 #[.int .i64 0,.int .i64 0,.string ⟨#[]⟩,.string ⟨#[]⟩,.slice none 0 0]
 have M1:=LH (M0.out.chg K1.out (by omega) (by omega))
 rw [<- e1]
 clear e1
 refine(HA.out k (Nat.le_refl _) ts g L cl V cv st w1 (M1.out.cur HC.out) n0 s0 hp0).mono ?_
 rintro e w2 ⟨A0,c0,rfl,ha2,hm2⟩
 have hz2:=hm2.size
 have K2:=LH hm2.bx
 have DN2:=LH ha2
 have Rr2:=LH (K2.out.row Rr1.out (by omega))
 have M2:=LH (M1.out.trans hm2)
 clear Rr1 M1
 clear hm2 ha2
 clear hp0
 go_wp2_with fail
 obtain⟨w3,e3,Ra3,hz3,K3⟩:=boxed w2 49 #[.int .i64 n0.op,.int .i64 n0.n,.string n0.s,.string n0.t,.slice A0 n0.kids.length c0]
 have Rr3:=LH (K3.out.row Rr2.out (by omega))
 have D03:=LH (DN2.out.keep fun b hb=>K3.out.kq hb (by omega))
 have M3:=LH (M2.out.chg K3.out (by omega) (by omega))
 clear Rr2 DN2 M2
 rw [<- e3]
 clear e3
 refine(l3Sign ts g L cl V cv s0 w3 (M3.out.cur HC.out) ⟨#[60]⟩).mono ?_
 rintro e w4 ⟨rfl,hb4⟩
 have hz4:=hb4.size
 have K4:=LH (Bx.of_below (g:=g) hb4 (Nat.le_refl _))
 have Rr4:=LH (K4.out.row Rr3.out (by omega))
 have Ra4:=LH (K4.out.row Ra3.out (by omega))
 have D04:=LH (D03.out.keep fun b hb=>K4.out.kq hb (by omega))
 have M4:=LH (M3.out.below hb4)
 clear Rr3 Ra3 D03 M3
 clear hb4
 cases hs:pSign ts [60] s0
 ·
  go_wp2_with fail
  refine(l3Sign ts g L cl V cv s0 w4 (M4.out.cur HC.out) ⟨#[61,61]⟩).mono ?_
  rintro e w5 ⟨rfl,hb5⟩
  have hz5:=hb5.size
  have K5:=LH (Bx.of_below (g:=g) hb5 (Nat.le_refl _))
  have Rr5:=LH (K5.out.row Rr4.out (by omega))
  have Ra5:=LH (K5.out.row Ra4.out (by omega))
  have D05:=LH (D04.out.keep fun b hb=>K5.out.kq hb (by omega))
  have M5:=LH (M4.out.below hb5)
  clear Rr4 Ra4 D04 M4
  clear hb5
  have hcr5:=fun i=>Rr5.out.cell i
  have hfr5:=fun i=>Rr5.out.frozen i
  have hca5:=fun i=>Ra5.out.cell i
  cases hs2:pSign ts [61,61] s0
  ·
   simp [hs,hs2] at hp1
   obtain⟨rfl,rfl⟩:=hp1
   go_wp2_with fail
   clear hcr5 hfr5 hca5
   obtain⟨w6,e6,RN6,hz6,K6⟩:=stored5 Rr5.out (.int .i64 n0.op) (.int .i64 n0.n) (.string n0.s) (.string n0.t) (.slice A0 n0.kids.length c0)
   have Ra6:=LH (K6.out.row Ra5.out (by omega))
   have D06:=LH (D05.out.keep fun b hb=>K6.out.kq hb (by omega))
   have M6:=LH (M5.out.chg K6.out (by omega) (by omega))
   clear Ra5 D05 M5
   clear Rr5
   rw [<- e6]
   clear e6
   have hla6:=Ra6.out.lt
   have hcr6:=fun i=>RN6.out.cell i
   refine bodyPost_ret (v:=.agg #[.int .i64 n0.op,.int .i64 n0.n,.string n0.s,.string n0.t,.slice A0 n0.kids.length c0]) (by simp [results,Tryz.results109,go_sem,hcr6]) rfl ?_
   exact⟨A0,c0,rfl,D06.out.keep fun b hb=>⟨⟨by omega,by omega⟩,rfl⟩,M6.out⟩
  ·
   simp [hs,hs2] at hp1
   obtain⟨n1,hq,rfl⟩:=hp1
   go_wp2_with fail
   refine(l3Next ts g L cl V cv s0 w5 (M5.out.cur HC.out)).mono ?_
   clear hcr5 hfr5 hca5
   rintro e w6 ⟨rfl,hm6⟩
   replace hm6:Mv ts g L cl V cv s0.vars (pNext ts s0) w5 w6:=hm6
   have hz6:=hm6.size
   have K6:=LH hm6.bx
   have Rr6:=LH (K6.out.row Rr5.out (by omega))
   have Ra6:=LH (K6.out.row Ra5.out (by omega))
   have D06:=LH (D05.out.keep fun b hb=>K6.out.kq hb (by omega))
   have M6:=LH (M5.out.trans hm6)
   clear Rr5 Ra5 D05 M5
   clear hm6
   go_wp2_with fail
   refine(HA.out k (Nat.le_refl _) ts g L cl V cv (pNext ts s0) w6 (M6.out.cur HC.out) n1 st' hq).mono ?_
   rintro e w7 ⟨A1,c1,rfl,ha7,hm7⟩
   have hz7:=hm7.size
   have K7:=LH hm7.bx
   have DN7:=LH ha7
   have Rr7:=LH (K7.out.row Rr6.out (by omega))
   have Ra7:=LH (K7.out.row Ra6.out (by omega))
   have D07:=LH (D06.out.keep fun b hb=>K7.out.kq hb (by omega))
   have M7:=LH (M6.out.trans hm7)
   clear Rr6 Ra6 D06 M6
   clear hm7 ha7
   have hca7:=fun i=>Ra7.out.cell i
   have hla7:=Ra7.out.lt
   clear hq
   go_wp2_with fail
   clear hca7 hla7
   obtain⟨w8,e8,Rb8,hz8,K8⟩:=boxed w7 49 #[.int .i64 n1.op,.int .i64 n1.n,.string n1.s,.string n1.t,.slice A1 n1.kids.length c1]
   have Rr8:=LH (K8.out.row Rr7.out (by omega))
   have D08:=LH (D07.out.keep fun b hb=>K8.out.kq hb (by omega))
   have D18:=LH (DN7.out.keep fun b hb=>K8.out.kq hb (by omega))
   have M8:=LH (M7.out.chg K8.out (by omega) (by omega))
   clear Rr7 Ra7 D07 DN7 M7
   obtain⟨w9,e9,Rrow9,hz9,K9⟩:=boxed w8 49 #[.int .i64 n0.op,.int .i64 n0.n,.string n0.s,.string n0.t,.slice A0 n0.kids.length c0,.int .i64 n1.op,.int .i64 n1.n,.string n1.s,.string n1.t,.slice A1 n1.kids.length c1]
   have hy9:w8.heap.size=(w7.heap.size+1):=by omega
   rw [hy9] at Rrow9 K9
   have Rr9:=LH (K9.out.row Rr8.out (by omega))
   have D09:=LH (D08.out.keep fun b hb=>K9.out.kq hb (by omega))
   have D19:=LH (D18.out.keep fun b hb=>K9.out.kq hb (by omega))
   have M9:=LH (M8.out.chg K9.out (by omega) (by omega))
   clear Rr8 Rb8 D08 D18 M8
   have SL9:=LH (show Sl w9 (fun b=>b<w9.heap.size/\w.heap.size<=b/\b≠w.heap.size) 5 (some ⟨(w7.heap.size+1),0,none⟩) 2 ([n0,n1].map GNode.toD) from Sl.ofRow Rrow9.out (rdC_cons (GNode.rd_mk (D09.out.keep (w':=w9) (S':=fun b=>b<w9.heap.size/\w.heap.size<=b/\b≠w.heap.size) fun b hb=>⟨⟨by omega,by omega⟩,rfl⟩)) rfl (rdC_one1 (GNode.rd_mk (D19.out.keep (w':=w9) (S':=fun b=>b<w9.heap.size/\w.heap.size<=b/\b≠w.heap.size) fun b hb=>⟨⟨by omega,by omega⟩,rfl⟩)) rfl)) ⟨by omega,by omega⟩ (by simp) (by unfold maxLen;omega))
   rw [<- e8,<- e9]
   clear e8 e9
   refine(l3Node (fun b=>w.heap.size<=b/\b≠w.heap.size) (14) [n0,n1] (some ⟨(w7.heap.size+1),0,none⟩) 2 w9 SL9.out (by simp)).mono ?_
   rintro e w10 ⟨A2,c2,rfl,hG10,hb10⟩
   have K10:=LH (Bx.of_below (g:=g) hb10 (Nat.le_refl _))
   have GN10:=LH hG10
   have Rr10:=LH (K10.out.row Rr9.out (by omega))
   have M10:=LH (M9.out.below hb10)
   clear Rr9 Rrow9 D09 D19 M9
   clear hb10 hG10
   have hcr10:=fun i=>Rr10.out.cell i
   have hfr10:=fun i=>Rr10.out.frozen i
   have DD2:=LH (ndOf (op:=14) GN10.out (fun b h=>by omega) (by decide))
   go_wp2_with fail
   clear hcr10
   obtain⟨w11,e11,RN11,hz11,K11⟩:=stored5 Rr10.out (.int .i64 14) (.int .i64 0) (.string ⟨#[]⟩) (.string ⟨#[]⟩) (.slice A2 2 c2)
   have D211:=LH (DD2.out.keep fun b hb=>K11.out.kq hb (by have h2:=hb.2;omega))
   have M11:=LH (M10.out.chg K11.out (by omega) (by omega))
   clear DD2 M10
   clear Rr10
   rw [<- e11]
   clear e11
   have hcr11:=fun i=>RN11.out.cell i
   refine bodyPost_ret (v:=.agg #[.int .i64 14,.int .i64 0,.string ⟨#[]⟩,.string ⟨#[]⟩,.slice A2 2 c2]) (by simp [results,Tryz.results109,go_sem,hcr11]) rfl ?_
   exact⟨A2,c2,rfl,D211.out.keep fun b hb=>⟨⟨by omega,by omega⟩,rfl⟩,M11.out⟩
 ·
  simp [hs] at hp1
  obtain⟨n1,hq,rfl⟩:=hp1
  go_wp2_with fail
  refine(l3Next ts g L cl V cv s0 w4 (M4.out.cur HC.out)).mono ?_
  rintro e w5 ⟨rfl,hm5⟩
  replace hm5:Mv ts g L cl V cv s0.vars (pNext ts s0) w4 w5:=hm5
  have hz5:=hm5.size
  have K5:=LH hm5.bx
  have Rr5:=LH (K5.out.row Rr4.out (by omega))
  have Ra5:=LH (K5.out.row Ra4.out (by omega))
  have D05:=LH (D04.out.keep fun b hb=>K5.out.kq hb (by omega))
  have M5:=LH (M4.out.trans hm5)
  clear Rr4 Ra4 D04 M4
  clear hm5
  go_wp2_with fail
  refine(HA.out k (Nat.le_refl _) ts g L cl V cv (pNext ts s0) w5 (M5.out.cur HC.out) n1 st' hq).mono ?_
  rintro e w6 ⟨A1,c1,rfl,ha6,hm6⟩
  have hz6:=hm6.size
  have K6:=LH hm6.bx
  have DN6:=LH ha6
  have Rr6:=LH (K6.out.row Rr5.out (by omega))
  have Ra6:=LH (K6.out.row Ra5.out (by omega))
  have D06:=LH (D05.out.keep fun b hb=>K6.out.kq hb (by omega))
  have M6:=LH (M5.out.trans hm6)
  clear Rr5 Ra5 D05 M5
  clear hm6 ha6
  have hca6:=fun i=>Ra6.out.cell i
  have hla6:=Ra6.out.lt
  clear hq
  go_wp2_with fail
  clear hca6 hla6
  obtain⟨w7,e7,Rb7,hz7,K7⟩:=boxed w6 49 #[.int .i64 n1.op,.int .i64 n1.n,.string n1.s,.string n1.t,.slice A1 n1.kids.length c1]
  have Rr7:=LH (K7.out.row Rr6.out (by omega))
  have D07:=LH (D06.out.keep fun b hb=>K7.out.kq hb (by omega))
  have D17:=LH (DN6.out.keep fun b hb=>K7.out.kq hb (by omega))
  have M7:=LH (M6.out.chg K7.out (by omega) (by omega))
  clear Rr6 Ra6 D06 DN6 M6
  obtain⟨w8,e8,Rrow8,hz8,K8⟩:=boxed w7 49 #[.int .i64 n0.op,.int .i64 n0.n,.string n0.s,.string n0.t,.slice A0 n0.kids.length c0,.int .i64 n1.op,.int .i64 n1.n,.string n1.s,.string n1.t,.slice A1 n1.kids.length c1]
  have hy8:w7.heap.size=(w6.heap.size+1):=by omega
  rw [hy8] at Rrow8 K8
  have Rr8:=LH (K8.out.row Rr7.out (by omega))
  have D08:=LH (D07.out.keep fun b hb=>K8.out.kq hb (by omega))
  have D18:=LH (D17.out.keep fun b hb=>K8.out.kq hb (by omega))
  have M8:=LH (M7.out.chg K8.out (by omega) (by omega))
  clear Rr7 Rb7 D07 D17 M7
  have SL8:=LH (show Sl w8 (fun b=>b<w8.heap.size/\w.heap.size<=b/\b≠w.heap.size) 5 (some ⟨(w6.heap.size+1),0,none⟩) 2 ([n0,n1].map GNode.toD) from Sl.ofRow Rrow8.out (rdC_cons (GNode.rd_mk (D08.out.keep (w':=w8) (S':=fun b=>b<w8.heap.size/\w.heap.size<=b/\b≠w.heap.size) fun b hb=>⟨⟨by omega,by omega⟩,rfl⟩)) rfl (rdC_one1 (GNode.rd_mk (D18.out.keep (w':=w8) (S':=fun b=>b<w8.heap.size/\w.heap.size<=b/\b≠w.heap.size) fun b hb=>⟨⟨by omega,by omega⟩,rfl⟩)) rfl)) ⟨by omega,by omega⟩ (by simp) (by unfold maxLen;omega))
  rw [<- e7,<- e8]
  clear e7 e8
  refine(l3Node (fun b=>w.heap.size<=b/\b≠w.heap.size) (13) [n0,n1] (some ⟨(w6.heap.size+1),0,none⟩) 2 w8 SL8.out (by simp)).mono ?_
  rintro e w9 ⟨A2,c2,rfl,hG9,hb9⟩
  have K9:=LH (Bx.of_below (g:=g) hb9 (Nat.le_refl _))
  have GN9:=LH hG9
  have Rr9:=LH (K9.out.row Rr8.out (by omega))
  have M9:=LH (M8.out.below hb9)
  clear Rr8 Rrow8 D08 D18 M8
  clear hb9 hG9
  have hcr9:=fun i=>Rr9.out.cell i
  have hfr9:=fun i=>Rr9.out.frozen i
  have DD2:=LH (ndOf (op:=13) GN9.out (fun b h=>by omega) (by decide))
  go_wp2_with fail
  clear hcr9 hfr9
  obtain⟨w10,e10,RN10,hz10,K10⟩:=stored5 Rr9.out (.int .i64 13) (.int .i64 0) (.string ⟨#[]⟩) (.string ⟨#[]⟩) (.slice A2 2 c2)
  have D210:=LH (DD2.out.keep fun b hb=>K10.out.kq hb (by have h2:=hb.2;omega))
  have M10:=LH (M9.out.chg K10.out (by omega) (by omega))
  clear DD2 M9
  clear Rr9
  rw [<- e10]
  clear e10
  have hcr10:=fun i=>RN10.out.cell i
  refine bodyPost_ret (v:=.agg #[.int .i64 13,.int .i64 0,.string ⟨#[]⟩,.string ⟨#[]⟩,.slice A2 2 c2]) (by simp [results,Tryz.results109,go_sem,hcr10]) rfl ?_
  exact⟨A2,c2,rfl,D210.out.keep fun b hb=>⟨⟨by omega,by omega⟩,rfl⟩,M10.out⟩
def hidQ (Q:Exit->Act->World->Prop) (R:Act->World->Prop):Exit->Act->World->Prop
 | .ret,a,w=>R a w
 | e,a,w=>Q e a w
theorem wp_hide {P:Program} {c:Code} {Q:Exit->Act->World->Prop} {a:Act} {w:World} (h:∀ BP:Act->World->Prop,BP=Q .ret->c.wp P (hidQ Q BP) a w):c.wp P Q a w:=by
 have e:hidQ Q (Q .ret)=Q:=by funext e a w;cases e<;>rfl
 have:=h _ rfl
 rwa [e] at this
def pLet (ts:List GToken) (k:Nat) (st:PSt):Option (GNode × PSt):=let a:=pText ts false (pNext ts st);(pE ts k (pTake ts [61] a.2)).bind fun e=>(pE ts k (pWord ts [105,110] e.2)).map fun b=>(.mk 5 0 a.1 ⟨#[]⟩ [e.1,b.1],b.2)
def pRec (ts:List GToken) (k:Nat) (st:PSt):Option (GNode × PSt):=let a:=pText ts false (pNext ts st);let a2:=pText ts false a.2;(pE ts k (pTake ts [61] a2.2)).bind fun e=>(pE ts k (pWord ts [105,110] e.2)).map fun b=>(.mk 6 0 a.1 a2.1 [e.1,b.1],b.2)
def pCase (ts:List GToken) (k:Nat) (st:PSt):Option (GNode × PSt):=(pE ts k (pNext ts st)).bind fun e=>(pCaseAlts ts k (pTake ts [123] (pWord ts [111,102] e.2)) [e.1]).map fun r=>(nd 7 r.1,pTake ts [125] r.2)
theorem pE_succ (ts:List GToken) (k:Nat) (st:PSt):pE ts (k+1) st=
 (if pIs ts [102,117,110] st then let a:=pText ts false (pNext ts st);(pE ts k (pTake ts [45,62] a.2)).map fun e=>(.mk 3 0 a.1 ⟨#[]⟩ [e.1],e.2)
 else if pIs ts [108,101,116] st then pLet ts k st
 else if pIs ts [114,101,99] st then pRec ts k st
 else if pIs ts [99,97,115,101] st then pCase ts k st
 else if pIs ts [105,102] st then(pE ts k (pNext ts st)).bind fun a=>(pE ts k (pWord ts [116,104,101,110] a.2)).bind fun b=>(pE ts k (pWord ts [101,108,115,101] b.2)).map fun d=>(nd 9 [a.1,b.1,d.1],d.2)
 else pCompare ts k st):=by
 simp only [pE,pLet,pRec,pCase]
inductive GValue where
 | mk (kind:Int) (n:Int) (s:ByteArray) (kids:List GValue)
def GValue.kind:GValue->Int | .mk x _ _ _=>x
def GValue.n:GValue->Int | .mk _ x _ _=>x
def GValue.s:GValue->ByteArray | .mk _ _ x _=>x
def GValue.kids:GValue->List GValue | .mk _ _ _ x=>x
mutual
def GValue.toD:GValue->D | .mk kind n s kids=>.agg [.num .i64 kind,.num .i64 n,.str s,.sl 4 (GValue.toDs kids)]
def GValue.toDs:List GValue->List D | []=>[] | t::r=>t.toD::GValue.toDs r
end
theorem GValue.toDs_map:∀ l:List GValue,GValue.toDs l=l.map GValue.toD
 | []=>rfl
 | t::r=>by simp only [GValue.toDs,List.map_cons,GValue.toDs_map r]
mutual
def GValue.bulk:GValue->Nat | .mk _ _ s kids=>s.size+GValue.bulks kids
def GValue.bulks:List GValue->Nat | []=>0 | t::r=>1+t.bulk+GValue.bulks r
end
theorem GValue.bulks_eq:∀ l:List GValue,GValue.bulks l=bulkL GValue.bulk l
 | []=>rfl
 | t::r=>by simp only [GValue.bulks,bulkL,GValue.bulks_eq r]
theorem GValue.bulk_eq (t:GValue):t.bulk=t.s.size+bulkL GValue.bulk t.kids:=by
 cases t;simp only [GValue.bulk,GValue.bulks_eq,GValue.kind,GValue.n,GValue.s,GValue.kids]
def GValue.At (w:World) (S:Nat->Prop) (A1:Option Addr) (c1:Nat) (t:GValue):Prop:=
 (Lit.int .i64 t.kind).wf=true/\(Lit.int .i64 t.n).wf=true/\t.s.size<=maxLen/\Sl w S 4 A1 c1 (t.kids.map GValue.toD)
theorem GValue.rd {w:World} {S:Nat->Prop} {t:GValue} {cs:List Value} (h:t.toD.rd w S cs):∃ A1 c1,cs= [.int .i64 t.kind,.int .i64 t.n,.string t.s,.slice A1 t.kids.length c1]/\GValue.At w S A1 c1 t:=by
 cases t with
 | mk kind n s kids=>
 simp only [GValue.toD,GValue.toDs_map] at h
 rw [D.rd_agg] at h
 rw [D.rdF_cons] at h
 obtain⟨x0,r0,rfl,k0,h⟩:=h
 obtain⟨rfl,h0⟩:=D.rd_num.1 k0
 rw [D.rdF_cons] at h
 obtain⟨x1,r1,rfl,k1,h⟩:=h
 obtain⟨rfl,h1⟩:=D.rd_num.1 k1
 rw [D.rdF_cons] at h
 obtain⟨x2,r2,rfl,k2,h⟩:=h
 obtain⟨rfl,h2⟩:=D.rd_str.1 k2
 rw [D.rdF_cons] at h
 obtain⟨x3,r3,rfl,k3,h⟩:=h
 obtain⟨A1,c1,rfl,h3⟩:=D.rd_sl.1 k3
 obtain rfl:=D.rdF_nil.1 h
 exact⟨A1,c1,by simp [GValue.kind,GValue.n,GValue.s,GValue.kids],h0,h1,h2,h3⟩
theorem GValue.rd_mk {w:World} {S:Nat->Prop} {t:GValue} {A1:Option Addr} {c1:Nat} (h:GValue.At w S A1 c1 t):t.toD.rd w S [.int .i64 t.kind,.int .i64 t.n,.string t.s,.slice A1 t.kids.length c1]:=by
 cases t with
 | mk kind n s kids=>
 simp only [GValue.toD,GValue.toDs_map]
 unfold GValue.At at h
 obtain⟨h0,h1,h2,h3⟩:=h
 rw [D.rd_agg]
 exact D.rdF_cons.2 ⟨[_],[_,_,_],rfl,D.rd_num.2 ⟨rfl,h0⟩,D.rdF_cons.2 ⟨[_],[_,_],rfl,D.rd_num.2 ⟨rfl,h1⟩,D.rdF_cons.2 ⟨[_],[_],rfl,D.rd_str.2 ⟨rfl,h2⟩,D.rdF_cons.2 ⟨[_],[],rfl,D.rd_sl.2 ⟨A1,c1,by simp [GValue.kids],h3⟩,D.rdF_nil.2 rfl⟩⟩⟩⟩
theorem GValue.elem {w:World} {S:Nat->Prop} {A:Option Addr} {c:Nat} {l:List GValue} (h:Sl w S 4 A c (l.map GValue.toD)) (i:Nat) (hi:i<l.length):
 ∃ b off A1 c1,A=some ⟨b,off,none⟩/\S b/\w.cell? ⟨b,off+i*4,none⟩=some (.int .i64 l[i].kind)/\w.cell? ⟨b,off+i*4+1,none⟩=some (.int .i64 l[i].n)/\w.cell? ⟨b,off+i*4+2,none⟩=some (.string l[i].s)/\w.cell? ⟨b,off+i*4+3,none⟩=some (.slice A1 l[i].kids.length c1)/\GValue.At w S A1 c1 l[i]:=by
 obtain⟨b,off,cs,e,hb,hl,hc,hr⟩:=Sl.get h i (by simpa using hi)
 rw [List.getElem_map] at hr
 obtain⟨A1,c1,rfl,h1⟩:=GValue.rd hr
 exact⟨b,off,A1,c1,e,hb,hc 0 _ rfl,hc 1 _ rfl,hc 2 _ rfl,hc 3 _ rfl,h1⟩
theorem GValue.At.keep {w w':World} {S S':Nat->Prop} {t:GValue} {A1:Option Addr} {c1:Nat} (h:GValue.At w S A1 c1 t) (hk:∀ b,S b->S' b/\w'.heap[b]? =w.heap[b]?):GValue.At w' S' A1 c1 t:=by
 unfold GValue.At at h ⊢
 obtain⟨h0,h1,h2,h3⟩:=h
 exact⟨h0,h1,h2,h3.keep hk⟩
theorem GValue.At.below {w w':World} {B B':Nat} {t:GValue} {A1:Option Addr} {c1:Nat} (h:GValue.At w (Lt B) A1 c1 t) (hb:Below B w w') (hB:B<=B'):GValue.At w' (Lt B') A1 c1 t:=
 h.keep (keep_below hb hB)
def GValue.Ow (w:World) (S:Nat->Prop) (A1:Option Addr) (c1:Nat) (t:GValue):Prop:=
 (Lit.int .i64 t.kind).wf=true/\(Lit.int .i64 t.n).wf=true/\t.s.size<=maxLen/\Osl w S 4 A1 c1 (t.kids.map GValue.toD)
theorem GValue.own_mk {w:World} {S:Nat->Prop} {t:GValue} {A1:Option Addr} {c1:Nat} (h:GValue.Ow w S A1 c1 t):t.toD.own w S [.int .i64 t.kind,.int .i64 t.n,.string t.s,.slice A1 t.kids.length c1]:=by
 cases t with
 | mk kind n s kids=>
 simp only [GValue.toD,GValue.toDs_map]
 unfold GValue.Ow at h
 obtain⟨h0,h1,h2,h3⟩:=h
 rw [D.own_agg]
 exact D.ownF_plain (c1:=[_]) (c2:=[_,_,_]) (D.own_num.2 ⟨rfl,h0⟩) (D.ownF_plain (c1:=[_]) (c2:=[_,_]) (D.own_num.2 ⟨rfl,h1⟩) (D.ownF_plain (c1:=[_]) (c2:=[_]) (D.own_str.2 ⟨rfl,h2⟩) (D.ownF_last (D.own_sl.2 ⟨A1,c1,by simp [GValue.kids],h3⟩))))
theorem GValue.Ow.keep {w w':World} {S S':Nat->Prop} {t:GValue} {A1:Option Addr} {c1:Nat} (h:GValue.Ow w S A1 c1 t) (hk:∀ b,S b->S' b/\w'.heap[b]? =w.heap[b]?):GValue.Ow w' S' A1 c1 t:=by
 unfold GValue.Ow at h ⊢
 obtain⟨h0,h1,h2,h3⟩:=h
 exact⟨h0,h1,h2,h3.keep hk⟩
theorem GValue.Ow.at {w:World} {S:Nat->Prop} {t:GValue} {A1:Option Addr} {c1:Nat} (h:GValue.Ow w S A1 c1 t):GValue.At w S A1 c1 t:=by
 unfold GValue.Ow at h
 unfold GValue.At
 obtain⟨h0,h1,h2,h3⟩:=h
 exact⟨h0,h1,h2,h3.sl⟩
set_option maxHeartbeats 1000000
structure Dm (l:List Int) (A:Option Addr) (c:Nat) (g:Nat) (w w':World):Prop where
 cur:∃ (i:Nat) (h:Int),Cur l A c w' g i h
 bx:Bx g w w'
theorem Turned.bx {g:Nat} {w w':World} (h:Turned g w w'):Bx g w w':=⟨h.os,h.tape,h.output,h.size,h.block⟩
theorem Bx.turned {g:Nat} {w w':World} (h:Bx g w w'):Turned g w w':=⟨h.os,h.tape,h.output,h.size,h.block⟩
section
variable {l:List Int} {A:Option Addr} {c:Nat} {g:Nat} {w a b d:World}
theorem Dm.start {i:Nat} {h:Int} (hc:Cur l A c w g i h):Dm l A c g w w:=⟨⟨i,h,hc⟩,Bx.refl _ _⟩
theorem Dm.lt (h:Dm l A c g a b):g<b.heap.size:=by obtain⟨i,k,hc⟩:=h.cur;exact hc.row.lt
theorem Dm.size (h:Dm l A c g a b):a.heap.size<=b.heap.size:=h.bx.size
theorem Dm.trans (h:Dm l A c g a b) (k:Dm l A c g b d):Dm l A c g a d:=⟨k.cur,h.bx.trans k.bx⟩
theorem Dm.below (h:Dm l A c g a b) (k:Below b.heap.size b d):Dm l A c g a d:=by
 obtain⟨i,x,hc⟩:=h.cur
 exact⟨⟨i,x,hc.below k hc.row.lt⟩,h.bx.trans (Bx.of_below k (Nat.le_refl _))⟩
theorem Dm.again (h:Dm l A c g a b):Dm l A c g b b:=⟨h.cur,Bx.refl _ _⟩
theorem Dm.chg {q:Nat} (h:Dm l A c g a b) (k:Bx q b d) (hq:a.heap.size<=q) (hg:g<a.heap.size):Dm l A c g a d:=by
 obtain⟨i,x,hc⟩:=h.cur
 have hz:=h.size
 exact⟨⟨i,x,hc.turned k.turned (by omega)⟩,⟨k.os.trans h.bx.os,k.tape.trans h.bx.tape,k.output.trans h.bx.output,Nat.le_trans hz k.size,fun y hy hyg=>(k.block y (by omega) (by omega)).trans (h.bx.block y hy hyg)⟩⟩
end
theorem drawBelowD {l:List Int} {A:Option Addr} {c:Nat} {g:Nat} {a w:World} (m:Dm l A c g a w) (n:Int) (h1:1<=n) (h2:n<=256):
 Calls Tryz.prog 26 #[.pointer (some ⟨g,0,none⟩),.int .i64 n] w fun e w'=>∃ x:Int,e= .returned (.int .i64 x)/\(0<=x/\x<n)/\Dm l A c g w w':=by
 obtain⟨i,h,hc⟩:=m.cur
 refine(drawBelow hc n h1 h2).mono ?_
 rintro e w1 ⟨x,i1,k1,rfl,hx,hc1,ht⟩
 exact⟨x,rfl,hx,⟨⟨i1,k1,hc1⟩,ht.bx⟩⟩
theorem drawOnceD {l:List Int} {A:Option Addr} {c:Nat} {g:Nat} {a w:World} (m:Dm l A c g a w) (n:Int) (h1:1<=n) (h2:n<=256):
 Calls Tryz.prog 23 #[.pointer (some ⟨g,0,none⟩),.int .i64 n] w fun e w'=>∃ b:Bool,e= .returned (.bool b)/\Dm l A c g w w':=by
 have M:=LH m
 clear m
 go_enter Tryz.func23,Tryz.ntmps23
 go_wp2_with fail
 refine(drawBelowD M.out n h1 h2).mono ?_
 rintro e w1 ⟨x,rfl,hx,hm⟩
 have M1:=LH hm
 clear hm hx
 go_wp2_with fail
 go_ret
 exact⟨_,rfl,M1.out⟩
def DrawnN (l:List Int) (A:Option Addr) (c:Nat) (g:Nat) (P:GNode->Prop) (w:World) (e:Ending) (w':World):Prop:=
 ∃ n A1 c1,e= .returned (.agg #[.int .i64 n.op,.int .i64 n.n,.string n.s,.string n.t,.slice A1 n.kids.length c1])/\P n/\GNode.At w' (fun b=>w.heap.size<=b/\b<w'.heap.size) A1 c1 n/\Dm l A c g w w'
def DrawnV (l:List Int) (A:Option Addr) (c:Nat) (g:Nat) (P:GValue->Prop) (w:World) (e:Ending) (w':World):Prop:=
 ∃ n A1 c1,e= .returned (.agg #[.int .i64 n.kind,.int .i64 n.n,.string n.s,.slice A1 n.kids.length c1])/\P n/\GValue.At w' (fun b=>w.heap.size<=b/\b<w'.heap.size) A1 c1 n/\Dm l A c g w w'
def sNil:ByteArray:=⟨#[78,105,108]⟩
def sCons:ByteArray:=⟨#[67,111,110,115]⟩
def sNone:ByteArray:=⟨#[78,111,110,101]⟩
def sSome:ByteArray:=⟨#[83,111,109,101]⟩
def patD:Nat->GNode->Prop
 | 0,p=>p= .mk 17 0 ⟨#[]⟩ ⟨#[]⟩ []
 | d+1,p=>p= .mk 17 0 ⟨#[]⟩ ⟨#[]⟩ []\/(∃ x:Int,(0<=x/\x<3)/\p= .mk 19 x ⟨#[]⟩ ⟨#[]⟩ [])\/p= .mk 20 0 sNil ⟨#[]⟩ []\/p= .mk 20 0 sNone ⟨#[]⟩ []\/
  (∃ a b,patD d a/\patD d b/\p= .mk 20 0 sCons ⟨#[]⟩ [a,b])\/(∃ a,patD d a/\p= .mk 20 0 sSome ⟨#[]⟩ [a])
def valI (v:GValue):Prop:=∃ x:Int,(0<=x/\x<4)/\v= .mk 1 x ⟨#[]⟩ []
def valO (v:GValue):Prop:=v= .mk 2 0 sNone []\/∃ a,valI a/\v= .mk 2 0 sSome [a]
def valL:Nat->GValue->Prop
 | 0,v=>v= .mk 2 0 sNil []
 | d+1,v=>v= .mk 2 0 sNil []\/∃ a b,valO a/\valL d b/\v= .mk 2 0 sCons [a,b]
theorem short_le {s:ByteArray} (h:s.size<=8):s.size<=maxLen:=by unfold maxLen;omega
theorem int_wfS {n:Int} (h: -1000<=n/\n<=1000):(Lit.int .i64 n).wf=true:=by
 simp [Lit.wf,IntKind.min,IntKind.max,IntKind.signed,IntKind.bits];omega
theorem GValue.leaf {w:World} {S:Nat->Prop} {k n:Int} {s:ByteArray} (h1:(Lit.int .i64 k).wf=true) (h2:(Lit.int .i64 n).wf=true) (h3:s.size<=maxLen):GValue.At w S none 0 (.mk k n s []):=⟨h1,h2,h3,Sl.nil (by unfold maxLen;omega)⟩
end Go.Proofs.YtamfolaicncblaaGreat
