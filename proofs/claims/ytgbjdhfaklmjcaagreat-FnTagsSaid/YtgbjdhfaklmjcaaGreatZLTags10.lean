/- Texts of the claim LTags in one: PaL PaM. Conditions: none but bounds on sizes. -/
import Derived.Test.YtgbjdhfaklmjcaaGreatZLTags9
import Derived.Test.YtgbjdhfaklmjcaaGreatZLTags4
import Derived.Test.YtgbjdhfaklmjcaaGreatZLTags1
namespace Go.Proofs.YtgbjdhfaklmjcaaGreat
set_option maxRecDepth 20000
set_option linter.unusedVariables false
set_option linter.unusedSimpArgs false
open Go.RowKit
set_option maxHeartbeats 2000000
theorem l3Pat (k:Nat) (hkk:k<=1000000) (hA:∀ j,j<=k->Ok1 100 pPatAtom j):Ok1 89 pPat (k+1):=by
 intro ts g L cl V cv st w h n st' hp
 have HA:=LH hA
 clear hA
 have HC:=LH h
 have M0:=LH h.mv
 have hgl:=h.row.lt
 clear h
 go_enter Tryz.func89,Tryz.ntmps89
 go_wp2_with fail
 obtain⟨w1,e1,Rr1,hz1,K1⟩:=boxed w 45 #[.int .i64 0,.int .i64 0,.string ⟨#[]⟩,.string ⟨#[]⟩,.slice none 0 0]
 have M1:=LH (M0.out.chg K1.out (by omega) (by omega))
 rw [<- e1]
 clear e1
 have hlu1:=M1.out.row.lt
 have hcr1:=fun i=>Rr1.out.cell i
 have hlr1:=Rr1.out.lt
 refine(l3Con ts g L cl V cv st w1 (M1.out.cur HC.out)).mono ?_
 clear hlu1 hcr1 hlr1
 rintro e w2 ⟨rfl,hb2⟩
 have hz2:=hb2.size
 have K2:=LH (Bx.of_below (g:=g) hb2 (Nat.le_refl _))
 have Rr2:=LH (K2.out.row Rr1.out (by omega))
 have M2:=LH (M1.out.below hb2)
 clear Rr1 M1
 clear hb2
 have hlu2:=M2.out.row.lt
 have hcr2:=fun i=>Rr2.out.cell i
 have hlr2:=Rr2.out.lt
 cases hs1:pCon ts st
 ·
  simp [pPat,hs1] at hp
  go_wp2_with fail
  refine(HA.out k (Nat.le_refl _) ts g L cl V cv st w2 (M2.out.cur HC.out) n st' hp).mono ?_
  clear hlu2 hcr2 hlr2
  rintro e w3 ⟨A0,c0,rfl,ha3,hm3⟩
  have hz3:=hm3.size
  have K3:=LH hm3.bx
  have DN3:=LH ha3
  have Rr3:=LH (K3.out.row Rr2.out (by omega))
  have M3:=LH (M2.out.trans hm3)
  clear Rr2 M2
  clear hm3 ha3
  have hlu3:=M3.out.row.lt
  have hcr3:=fun i=>Rr3.out.cell i
  have hfr3:=fun i=>Rr3.out.frozen i
  have hlr3:=Rr3.out.lt
  go_wp2_with fail
  clear hlu3 hcr3 hfr3 hlr3
  obtain⟨w4,e4,RN4,hz4,K4⟩:=stored5 Rr3.out (.int .i64 n.op) (.int .i64 n.n) (.string n.s) (.string n.t) (.slice A0 n.kids.length c0)
  have D04:=LH (DN3.out.keep fun b hb=>K4.out.kq hb (by have h1:=hb.1;have h2:=hb.2;omega))
  have M4:=LH (M3.out.chg K4.out (by omega) (by omega))
  clear DN3 M3
  clear Rr3
  rw [<- e4]
  clear e4
  have hlu4:=M4.out.row.lt
  have hcr4:=fun i=>RN4.out.cell i
  have hlr4:=RN4.out.lt
  refine bodyPost_ret (v:=.agg #[.int .i64 n.op,.int .i64 n.n,.string n.s,.string n.t,.slice A0 n.kids.length c0]) (by simp [results,Tryz.results89,go_sem,hcr4]) rfl ?_
  exact⟨A0,c0,rfl,D04.out.keep fun b hb=>⟨⟨by have h1:=hb.1;have h2:=hb.2;omega,by have h1:=hb.1;have h2:=hb.2;omega⟩,rfl⟩,M4.out⟩
 ·
  simp [pPat,hs1] at hp
  obtain⟨ks,hk0,hn⟩:=hp
  have HTX:=LH (HC.out.ptext_le true)
  obtain⟨tx,htx⟩:∃ x,(pText ts true st).1=x:=⟨_,rfl⟩
  obtain⟨s0,hs0⟩:∃ x,(pText ts true st).2=x:=⟨_,rfl⟩
  go_wp2_with fail
  refine(l3TextC ts g L cl V cv st w2 (M2.out.cur HC.out)).mono ?_
  clear hlu2 hcr2 hlr2
  rintro e w3 ⟨rfl,hm3⟩
  replace hm3:Mv ts g L cl V cv st.vars ((pText ts true st).2) w2 w3:=hm3
  have hz3:=hm3.size
  have K3:=LH hm3.bx
  have Rr3:=LH (K3.out.row Rr2.out (by omega))
  have M3:=LH (M2.out.trans hm3)
  clear Rr2 M2
  clear hm3
  have hlu3:=M3.out.row.lt
  have hcr3:=fun i=>Rr3.out.cell i
  have hfr3:=fun i=>Rr3.out.frozen i
  have hlr3:=Rr3.out.lt
  rw [hs0] at M3 hk0
  rw [htx] at HTX hn ⊢
  have HNN:=LH hn
  clear hs0 htx hn
  clear hlu3 hcr3 hfr3 hlr3
  have hlu3:=M3.out.row.lt
  have hcr3:=fun i=>Rr3.out.cell i
  have hfr3:=fun i=>Rr3.out.frozen i
  have hlr3:=Rr3.out.lt
  go_wp2_with fail
  clear hlu3 hcr3 hfr3 hlr3
  obtain⟨w4,e4,Ra4,hz4,K4⟩:=boxed w3 45 #[.int .i64 20,.int .i64 0,.string tx,.string ⟨#[]⟩,.slice none 0 0]
  have Rr4:=LH (K4.out.row Rr3.out (by omega))
  have M4:=LH (M3.out.chg K4.out (by omega) (by omega))
  clear Rr3 M3
  rw [<- e4]
  clear e4
  have hlu4:=M4.out.row.lt
  have hcr4:=fun i=>Rr4.out.cell i
  have hlr4:=Rr4.out.lt
  have hca4:=fun i=>Ra4.out.cell i
  have hla4:=Ra4.out.lt
  clear hlu4 hcr4 hlr4 hca4 hla4
  have hINV:∃ I:Nat->World->Prop,I=fun j wr=>∃ (acc:List GNode) (s:PSt) (A:Option Addr) (c:Nat),pPatKids ts j s acc=some (ks,st')/\j<=k/\acc.length+j<=k+1/\Row wr w3.heap.size 45 #[.int .i64 20,.int .i64 0,.string tx,.string ⟨#[]⟩,.slice A acc.length c]/\Row wr w.heap.size 45 #[.int .i64 0,.int .i64 0,.string ⟨#[]⟩,.string ⟨#[]⟩,.slice none 0 0]/\Grx (fun b=>w.heap.size<=b/\b≠w3.heap.size/\b≠w.heap.size) wr (w3.heap.size+1) 45 5 (.slice A acc.length c) acc.length (acc.map GNode.toD)/\Mv ts g L cl V cv st.vars s w wr/\w3.heap.size<wr.heap.size:=⟨_,rfl⟩
  obtain⟨I,hI⟩:=hINV
  have HI:=LH hI
  have I0:I k w4:=by
   rw [hI]
   exact⟨[],s0,none,0,hk0,Nat.le_refl _,by simp,Ra4.out,Rr4.out,Grx.nil _ _ _ _ _,M4.out,Ra4.out.lt⟩
  have hnw:w.heap.size<w3.heap.size:=by omega
  have hzw:w.heap.size<=w4.heap.size:=M4.out.size
  go_loopw [17] (fun v wr=>∃ j,I j wr) (fun _ wr=>leastK (fun j=>I j wr))
  case atStart=>exact⟨k,I0⟩
  case round=>
   have hex:=hrel
   have hleast:=leastK_spec (I:=fun j=>I j wr) hex
   obtain⟨j,hj⟩:∃ j,leastK (fun j=>I j wr)=j:=⟨_,rfl⟩
   rw [hj] at hleast
   have HJ:=LH hj
   clear hj hex hrel I0
   rw [hI] at hleast
   obtain⟨acc,s,A,c,hx,hjk,hal,ra,rr,gg,hm,hnl⟩:=hleast
   clear Ra4 Rr4 M4 hI
   have RA0:=LH ra
   have RR0:=LH rr
   have GG0:=LH gg
   have MR0:=LH hm
   have hzr:=hm.size
   clear ra rr gg hm
   have hlu4:=MR0.out.row.lt
   have hcr4:=fun i=>RR0.out.cell i
   have hlr4:=RR0.out.lt
   have hca4:=fun i=>RA0.out.cell i
   have hla4:=RA0.out.lt
   cases j with
   | zero=>simp [pPatKids] at hx
   | succ j=>
    go_wp2_with fail
    refine(l3Atomic ts g L cl V cv s wr (MR0.out.cur HC.out)).mono ?_
    clear hlu4 hcr4 hlr4 hca4 hla4
    rintro e w5 ⟨rfl,hb5⟩
    have hz5:=hb5.size
    have K5:=LH (Bx.of_below (g:=g) hb5 (Nat.le_refl _))
    have Rr5:=LH (K5.out.row RR0.out (by omega))
    have Ra5:=LH (K5.out.row RA0.out (by omega))
    have GG5:=LH (GG0.out.keepP (w':=w5) (by omega) fun b hb h=>K5.out.block b hb (by
      rcases h with h | h
      · have:=GG0.out.own b h;omega
      · obtain⟨x1,x2,x3⟩:=h;omega))
    have M5:=LH (MR0.out.below hb5)
    clear RR0 RA0 GG0 MR0
    clear hb5
    have hlu5:=M5.out.row.lt
    have hcr5:=fun i=>Rr5.out.cell i
    have hlr5:=Rr5.out.lt
    have hca5:=fun i=>Ra5.out.cell i
    have hla5:=Ra5.out.lt
    cases hs:pAtomic ts s
    ·
     go_wp2_with fail
     refine(l3Sign ts g L cl V cv s w5 (M5.out.cur HC.out) ⟨#[95]⟩).mono ?_
     clear hlu5 hcr5 hlr5 hca5 hla5
     rintro e w6 ⟨rfl,hb6⟩
     have hz6:=hb6.size
     have K6:=LH (Bx.of_below (g:=g) hb6 (Nat.le_refl _))
     have Rr6:=LH (K6.out.row Rr5.out (by omega))
     have Ra6:=LH (K6.out.row Ra5.out (by omega))
     have GG6:=LH (GG5.out.keepP (w':=w6) (by omega) fun b hb h=>K6.out.block b hb (by
       rcases h with h | h
       · have:=GG5.out.own b h;omega
       · obtain⟨x1,x2,x3⟩:=h;omega))
     have M6:=LH (M5.out.below hb6)
     clear Rr5 Ra5 GG5 M5
     clear hb6
     have hlu6:=M6.out.row.lt
     have hcr6:=fun i=>Rr6.out.cell i
     have hfr6:=fun i=>Rr6.out.frozen i
     have hlr6:=Rr6.out.lt
     have hca6:=fun i=>Ra6.out.cell i
     have hla6:=Ra6.out.lt
     cases hs2:pSign ts [95] s
     ·
      simp [pPatKids,hs,hs2,Option.bind_eq_some_iff] at hx
      obtain⟨rfl,rfl⟩:=hx
      go_wp2_with fail
      clear hlu6 hcr6 hfr6 hlr6 hca6 hla6
      obtain⟨w7,e7,RN7,hz7,K7⟩:=stored5 Rr6.out (.int .i64 20) (.int .i64 0) (.string tx) (.string ⟨#[]⟩) (.slice A acc.length c)
      have Ra7:=LH (K7.out.row Ra6.out (by omega))
      have GG7:=LH (GG6.out.keepP (w':=w7) (by omega) fun b hb h=>K7.out.block b hb (by
        rcases h with h | h
        · have:=GG6.out.own b h;omega
        · obtain⟨x1,x2,x3⟩:=h;omega))
      have M7:=LH (M6.out.chg K7.out (by omega) (by omega))
      clear Ra6 GG6 M6
      clear Rr6
      rw [<- e7]
      clear e7
      have hlu7:=M7.out.row.lt
      have hca7:=fun i=>Ra7.out.cell i
      have hla7:=Ra7.out.lt
      have hcr7:=fun i=>RN7.out.cell i
      have hlr7:=RN7.out.lt
      obtain rfl:=HNN.out
      have SX:=LH (sl_of_grx GG7.out (fun b h=>by omega))
      refine bodyPost_ret (v:=.agg #[.int .i64 20,.int .i64 0,.string tx,.string ⟨#[]⟩,.slice A acc.length c]) (by simp [results,Tryz.results89,go_sem,hcr7]) rfl ?_
      exact⟨A,c,rfl,⟨show(Lit.int .i64 20).wf=true by decide,show(Lit.int .i64 0).wf=true by decide,HTX.out,empty_le,SX.out.keep fun b hb=>⟨⟨by have h1:=hb.1;have h2:=hb.2;omega,by have h1:=hb.1;have h2:=hb.2;omega⟩,rfl⟩⟩,M7.out⟩
     ·
      simp [pPatKids,hs,hs2,Option.bind_eq_some_iff] at hx
      obtain⟨n1,s1,hq,hr⟩:=hx
      have HR:=LH hr
      clear hr
      have HOW:=LH (fun q (hq:(Value.slice A acc.length c).ownBlock=some q)=>GG6.out.own q hq)
      go_upto_region 5 with (fail)
      refine wp_region_T (fun x=>x.cell? ⟨w3.heap.size,4,none⟩=some (.slice A acc.length c)) 7 (by kernel_rfl) ?_
      clear hlu6 hcr6 hfr6 hlr6 hca6 hla6
      obtain⟨w7,e7⟩:∃ x,x=w6.drew:=⟨_,rfl⟩
      rw [<- e7]
      have hz7:w7.heap.size=w6.heap.size:=by rw [e7];rfl
      have K7:=LH (show Bx w6.heap.size w6 w7 by rw [e7];exact Bx.of_below ((Below.refl _ _).drew) (Nat.le_refl _))
      clear e7
      have Rr7:=LH (K7.out.row Rr6.out (by omega))
      have Ra7:=LH (K7.out.row Ra6.out (by omega))
      have GG7:=LH (GG6.out.keepP (w':=w7) (by omega) fun b hb h=>K7.out.block b hb (by
        rcases h with h | h
        · have:=GG6.out.own b h;omega
        · obtain⟨x1,x2,x3⟩:=h;omega))
      have M7:=LH (M6.out.chg K7.out (by omega) (by omega))
      clear Rr6 Ra6 GG6 M6
      have hlu7:=M7.out.row.lt
      have hcr7:=fun i=>Rr7.out.cell i
      have hlr7:=Rr7.out.lt
      have hca7:=fun i=>Ra7.out.cell i
      have hla7:=Ra7.out.lt
      have hS1:w7.cell? ⟨w3.heap.size,4,none⟩=some (.slice A acc.length c):=Ra7.out.cell 4
      refine wpAnyT_tk (i:=0) (oi:=_) (v:=?tv5) rfl (Or.inl ⟨by rfl,?th5⟩) hS1 ?_
      case th5=>(intro x hSx;(try dsimp only at hSx);go_simp;(try with_reducible rfl))
      try simp only [nA,nB,nC,Act.put,nD,nE,nF]
      refine wpAnyT_tk (i:=1) (oi:=_) (v:=?tv6) rfl (Or.inl ⟨by rfl,?th6⟩) hS1 ?_
      case th6=>(intro x hSx;(try dsimp only at hSx);go_simp;(try with_reducible rfl))
      try simp only [nA,nB,nC,Act.put,nD,nE,nF]
      refine wpAnyT_tk (i:=2) (oi:=_) (v:=?tv7) rfl (Or.inl ⟨by rfl,?th7⟩) hS1 ?_
      case th7=>(intro x hSx;(try dsimp only at hSx);go_simp;(try with_reducible rfl))
      try simp only [nA,nB,nC,Act.put,nD,nE,nF]
      refine wpAnyT_step (i:=3) (by kernel_rfl) rfl (fun K hK=>?_)
      try simp only [nA,nB,nC]
      go_simp
      go_at_call 100
      refine(HA.out j (by omega) ts g L cl V cv s w7 (M7.out.cur HC.out) n1 s1 hq).mono ?_
      clear hlu7 hcr7 hlr7 hca7 hla7
      rintro e w8 ⟨An1,cn1,rfl,ha8,hm8⟩
      have hz8:=hm8.size
      have K8:=LH hm8.bx
      have DN8:=LH ha8
      have Rr8:=LH (K8.out.row Rr7.out (by omega))
      have Ra8:=LH (K8.out.row Ra7.out (by omega))
      have GG8:=LH (GG7.out.keepP (w':=w8) (by omega) fun b hb h=>K8.out.block b hb (by
        rcases h with h | h
        · have:=GG7.out.own b h;omega
        · obtain⟨x1,x2,x3⟩:=h;omega))
      have M8:=LH (M7.out.trans hm8)
      clear Rr7 Ra7 GG7 M7
      clear hm8 ha8
      have hlu8:=M8.out.row.lt
      have hcr8:=fun i=>Rr8.out.cell i
      have hlr8:=Rr8.out.lt
      have hca8:=fun i=>Ra8.out.cell i
      have hla8:=Ra8.out.lt
      clear hq
      have hS2:w8.cell? ⟨w3.heap.size,4,none⟩=some (.slice A acc.length c):=Ra8.out.cell 4
      refine hK.out _ _ hS2 (fun hS3=>?_)
      clear hK K hS1 hS2
      try simp only [nA,nB,nC,Act.put,nD,nE,nF]
      refine wpAnyT_step (i:=4) (by kernel_rfl) rfl (fun K hK=>?_)
      try simp only [nA,nB,nC]
      go_simp
      clear hlu8 hcr8 hlr8 hca8 hla8
      obtain⟨w9,e9,Rrow9,hz9,K9⟩:=boxed w8 45 #[.int .i64 n1.op,.int .i64 n1.n,.string n1.s,.string n1.t,.slice An1 n1.kids.length cn1]
      have Rr9:=LH (K9.out.row Rr8.out (by omega))
      have Ra9:=LH (K9.out.row Ra8.out (by omega))
      have Dn19:=LH (DN8.out.keep fun b hb=>K9.out.kq hb (by have h1:=hb.1;have h2:=hb.2;omega))
      have GG9:=LH (GG8.out.keepP (w':=w9) (by omega) fun b hb h=>K9.out.block b hb (by
        rcases h with h | h
        · have:=GG8.out.own b h;omega
        · obtain⟨x1,x2,x3⟩:=h;omega))
      have M9:=LH (M8.out.chg K9.out (by omega) (by omega))
      clear Rr8 Ra8 DN8 GG8 M8
      have SL9:=LH (show Sl w9 (fun b=>b<w9.heap.size/\(Value.slice A acc.length c).ownBlock≠some b/\w.heap.size<=b/\b≠w3.heap.size/\b≠w.heap.size) 5 (some ⟨w8.heap.size,0,none⟩) 1 ([n1].map GNode.toD) from Sl.ofRow Rrow9.out (rdC_one1 (GNode.rd_mk (Dn19.out.keep (w':=w9) (S':=fun b=>b<w9.heap.size/\(Value.slice A acc.length c).ownBlock≠some b/\w.heap.size<=b/\b≠w3.heap.size/\b≠w.heap.size) fun b hb=>⟨⟨by have h1:=hb.1;have h2:=hb.2;omega,fun e=>by have h1:=hb.1;have h3:=(HOW.out b e).2;omega,by have h1:=hb.1;have h2:=hb.2;omega⟩,rfl⟩)) rfl) ⟨by omega,fun e=>by have h3:=(HOW.out _ e).2;omega,by omega⟩ (by simp) (by unfold maxLen;omega))
      rw [<- e9]
      clear e9
      have hlu9:=M9.out.row.lt
      have hcr9:=fun i=>Rr9.out.cell i
      have hlr9:=Rr9.out.lt
      have hca9:=fun i=>Ra9.out.cell i
      have hfa9:=fun i=>Ra9.out.frozen i
      have hla9:=Ra9.out.lt
      have hcrow9:=fun i=>Rrow9.out.cell i
      have hlrow9:=Rrow9.out.lt
      have hS4:w9.cell? ⟨w3.heap.size,4,none⟩=some (.slice A acc.length c):=Ra9.out.cell 4
      refine hK.out _ _ hS4 (fun hS5=>?_)
      clear hK K hS3 hS4
      try simp only [nA,nB,nC,Act.put,nD,nE,nF]
      refine wpAnyT_step (i:=5) (by kernel_rfl) rfl (fun K hK=>?_)
      refine step_append_X w9 rfl (.tmp 19) (.tmp 22) 43 rfl 45 zNd 5 72 Tryz.underlying43 (by kernel_rfl) rfl (by omega) (w3.heap.size+1) (.slice A acc.length c) acc.length _ GG9.out (some ⟨w8.heap.size,0,none⟩) 1 1 _ rfl SL9.out (by omega) (by unfold maxLen;omega) (by omega) rfl rfl ?_
      clear hlu9 hcr9 hlr9 hca9 hfa9 hla9 hcrow9 hlrow9
      intro A10 c10 w10 hG10 hGr10
      obtain⟨acc10,hac10⟩:∃ x,x=acc++[n1]:=⟨_,rfl⟩
      have HAC10:=LH hac10
      have hal10:acc10.length=acc.length+1:=by rw [hac10];simp
      have GN10:=LH (show Grx (fun b=>w.heap.size<=b/\b≠w3.heap.size/\b≠w.heap.size) w10 (w3.heap.size+1) 45 5 (.slice A10 acc10.length c10) acc10.length (acc10.map GNode.toD) from by rw [hal10,hac10];simpa using hG10)
      rw [<- hal10]
      have HAL10:=LH hal10
      clear hal10 hac10
      obtain⟨q10,hq10,hk10⟩:=hGr10.bxe (B:=w3.heap.size+1) (fun q hq=>(HOW.out q hq).1) (by omega)
      have hz10:=hGr10.size
      have K10:=LH hk10
      clear hG10 hGr10 hk10
      have Rr10:=LH (K10.out.row Rr9.out (by omega))
      have Ra10:=LH (K10.out.row Ra9.out (by omega))
      have M10:=LH (M9.out.chg K10.out (by omega) (by omega))
      clear Rr9 Ra9 M9
      clear GG9
      have hlu10:=M10.out.row.lt
      have hcr10:=fun i=>Rr10.out.cell i
      have hlr10:=Rr10.out.lt
      have hca10:=fun i=>Ra10.out.cell i
      have hfa10:=fun i=>Ra10.out.frozen i
      have hla10:=Ra10.out.lt
      have hS6:w10.cell? ⟨w3.heap.size,4,none⟩=some (.slice A acc.length c):=Ra10.out.cell 4
      refine hK.out _ _ hS6 (fun hS7=>?_)
      clear hK K hS5 hS6
      try simp only [nA,nB,nC,Act.put,nD,nE,nF]
      refine wpAnyT_tk (i:=6) (oi:=_) (v:=?tv8) rfl (Or.inl ⟨by rfl,?th8⟩) hS7 ?_
      case th8=>(intro x hSx;(try dsimp only at hSx);go_simp;(try with_reducible rfl))
      try simp only [nA,nB,nC,Act.put,nD,nE,nF]
      refine wpAnyT_last (by kernel_rfl) (by kernel_rfl) rfl (fun K hK=>?_)
      try simp only [nA,nB,nC]
      go_simp
      refine hK.out _ _ ?_
      clear hK K
      try simp only [nA,nB,nC,Act.put,nD,nE,nF]
      clear hS7 HOW
      clear hlu10 hcr10 hlr10 hca10 hla10
      obtain⟨w11,e11,RO11,hz11,K11⟩:=storedF Ra10.out 4 (.slice A10 acc10.length c10)
      have RN11:=LH (show Row w11 w3.heap.size 45 #[.int .i64 20,.int .i64 0,.string tx,.string ⟨#[]⟩,.slice A10 acc10.length c10] from RO11.out)
      clear RO11
      have Rr11:=LH (K11.out.row Rr10.out (by omega))
      have GG11:=LH (GN10.out.keepP (w':=w11) (by omega) fun b hb h=>K11.out.block b hb (by
        rcases h with h | h
        · have:=GN10.out.own b h;omega
        · obtain⟨x1,x2,x3⟩:=h;omega))
      have M11:=LH (M10.out.chg K11.out (by omega) (by omega))
      clear Rr10 GN10 M10
      clear Ra10
      rw [<- e11]
      clear e11
      have hlu11:=M11.out.row.lt
      have hcr11:=fun i=>Rr11.out.cell i
      have hlr11:=Rr11.out.lt
      have hca11:=fun i=>RN11.out.cell i
      have hla11:=RN11.out.lt
      have hall:=HAL10.out
      have HN:I j w11:=by
       rw [HI.out]
       exact⟨acc10,s1,A10,c10,(by rw [HAC10.out];exact HR.out),by omega,by omega,RN11.out,Rr11.out,GG11.out,M11.out,RN11.out.lt⟩
      go_roundw
      case rel=>first | exact⟨j,HN⟩ | ((repeat apply Exists.intro);exact⟨⟨j,HN⟩,rfl⟩)
      case measure=>rw [HJ.out];exact Nat.lt_succ_of_le (leastK_le (I:=fun j=>I j w11) HN)
    ·
     simp [pPatKids,hs,Option.bind_eq_some_iff] at hx
     obtain⟨n1,s1,hq,hr⟩:=hx
     have HR:=LH hr
     clear hr
     have HOW:=LH (fun q (hq:(Value.slice A acc.length c).ownBlock=some q)=>GG5.out.own q hq)
     go_upto_region 5 with (fail)
     refine wp_region_T (fun x=>x.cell? ⟨w3.heap.size,4,none⟩=some (.slice A acc.length c)) 7 (by kernel_rfl) ?_
     clear hlu5 hcr5 hlr5 hca5 hla5
     obtain⟨w6,e6⟩:∃ x,x=w5.drew:=⟨_,rfl⟩
     rw [<- e6]
     have hz6:w6.heap.size=w5.heap.size:=by rw [e6];rfl
     have K6:=LH (show Bx w5.heap.size w5 w6 by rw [e6];exact Bx.of_below ((Below.refl _ _).drew) (Nat.le_refl _))
     clear e6
     have Rr6:=LH (K6.out.row Rr5.out (by omega))
     have Ra6:=LH (K6.out.row Ra5.out (by omega))
     have GG6:=LH (GG5.out.keepP (w':=w6) (by omega) fun b hb h=>K6.out.block b hb (by
       rcases h with h | h
       · have:=GG5.out.own b h;omega
       · obtain⟨x1,x2,x3⟩:=h;omega))
     have M6:=LH (M5.out.chg K6.out (by omega) (by omega))
     clear Rr5 Ra5 GG5 M5
     have hlu6:=M6.out.row.lt
     have hcr6:=fun i=>Rr6.out.cell i
     have hfr6:=fun i=>Rr6.out.frozen i
     have hlr6:=Rr6.out.lt
     have hca6:=fun i=>Ra6.out.cell i
     have hla6:=Ra6.out.lt
     have hS1:w6.cell? ⟨w3.heap.size,4,none⟩=some (.slice A acc.length c):=Ra6.out.cell 4
     refine wpAnyT_tk (i:=0) (oi:=_) (v:=?tv9) rfl (Or.inl ⟨by rfl,?th9⟩) hS1 ?_
     case th9=>(intro x hSx;(try dsimp only at hSx);go_simp;(try with_reducible rfl))
     try simp only [nA,nB,nC,Act.put,nD,nE,nF]
     refine wpAnyT_tk (i:=1) (oi:=_) (v:=?tv10) rfl (Or.inl ⟨by rfl,?th10⟩) hS1 ?_
     case th10=>(intro x hSx;(try dsimp only at hSx);go_simp;(try with_reducible rfl))
     try simp only [nA,nB,nC,Act.put,nD,nE,nF]
     refine wpAnyT_tk (i:=2) (oi:=_) (v:=?tv11) rfl (Or.inl ⟨by rfl,?th11⟩) hS1 ?_
     case th11=>(intro x hSx;(try dsimp only at hSx);go_simp;(try with_reducible rfl))
     try simp only [nA,nB,nC,Act.put,nD,nE,nF]
     refine wpAnyT_step (i:=3) (by kernel_rfl) rfl (fun K hK=>?_)
     try simp only [nA,nB,nC]
     go_simp
     go_at_call 100
     refine(HA.out j (by omega) ts g L cl V cv s w6 (M6.out.cur HC.out) n1 s1 hq).mono ?_
     clear hlu6 hcr6 hfr6 hlr6 hca6 hla6
     rintro e w7 ⟨An1,cn1,rfl,ha7,hm7⟩
     have hz7:=hm7.size
     have K7:=LH hm7.bx
     have DN7:=LH ha7
     have Rr7:=LH (K7.out.row Rr6.out (by omega))
     have Ra7:=LH (K7.out.row Ra6.out (by omega))
     have GG7:=LH (GG6.out.keepP (w':=w7) (by omega) fun b hb h=>K7.out.block b hb (by
       rcases h with h | h
       · have:=GG6.out.own b h;omega
       · obtain⟨x1,x2,x3⟩:=h;omega))
     have M7:=LH (M6.out.trans hm7)
     clear Rr6 Ra6 GG6 M6
     clear hm7 ha7
     have hlu7:=M7.out.row.lt
     have hcr7:=fun i=>Rr7.out.cell i
     have hlr7:=Rr7.out.lt
     have hca7:=fun i=>Ra7.out.cell i
     have hla7:=Ra7.out.lt
     clear hq
     have hS2:w7.cell? ⟨w3.heap.size,4,none⟩=some (.slice A acc.length c):=Ra7.out.cell 4
     refine hK.out _ _ hS2 (fun hS3=>?_)
     clear hK K hS1 hS2
     try simp only [nA,nB,nC,Act.put,nD,nE,nF]
     refine wpAnyT_step (i:=4) (by kernel_rfl) rfl (fun K hK=>?_)
     try simp only [nA,nB,nC]
     go_simp
     clear hlu7 hcr7 hlr7 hca7 hla7
     obtain⟨w8,e8,Rrow8,hz8,K8⟩:=boxed w7 45 #[.int .i64 n1.op,.int .i64 n1.n,.string n1.s,.string n1.t,.slice An1 n1.kids.length cn1]
     have Rr8:=LH (K8.out.row Rr7.out (by omega))
     have Ra8:=LH (K8.out.row Ra7.out (by omega))
     have Dn18:=LH (DN7.out.keep fun b hb=>K8.out.kq hb (by have h1:=hb.1;have h2:=hb.2;omega))
     have GG8:=LH (GG7.out.keepP (w':=w8) (by omega) fun b hb h=>K8.out.block b hb (by
       rcases h with h | h
       · have:=GG7.out.own b h;omega
       · obtain⟨x1,x2,x3⟩:=h;omega))
     have M8:=LH (M7.out.chg K8.out (by omega) (by omega))
     clear Rr7 Ra7 DN7 GG7 M7
     have SL8:=LH (show Sl w8 (fun b=>b<w8.heap.size/\(Value.slice A acc.length c).ownBlock≠some b/\w.heap.size<=b/\b≠w3.heap.size/\b≠w.heap.size) 5 (some ⟨w7.heap.size,0,none⟩) 1 ([n1].map GNode.toD) from Sl.ofRow Rrow8.out (rdC_one1 (GNode.rd_mk (Dn18.out.keep (w':=w8) (S':=fun b=>b<w8.heap.size/\(Value.slice A acc.length c).ownBlock≠some b/\w.heap.size<=b/\b≠w3.heap.size/\b≠w.heap.size) fun b hb=>⟨⟨by have h1:=hb.1;have h2:=hb.2;omega,fun e=>by have h1:=hb.1;have h3:=(HOW.out b e).2;omega,by have h1:=hb.1;have h2:=hb.2;omega⟩,rfl⟩)) rfl) ⟨by omega,fun e=>by have h3:=(HOW.out _ e).2;omega,by omega⟩ (by simp) (by unfold maxLen;omega))
     rw [<- e8]
     clear e8
     have hlu8:=M8.out.row.lt
     have hcr8:=fun i=>Rr8.out.cell i
     have hlr8:=Rr8.out.lt
     have hca8:=fun i=>Ra8.out.cell i
     have hla8:=Ra8.out.lt
     have hcrow8:=fun i=>Rrow8.out.cell i
     have hlrow8:=Rrow8.out.lt
     have hS4:w8.cell? ⟨w3.heap.size,4,none⟩=some (.slice A acc.length c):=Ra8.out.cell 4
     refine hK.out _ _ hS4 (fun hS5=>?_)
     clear hK K hS3 hS4
     try simp only [nA,nB,nC,Act.put,nD,nE,nF]
     refine wpAnyT_step (i:=5) (by kernel_rfl) rfl (fun K hK=>?_)
     refine step_append_X w8 rfl (.tmp 19) (.tmp 22) 43 rfl 45 zNd 5 72 Tryz.underlying43 (by kernel_rfl) rfl (by omega) (w3.heap.size+1) (.slice A acc.length c) acc.length _ GG8.out (some ⟨w7.heap.size,0,none⟩) 1 1 _ rfl SL8.out (by omega) (by unfold maxLen;omega) (by omega) rfl rfl ?_
     clear hlu8 hcr8 hlr8 hca8 hla8 hcrow8 hlrow8
     intro A9 c9 w9 hG9 hGr9
     obtain⟨acc9,hac9⟩:∃ x,x=acc++[n1]:=⟨_,rfl⟩
     have HAC9:=LH hac9
     have hal9:acc9.length=acc.length+1:=by rw [hac9];simp
     have GN9:=LH (show Grx (fun b=>w.heap.size<=b/\b≠w3.heap.size/\b≠w.heap.size) w9 (w3.heap.size+1) 45 5 (.slice A9 acc9.length c9) acc9.length (acc9.map GNode.toD) from by rw [hal9,hac9];simpa using hG9)
     rw [<- hal9]
     have HAL9:=LH hal9
     clear hal9 hac9
     obtain⟨q9,hq9,hk9⟩:=hGr9.bxe (B:=w3.heap.size+1) (fun q hq=>(HOW.out q hq).1) (by omega)
     have hz9:=hGr9.size
     have K9:=LH hk9
     clear hG9 hGr9 hk9
     have Rr9:=LH (K9.out.row Rr8.out (by omega))
     have Ra9:=LH (K9.out.row Ra8.out (by omega))
     have M9:=LH (M8.out.chg K9.out (by omega) (by omega))
     clear Rr8 Ra8 M8
     clear GG8
     have hlu9:=M9.out.row.lt
     have hcr9:=fun i=>Rr9.out.cell i
     have hlr9:=Rr9.out.lt
     have hca9:=fun i=>Ra9.out.cell i
     have hfa9:=fun i=>Ra9.out.frozen i
     have hla9:=Ra9.out.lt
     have hS6:w9.cell? ⟨w3.heap.size,4,none⟩=some (.slice A acc.length c):=Ra9.out.cell 4
     refine hK.out _ _ hS6 (fun hS7=>?_)
     clear hK K hS5 hS6
     try simp only [nA,nB,nC,Act.put,nD,nE,nF]
     refine wpAnyT_tk (i:=6) (oi:=_) (v:=?tv12) rfl (Or.inl ⟨by rfl,?th12⟩) hS7 ?_
     case th12=>(intro x hSx;(try dsimp only at hSx);go_simp;(try with_reducible rfl))
     try simp only [nA,nB,nC,Act.put,nD,nE,nF]
     refine wpAnyT_last (by kernel_rfl) (by kernel_rfl) rfl (fun K hK=>?_)
     try simp only [nA,nB,nC]
     go_simp
     refine hK.out _ _ ?_
     clear hK K
     try simp only [nA,nB,nC,Act.put,nD,nE,nF]
     clear hS7 HOW
     clear hlu9 hcr9 hlr9 hca9 hfa9 hla9
     obtain⟨w10,e10,RO10,hz10,K10⟩:=storedF Ra9.out 4 (.slice A9 acc9.length c9)
     have RN10:=LH (show Row w10 w3.heap.size 45 #[.int .i64 20,.int .i64 0,.string tx,.string ⟨#[]⟩,.slice A9 acc9.length c9] from RO10.out)
     clear RO10
     have Rr10:=LH (K10.out.row Rr9.out (by omega))
     have GG10:=LH (GN9.out.keepP (w':=w10) (by omega) fun b hb h=>K10.out.block b hb (by
       rcases h with h | h
       · have:=GN9.out.own b h;omega
       · obtain⟨x1,x2,x3⟩:=h;omega))
     have M10:=LH (M9.out.chg K10.out (by omega) (by omega))
     clear Rr9 GN9 M9
     clear Ra9
     rw [<- e10]
     clear e10
     have hlu10:=M10.out.row.lt
     have hcr10:=fun i=>Rr10.out.cell i
     have hlr10:=Rr10.out.lt
     have hca10:=fun i=>RN10.out.cell i
     have hla10:=RN10.out.lt
     have hall:=HAL9.out
     have HN:I j w10:=by
      rw [HI.out]
      exact⟨acc9,s1,A9,c9,(by rw [HAC9.out];exact HR.out),by omega,by omega,RN10.out,Rr10.out,GG10.out,M10.out,RN10.out.lt⟩
     go_roundw
     case rel=>first | exact⟨j,HN⟩ | ((repeat apply Exists.intro);exact⟨⟨j,HN⟩,rfl⟩)
     case measure=>rw [HJ.out];exact Nat.lt_succ_of_le (leastK_le (I:=fun j=>I j w10) HN)
theorem l3Let (k:Nat) (hE:Ok1 56 pE k):Ok1 69 pLet k:=by
 intro ts g L cl V cv st w h n st' hp
 have HE:=LH hE
 clear hE
 simp [pLet,Option.bind_eq_some_iff] at hp
 obtain⟨n1,s1,hq1,n2,hq2,hn⟩:=hp
 have HNN:=LH hn
 have HQ1:=LH hq1
 have HQ2:=LH hq2
 clear hn hq1 hq2
 have HC:=LH h
 have M0:=LH h.mv
 have hgl:=h.row.lt
 clear h
 go_enter Tryz.func69,Tryz.ntmps69
 refine wp_hide (fun BP hBP=>?_)
 have HBP:=LH hBP
 clear hBP
 go_wp2_with fail
 obtain⟨w1,e1,Rr1,hz1,K1⟩:=boxed w 45 #[.int .i64 0,.int .i64 0,.string ⟨#[]⟩,.string ⟨#[]⟩,.slice none 0 0]
 have M1:=LH (M0.out.chg K1.out (by omega) (by omega))
 rw [<- e1]
 clear e1
 have hlu1:=M1.out.row.lt
 have hcr1:=fun i=>Rr1.out.cell i
 have hlr1:=Rr1.out.lt
 refine(l3Next ts g L cl V cv st w1 (M1.out.cur HC.out)).mono ?_
 clear hlu1 hcr1 hlr1
 rintro e w2 ⟨rfl,hm2⟩
 replace hm2:Mv ts g L cl V cv st.vars (pNext ts st) w1 w2:=hm2
 have hz2:=hm2.size
 have K2:=LH hm2.bx
 have Rr2:=LH (K2.out.row Rr1.out (by omega))
 have M2:=LH (M1.out.trans hm2)
 clear Rr1 M1
 clear hm2
 have hlu2:=M2.out.row.lt
 have hcr2:=fun i=>Rr2.out.cell i
 have hlr2:=Rr2.out.lt
 go_wp2_with fail
 have HTX1:=LH ((M2.out.cur HC.out).ptext_le false)
 refine(l3TextN ts g L cl V cv (pNext ts st) w2 (M2.out.cur HC.out)).mono ?_
 clear hlu2 hcr2 hlr2
 rintro e w3 ⟨rfl,hm3⟩
 replace hm3:Mv ts g L cl V cv (pNext ts st).vars ((pText ts false (pNext ts st)).2) w2 w3:=hm3
 have hz3:=hm3.size
 have K3:=LH hm3.bx
 have Rr3:=LH (K3.out.row Rr2.out (by omega))
 have M3:=LH (M2.out.trans hm3)
 clear Rr2 M2
 clear hm3
 have hlu3:=M3.out.row.lt
 have hcr3:=fun i=>Rr3.out.cell i
 have hlr3:=Rr3.out.lt
 obtain⟨tx1,htx⟩:∃ x,(pText ts false (pNext ts st)).1=x:=⟨_,rfl⟩
 obtain⟨sx1,hsx⟩:∃ x,(pText ts false (pNext ts st)).2=x:=⟨_,rfl⟩
 rw [htx] at HTX1 HNN ⊢
 rw [hsx] at M3 HQ1
 clear htx hsx
 clear hlu3 hcr3 hlr3
 have hlu3:=M3.out.row.lt
 have hcr3:=fun i=>Rr3.out.cell i
 have hlr3:=Rr3.out.lt
 go_wp2_with fail
 refine(l3Take ts g L cl V cv sx1 w3 (M3.out.cur HC.out) ⟨#[61]⟩).mono ?_
 clear hlu3 hcr3 hlr3
 rintro e w4 ⟨rfl,hm4⟩
 replace hm4:Mv ts g L cl V cv sx1.vars (pTake ts [61] sx1) w3 w4:=hm4
 have hz4:=hm4.size
 have K4:=LH hm4.bx
 have Rr4:=LH (K4.out.row Rr3.out (by omega))
 have M4:=LH (M3.out.trans hm4)
 clear Rr3 M3
 clear hm4
 have hlu4:=M4.out.row.lt
 have hcr4:=fun i=>Rr4.out.cell i
 have hlr4:=Rr4.out.lt
 go_wp2_with fail
 refine(HE.out ts g L cl V cv (pTake ts [61] sx1) w4 (M4.out.cur HC.out) n1 s1 HQ1.out).mono ?_
 clear hlu4 hcr4 hlr4
 rintro e w5 ⟨A1,c1,rfl,ha5,hm5⟩
 have hz5:=hm5.size
 have K5:=LH hm5.bx
 have DN5:=LH ha5
 have Rr5:=LH (K5.out.row Rr4.out (by omega))
 have M5:=LH (M4.out.trans hm5)
 clear Rr4 M4
 clear hm5 ha5
 have hlu5:=M5.out.row.lt
 have hcr5:=fun i=>Rr5.out.cell i
 have hlr5:=Rr5.out.lt
 go_wp2_with fail
 clear hlu5 hcr5 hlr5
 obtain⟨w6,e6,Re6,hz6,K6⟩:=boxed w5 45 #[.int .i64 n1.op,.int .i64 n1.n,.string n1.s,.string n1.t,.slice A1 n1.kids.length c1]
 have Rr6:=LH (K6.out.row Rr5.out (by omega))
 have D16:=LH (DN5.out.keep fun b hb=>K6.out.kq hb (by have h1:=hb.1;have h2:=hb.2;omega))
 have M6:=LH (M5.out.chg K6.out (by omega) (by omega))
 clear Rr5 DN5 M5
 rw [<- e6]
 clear e6
 have hlu6:=M6.out.row.lt
 have hcr6:=fun i=>Rr6.out.cell i
 have hlr6:=Rr6.out.lt
 have hce6:=fun i=>Re6.out.cell i
 have hle6:=Re6.out.lt
 refine(l3Word ts g L cl V cv s1 w6 (M6.out.cur HC.out) ⟨#[105,110]⟩).mono ?_
 clear hlu6 hcr6 hlr6 hce6 hle6
 rintro e w7 ⟨rfl,hm7⟩
 replace hm7:Mv ts g L cl V cv s1.vars (pWord ts [105,110] s1) w6 w7:=hm7
 have hz7:=hm7.size
 have K7:=LH hm7.bx
 have Rr7:=LH (K7.out.row Rr6.out (by omega))
 have Re7:=LH (K7.out.row Re6.out (by omega))
 have D17:=LH (D16.out.keep fun b hb=>K7.out.kq hb (by have h1:=hb.1;have h2:=hb.2;omega))
 have M7:=LH (M6.out.trans hm7)
 clear Rr6 Re6 D16 M6
 clear hm7
 have hlu7:=M7.out.row.lt
 have hcr7:=fun i=>Rr7.out.cell i
 have hlr7:=Rr7.out.lt
 have hce7:=fun i=>Re7.out.cell i
 have hle7:=Re7.out.lt
 go_wp2_with fail
 refine(HE.out ts g L cl V cv (pWord ts [105,110] s1) w7 (M7.out.cur HC.out) n2 st' HQ2.out).mono ?_
 clear hlu7 hcr7 hlr7 hce7 hle7
 rintro e w8 ⟨A2,c2,rfl,ha8,hm8⟩
 have hz8:=hm8.size
 have K8:=LH hm8.bx
 have DN8:=LH ha8
 have Rr8:=LH (K8.out.row Rr7.out (by omega))
 have Re8:=LH (K8.out.row Re7.out (by omega))
 have D18:=LH (D17.out.keep fun b hb=>K8.out.kq hb (by have h1:=hb.1;have h2:=hb.2;omega))
 have M8:=LH (M7.out.trans hm8)
 clear Rr7 Re7 D17 M7
 clear hm8 ha8
 have hlu8:=M8.out.row.lt
 have hcr8:=fun i=>Rr8.out.cell i
 have hfr8:=fun i=>Rr8.out.frozen i
 have hlr8:=Rr8.out.lt
 have hce8:=fun i=>Re8.out.cell i
 have hle8:=Re8.out.lt
 go_wp2_with fail
 clear hlu8 hcr8 hfr8 hlr8 hce8 hle8
 obtain⟨w9,e9,RN9,hz9,K9⟩:=stored5 Rr8.out (.int .i64 5) (.int .i64 0) (.string tx1) (.string ⟨#[]⟩) (.slice (some ⟨(w8.heap.size+1),0,none⟩) 2 2)
 have Re9:=LH (K9.out.row Re8.out (by omega))
 have D19:=LH (D18.out.keep fun b hb=>K9.out.kq hb (by have h1:=hb.1;have h2:=hb.2;omega))
 have D29:=LH (DN8.out.keep fun b hb=>K9.out.kq hb (by have h1:=hb.1;have h2:=hb.2;omega))
 have M9:=LH (M8.out.chg K9.out (by omega) (by omega))
 clear Re8 D18 DN8 M8
 clear Rr8
 obtain⟨w10,e10,Rb10,hz10,K10⟩:=boxed w9 45 #[.int .i64 n2.op,.int .i64 n2.n,.string n2.s,.string n2.t,.slice A2 n2.kids.length c2]
 have hy10:w9.heap.size=w8.heap.size:=by omega
 rw [hy10] at Rb10 K10
 have Re10:=LH (K10.out.row Re9.out (by omega))
 have Rr10:=LH (K10.out.row RN9.out (by omega))
 have D110:=LH (D19.out.keep fun b hb=>K10.out.kq hb (by have h1:=hb.1;have h2:=hb.2;omega))
 have D210:=LH (D29.out.keep fun b hb=>K10.out.kq hb (by have h1:=hb.1;have h2:=hb.2;omega))
 have M10:=LH (M9.out.chg K10.out (by omega) (by omega))
 clear Re9 RN9 D19 D29 M9
 obtain⟨w11,e11,Rrow11,hz11,K11⟩:=boxed w10 45 #[.int .i64 n1.op,.int .i64 n1.n,.string n1.s,.string n1.t,.slice A1 n1.kids.length c1,.int .i64 n2.op,.int .i64 n2.n,.string n2.s,.string n2.t,.slice A2 n2.kids.length c2]
 have hy11:w10.heap.size=(w8.heap.size+1):=by omega
 rw [hy11] at Rrow11 K11
 have Re11:=LH (K11.out.row Re10.out (by omega))
 have Rr11:=LH (K11.out.row Rr10.out (by omega))
 have Rb11:=LH (K11.out.row Rb10.out (by omega))
 have D111:=LH (D110.out.keep fun b hb=>K11.out.kq hb (by have h1:=hb.1;have h2:=hb.2;omega))
 have D211:=LH (D210.out.keep fun b hb=>K11.out.kq hb (by have h1:=hb.1;have h2:=hb.2;omega))
 have M11:=LH (M10.out.chg K11.out (by omega) (by omega))
 clear Re10 Rr10 Rb10 D110 D210 M10
 have SL11:=LH (show Sl w11 (fun b=>b<w11.heap.size/\w.heap.size<=b/\b≠w.heap.size) 5 (some ⟨(w8.heap.size+1),0,none⟩) 2 ([n1,n2].map GNode.toD) from Sl.ofRow Rrow11.out (rdC_cons (GNode.rd_mk (D111.out.keep (w':=w11) (S':=fun b=>b<w11.heap.size/\w.heap.size<=b/\b≠w.heap.size) fun b hb=>⟨⟨by have h1:=hb.1;have h2:=hb.2;omega,by have h1:=hb.1;have h2:=hb.2;omega⟩,rfl⟩)) rfl (rdC_one1 (GNode.rd_mk (D211.out.keep (w':=w11) (S':=fun b=>b<w11.heap.size/\w.heap.size<=b/\b≠w.heap.size) fun b hb=>⟨⟨by have h1:=hb.1;have h2:=hb.2;omega,by have h1:=hb.1;have h2:=hb.2;omega⟩,rfl⟩)) rfl)) ⟨by omega,by omega⟩ (by simp) (by unfold maxLen;omega))
 rw [<- e9,<- e10,<- e11]
 clear e9 e10 e11
 have hlu11:=M11.out.row.lt
 have hce11:=fun i=>Re11.out.cell i
 have hle11:=Re11.out.lt
 have hcr11:=fun i=>Rr11.out.cell i
 have hlr11:=Rr11.out.lt
 have hcb11:=fun i=>Rb11.out.cell i
 have hlb11:=Rb11.out.lt
 have hcrow11:=fun i=>Rrow11.out.cell i
 have hlrow11:=Rrow11.out.lt
 obtain rfl:=HNN.out
 show BP _ _
 rw [HBP.out]
 refine bodyPost_ret (v:=.agg #[.int .i64 5,.int .i64 0,.string tx1,.string ⟨#[]⟩,.slice (some ⟨(w8.heap.size+1),0,none⟩) 2 2]) (by simp [results,Tryz.results69,go_sem,hcr11]) rfl ?_
 exact⟨some ⟨(w8.heap.size+1),0,none⟩,2,rfl,⟨show(Lit.int .i64 5).wf=true by decide,show(Lit.int .i64 0).wf=true by decide,HTX1.out,empty_le,SL11.out.keep fun b hb=>⟨⟨by have h1:=hb.1;have h2:=hb.2;omega,by have h1:=hb.1;have h2:=hb.2;omega⟩,rfl⟩⟩,M11.out⟩
theorem l3Rec (k:Nat) (hE:Ok1 56 pE k):Ok1 70 pRec k:=by
 intro ts g L cl V cv st w h n st' hp
 have HE:=LH hE
 clear hE
 simp [pRec,Option.bind_eq_some_iff] at hp
 obtain⟨n1,s1,hq1,n2,hq2,hn⟩:=hp
 have HNN:=LH hn
 have HQ1:=LH hq1
 have HQ2:=LH hq2
 clear hn hq1 hq2
 have HC:=LH h
 have M0:=LH h.mv
 have hgl:=h.row.lt
 clear h
 go_enter Tryz.func70,Tryz.ntmps70
 refine wp_hide (fun BP hBP=>?_)
 have HBP:=LH hBP
 clear hBP
 go_wp2_with fail
 obtain⟨w1,e1,Rr1,hz1,K1⟩:=boxed w 45 #[.int .i64 0,.int .i64 0,.string ⟨#[]⟩,.string ⟨#[]⟩,.slice none 0 0]
 have M1:=LH (M0.out.chg K1.out (by omega) (by omega))
 rw [<- e1]
 clear e1
 have hlu1:=M1.out.row.lt
 have hcr1:=fun i=>Rr1.out.cell i
 have hlr1:=Rr1.out.lt
 refine(l3Next ts g L cl V cv st w1 (M1.out.cur HC.out)).mono ?_
 clear hlu1 hcr1 hlr1
 rintro e w2 ⟨rfl,hm2⟩
 replace hm2:Mv ts g L cl V cv st.vars (pNext ts st) w1 w2:=hm2
 have hz2:=hm2.size
 have K2:=LH hm2.bx
 have Rr2:=LH (K2.out.row Rr1.out (by omega))
 have M2:=LH (M1.out.trans hm2)
 clear Rr1 M1
 clear hm2
 have hlu2:=M2.out.row.lt
 have hcr2:=fun i=>Rr2.out.cell i
 have hlr2:=Rr2.out.lt
 go_wp2_with fail
 have HTX1:=LH ((M2.out.cur HC.out).ptext_le false)
 refine(l3TextN ts g L cl V cv (pNext ts st) w2 (M2.out.cur HC.out)).mono ?_
 clear hlu2 hcr2 hlr2
 rintro e w3 ⟨rfl,hm3⟩
 replace hm3:Mv ts g L cl V cv (pNext ts st).vars ((pText ts false (pNext ts st)).2) w2 w3:=hm3
 have hz3:=hm3.size
 have K3:=LH hm3.bx
 have Rr3:=LH (K3.out.row Rr2.out (by omega))
 have M3:=LH (M2.out.trans hm3)
 clear Rr2 M2
 clear hm3
 have hlu3:=M3.out.row.lt
 have hcr3:=fun i=>Rr3.out.cell i
 have hlr3:=Rr3.out.lt
 obtain⟨tx1,htx⟩:∃ x,(pText ts false (pNext ts st)).1=x:=⟨_,rfl⟩
 obtain⟨sx1,hsx⟩:∃ x,(pText ts false (pNext ts st)).2=x:=⟨_,rfl⟩
 rw [htx] at HTX1 HNN ⊢
 rw [hsx] at M3 HQ1 HNN
 clear htx hsx
 clear hlu3 hcr3 hlr3
 have hlu3:=M3.out.row.lt
 have hcr3:=fun i=>Rr3.out.cell i
 have hlr3:=Rr3.out.lt
 go_wp2_with fail
 have HTX2:=LH ((M3.out.cur HC.out).ptext_le false)
 refine(l3TextN ts g L cl V cv sx1 w3 (M3.out.cur HC.out)).mono ?_
 clear hlu3 hcr3 hlr3
 rintro e w4 ⟨rfl,hm4⟩
 replace hm4:Mv ts g L cl V cv sx1.vars ((pText ts false sx1).2) w3 w4:=hm4
 have hz4:=hm4.size
 have K4:=LH hm4.bx
 have Rr4:=LH (K4.out.row Rr3.out (by omega))
 have M4:=LH (M3.out.trans hm4)
 clear Rr3 M3
 clear hm4
 have hlu4:=M4.out.row.lt
 have hcr4:=fun i=>Rr4.out.cell i
 have hlr4:=Rr4.out.lt
 obtain⟨tx2,htx⟩:∃ x,(pText ts false sx1).1=x:=⟨_,rfl⟩
 obtain⟨sx2,hsx⟩:∃ x,(pText ts false sx1).2=x:=⟨_,rfl⟩
 rw [htx] at HTX2 HNN ⊢
 rw [hsx] at M4 HQ1
 clear htx hsx
 clear hlu4 hcr4 hlr4
 have hlu4:=M4.out.row.lt
 have hcr4:=fun i=>Rr4.out.cell i
 have hlr4:=Rr4.out.lt
 go_wp2_with fail
 refine(l3Take ts g L cl V cv sx2 w4 (M4.out.cur HC.out) ⟨#[61]⟩).mono ?_
 clear hlu4 hcr4 hlr4
 rintro e w5 ⟨rfl,hm5⟩
 replace hm5:Mv ts g L cl V cv sx2.vars (pTake ts [61] sx2) w4 w5:=hm5
 have hz5:=hm5.size
 have K5:=LH hm5.bx
 have Rr5:=LH (K5.out.row Rr4.out (by omega))
 have M5:=LH (M4.out.trans hm5)
 clear Rr4 M4
 clear hm5
 have hlu5:=M5.out.row.lt
 have hcr5:=fun i=>Rr5.out.cell i
 have hlr5:=Rr5.out.lt
 go_wp2_with fail
 refine(HE.out ts g L cl V cv (pTake ts [61] sx2) w5 (M5.out.cur HC.out) n1 s1 HQ1.out).mono ?_
 clear hlu5 hcr5 hlr5
 rintro e w6 ⟨A1,c1,rfl,ha6,hm6⟩
 have hz6:=hm6.size
 have K6:=LH hm6.bx
 have DN6:=LH ha6
 have Rr6:=LH (K6.out.row Rr5.out (by omega))
 have M6:=LH (M5.out.trans hm6)
 clear Rr5 M5
 clear hm6 ha6
 have hlu6:=M6.out.row.lt
 have hcr6:=fun i=>Rr6.out.cell i
 have hlr6:=Rr6.out.lt
 go_wp2_with fail
 clear hlu6 hcr6 hlr6
 obtain⟨w7,e7,Re7,hz7,K7⟩:=boxed w6 45 #[.int .i64 n1.op,.int .i64 n1.n,.string n1.s,.string n1.t,.slice A1 n1.kids.length c1]
 have Rr7:=LH (K7.out.row Rr6.out (by omega))
 have D17:=LH (DN6.out.keep fun b hb=>K7.out.kq hb (by have h1:=hb.1;have h2:=hb.2;omega))
 have M7:=LH (M6.out.chg K7.out (by omega) (by omega))
 clear Rr6 DN6 M6
 rw [<- e7]
 clear e7
 have hlu7:=M7.out.row.lt
 have hcr7:=fun i=>Rr7.out.cell i
 have hlr7:=Rr7.out.lt
 have hce7:=fun i=>Re7.out.cell i
 have hle7:=Re7.out.lt
 refine(l3Word ts g L cl V cv s1 w7 (M7.out.cur HC.out) ⟨#[105,110]⟩).mono ?_
 clear hlu7 hcr7 hlr7 hce7 hle7
 rintro e w8 ⟨rfl,hm8⟩
 replace hm8:Mv ts g L cl V cv s1.vars (pWord ts [105,110] s1) w7 w8:=hm8
 have hz8:=hm8.size
 have K8:=LH hm8.bx
 have Rr8:=LH (K8.out.row Rr7.out (by omega))
 have Re8:=LH (K8.out.row Re7.out (by omega))
 have D18:=LH (D17.out.keep fun b hb=>K8.out.kq hb (by have h1:=hb.1;have h2:=hb.2;omega))
 have M8:=LH (M7.out.trans hm8)
 clear Rr7 Re7 D17 M7
 clear hm8
 have hlu8:=M8.out.row.lt
 have hcr8:=fun i=>Rr8.out.cell i
 have hlr8:=Rr8.out.lt
 have hce8:=fun i=>Re8.out.cell i
 have hle8:=Re8.out.lt
 go_wp2_with fail
 refine(HE.out ts g L cl V cv (pWord ts [105,110] s1) w8 (M8.out.cur HC.out) n2 st' HQ2.out).mono ?_
 clear hlu8 hcr8 hlr8 hce8 hle8
 rintro e w9 ⟨A2,c2,rfl,ha9,hm9⟩
 have hz9:=hm9.size
 have K9:=LH hm9.bx
 have DN9:=LH ha9
 have Rr9:=LH (K9.out.row Rr8.out (by omega))
 have Re9:=LH (K9.out.row Re8.out (by omega))
 have D19:=LH (D18.out.keep fun b hb=>K9.out.kq hb (by have h1:=hb.1;have h2:=hb.2;omega))
 have M9:=LH (M8.out.trans hm9)
 clear Rr8 Re8 D18 M8
 clear hm9 ha9
 have hlu9:=M9.out.row.lt
 have hcr9:=fun i=>Rr9.out.cell i
 have hfr9:=fun i=>Rr9.out.frozen i
 have hlr9:=Rr9.out.lt
 have hce9:=fun i=>Re9.out.cell i
 have hle9:=Re9.out.lt
 go_wp2_with fail
 clear hlu9 hcr9 hfr9 hlr9 hce9 hle9
 obtain⟨w10,e10,RN10,hz10,K10⟩:=stored5 Rr9.out (.int .i64 6) (.int .i64 0) (.string tx1) (.string tx2) (.slice (some ⟨(w9.heap.size+1),0,none⟩) 2 2)
 have Re10:=LH (K10.out.row Re9.out (by omega))
 have D110:=LH (D19.out.keep fun b hb=>K10.out.kq hb (by have h1:=hb.1;have h2:=hb.2;omega))
 have D210:=LH (DN9.out.keep fun b hb=>K10.out.kq hb (by have h1:=hb.1;have h2:=hb.2;omega))
 have M10:=LH (M9.out.chg K10.out (by omega) (by omega))
 clear Re9 D19 DN9 M9
 clear Rr9
 obtain⟨w11,e11,Rb11,hz11,K11⟩:=boxed w10 45 #[.int .i64 n2.op,.int .i64 n2.n,.string n2.s,.string n2.t,.slice A2 n2.kids.length c2]
 have hy11:w10.heap.size=w9.heap.size:=by omega
 rw [hy11] at Rb11 K11
 have Re11:=LH (K11.out.row Re10.out (by omega))
 have Rr11:=LH (K11.out.row RN10.out (by omega))
 have D111:=LH (D110.out.keep fun b hb=>K11.out.kq hb (by have h1:=hb.1;have h2:=hb.2;omega))
 have D211:=LH (D210.out.keep fun b hb=>K11.out.kq hb (by have h1:=hb.1;have h2:=hb.2;omega))
 have M11:=LH (M10.out.chg K11.out (by omega) (by omega))
 clear Re10 RN10 D110 D210 M10
 obtain⟨w12,e12,Rrow12,hz12,K12⟩:=boxed w11 45 #[.int .i64 n1.op,.int .i64 n1.n,.string n1.s,.string n1.t,.slice A1 n1.kids.length c1,.int .i64 n2.op,.int .i64 n2.n,.string n2.s,.string n2.t,.slice A2 n2.kids.length c2]
 have hy12:w11.heap.size=(w9.heap.size+1):=by omega
 rw [hy12] at Rrow12 K12
 have Re12:=LH (K12.out.row Re11.out (by omega))
 have Rr12:=LH (K12.out.row Rr11.out (by omega))
 have Rb12:=LH (K12.out.row Rb11.out (by omega))
 have D112:=LH (D111.out.keep fun b hb=>K12.out.kq hb (by have h1:=hb.1;have h2:=hb.2;omega))
 have D212:=LH (D211.out.keep fun b hb=>K12.out.kq hb (by have h1:=hb.1;have h2:=hb.2;omega))
 have M12:=LH (M11.out.chg K12.out (by omega) (by omega))
 clear Re11 Rr11 Rb11 D111 D211 M11
 have SL12:=LH (show Sl w12 (fun b=>b<w12.heap.size/\w.heap.size<=b/\b≠w.heap.size) 5 (some ⟨(w9.heap.size+1),0,none⟩) 2 ([n1,n2].map GNode.toD) from Sl.ofRow Rrow12.out (rdC_cons (GNode.rd_mk (D112.out.keep (w':=w12) (S':=fun b=>b<w12.heap.size/\w.heap.size<=b/\b≠w.heap.size) fun b hb=>⟨⟨by have h1:=hb.1;have h2:=hb.2;omega,by have h1:=hb.1;have h2:=hb.2;omega⟩,rfl⟩)) rfl (rdC_one1 (GNode.rd_mk (D212.out.keep (w':=w12) (S':=fun b=>b<w12.heap.size/\w.heap.size<=b/\b≠w.heap.size) fun b hb=>⟨⟨by have h1:=hb.1;have h2:=hb.2;omega,by have h1:=hb.1;have h2:=hb.2;omega⟩,rfl⟩)) rfl)) ⟨by omega,by omega⟩ (by simp) (by unfold maxLen;omega))
 rw [<- e10,<- e11,<- e12]
 clear e10 e11 e12
 have hlu12:=M12.out.row.lt
 have hce12:=fun i=>Re12.out.cell i
 have hle12:=Re12.out.lt
 have hcr12:=fun i=>Rr12.out.cell i
 have hlr12:=Rr12.out.lt
 have hcb12:=fun i=>Rb12.out.cell i
 have hlb12:=Rb12.out.lt
 have hcrow12:=fun i=>Rrow12.out.cell i
 have hlrow12:=Rrow12.out.lt
 obtain rfl:=HNN.out
 show BP _ _
 rw [HBP.out]
 refine bodyPost_ret (v:=.agg #[.int .i64 6,.int .i64 0,.string tx1,.string tx2,.slice (some ⟨(w9.heap.size+1),0,none⟩) 2 2]) (by simp [results,Tryz.results70,go_sem,hcr12]) rfl ?_
 exact⟨some ⟨(w9.heap.size+1),0,none⟩,2,rfl,⟨show(Lit.int .i64 6).wf=true by decide,show(Lit.int .i64 0).wf=true by decide,HTX1.out,HTX2.out,SL12.out.keep fun b hb=>⟨⟨by have h1:=hb.1;have h2:=hb.2;omega,by have h1:=hb.1;have h2:=hb.2;omega⟩,rfl⟩⟩,M12.out⟩
end Go.Proofs.YtgbjdhfaklmjcaaGreat
