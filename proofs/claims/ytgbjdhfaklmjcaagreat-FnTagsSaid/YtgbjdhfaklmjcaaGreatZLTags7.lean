/- Texts of the claim LTags in one: PaV. Conditions: none but bounds on sizes. -/
import Derived.Test.YtgbjdhfaklmjcaaGreatZLTags6
import Derived.Test.YtgbjdhfaklmjcaaGreatZLTags1
namespace Go.Proofs.YtgbjdhfaklmjcaaGreat
set_option maxRecDepth 20000
set_option linter.unusedVariables false
set_option linter.unusedSimpArgs false
open Go.RowKit
set_option maxHeartbeats 2000000
theorem OkT.zero {F:FuncId} {p:List GToken->Nat->PSt->Option (GTy × PSt)} (h:∀ ts st,p ts 0 st=none):OkT F p 0:=by
 intro ts g L cl V cv st w _ n st' hp
 rw [h] at hp
 cases hp
theorem tyOk:∀ n k,k<=n->k<=1000000->OkT 88 pTyAtom k/\OkT 99 pTy k
 | _,0,_,_=>⟨OkT.zero fun ts st=>by simp [pTyAtom],OkT.zero fun ts st=>by simp [pTy]⟩
 | 0,k+1,h,_=>by omega
 | n+1,k+1,h,hk=>by
  have ih:=fun i (hi:i<=k)=>tyOk n i (by omega) (by omega)
  exact⟨l3TyAtom k (ih k (Nat.le_refl _)).2,l3Ty k (by omega) (fun i hi=>(ih i hi).1) (ih k (Nat.le_refl _)).2⟩
def PToCon (ts:List GToken) (g:Nat) (L:Option Addr) (cl:Nat) (V:Option Addr) (cv:Nat) (vs:List ByteArray) (n:GCon) (st:PSt) (w:World) (e:Ending) (w':World):Prop:=
 ∃ A c,e= .returned (.agg #[.string n.name,.slice A n.args.length c])/\GCon.At w' (fun b=>w.heap.size<=b/\b<w'.heap.size) A c n/\Mv ts g L cl V cv vs st w w'
def OkC (F:FuncId) (p:List GToken->Nat->PSt->Option (GCon × PSt)) (k:Nat):Prop:=
 ∀ (ts:List GToken) (g:Nat) (L:Option Addr) (cl:Nat) (V:Option Addr) (cv:Nat) (st:PSt) (w:World),PCur ts g L cl V cv st w->∀ (n:GCon) (st':PSt),p ts k st=some (n,st')->
  Calls Tryz.prog F #[.pointer (some ⟨g,0,none⟩)] w (PToCon ts g L cl V cv st.vars n st' w)
theorem l3Alt (k:Nat) (hkk:k<=1000000):OkC 66 pAlt k:=by
 intro ts g L cl V cv st w h n st' hp
 simp [pAlt] at hp
 obtain⟨ks,hk0,hn⟩:=hp
 have HA:=LH (fun j (hj:j<=k)=>(tyOk j j (Nat.le_refl _) (by omega)).1)
 have HTX:=LH (h.ptext_le true)
 obtain⟨tx,htx⟩:∃ x,(pText ts true st).1=x:=⟨_,rfl⟩
 obtain⟨s0,hs0⟩:∃ x,(pText ts true st).2=x:=⟨_,rfl⟩
 rw [htx] at hn HTX
 rw [hs0] at hk0
 have HNN:=LH hn
 obtain⟨s9,hs9⟩:∃ x,x=st':=⟨_,rfl⟩
 rw [<- hs9] at hk0
 have HST:=LH hs9
 have HK0:=LH hk0
 clear hk0 hn hs9
 have HC:=LH h
 have M0:=LH h.mv
 have hgl:=h.row.lt
 clear h
 go_enter Tryz.func66,Tryz.ntmps66
 refine wp_hide (fun BP hBP=>?_)
 have HBP:=LH hBP
 clear hBP
 go_wp2_with fail
 obtain⟨w1,e1,Rr1,hz1,K1⟩:=boxed w 37 #[.string ⟨#[]⟩,.slice none 0 0]
 have M1:=LH (M0.out.chg K1.out (by omega) (by omega))
 rw [<- e1]
 clear e1
 have hlu1:=M1.out.row.lt
 have hcr1:=fun i=>Rr1.out.cell i
 have hlr1:=Rr1.out.lt
 refine(l3TextC ts g L cl V cv st w1 (M1.out.cur HC.out)).mono ?_
 clear hlu1 hcr1 hlr1
 rintro e w2 ⟨rfl,hm2⟩
 replace hm2:Mv ts g L cl V cv st.vars ((pText ts true st).2) w1 w2:=hm2
 have hz2:=hm2.size
 have K2:=LH hm2.bx
 have Rr2:=LH (K2.out.row Rr1.out (by omega))
 have M2:=LH (M1.out.trans hm2)
 clear Rr1 M1
 clear hm2
 have hlu2:=M2.out.row.lt
 have hcr2:=fun i=>Rr2.out.cell i
 have hlr2:=Rr2.out.lt
 rw [hs0] at M2
 rw [htx]
 clear hs0 htx
 clear hlu2 hcr2 hlr2
 have hlu2:=M2.out.row.lt
 have hcr2:=fun i=>Rr2.out.cell i
 have hlr2:=Rr2.out.lt
 go_wp2_with fail
 clear hlu2 hcr2 hlr2
 obtain⟨w3,e3,Ra3,hz3,K3⟩:=boxed w2 37 #[.string tx,.slice none 0 0]
 have Rr3:=LH (K3.out.row Rr2.out (by omega))
 have M3:=LH (M2.out.chg K3.out (by omega) (by omega))
 clear Rr2 M2
 rw [<- e3]
 clear e3
 have hlu3:=M3.out.row.lt
 have hcr3:=fun i=>Rr3.out.cell i
 have hlr3:=Rr3.out.lt
 have hca3:=fun i=>Ra3.out.cell i
 have hla3:=Ra3.out.lt
 clear hlu3 hcr3 hlr3 hca3 hla3
 have hINV:∃ I:Nat->World->Prop,I=fun j wr=>∃ (acc:List GTy) (s:PSt) (A:Option Addr) (c:Nat),pTyKids ts j s acc=some (ks,s9)/\j<=k/\acc.length+j<=k+1/\Row wr w2.heap.size 37 #[.string tx,.slice A acc.length c]/\Row wr w.heap.size 37 #[.string ⟨#[]⟩,.slice none 0 0]/\Grx (fun b=>w.heap.size<=b/\b≠w2.heap.size/\b≠w.heap.size) wr (w2.heap.size+1) 59 4 (.slice A acc.length c) acc.length (acc.map GTy.toD)/\Mv ts g L cl V cv st.vars s w wr/\w2.heap.size<wr.heap.size:=⟨_,rfl⟩
 obtain⟨I,hI⟩:=hINV
 have HI:=LH hI
 have I0:I k w3:=by
  rw [hI]
  exact⟨[],s0,none,0,HK0.out,Nat.le_refl _,by simp,Ra3.out,Rr3.out,Grx.nil _ _ _ _ _,M3.out,Ra3.out.lt⟩
 have hnw:w.heap.size<w2.heap.size:=by omega
 have hzw:w.heap.size<=w3.heap.size:=M3.out.size
 go_loopw [8] (fun v wr=>∃ j,I j wr) (fun _ wr=>leastK (fun j=>I j wr))
 case atStart=>exact⟨k,I0⟩
 case round=>
  have hex:=hrel
  have hleast:=leastK_spec (I:=fun j=>I j wr) hex
  obtain⟨j,hj⟩:∃ j,leastK (fun j=>I j wr)=j:=⟨_,rfl⟩
  rw [hj] at hleast
  have HJ:=LH hj
  clear hj hex hrel I0
  rw [hI] at hleast
  obtain⟨acc,s,A,c,hx,hjk,hal,ra,rr,gg,hm,hnl⟩:=hleast
  clear Ra3 Rr3 M3 hI
  have RA0:=LH ra
  have RR0:=LH rr
  have GG0:=LH gg
  have MR0:=LH hm
  have hzr:=hm.size
  clear ra rr gg hm
  have hlu3:=MR0.out.row.lt
  have hcr3:=fun i=>RR0.out.cell i
  have hlr3:=RR0.out.lt
  have hca3:=fun i=>RA0.out.cell i
  have hla3:=RA0.out.lt
  cases j with
  | zero=>simp [pTyKids] at hx
  | succ j=>
   go_wp2_with fail
   refine(l3Small ts g L cl V cv s wr (MR0.out.cur HC.out)).mono ?_
   clear hlu3 hcr3 hlr3 hca3 hla3
   rintro e w4 ⟨rfl,hb4⟩
   have hz4:=hb4.size
   have K4:=LH (Bx.of_below (g:=g) hb4 (Nat.le_refl _))
   have Rr4:=LH (K4.out.row RR0.out (by omega))
   have Ra4:=LH (K4.out.row RA0.out (by omega))
   have GG4:=LH (GG0.out.keepP (w':=w4) (by omega) fun b hb h=>K4.out.block b hb (by
     rcases h with h | h
     · have:=GG0.out.own b h;omega
     · obtain⟨x1,x2,x3⟩:=h;omega))
   have M4:=LH (MR0.out.below hb4)
   clear RR0 RA0 GG0 MR0
   clear hb4
   have hlu4:=M4.out.row.lt
   have hcr4:=fun i=>Rr4.out.cell i
   have hfr4:=fun i=>Rr4.out.frozen i
   have hlr4:=Rr4.out.lt
   have hca4:=fun i=>Ra4.out.cell i
   have hla4:=Ra4.out.lt
   cases hs:pSmall ts s
   ·
    simp [pTyKids,hs] at hx
    obtain⟨hxa,hxs⟩:=hx
    obtain rfl:=hxa
    rw [<- hxs] at HST
    clear hxs
    go_wp2_with fail
    clear hlu4 hcr4 hfr4 hlr4 hca4 hla4
    obtain⟨w5,e5,RN5,hz5,K5⟩:=stored2 Rr4.out (.string tx) (.slice A acc.length c)
    have Ra5:=LH (K5.out.row Ra4.out (by omega))
    have GG5:=LH (GG4.out.keepP (w':=w5) (by omega) fun b hb h=>K5.out.block b hb (by
      rcases h with h | h
      · have:=GG4.out.own b h;omega
      · obtain⟨x1,x2,x3⟩:=h;omega))
    have M5:=LH (M4.out.chg K5.out (by omega) (by omega))
    clear Ra4 GG4 M4
    clear Rr4
    rw [<- e5]
    clear e5
    have hlu5:=M5.out.row.lt
    have hca5:=fun i=>Ra5.out.cell i
    have hla5:=Ra5.out.lt
    have hcr5:=fun i=>RN5.out.cell i
    have hlr5:=RN5.out.lt
    have SX:=LH (sl_of_grx GG5.out (fun b h=>by omega))
    obtain rfl:=HNN.out
    obtain rfl:=HST.out
    show BP _ _
    rw [HBP.out]
    refine bodyPost_ret (v:=.agg #[.string tx,.slice A acc.length c]) (by simp [results,Tryz.results66,go_sem,hcr5]) rfl ?_
    exact⟨A,c,rfl,⟨HTX.out,SX.out.keep fun b hb=>⟨⟨by have h1:=hb.1;have h2:=hb.2;omega,by have h1:=hb.1;have h2:=hb.2;omega⟩,rfl⟩⟩,M5.out⟩
   ·
    simp [pTyKids,hs,Option.bind_eq_some_iff] at hx
    obtain⟨n1,s1,hq,hr⟩:=hx
    have HR:=LH hr
    clear hr
    have HOW:=LH (fun q (hq:(Value.slice A acc.length c).ownBlock=some q)=>GG4.out.own q hq)
    go_upto_region 3 with (fail)
    refine wp_region_T (fun x=>x.cell? ⟨w2.heap.size,1,none⟩=some (.slice A acc.length c)) 7 (by kernel_rfl) ?_
    clear hlu4 hcr4 hfr4 hlr4 hca4 hla4
    obtain⟨w5,e5⟩:∃ x,x=w4.drew:=⟨_,rfl⟩
    rw [<- e5]
    have hz5:w5.heap.size<=w4.heap.size/\w4.heap.size<=w5.heap.size:=by rw [e5];exact⟨Nat.le_refl _,Nat.le_refl _⟩
    have K5:=LH (show Bx w4.heap.size w4 w5 by rw [e5];exact Bx.of_below ((Below.refl _ _).drew) (Nat.le_refl _))
    clear e5
    have Rr5:=LH (K5.out.row Rr4.out (by omega))
    have Ra5:=LH (K5.out.row Ra4.out (by omega))
    have GG5:=LH (GG4.out.keepP (w':=w5) (by omega) fun b hb h=>K5.out.block b hb (by
      rcases h with h | h
      · have:=GG4.out.own b h;omega
      · obtain⟨x1,x2,x3⟩:=h;omega))
    have M5:=LH (M4.out.chg K5.out (by omega) (by omega))
    clear Rr4 Ra4 GG4 M4
    have hlu5:=M5.out.row.lt
    have hcr5:=fun i=>Rr5.out.cell i
    have hlr5:=Rr5.out.lt
    have hca5:=fun i=>Ra5.out.cell i
    have hla5:=Ra5.out.lt
    have hS1:w5.cell? ⟨w2.heap.size,1,none⟩=some (.slice A acc.length c):=Ra5.out.cell 1
    refine wpAnyT_tk (i:=0) (oi:=_) (v:=?tv5) rfl (Or.inl ⟨by rfl,?th5⟩) hS1 ?_
    case th5=>(intro x hSx;(try dsimp only at hSx);go_simp;(try with_reducible rfl))
    try simp only [nA,nB,nC,Act.put,nD,nE,nF]
    refine wpAnyT_tk (i:=1) (oi:=_) (v:=?tv6) rfl (Or.inl ⟨by rfl,?th6⟩) hS1 ?_
    case th6=>(intro x hSx;(try dsimp only at hSx);go_simp;(try with_reducible rfl))
    try simp only [nA,nB,nC,Act.put,nD,nE,nF]
    refine wpAnyT_tk (i:=2) (oi:=_) (v:=?tv7) rfl (Or.inl ⟨by rfl,?th7⟩) hS1 ?_
    case th7=>(intro x hSx;(try dsimp only at hSx);go_simp;(try with_reducible rfl))
    try simp only [nA,nB,nC,Act.put,nD,nE,nF]
    refine wpAnyT_step (i:=3) (by kernel_rfl) rfl (fun K hK=>?_)
    try simp only [nA,nB,nC]
    go_simp
    go_at_call 88
    refine(HA.out j (by omega) ts g L cl V cv s w5 (M5.out.cur HC.out) n1 s1 hq).mono ?_
    clear hlu5 hcr5 hlr5 hca5 hla5
    rintro e w6 ⟨An1,cn1,rfl,ha6,hm6⟩
    have hz6:=hm6.size
    have K6:=LH hm6.bx
    have DN6:=LH ha6
    have Rr6:=LH (K6.out.row Rr5.out (by omega))
    have Ra6:=LH (K6.out.row Ra5.out (by omega))
    have GG6:=LH (GG5.out.keepP (w':=w6) (by omega) fun b hb h=>K6.out.block b hb (by
      rcases h with h | h
      · have:=GG5.out.own b h;omega
      · obtain⟨x1,x2,x3⟩:=h;omega))
    have M6:=LH (M5.out.trans hm6)
    clear Rr5 Ra5 GG5 M5
    clear hm6 ha6
    have hlu6:=M6.out.row.lt
    have hcr6:=fun i=>Rr6.out.cell i
    have hlr6:=Rr6.out.lt
    have hca6:=fun i=>Ra6.out.cell i
    have hla6:=Ra6.out.lt
    clear hq
    have hS2:w6.cell? ⟨w2.heap.size,1,none⟩=some (.slice A acc.length c):=Ra6.out.cell 1
    refine hK.out _ _ hS2 (fun hS3=>?_)
    clear hK K hS1 hS2
    try simp only [nA,nB,nC,Act.put,nD,nE,nF]
    refine wpAnyT_step (i:=4) (by kernel_rfl) rfl (fun K hK=>?_)
    try simp only [nA,nB,nC]
    go_simp
    clear hlu6 hcr6 hlr6 hca6 hla6
    obtain⟨w7,e7,Rrow7,hz7,K7⟩:=boxed w6 59 #[.int .i64 n1.op,.int .i64 n1.n,.string n1.s,.slice An1 n1.kids.length cn1]
    have Rr7:=LH (K7.out.row Rr6.out (by omega))
    have Ra7:=LH (K7.out.row Ra6.out (by omega))
    have Dn17:=LH (DN6.out.keep fun b hb=>K7.out.kq hb (by have h1:=hb.1;have h2:=hb.2;omega))
    have GG7:=LH (GG6.out.keepP (w':=w7) (by omega) fun b hb h=>K7.out.block b hb (by
      rcases h with h | h
      · have:=GG6.out.own b h;omega
      · obtain⟨x1,x2,x3⟩:=h;omega))
    have M7:=LH (M6.out.chg K7.out (by omega) (by omega))
    clear Rr6 Ra6 DN6 GG6 M6
    have SL7:=LH (show Sl w7 (fun b=>b<w7.heap.size/\(Value.slice A acc.length c).ownBlock≠some b/\w.heap.size<=b/\b≠w2.heap.size/\b≠w.heap.size) 4 (some ⟨w6.heap.size,0,none⟩) 1 ([n1].map GTy.toD) from Sl.ofRow Rrow7.out (rdC_one1 (GTy.rd_mk (Dn17.out.keep (w':=w7) (S':=fun b=>b<w7.heap.size/\(Value.slice A acc.length c).ownBlock≠some b/\w.heap.size<=b/\b≠w2.heap.size/\b≠w.heap.size) fun b hb=>⟨⟨by have h1:=hb.1;have h2:=hb.2;omega,fun e=>by have h1:=hb.1;have h3:=(HOW.out b e).2;omega,by have h1:=hb.1;have h2:=hb.2;omega⟩,rfl⟩)) rfl) ⟨by omega,fun e=>by have h3:=(HOW.out _ e).2;omega,by omega⟩ (by simp) (by unfold maxLen;omega))
    rw [<- e7]
    clear e7
    have hlu7:=M7.out.row.lt
    have hcr7:=fun i=>Rr7.out.cell i
    have hlr7:=Rr7.out.lt
    have hca7:=fun i=>Ra7.out.cell i
    have hla7:=Ra7.out.lt
    have hcrow7:=fun i=>Rrow7.out.cell i
    have hlrow7:=Rrow7.out.lt
    have hS4:w7.cell? ⟨w2.heap.size,1,none⟩=some (.slice A acc.length c):=Ra7.out.cell 1
    refine hK.out _ _ hS4 (fun hS5=>?_)
    clear hK K hS3 hS4
    try simp only [nA,nB,nC,Act.put,nD,nE,nF]
    refine wpAnyT_step (i:=5) (by kernel_rfl) rfl (fun K hK=>?_)
    refine step_append_X w7 rfl (.tmp 10) (.tmp 13) 35 rfl 59 zTyv 4 56 Tryz.underlying35 (by kernel_rfl) rfl (by omega) (w2.heap.size+1) (.slice A acc.length c) acc.length _ GG7.out (some ⟨w6.heap.size,0,none⟩) 1 1 _ rfl SL7.out (by omega) (by unfold maxLen;omega) (by omega) rfl rfl ?_
    clear hlu7 hcr7 hlr7 hca7 hla7 hcrow7 hlrow7
    intro A8 c8 w8 hG8 hGr8
    obtain⟨acc8,hac8⟩:∃ x,x=acc++[n1]:=⟨_,rfl⟩
    have HAC8:=LH hac8
    have hal8:acc8.length=acc.length+1:=by rw [hac8];simp
    have GN8:=LH (show Grx (fun b=>w.heap.size<=b/\b≠w2.heap.size/\b≠w.heap.size) w8 (w2.heap.size+1) 59 4 (.slice A8 acc8.length c8) acc8.length (acc8.map GTy.toD) from by rw [hal8,hac8];simpa using hG8)
    rw [<- hal8]
    have HAL8:=LH hal8
    clear hal8 hac8
    obtain⟨q8,hq8,hk8⟩:=hGr8.bxe (B:=w2.heap.size+1) (fun q hq=>(HOW.out q hq).1) (by omega)
    have hz8:=hGr8.size
    have K8:=LH hk8
    clear hG8 hGr8 hk8
    have Rr8:=LH (K8.out.row Rr7.out (by omega))
    have Ra8:=LH (K8.out.row Ra7.out (by omega))
    have M8:=LH (M7.out.chg K8.out (by omega) (by omega))
    clear Rr7 Ra7 M7
    clear GG7
    have hlu8:=M8.out.row.lt
    have hcr8:=fun i=>Rr8.out.cell i
    have hlr8:=Rr8.out.lt
    have hca8:=fun i=>Ra8.out.cell i
    have hfa8:=fun i=>Ra8.out.frozen i
    have hla8:=Ra8.out.lt
    have hS6:w8.cell? ⟨w2.heap.size,1,none⟩=some (.slice A acc.length c):=Ra8.out.cell 1
    refine hK.out _ _ hS6 (fun hS7=>?_)
    clear hK K hS5 hS6
    try simp only [nA,nB,nC,Act.put,nD,nE,nF]
    refine wpAnyT_tk (i:=6) (oi:=_) (v:=?tv8) rfl (Or.inl ⟨by rfl,?th8⟩) hS7 ?_
    case th8=>(intro x hSx;(try dsimp only at hSx);go_simp;(try with_reducible rfl))
    try simp only [nA,nB,nC,Act.put,nD,nE,nF]
    refine wpAnyT_last (by kernel_rfl) (by kernel_rfl) rfl (fun K hK=>?_)
    try simp only [nA,nB,nC]
    go_simp
    refine hK.out _ _ ?_
    clear hK K
    try simp only [nA,nB,nC,Act.put,nD,nE,nF]
    clear hS7 HOW
    clear hlu8 hcr8 hlr8 hca8 hfa8 hla8
    obtain⟨w9,e9,RO9,hz9,K9⟩:=storedF Ra8.out 1 (.slice A8 acc8.length c8)
    have RN9:=LH (show Row w9 w2.heap.size 37 #[.string tx,.slice A8 acc8.length c8] from RO9.out)
    clear RO9
    have Rr9:=LH (K9.out.row Rr8.out (by omega))
    have GG9:=LH (GN8.out.keepP (w':=w9) (by omega) fun b hb h=>K9.out.block b hb (by
      rcases h with h | h
      · have:=GN8.out.own b h;omega
      · obtain⟨x1,x2,x3⟩:=h;omega))
    have M9:=LH (M8.out.chg K9.out (by omega) (by omega))
    clear Rr8 GN8 M8
    clear Ra8
    rw [<- e9]
    clear e9
    have hlu9:=M9.out.row.lt
    have hcr9:=fun i=>Rr9.out.cell i
    have hlr9:=Rr9.out.lt
    have hca9:=fun i=>RN9.out.cell i
    have hla9:=RN9.out.lt
    have hall:=HAL8.out
    have HN:I j w9:=by
     rw [HI.out]
     exact⟨acc8,s1,A8,c8,(by rw [HAC8.out];exact HR.out),by omega,by omega,RN9.out,Rr9.out,GG9.out,M9.out,RN9.out.lt⟩
    go_roundw
    case rel=>first | exact⟨j,HN⟩ | ((repeat apply Exists.intro);exact⟨⟨j,HN⟩,rfl⟩)
    case measure=>rw [HJ.out];exact Nat.lt_succ_of_le (leastK_le (I:=fun j=>I j w9) HN)
end Go.Proofs.YtgbjdhfaklmjcaaGreat
