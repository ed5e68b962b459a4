/- Texts of the claim LTags in one: PaN. Conditions: none but bounds on sizes. -/
import Derived.Test.YtgbjdhfaklmjcaaGreatZLTags4
import Derived.Deep.CutRange
import Derived.Test.YtgbjdhfaklmjcaaGreatZLTags1
namespace Go.Proofs.YtgbjdhfaklmjcaaGreat
set_option maxRecDepth 20000
set_option linter.unusedVariables false
set_option linter.unusedSimpArgs false
open Go.RowKit
set_option maxHeartbeats 2000000
theorem Gr.bxn {w w':World} {v v':Value} {B n U:Nat} (h:Gr w w' v v') (ho:∀ q,v.ownBlock=some q->B<=q/\q<U) (hB:B<=w.heap.size) (hn:v.ownBlock≠some n) (hnw:n<w.heap.size):∃ q,B<=q/\(q≠n/\(q<U\/w.heap.size<=q))/\Bx q w w':=by
 cases hv:v.ownBlock with
 | none=>exact⟨w.heap.size,hB,⟨by omega,.inr (Nat.le_refl _)⟩,h.grow.os,h.grow.tape,h.grow.output,h.size,fun b hb _=>h.keepB hb (by rw [hv];simp)⟩
 | some q=>exact⟨q,(ho q hv).1,⟨fun e=>hn (by rw [hv,e]),.inl (ho q hv).2⟩,h.grow.os,h.grow.tape,h.grow.output,h.size,fun b hb hne=>h.keepB hb (by rw [hv];intro e;exact hne (by simpa using e.symm))⟩
theorem slx_of_grx {X:Nat->Prop} {w:World} {B n0:Nat} {T:TypeId} {size:Nat} {A:Option Addr} {c n:Nat} {xs:List D} (h:Grx X w B T size (.slice A n c) n xs) (hn:(Value.slice A n c).ownBlock≠some n0) (hX:∀ b,B<=b->b≠n0->X b):Sl w (fun b=>b<w.heap.size/\X b) size A c xs:=by
 have hlt:=h.own
 obtain⟨h1,cs,h2,h4⟩:=h
 rcases h2.2 with ⟨e,h⟩ | ⟨g,cap,cur,e,a1,a2,a3,a4,a5,a6⟩
 · have:xs= []:=List.eq_nil_of_length_eq_zero (by omega)
   subst this
   obtain⟨rfl,-,rfl⟩:A=none/\n=0/\c=0:=by simpa using e
   exact Sl.nil (by unfold maxLen;omega)
 ·
  obtain⟨rfl,rfl⟩:A=some ⟨g,0,none⟩/\c=cap:=by simpa using e
  have ho:(Value.slice (some ⟨g,0,none⟩) n c).ownBlock=some g:=rfl
  refine⟨by omega,a4,.inr ⟨g,0,rfl,⟨(hlt g ho).2,hX g (hlt g ho).1 (fun e=>hn (by rw [ho,e]))⟩,?_⟩⟩
  refine rdC_row xs cs 0 (fun j v hj=>?_) (rdC_keep (fun b hb=>⟨⟨hb.1,hb.2.2⟩,rfl⟩) xs cs h4)
  rw [Nat.zero_add,Row.cell (t:=T) (cs:=cur) a2]
  rw [<- a6,List.getElem?_take] at hj
  split at hj
  · simpa using hj
  · cases hj
theorem l3Case (k:Nat) (hkk:k<=1000000) (hE:∀ j,j<=k->Ok1 56 pE j) (hP:∀ j,j<=k->Ok1 89 pPat j):Ok1 71 pCase k:=by
 intro ts g L cl V cv st w h n st' hp
 have HE:=LH hE
 have HP:=LH hP
 clear hE hP
 simp [pCase,Option.bind_eq_some_iff] at hp
 obtain⟨n0,s0,hq1,ks,s9,hk0,hn,hst⟩:=hp
 have HNN:=LH hn
 have HST:=LH hst
 have HQ1:=LH hq1
 have HK0:=LH hk0
 clear hn hst hq1 hk0
 have HC:=LH h
 have M0:=LH h.mv
 have hgl:=h.row.lt
 clear h
 have hcu0:=fun i=>M0.out.row.cell i
 go_enter Tryz.func71,Tryz.ntmps71
 refine wp_hide (fun BP hBP=>?_)
 have HBP:=LH hBP
 clear hBP
 go_wp2_with fail
 clear hcu0
 obtain⟨w1,e1,Rr1,hz1,K1⟩:=boxed w 45 #[.int .i64 0,.int .i64 0,.string ⟨#[]⟩,.string ⟨#[]⟩,.slice none 0 0]
 have M1:=LH (M0.out.chg K1.out (by omega) (by omega))
 rw [<- e1]
 clear e1
 have hcu1:=fun i=>M1.out.row.cell i
 have hlu1:=M1.out.row.lt
 have hcr1:=fun i=>Rr1.out.cell i
 have hlr1:=Rr1.out.lt
 refine(l3Next ts g L cl V cv st w1 (M1.out.cur HC.out)).mono ?_
 clear hcu1 hlu1 hcr1 hlr1
 rintro e w2 ⟨rfl,hm2⟩
 replace hm2:Mv ts g L cl V cv st.vars (pNext ts st) w1 w2:=hm2
 have hz2:=hm2.size
 have K2:=LH hm2.bx
 have Rr2:=LH (K2.out.row Rr1.out (by omega))
 have M2:=LH (M1.out.trans hm2)
 clear Rr1 M1
 clear hm2
 have hcu2:=fun i=>M2.out.row.cell i
 have hlu2:=M2.out.row.lt
 have hcr2:=fun i=>Rr2.out.cell i
 have hlr2:=Rr2.out.lt
 go_wp2_with fail
 refine(HE.out k (Nat.le_refl _) ts g L cl V cv (pNext ts st) w2 (M2.out.cur HC.out) n0 s0 HQ1.out).mono ?_
 clear hcu2 hlu2 hcr2 hlr2
 rintro e w3 ⟨A0,c0,rfl,ha3,hm3⟩
 have hz3:=hm3.size
 have K3:=LH hm3.bx
 have DN3:=LH ha3
 have Rr3:=LH (K3.out.row Rr2.out (by omega))
 have M3:=LH (M2.out.trans hm3)
 clear Rr2 M2
 clear hm3 ha3
 have hcu3:=fun i=>M3.out.row.cell i
 have hlu3:=M3.out.row.lt
 have hcr3:=fun i=>Rr3.out.cell i
 have hlr3:=Rr3.out.lt
 go_wp2_with fail
 clear hcu3 hlu3 hcr3 hlr3
 obtain⟨w4,e4,Re4,hz4,K4⟩:=boxed w3 45 #[.int .i64 n0.op,.int .i64 n0.n,.string n0.s,.string n0.t,.slice A0 n0.kids.length c0]
 have Rr4:=LH (K4.out.row Rr3.out (by omega))
 have D04:=LH (DN3.out.keep fun b hb=>K4.out.kq hb (by have h1:=hb.1;have h2:=hb.2;omega))
 have M4:=LH (M3.out.chg K4.out (by omega) (by omega))
 clear Rr3 DN3 M3
 rw [<- e4]
 clear e4
 have hcu4:=fun i=>M4.out.row.cell i
 have hlu4:=M4.out.row.lt
 have hcr4:=fun i=>Rr4.out.cell i
 have hlr4:=Rr4.out.lt
 have hce4:=fun i=>Re4.out.cell i
 have hle4:=Re4.out.lt
 refine(l3Word ts g L cl V cv s0 w4 (M4.out.cur HC.out) ⟨#[111,102]⟩).mono ?_
 clear hcu4 hlu4 hcr4 hlr4 hce4 hle4
 rintro e w5 ⟨rfl,hm5⟩
 replace hm5:Mv ts g L cl V cv s0.vars (pWord ts [111,102] s0) w4 w5:=hm5
 have hz5:=hm5.size
 have K5:=LH hm5.bx
 have Rr5:=LH (K5.out.row Rr4.out (by omega))
 have Re5:=LH (K5.out.row Re4.out (by omega))
 have D05:=LH (D04.out.keep fun b hb=>K5.out.kq hb (by have h1:=hb.1;have h2:=hb.2;omega))
 have M5:=LH (M4.out.trans hm5)
 clear Rr4 Re4 D04 M4
 clear hm5
 have hcu5:=fun i=>M5.out.row.cell i
 have hlu5:=M5.out.row.lt
 have hcr5:=fun i=>Rr5.out.cell i
 have hlr5:=Rr5.out.lt
 have hce5:=fun i=>Re5.out.cell i
 have hle5:=Re5.out.lt
 go_wp2_with fail
 refine(l3Take ts g L cl V cv (pWord ts [111,102] s0) w5 (M5.out.cur HC.out) ⟨#[123]⟩).mono ?_
 clear hcu5 hlu5 hcr5 hlr5 hce5 hle5
 rintro e w6 ⟨rfl,hm6⟩
 replace hm6:Mv ts g L cl V cv (pWord ts [111,102] s0).vars (pTake ts [123] (pWord ts [111,102] s0)) w5 w6:=hm6
 have hz6:=hm6.size
 have K6:=LH hm6.bx
 have Rr6:=LH (K6.out.row Rr5.out (by omega))
 have Re6:=LH (K6.out.row Re5.out (by omega))
 have D06:=LH (D05.out.keep fun b hb=>K6.out.kq hb (by have h1:=hb.1;have h2:=hb.2;omega))
 have M6:=LH (M5.out.trans hm6)
 clear Rr5 Re5 D05 M5
 clear hm6
 have hcu6:=fun i=>M6.out.row.cell i
 have hlu6:=M6.out.row.lt
 have hcr6:=fun i=>Rr6.out.cell i
 have hlr6:=Rr6.out.lt
 have hce6:=fun i=>Re6.out.cell i
 have hle6:=Re6.out.lt
 go_wp2_with fail
 clear hcu6 hlu6 hcr6 hlr6 hce6 hle6
 obtain⟨w7,e7,Rrow7,hz7,K7⟩:=boxed w6 45 #[.int .i64 n0.op,.int .i64 n0.n,.string n0.s,.string n0.t,.slice A0 n0.kids.length c0]
 have Rr7:=LH (K7.out.row Rr6.out (by omega))
 have Re7:=LH (K7.out.row Re6.out (by omega))
 have D07:=LH (D06.out.keep fun b hb=>K7.out.kq hb (by have h1:=hb.1;have h2:=hb.2;omega))
 have M7:=LH (M6.out.chg K7.out (by omega) (by omega))
 clear Rr6 Re6 D06 M6
 have SL7:=LH (show Sl w7 (fun b=>b<w7.heap.size/\w.heap.size<=b/\b≠w.heap.size/\b<w6.heap.size+1) 5 (some ⟨w6.heap.size,0,none⟩) 1 ([n0].map GNode.toD) from Sl.ofRow Rrow7.out (rdC_one1 (GNode.rd_mk (D07.out.keep (w':=w7) (S':=fun b=>b<w7.heap.size/\w.heap.size<=b/\b≠w.heap.size/\b<w6.heap.size+1) fun b hb=>⟨⟨by have h1:=hb.1;have h2:=hb.2;omega,by have h1:=hb.1;have h2:=hb.2;omega⟩,rfl⟩)) rfl) ⟨by omega,by omega⟩ (by simp) (by unfold maxLen;omega))
 rw [<- e7]
 clear e7
 have hcu7:=fun i=>M7.out.row.cell i
 have hlu7:=M7.out.row.lt
 have hcr7:=fun i=>Rr7.out.cell i
 have hlr7:=Rr7.out.lt
 have hce7:=fun i=>Re7.out.cell i
 have hle7:=Re7.out.lt
 have hcrow7:=fun i=>Rrow7.out.cell i
 have hlrow7:=Rrow7.out.lt
 refine(l3Node (fun b=>w.heap.size<=b/\b≠w.heap.size/\b<w6.heap.size+1) (7) [n0] (some ⟨w6.heap.size,0,none⟩) 1 w7 SL7.out (by simp)).mono ?_
 clear hcu7 hlu7 hcr7 hlr7 hce7 hle7 hcrow7 hlrow7
 rintro e w8 ⟨A2,c2,rfl,hG8,hb8⟩
 have hz8:=hb8.size
 have K8:=LH (Bx.of_below (g:=g) hb8 (Nat.le_refl _))
 have GN8:=LH hG8
 have Rr8:=LH (K8.out.row Rr7.out (by omega))
 have Re8:=LH (K8.out.row Re7.out (by omega))
 have Rrow8:=LH (K8.out.row Rrow7.out (by omega))
 have D08:=LH (D07.out.keep fun b hb=>K8.out.kq hb (by have h1:=hb.1;have h2:=hb.2;omega))
 have M8:=LH (M7.out.below hb8)
 clear Rr7 Re7 Rrow7 D07 M7
 clear hb8 hG8
 have hcu8:=fun i=>M8.out.row.cell i
 have hlu8:=M8.out.row.lt
 have hcr8:=fun i=>Rr8.out.cell i
 have hlr8:=Rr8.out.lt
 have hce8:=fun i=>Re8.out.cell i
 have hle8:=Re8.out.lt
 have hcrow8:=fun i=>Rrow8.out.cell i
 have hlrow8:=Rrow8.out.lt
 have HOWN:=LH (fun q hq=>(GN8.out.own q hq).2)
 go_wp2_with fail
 clear hcu8 hlu8 hcr8 hlr8 hce8 hle8 hcrow8 hlrow8
 obtain⟨w9,e9,Ra9,hz9,K9⟩:=boxed w8 45 #[.int .i64 7,.int .i64 0,.string ⟨#[]⟩,.string ⟨#[]⟩,.slice A2 1 c2]
 have Rr9:=LH (K9.out.row Rr8.out (by omega))
 have GG9:=LH (GN8.out.keepP (w':=w9) (by omega) fun b hb h=>K9.out.block b hb (by
   rcases h with h | h
   · have:=GN8.out.own b h;omega
   · obtain⟨x1,x2,x3⟩:=h;omega))
 have M9:=LH (M8.out.chg K9.out (by omega) (by omega))
 clear Rr8 GN8 M8
 rw [<- e9]
 clear e9
 have hcu9:=fun i=>M9.out.row.cell i
 have hlu9:=M9.out.row.lt
 have hcr9:=fun i=>Rr9.out.cell i
 have hlr9:=Rr9.out.lt
 have hca9:=fun i=>Ra9.out.cell i
 have hla9:=Ra9.out.lt
 clear hcu9 hlu9 hcr9 hlr9 hca9 hla9
 have hINV:∃ I:Nat->World->Prop,I=fun j wr=>∃ (acc:List GNode) (s:PSt) (A:Option Addr) (c:Nat),pCaseAlts ts j s acc=some (ks,s9)/\j<=k/\acc.length+j<=k+1/\Row wr w8.heap.size 45 #[.int .i64 7,.int .i64 0,.string ⟨#[]⟩,.string ⟨#[]⟩,.slice A acc.length c]/\Row wr w.heap.size 45 #[.int .i64 0,.int .i64 0,.string ⟨#[]⟩,.string ⟨#[]⟩,.slice none 0 0]/\Grx (fun b=>w.heap.size<=b/\b≠w8.heap.size/\b≠w.heap.size) wr (w7.heap.size) 45 5 (.slice A acc.length c) acc.length (acc.map GNode.toD)/\Mv ts g L cl V cv st.vars s w wr/\w8.heap.size<wr.heap.size/\(Value.slice A acc.length c).ownBlock≠some w8.heap.size:=⟨_,rfl⟩
 obtain⟨I,hI⟩:=hINV
 have HI:=LH hI
 have I0:I k w9:=by
  rw [hI]
  exact⟨[n0],pTake ts [123] (pWord ts [111,102] s0),A2,c2,HK0.out,Nat.le_refl _,by simp;omega,Ra9.out,Rr9.out,GG9.out.wide (Nat.le_refl _) (fun b h=>⟨h.1,by have:=h.2.2;omega,h.2.1⟩),M9.out,Ra9.out.lt,(fun e=>by have:=HOWN.out _ e;omega)⟩
 have hnw:w.heap.size<w8.heap.size:=by omega
 have hzw:w.heap.size<=w9.heap.size:=M9.out.size
 go_loopw [22] (fun v wr=>∃ j,I j wr) (fun _ wr=>leastK (fun j=>I j wr))
 case atStart=>exact⟨k,I0⟩
 case round=>
  have hex:=hrel
  have hleast:=leastK_spec (I:=fun j=>I j wr) hex
  obtain⟨j,hj⟩:∃ j,leastK (fun j=>I j wr)=j:=⟨_,rfl⟩
  rw [hj] at hleast
  have HJ:=LH hj
  clear hj hex hrel I0
  rw [hI] at hleast
  obtain⟨acc,s,A,c,hx,hjk,hal,ra,rr,gg,hm,hnl,hnon⟩:=hleast
  clear Ra9 Rr9 M9 GG9 hI
  have RA0:=LH ra
  have RR0:=LH rr
  have GG0:=LH gg
  have MR0:=LH hm
  have hzr:=hm.size
  have NON0:=LH hnon
  have HOW:=LH (fun q (hq:(Value.slice A acc.length c).ownBlock=some q)=>GG0.out.own q hq)
  clear hnon
  clear ra rr gg hm
  have hcu9:=fun i=>MR0.out.row.cell i
  have hlu9:=MR0.out.row.lt
  have hcr9:=fun i=>RR0.out.cell i
  have hlr9:=RR0.out.lt
  have hca9:=fun i=>RA0.out.cell i
  have hla9:=RA0.out.lt
  cases j with
  | zero=>simp [pCaseAlts] at hx
  | succ j=>
   by_cases hbs:s.bad<0
   ·
    have d1:decide (s.bad<0)=true:=decide_eq_true hbs
    simp [pCaseAlts,hbs,Option.bind_eq_some_iff] at hx
    obtain⟨n1,s1,hq1,n2,s2,hq2,hr⟩:=hx
    have HR:=LH hr
    have HQ1:=LH hq1
    have HQ2:=LH hq2
    clear hr hq1 hq2 hbs
    go_wp2_with fail
    refine(HP.out j (by omega) ts g L cl V cv s wr (MR0.out.cur HC.out) n1 s1 HQ1.out).mono ?_
    clear hcu9 hlu9 hcr9 hlr9 hca9 hla9
    rintro e w10 ⟨Ap,cp,rfl,ha10,hm10⟩
    have hz10:=hm10.size
    have K10:=LH hm10.bx
    have DN10:=LH ha10
    have Rr10:=LH (K10.out.row RR0.out (by omega))
    have Ra10:=LH (K10.out.row RA0.out (by omega))
    have GG10:=LH (GG0.out.keepP (w':=w10) (by omega) fun b hb h=>K10.out.block b hb (by
      rcases h with h | h
      · have:=GG0.out.own b h;have hbn:b≠w8.heap.size:=fun e=>NON0.out (by rw [<- e];exact h);omega
      · obtain⟨x1,x2,x3⟩:=h;omega))
    have M10:=LH (MR0.out.trans hm10)
    clear RR0 RA0 GG0 MR0
    clear hm10 ha10
    have hcu10:=fun i=>M10.out.row.cell i
    have hlu10:=M10.out.row.lt
    have hcr10:=fun i=>Rr10.out.cell i
    have hfr10:=fun i=>Rr10.out.frozen i
    have hlr10:=Rr10.out.lt
    have hca10:=fun i=>Ra10.out.cell i
    have hla10:=Ra10.out.lt
    go_wp2_with fail
    clear hcu10 hlu10 hcr10 hfr10 hlr10 hca10 hla10
    obtain⟨w11,e11,Rp11,hz11,K11⟩:=boxed w10 45 #[.int .i64 n1.op,.int .i64 n1.n,.string n1.s,.string n1.t,.slice Ap n1.kids.length cp]
    have Rr11:=LH (K11.out.row Rr10.out (by omega))
    have Ra11:=LH (K11.out.row Ra10.out (by omega))
    have Dp11:=LH (DN10.out.keep fun b hb=>K11.out.kq hb (by have h1:=hb.1;have h2:=hb.2;omega))
    have GG11:=LH (GG10.out.keepP (w':=w11) (by omega) fun b hb h=>K11.out.block b hb (by
      rcases h with h | h
      · have:=GG10.out.own b h;have hbn:b≠w8.heap.size:=fun e=>NON0.out (by rw [<- e];exact h);omega
      · obtain⟨x1,x2,x3⟩:=h;omega))
    have M11:=LH (M10.out.chg K11.out (by omega) (by omega))
    clear Rr10 Ra10 DN10 GG10 M10
    rw [<- e11]
    clear e11
    have hcu11:=fun i=>M11.out.row.cell i
    have hlu11:=M11.out.row.lt
    have hcr11:=fun i=>Rr11.out.cell i
    have hlr11:=Rr11.out.lt
    have hca11:=fun i=>Ra11.out.cell i
    have hla11:=Ra11.out.lt
    have hcp11:=fun i=>Rp11.out.cell i
    have hlp11:=Rp11.out.lt
    refine(l3Take ts g L cl V cv s1 w11 (M11.out.cur HC.out) ⟨#[45,62]⟩).mono ?_
    clear hcu11 hlu11 hcr11 hlr11 hca11 hla11 hcp11 hlp11
    rintro e w12 ⟨rfl,hm12⟩
    replace hm12:Mv ts g L cl V cv s1.vars (pTake ts [45,62] s1) w11 w12:=hm12
    have hz12:=hm12.size
    have K12:=LH hm12.bx
    have Rr12:=LH (K12.out.row Rr11.out (by omega))
    have Ra12:=LH (K12.out.row Ra11.out (by omega))
    have Rp12:=LH (K12.out.row Rp11.out (by omega))
    have Dp12:=LH (Dp11.out.keep fun b hb=>K12.out.kq hb (by have h1:=hb.1;have h2:=hb.2;omega))
    have GG12:=LH (GG11.out.keepP (w':=w12) (by omega) fun b hb h=>K12.out.block b hb (by
      rcases h with h | h
      · have:=GG11.out.own b h;have hbn:b≠w8.heap.size:=fun e=>NON0.out (by rw [<- e];exact h);omega
      · obtain⟨x1,x2,x3⟩:=h;omega))
    have M12:=LH (M11.out.trans hm12)
    clear Rr11 Ra11 Rp11 Dp11 GG11 M11
    clear hm12
    have hcu12:=fun i=>M12.out.row.cell i
    have hlu12:=M12.out.row.lt
    have hcr12:=fun i=>Rr12.out.cell i
    have hlr12:=Rr12.out.lt
    have hca12:=fun i=>Ra12.out.cell i
    have hla12:=Ra12.out.lt
    have hcp12:=fun i=>Rp12.out.cell i
    have hlp12:=Rp12.out.lt
    go_wp2_with fail
    refine(HE.out j (by omega) ts g L cl V cv (pTake ts [45,62] s1) w12 (M12.out.cur HC.out) n2 s2 HQ2.out).mono ?_
    clear hcu12 hlu12 hcr12 hlr12 hca12 hla12 hcp12 hlp12
    rintro e w13 ⟨Ab,cb,rfl,ha13,hm13⟩
    have hz13:=hm13.size
    have K13:=LH hm13.bx
    have DN13:=LH ha13
    have Rr13:=LH (K13.out.row Rr12.out (by omega))
    have Ra13:=LH (K13.out.row Ra12.out (by omega))
    have Rp13:=LH (K13.out.row Rp12.out (by omega))
    have Dp13:=LH (Dp12.out.keep fun b hb=>K13.out.kq hb (by have h1:=hb.1;have h2:=hb.2;omega))
    have GG13:=LH (GG12.out.keepP (w':=w13) (by omega) fun b hb h=>K13.out.block b hb (by
      rcases h with h | h
      · have:=GG12.out.own b h;have hbn:b≠w8.heap.size:=fun e=>NON0.out (by rw [<- e];exact h);omega
      · obtain⟨x1,x2,x3⟩:=h;omega))
    have M13:=LH (M12.out.trans hm13)
    clear Rr12 Ra12 Rp12 Dp12 GG12 M12
    clear hm13 ha13
    have hcu13:=fun i=>M13.out.row.cell i
    have hlu13:=M13.out.row.lt
    have hcr13:=fun i=>Rr13.out.cell i
    have hlr13:=Rr13.out.lt
    have hca13:=fun i=>Ra13.out.cell i
    have hla13:=Ra13.out.lt
    have hcp13:=fun i=>Rp13.out.cell i
    have hlp13:=Rp13.out.lt
    go_upto_region 10 with (fail)
    clear hcu13 hlu13 hcr13 hlr13 hca13 hla13 hcp13 hlp13
    obtain⟨w14,e14,Rb14,hz14,K14⟩:=boxed w13 45 #[.int .i64 n2.op,.int .i64 n2.n,.string n2.s,.string n2.t,.slice Ab n2.kids.length cb]
    have Rr14:=LH (K14.out.row Rr13.out (by omega))
    have Ra14:=LH (K14.out.row Ra13.out (by omega))
    have Rp14:=LH (K14.out.row Rp13.out (by omega))
    have Dp14:=LH (Dp13.out.keep fun b hb=>K14.out.kq hb (by have h1:=hb.1;have h2:=hb.2;omega))
    have Db14:=LH (DN13.out.keep fun b hb=>K14.out.kq hb (by have h1:=hb.1;have h2:=hb.2;omega))
    have GG14:=LH (GG13.out.keepP (w':=w14) (by omega) fun b hb h=>K14.out.block b hb (by
      rcases h with h | h
      · have:=GG13.out.own b h;have hbn:b≠w8.heap.size:=fun e=>NON0.out (by rw [<- e];exact h);omega
      · obtain⟨x1,x2,x3⟩:=h;omega))
    have M14:=LH (M13.out.chg K14.out (by omega) (by omega))
    clear Rr13 Ra13 Rp13 Dp13 DN13 GG13 M13
    rw [<- e14]
    clear e14
    have hcu14:=fun i=>M14.out.row.cell i
    have hlu14:=M14.out.row.lt
    have hcr14:=fun i=>Rr14.out.cell i
    have hlr14:=Rr14.out.lt
    have hca14:=fun i=>Ra14.out.cell i
    have hla14:=Ra14.out.lt
    have hcp14:=fun i=>Rp14.out.cell i
    have hlp14:=Rp14.out.lt
    have hcb14:=fun i=>Rb14.out.cell i
    have hlb14:=Rb14.out.lt
    refine wp_region_T (fun x=>x.cell? ⟨w8.heap.size,4,none⟩=some (.slice A acc.length c)/\(∀ i,x.cell? ⟨w10.heap.size,i,none⟩=(#[.int .i64 n1.op,.int .i64 n1.n,.string n1.s,.string n1.t,.slice Ap n1.kids.length cp]:Array Value)[i]?)/\(∀ i,x.cell? ⟨w13.heap.size,i,none⟩=(#[.int .i64 n2.op,.int .i64 n2.n,.string n2.s,.string n2.t,.slice Ab n2.kids.length cb]:Array Value)[i]?)) 9 (by kernel_rfl) ?_
    clear hcu14 hlu14 hcr14 hlr14 hca14 hla14 hcp14 hlp14 hcb14 hlb14
    obtain⟨w15,e15⟩:∃ x,x=w14.drew:=⟨_,rfl⟩
    rw [<- e15]
    have hz15:w15.heap.size<=w14.heap.size/\w14.heap.size<=w15.heap.size:=by rw [e15];exact⟨Nat.le_refl _,Nat.le_refl _⟩
    have K15:=LH (show Bx w14.heap.size w14 w15 by rw [e15];exact Bx.of_below ((Below.refl _ _).drew) (Nat.le_refl _))
    clear e15
    have Rr15:=LH (K15.out.row Rr14.out (by omega))
    have Ra15:=LH (K15.out.row Ra14.out (by omega))
    have Rp15:=LH (K15.out.row Rp14.out (by omega))
    have Rb15:=LH (K15.out.row Rb14.out (by omega))
    have Dp15:=LH (Dp14.out.keep fun b hb=>K15.out.kq hb (by have h1:=hb.1;have h2:=hb.2;omega))
    have Db15:=LH (Db14.out.keep fun b hb=>K15.out.kq hb (by have h1:=hb.1;have h2:=hb.2;omega))
    have GG15:=LH (GG14.out.keepP (w':=w15) (by omega) fun b hb h=>K15.out.block b hb (by
      rcases h with h | h
      · have:=GG14.out.own b h;have hbn:b≠w8.heap.size:=fun e=>NON0.out (by rw [<- e];exact h);omega
      · obtain⟨x1,x2,x3⟩:=h;omega))
    have M15:=LH (M14.out.chg K15.out (by omega) (by omega))
    clear Rr14 Ra14 Rp14 Rb14 Dp14 Db14 GG14 M14
    have hcu15:=fun i=>M15.out.row.cell i
    have hlu15:=M15.out.row.lt
    have hcr15:=fun i=>Rr15.out.cell i
    have hlr15:=Rr15.out.lt
    have hca15:=fun i=>Ra15.out.cell i
    have hla15:=Ra15.out.lt
    have hcp15:=fun i=>Rp15.out.cell i
    have hlp15:=Rp15.out.lt
    have hcb15:=fun i=>Rb15.out.cell i
    have hlb15:=Rb15.out.lt
    have hS1:w15.cell? ⟨w8.heap.size,4,none⟩=some (.slice A acc.length c)/\(∀ i,w15.cell? ⟨w10.heap.size,i,none⟩=(#[.int .i64 n1.op,.int .i64 n1.n,.string n1.s,.string n1.t,.slice Ap n1.kids.length cp]:Array Value)[i]?)/\(∀ i,w15.cell? ⟨w13.heap.size,i,none⟩=(#[.int .i64 n2.op,.int .i64 n2.n,.string n2.s,.string n2.t,.slice Ab n2.kids.length cb]:Array Value)[i]?):=⟨Ra15.out.cell 4,fun i=>Rp15.out.cell i,fun i=>Rb15.out.cell i⟩
    refine wpAnyT_tk (i:=0) (oi:=_) (v:=?tv1) rfl (Or.inl ⟨by rfl,?th1⟩) hS1 ?_
    case th1=>(intro x hSx;(try dsimp only at hSx);go_simp;(try with_reducible rfl))
    try simp only [nA,nB,nC,Act.put,nD,nE,nF]
    refine wpAnyT_tk (i:=1) (oi:=_) (v:=?tv2) rfl (Or.inl ⟨by rfl,?th2⟩) hS1 ?_
    case th2=>(intro x hSx;(try dsimp only at hSx);go_simp;(try with_reducible rfl))
    try simp only [nA,nB,nC,Act.put,nD,nE,nF]
    refine wpAnyT_tk (i:=2) (oi:=_) (v:=?tv3) rfl (Or.inl ⟨by rfl,?th3⟩) hS1 ?_
    case th3=>(intro x hSx;(try dsimp only at hSx);go_simp;(try with_reducible rfl))
    try simp only [nA,nB,nC,Act.put,nD,nE,nF]
    refine wpAnyT_tk (i:=3) (oi:=_) (v:=?tv4) rfl (Or.inl ⟨by rfl,?th4⟩) hS1 ?_
    case th4=>(intro x hSx;(try dsimp only at hSx);go_simp;(try with_reducible rfl))
    try simp only [nA,nB,nC,Act.put,nD,nE,nF]
    refine wpAnyT_step (i:=4) (by kernel_rfl) rfl (fun K hK=>?_)
    try simp only [nA,nB,nC]
    go_simp
    clear hcu15 hlu15 hcr15 hlr15 hca15 hla15 hcp15 hlp15 hcb15 hlb15
    obtain⟨w16,e16,Rrow16,hz16,K16⟩:=boxed w15 45 #[.int .i64 n1.op,.int .i64 n1.n,.string n1.s,.string n1.t,.slice Ap n1.kids.length cp,.int .i64 n2.op,.int .i64 n2.n,.string n2.s,.string n2.t,.slice Ab n2.kids.length cb]
    have Rr16:=LH (K16.out.row Rr15.out (by omega))
    have Ra16:=LH (K16.out.row Ra15.out (by omega))
    have Rp16:=LH (K16.out.row Rp15.out (by omega))
    have Rb16:=LH (K16.out.row Rb15.out (by omega))
    have Dp16:=LH (Dp15.out.keep fun b hb=>K16.out.kq hb (by have h1:=hb.1;have h2:=hb.2;omega))
    have Db16:=LH (Db15.out.keep fun b hb=>K16.out.kq hb (by have h1:=hb.1;have h2:=hb.2;omega))
    have GG16:=LH (GG15.out.keepP (w':=w16) (by omega) fun b hb h=>K16.out.block b hb (by
      rcases h with h | h
      · have:=GG15.out.own b h;have hbn:b≠w8.heap.size:=fun e=>NON0.out (by rw [<- e];exact h);omega
      · obtain⟨x1,x2,x3⟩:=h;omega))
    have M16:=LH (M15.out.chg K16.out (by omega) (by omega))
    clear Rr15 Ra15 Rp15 Rb15 Dp15 Db15 GG15 M15
    have SL16:=LH (show Sl w16 (fun b=>b<w16.heap.size/\wr.heap.size<=b/\b≠w8.heap.size/\b≠w.heap.size) 5 (some ⟨w15.heap.size,0,none⟩) 2 ([n1,n2].map GNode.toD) from Sl.ofRow Rrow16.out (rdC_cons (GNode.rd_mk (Dp16.out.keep (w':=w16) (S':=fun b=>b<w16.heap.size/\wr.heap.size<=b/\b≠w8.heap.size/\b≠w.heap.size) fun b hb=>⟨⟨by have h1:=hb.1;have h2:=hb.2;omega,by have h1:=hb.1;have h2:=hb.2;omega⟩,rfl⟩)) rfl (rdC_one1 (GNode.rd_mk (Db16.out.keep (w':=w16) (S':=fun b=>b<w16.heap.size/\wr.heap.size<=b/\b≠w8.heap.size/\b≠w.heap.size) fun b hb=>⟨⟨by have h1:=hb.1;have h2:=hb.2;omega,by have h1:=hb.1;have h2:=hb.2;omega⟩,rfl⟩)) rfl)) ⟨by omega,by omega⟩ (by simp) (by unfold maxLen;omega))
    rw [<- e16]
    clear e16
    have hcu16:=fun i=>M16.out.row.cell i
    have hlu16:=M16.out.row.lt
    have hcr16:=fun i=>Rr16.out.cell i
    have hlr16:=Rr16.out.lt
    have hca16:=fun i=>Ra16.out.cell i
    have hla16:=Ra16.out.lt
    have hcp16:=fun i=>Rp16.out.cell i
    have hlp16:=Rp16.out.lt
    have hcb16:=fun i=>Rb16.out.cell i
    have hlb16:=Rb16.out.lt
    have hcrow16:=fun i=>Rrow16.out.cell i
    have hlrow16:=Rrow16.out.lt
    have hS2:w16.cell? ⟨w8.heap.size,4,none⟩=some (.slice A acc.length c)/\(∀ i,w16.cell? ⟨w10.heap.size,i,none⟩=(#[.int .i64 n1.op,.int .i64 n1.n,.string n1.s,.string n1.t,.slice Ap n1.kids.length cp]:Array Value)[i]?)/\(∀ i,w16.cell? ⟨w13.heap.size,i,none⟩=(#[.int .i64 n2.op,.int .i64 n2.n,.string n2.s,.string n2.t,.slice Ab n2.kids.length cb]:Array Value)[i]?):=⟨Ra16.out.cell 4,fun i=>Rp16.out.cell i,fun i=>Rb16.out.cell i⟩
    refine hK.out _ _ hS2 (fun hS3=>?_)
    clear hK K hS1 hS2
    try simp only [nA,nB,nC,Act.put,nD,nE,nF]
    refine wpAnyT_step (i:=5) (by kernel_rfl) rfl (fun K hK=>?_)
    try simp only [nA,nB,nC]
    go_simp
    go_at_call 72
    refine(l3Node (fun b=>wr.heap.size<=b/\b≠w8.heap.size/\b≠w.heap.size) (8) [n1,n2] (some ⟨w15.heap.size,0,none⟩) 2 w16 SL16.out (by simp)).mono ?_
    clear hcu16 hlu16 hcr16 hlr16 hca16 hla16 hcp16 hlp16 hcb16 hlb16 hcrow16 hlrow16
    rintro e w17 ⟨Am,cm,rfl,hG17,hb17⟩
    have hz17:=hb17.size
    have K17:=LH (Bx.of_below (g:=g) hb17 (Nat.le_refl _))
    have GN17:=LH hG17
    have Rr17:=LH (K17.out.row Rr16.out (by omega))
    have Ra17:=LH (K17.out.row Ra16.out (by omega))
    have Rp17:=LH (K17.out.row Rp16.out (by omega))
    have Rb17:=LH (K17.out.row Rb16.out (by omega))
    have Rrow17:=LH (K17.out.row Rrow16.out (by omega))
    have Dp17:=LH (Dp16.out.keep fun b hb=>K17.out.kq hb (by have h1:=hb.1;have h2:=hb.2;omega))
    have Db17:=LH (Db16.out.keep fun b hb=>K17.out.kq hb (by have h1:=hb.1;have h2:=hb.2;omega))
    have GG17:=LH (GG16.out.keepP (w':=w17) (by omega) fun b hb h=>K17.out.block b hb (by
      rcases h with h | h
      · have:=GG16.out.own b h;have hbn:b≠w8.heap.size:=fun e=>NON0.out (by rw [<- e];exact h);omega
      · obtain⟨x1,x2,x3⟩:=h;omega))
    have M17:=LH (M16.out.below hb17)
    clear Rr16 Ra16 Rp16 Rb16 Rrow16 Dp16 Db16 GG16 M16
    clear hb17 hG17
    have hcu17:=fun i=>M17.out.row.cell i
    have hlu17:=M17.out.row.lt
    have hcr17:=fun i=>Rr17.out.cell i
    have hlr17:=Rr17.out.lt
    have hca17:=fun i=>Ra17.out.cell i
    have hla17:=Ra17.out.lt
    have hcp17:=fun i=>Rp17.out.cell i
    have hlp17:=Rp17.out.lt
    have hcb17:=fun i=>Rb17.out.cell i
    have hlb17:=Rb17.out.lt
    have hcrow17:=fun i=>Rrow17.out.cell i
    have hlrow17:=Rrow17.out.lt
    have DDm:=LH (ndOf (op:=8) GN17.out (fun b h=>by omega) (by decide))
    have hS4:w17.cell? ⟨w8.heap.size,4,none⟩=some (.slice A acc.length c)/\(∀ i,w17.cell? ⟨w10.heap.size,i,none⟩=(#[.int .i64 n1.op,.int .i64 n1.n,.string n1.s,.string n1.t,.slice Ap n1.kids.length cp]:Array Value)[i]?)/\(∀ i,w17.cell? ⟨w13.heap.size,i,none⟩=(#[.int .i64 n2.op,.int .i64 n2.n,.string n2.s,.string n2.t,.slice Ab n2.kids.length cb]:Array Value)[i]?):=⟨Ra17.out.cell 4,fun i=>Rp17.out.cell i,fun i=>Rb17.out.cell i⟩
    refine hK.out _ _ hS4 (fun hS5=>?_)
    clear hK K hS3 hS4
    try simp only [nA,nB,nC,Act.put,nD,nE,nF]
    refine wpAnyT_step (i:=6) (by kernel_rfl) rfl (fun K hK=>?_)
    try simp only [nA,nB,nC]
    go_simp
    clear hcu17 hlu17 hcr17 hlr17 hca17 hla17 hcp17 hlp17 hcb17 hlb17 hcrow17 hlrow17
    obtain⟨w18,e18,Rrow18,hz18,K18⟩:=boxed w17 45 #[.int .i64 8,.int .i64 0,.string ⟨#[]⟩,.string ⟨#[]⟩,.slice Am 2 cm]
    have Rr18:=LH (K18.out.row Rr17.out (by omega))
    have Ra18:=LH (K18.out.row Ra17.out (by omega))
    have Rp18:=LH (K18.out.row Rp17.out (by omega))
    have Rb18:=LH (K18.out.row Rb17.out (by omega))
    have Dm18:=LH (DDm.out.keep fun b hb=>K18.out.kq hb (by have h1:=hb.1;have h2:=hb.2;omega))
    have GG18:=LH (GG17.out.keepP (w':=w18) (by omega) fun b hb h=>K18.out.block b hb (by
      rcases h with h | h
      · have:=GG17.out.own b h;have hbn:b≠w8.heap.size:=fun e=>NON0.out (by rw [<- e];exact h);omega
      · obtain⟨x1,x2,x3⟩:=h;omega))
    have M18:=LH (M17.out.chg K18.out (by omega) (by omega))
    clear Rr17 Ra17 Rp17 Rb17 DDm GG17 M17
    have SL18:=LH (show Sl w18 (fun b=>b<w18.heap.size/\(Value.slice A acc.length c).ownBlock≠some b/\w.heap.size<=b/\b≠w8.heap.size/\b≠w.heap.size) 5 (some ⟨w17.heap.size,0,none⟩) 1 ([(nd 8 [n1,n2])].map GNode.toD) from Sl.ofRow Rrow18.out (rdC_one1 (GNode.rd_mk (Dm18.out.keep (w':=w18) (S':=fun b=>b<w18.heap.size/\(Value.slice A acc.length c).ownBlock≠some b/\w.heap.size<=b/\b≠w8.heap.size/\b≠w.heap.size) fun b hb=>⟨⟨by have h1:=hb.1;have h2:=hb.2;omega,fun e=>by have h1:=hb.1;have h3:=(HOW.out b e).2;omega,by have h1:=hb.1;have h2:=hb.2;omega⟩,rfl⟩)) rfl) ⟨by omega,fun e=>by have h3:=(HOW.out _ e).2;omega,by omega⟩ (by simp) (by unfold maxLen;omega))
    rw [<- e18]
    clear e18
    have hcu18:=fun i=>M18.out.row.cell i
    have hlu18:=M18.out.row.lt
    have hcr18:=fun i=>Rr18.out.cell i
    have hlr18:=Rr18.out.lt
    have hca18:=fun i=>Ra18.out.cell i
    have hla18:=Ra18.out.lt
    have hcp18:=fun i=>Rp18.out.cell i
    have hlp18:=Rp18.out.lt
    have hcb18:=fun i=>Rb18.out.cell i
    have hlb18:=Rb18.out.lt
    have hcrow18:=fun i=>Rrow18.out.cell i
    have hlrow18:=Rrow18.out.lt
    have hS6:w18.cell? ⟨w8.heap.size,4,none⟩=some (.slice A acc.length c)/\(∀ i,w18.cell? ⟨w10.heap.size,i,none⟩=(#[.int .i64 n1.op,.int .i64 n1.n,.string n1.s,.string n1.t,.slice Ap n1.kids.length cp]:Array Value)[i]?)/\(∀ i,w18.cell? ⟨w13.heap.size,i,none⟩=(#[.int .i64 n2.op,.int .i64 n2.n,.string n2.s,.string n2.t,.slice Ab n2.kids.length cb]:Array Value)[i]?):=⟨Ra18.out.cell 4,fun i=>Rp18.out.cell i,fun i=>Rb18.out.cell i⟩
    refine hK.out _ _ hS6 (fun hS7=>?_)
    clear hK K hS5 hS6
    try simp only [nA,nB,nC,Act.put,nD,nE,nF]
    refine wpAnyT_step (i:=7) (by kernel_rfl) rfl (fun K hK=>?_)
    refine step_append_X w18 rfl (.tmp 30) (.tmp 35) 43 rfl 45 zNd 5 72 Tryz.underlying43 (by kernel_rfl) rfl (by omega) (w7.heap.size) (.slice A acc.length c) acc.length _ GG18.out (some ⟨w17.heap.size,0,none⟩) 1 1 _ rfl SL18.out (by omega) (by unfold maxLen;omega) (by omega) rfl rfl ?_
    clear hcu18 hlu18 hcr18 hlr18 hca18 hla18 hcp18 hlp18 hcb18 hlb18 hcrow18 hlrow18
    intro A19 c19 w19 hG19 hGr19
    obtain⟨acc19,hac19⟩:∃ x,x=acc++[(nd 8 [n1,n2])]:=⟨_,rfl⟩
    have HAC19:=LH hac19
    have hal19:acc19.length=acc.length+1:=by rw [hac19];simp
    have GN19:=LH (show Grx (fun b=>w.heap.size<=b/\b≠w8.heap.size/\b≠w.heap.size) w19 (w7.heap.size) 45 5 (.slice A19 acc19.length c19) acc19.length (acc19.map GNode.toD) from by rw [hal19,hac19];simpa using hG19)
    rw [<- hal19]
    have HAL19:=LH hal19
    clear hal19 hac19
    have NON19:=LH (show(Value.slice A19 acc19.length c19).ownBlock≠some w8.heap.size by rw [HAL19.out];exact hGr19.ne NON0.out (by omega))
    obtain⟨q19,hq19,hqn19,hk19⟩:=hGr19.bxn (B:=w7.heap.size) (fun q hq=>HOW.out q hq) (by omega) NON0.out (by omega)
    have hz19:=hGr19.size
    have K19:=LH hk19
    clear hG19 hGr19 hk19
    have Rr19:=LH (K19.out.row Rr18.out (by omega))
    have Ra19:=LH (K19.out.row Ra18.out (by omega))
    have Rp19:=LH (K19.out.row Rp18.out (by omega))
    have Rb19:=LH (K19.out.row Rb18.out (by omega))
    have M19:=LH (M18.out.chg K19.out (by omega) (by omega))
    clear Rr18 Ra18 Rp18 Rb18 M18
    clear GG18
    have hcu19:=fun i=>M19.out.row.cell i
    have hlu19:=M19.out.row.lt
    have hcr19:=fun i=>Rr19.out.cell i
    have hlr19:=Rr19.out.lt
    have hca19:=fun i=>Ra19.out.cell i
    have hfa19:=fun i=>Ra19.out.frozen i
    have hla19:=Ra19.out.lt
    have hcp19:=fun i=>Rp19.out.cell i
    have hlp19:=Rp19.out.lt
    have hcb19:=fun i=>Rb19.out.cell i
    have hlb19:=Rb19.out.lt
    have hS8:w19.cell? ⟨w8.heap.size,4,none⟩=some (.slice A acc.length c)/\(∀ i,w19.cell? ⟨w10.heap.size,i,none⟩=(#[.int .i64 n1.op,.int .i64 n1.n,.string n1.s,.string n1.t,.slice Ap n1.kids.length cp]:Array Value)[i]?)/\(∀ i,w19.cell? ⟨w13.heap.size,i,none⟩=(#[.int .i64 n2.op,.int .i64 n2.n,.string n2.s,.string n2.t,.slice Ab n2.kids.length cb]:Array Value)[i]?):=⟨Ra19.out.cell 4,fun i=>Rp19.out.cell i,fun i=>Rb19.out.cell i⟩
    refine hK.out _ _ hS8 (fun hS9=>?_)
    clear hK K hS7 hS8
    try simp only [nA,nB,nC,Act.put,nD,nE,nF]
    refine wpAnyT_tk (i:=8) (oi:=_) (v:=?tv5) rfl (Or.inl ⟨by rfl,?th5⟩) hS9 ?_
    case th5=>(intro x hSx;(try dsimp only at hSx);go_simp;(try with_reducible rfl))
    try simp only [nA,nB,nC,Act.put,nD,nE,nF]
    refine wpAnyT_last (by kernel_rfl) (by kernel_rfl) rfl (fun K hK=>?_)
    try simp only [nA,nB,nC]
    go_simp
    refine hK.out _ _ ?_
    clear hK K
    try simp only [nA,nB,nC,Act.put,nD,nE,nF]
    clear hS9 HOW
    clear hcu19 hlu19 hcr19 hlr19 hca19 hfa19 hla19 hcp19 hlp19 hcb19 hlb19
    obtain⟨w20,e20,RO20,hz20,K20⟩:=storedF Ra19.out 4 (.slice A19 acc19.length c19)
    have RN20:=LH (show Row w20 w8.heap.size 45 #[.int .i64 7,.int .i64 0,.string ⟨#[]⟩,.string ⟨#[]⟩,.slice A19 acc19.length c19] from RO20.out)
    clear RO20
    have Rr20:=LH (K20.out.row Rr19.out (by omega))
    have Rp20:=LH (K20.out.row Rp19.out (by omega))
    have Rb20:=LH (K20.out.row Rb19.out (by omega))
    have GG20:=LH (GN19.out.keepP (w':=w20) (by omega) fun b hb h=>K20.out.block b hb (by
      rcases h with h | h
      · have:=GN19.out.own b h;have hbn:b≠w8.heap.size:=fun e=>NON19.out (by rw [<- e];exact h);omega
      · obtain⟨x1,x2,x3⟩:=h;omega))
    have M20:=LH (M19.out.chg K20.out (by omega) (by omega))
    clear Rr19 Rp19 Rb19 GN19 M19
    clear Ra19
    rw [<- e20]
    clear e20
    have hcu20:=fun i=>M20.out.row.cell i
    have hlu20:=M20.out.row.lt
    have hcr20:=fun i=>Rr20.out.cell i
    have hlr20:=Rr20.out.lt
    have hcp20:=fun i=>Rp20.out.cell i
    have hlp20:=Rp20.out.lt
    have hcb20:=fun i=>Rb20.out.cell i
    have hlb20:=Rb20.out.lt
    have hca20:=fun i=>RN20.out.cell i
    have hla20:=RN20.out.lt
    go_wp2_with fail
    refine(l3Sign ts g L cl V cv s2 w20 (M20.out.cur HC.out) ⟨#[59]⟩).mono ?_
    clear hcu20 hlu20 hcr20 hlr20 hcp20 hlp20 hcb20 hlb20 hca20 hla20
    rintro e w21 ⟨rfl,hb21⟩
    have hz21:=hb21.size
    have K21:=LH (Bx.of_below (g:=g) hb21 (Nat.le_refl _))
    have Rr21:=LH (K21.out.row Rr20.out (by omega))
    have Rp21:=LH (K21.out.row Rp20.out (by omega))
    have Rb21:=LH (K21.out.row Rb20.out (by omega))
    have Ra21:=LH (K21.out.row RN20.out (by omega))
    have GG21:=LH (GG20.out.keepP (w':=w21) (by omega) fun b hb h=>K21.out.block b hb (by
      rcases h with h | h
      · have:=GG20.out.own b h;have hbn:b≠w8.heap.size:=fun e=>NON19.out (by rw [<- e];exact h);omega
      · obtain⟨x1,x2,x3⟩:=h;omega))
    have M21:=LH (M20.out.below hb21)
    clear Rr20 Rp20 Rb20 RN20 GG20 M20
    clear hb21
    have hcu21:=fun i=>M21.out.row.cell i
    have hlu21:=M21.out.row.lt
    have hcr21:=fun i=>Rr21.out.cell i
    have hlr21:=Rr21.out.lt
    have hcp21:=fun i=>Rp21.out.cell i
    have hlp21:=Rp21.out.lt
    have hcb21:=fun i=>Rb21.out.cell i
    have hlb21:=Rb21.out.lt
    have hca21:=fun i=>Ra21.out.cell i
    have hla21:=Ra21.out.lt
    cases hs:pSign ts [59] s2
    ·
     have hr:=HR.out
     simp [hs] at hr
     obtain⟨hka,rfl⟩:=hr
     rw [<- HAC19.out] at hka
     obtain rfl:=hka
     go_wp2_with fail
     refine(l3Take ts g L cl V cv s2 w21 (M21.out.cur HC.out) ⟨#[125]⟩).mono ?_
     clear hcu21 hlu21 hcr21 hlr21 hcp21 hlp21 hcb21 hlb21 hca21 hla21
     rintro e w22 ⟨rfl,hm22⟩
     replace hm22:Mv ts g L cl V cv s2.vars (pTake ts [125] s2) w21 w22:=hm22
     have hz22:=hm22.size
     have K22:=LH hm22.bx
     have Rr22:=LH (K22.out.row Rr21.out (by omega))
     have Rp22:=LH (K22.out.row Rp21.out (by omega))
     have Rb22:=LH (K22.out.row Rb21.out (by omega))
     have Ra22:=LH (K22.out.row Ra21.out (by omega))
     have GG22:=LH (GG21.out.keepP (w':=w22) (by omega) fun b hb h=>K22.out.block b hb (by
       rcases h with h | h
       · have:=GG21.out.own b h;have hbn:b≠w8.heap.size:=fun e=>NON19.out (by rw [<- e];exact h);omega
       · obtain⟨x1,x2,x3⟩:=h;omega))
     have M22:=LH (M21.out.trans hm22)
     clear Rr21 Rp21 Rb21 Ra21 GG21 M21
     clear hm22
     have hcu22:=fun i=>M22.out.row.cell i
     have hlu22:=M22.out.row.lt
     have hcr22:=fun i=>Rr22.out.cell i
     have hfr22:=fun i=>Rr22.out.frozen i
     have hlr22:=Rr22.out.lt
     have hcp22:=fun i=>Rp22.out.cell i
     have hlp22:=Rp22.out.lt
     have hcb22:=fun i=>Rb22.out.cell i
     have hlb22:=Rb22.out.lt
     have hca22:=fun i=>Ra22.out.cell i
     have hla22:=Ra22.out.lt
     go_wp2_with fail
     clear hcu22 hlu22 hcr22 hfr22 hlr22 hcp22 hlp22 hcb22 hlb22 hca22 hla22
     obtain⟨w23,e23,RN23,hz23,K23⟩:=stored5 Rr22.out (.int .i64 7) (.int .i64 0) (.string ⟨#[]⟩) (.string ⟨#[]⟩) (.slice A19 acc19.length c19)
     have Rp23:=LH (K23.out.row Rp22.out (by omega))
     have Rb23:=LH (K23.out.row Rb22.out (by omega))
     have Ra23:=LH (K23.out.row Ra22.out (by omega))
     have GG23:=LH (GG22.out.keepP (w':=w23) (by omega) fun b hb h=>K23.out.block b hb (by
       rcases h with h | h
       · have:=GG22.out.own b h;have hbn:b≠w8.heap.size:=fun e=>NON19.out (by rw [<- e];exact h);omega
       · obtain⟨x1,x2,x3⟩:=h;omega))
     have M23:=LH (M22.out.chg K23.out (by omega) (by omega))
     clear Rp22 Rb22 Ra22 GG22 M22
     clear Rr22
     rw [<- e23]
     clear e23
     have hcu23:=fun i=>M23.out.row.cell i
     have hlu23:=M23.out.row.lt
     have hcp23:=fun i=>Rp23.out.cell i
     have hlp23:=Rp23.out.lt
     have hcb23:=fun i=>Rb23.out.cell i
     have hlb23:=Rb23.out.lt
     have hca23:=fun i=>Ra23.out.cell i
     have hla23:=Ra23.out.lt
     have hcr23:=fun i=>RN23.out.cell i
     have hlr23:=RN23.out.lt
     have SX:=LH (slx_of_grx GG23.out NON19.out (fun b h hne=>⟨by omega,hne,by omega⟩))
     obtain rfl:=HNN.out
     obtain rfl:=HST.out
     show BP _ _
     rw [HBP.out]
     refine bodyPost_ret (v:=.agg #[.int .i64 7,.int .i64 0,.string ⟨#[]⟩,.string ⟨#[]⟩,.slice A19 acc19.length c19]) (by simp [results,Tryz.results71,go_sem,hcr23]) rfl ?_
     exact⟨A19,c19,rfl,⟨show(Lit.int .i64 7).wf=true by decide,show(Lit.int .i64 0).wf=true by decide,empty_le,empty_le,SX.out.keep fun b hb=>⟨⟨by have h1:=hb.1;have h2:=hb.2;omega,by have h1:=hb.1;have h2:=hb.2;omega⟩,rfl⟩⟩,M23.out⟩
    have hr:=HR.out
    simp [hs] at hr
    clear HR
    have HR:=LH hr
    clear hr
    go_wp2_with fail
    refine(l3Next ts g L cl V cv s2 w21 (M21.out.cur HC.out)).mono ?_
    clear hcu21 hlu21 hcr21 hlr21 hcp21 hlp21 hcb21 hlb21 hca21 hla21
    rintro e w22 ⟨rfl,hm22⟩
    replace hm22:Mv ts g L cl V cv s2.vars (pNext ts s2) w21 w22:=hm22
    have hz22:=hm22.size
    have K22:=LH hm22.bx
    have Rr22:=LH (K22.out.row Rr21.out (by omega))
    have Rp22:=LH (K22.out.row Rp21.out (by omega))
    have Rb22:=LH (K22.out.row Rb21.out (by omega))
    have Ra22:=LH (K22.out.row Ra21.out (by omega))
    have GG22:=LH (GG21.out.keepP (w':=w22) (by omega) fun b hb h=>K22.out.block b hb (by
      rcases h with h | h
      · have:=GG21.out.own b h;have hbn:b≠w8.heap.size:=fun e=>NON19.out (by rw [<- e];exact h);omega
      · obtain⟨x1,x2,x3⟩:=h;omega))
    have M22:=LH (M21.out.trans hm22)
    clear Rr21 Rp21 Rb21 Ra21 GG21 M21
    clear hm22
    have hcu22:=fun i=>M22.out.row.cell i
    have hlu22:=M22.out.row.lt
    have hcr22:=fun i=>Rr22.out.cell i
    have hfr22:=fun i=>Rr22.out.frozen i
    have hlr22:=Rr22.out.lt
    have hcp22:=fun i=>Rp22.out.cell i
    have hlp22:=Rp22.out.lt
    have hcb22:=fun i=>Rb22.out.cell i
    have hlb22:=Rb22.out.lt
    have hca22:=fun i=>Ra22.out.cell i
    have hla22:=Ra22.out.lt
    go_wp2_with fail
    have hall:=HAL19.out
    have HN:I j w22:=by
     rw [HI.out]
     exact⟨acc19,pNext ts s2,A19,c19,(by rw [HAC19.out];exact HR.out),by omega,by omega,Ra22.out,Rr22.out,GG22.out,M22.out,Ra22.out.lt,NON19.out⟩
    go_roundw
    case rel=>first | exact⟨j,HN⟩ | ((repeat apply Exists.intro);exact⟨⟨j,HN⟩,rfl⟩)
    case measure=>rw [HJ.out];exact Nat.lt_succ_of_le (leastK_le (I:=fun j=>I j w22) HN)
   ·
    have d1:decide (s.bad<0)=false:=decide_eq_false hbs
    simp [pCaseAlts,hbs] at hx
    obtain⟨rfl,rfl⟩:=hx
    clear hbs
    go_wp2_with fail
    refine(l3Take ts g L cl V cv s wr (MR0.out.cur HC.out) ⟨#[125]⟩).mono ?_
    clear hcu9 hlu9 hcr9 hlr9 hca9 hla9
    rintro e w10 ⟨rfl,hm10⟩
    replace hm10:Mv ts g L cl V cv s.vars (pTake ts [125] s) wr w10:=hm10
    have hz10:=hm10.size
    have K10:=LH hm10.bx
    have Rr10:=LH (K10.out.row RR0.out (by omega))
    have Ra10:=LH (K10.out.row RA0.out (by omega))
    have GG10:=LH (GG0.out.keepP (w':=w10) (by omega) fun b hb h=>K10.out.block b hb (by
      rcases h with h | h
      · have:=GG0.out.own b h;have hbn:b≠w8.heap.size:=fun e=>NON0.out (by rw [<- e];exact h);omega
      · obtain⟨x1,x2,x3⟩:=h;omega))
    have M10:=LH (MR0.out.trans hm10)
    clear RR0 RA0 GG0 MR0
    clear hm10
    have hcu10:=fun i=>M10.out.row.cell i
    have hlu10:=M10.out.row.lt
    have hcr10:=fun i=>Rr10.out.cell i
    have hfr10:=fun i=>Rr10.out.frozen i
    have hlr10:=Rr10.out.lt
    have hca10:=fun i=>Ra10.out.cell i
    have hla10:=Ra10.out.lt
    go_wp2_with fail
    clear hcu10 hlu10 hcr10 hfr10 hlr10 hca10 hla10
    obtain⟨w11,e11,RN11,hz11,K11⟩:=stored5 Rr10.out (.int .i64 7) (.int .i64 0) (.string ⟨#[]⟩) (.string ⟨#[]⟩) (.slice A acc.length c)
    have Ra11:=LH (K11.out.row Ra10.out (by omega))
    have GG11:=LH (GG10.out.keepP (w':=w11) (by omega) fun b hb h=>K11.out.block b hb (by
      rcases h with h | h
      · have:=GG10.out.own b h;have hbn:b≠w8.heap.size:=fun e=>NON0.out (by rw [<- e];exact h);omega
      · obtain⟨x1,x2,x3⟩:=h;omega))
    have M11:=LH (M10.out.chg K11.out (by omega) (by omega))
    clear Ra10 GG10 M10
    clear Rr10
    rw [<- e11]
    clear e11
    have hcu11:=fun i=>M11.out.row.cell i
    have hlu11:=M11.out.row.lt
    have hca11:=fun i=>Ra11.out.cell i
    have hla11:=Ra11.out.lt
    have hcr11:=fun i=>RN11.out.cell i
    have hlr11:=RN11.out.lt
    have SX:=LH (slx_of_grx GG11.out NON0.out (fun b h hne=>⟨by omega,hne,by omega⟩))
    obtain rfl:=HNN.out
    obtain rfl:=HST.out
    show BP _ _
    rw [HBP.out]
    refine bodyPost_ret (v:=.agg #[.int .i64 7,.int .i64 0,.string ⟨#[]⟩,.string ⟨#[]⟩,.slice A acc.length c]) (by simp [results,Tryz.results71,go_sem,hcr11]) rfl ?_
    exact⟨A,c,rfl,⟨show(Lit.int .i64 7).wf=true by decide,show(Lit.int .i64 0).wf=true by decide,empty_le,empty_le,SX.out.keep fun b hb=>⟨⟨by have h1:=hb.1;have h2:=hb.2;omega,by have h1:=hb.1;have h2:=hb.2;omega⟩,rfl⟩⟩,M11.out⟩
end Go.Proofs.YtgbjdhfaklmjcaaGreat
