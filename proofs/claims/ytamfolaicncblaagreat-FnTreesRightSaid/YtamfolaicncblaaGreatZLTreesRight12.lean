/- Texts of the claim LTreesRight in one: PaN PaO PaR. Conditions: none but bounds on sizes. -/
import Derived.Test.YtamfolaicncblaaGreatZLTreesRight5
import Derived.Deep.CutRange
import Derived.Test.YtamfolaicncblaaGreatZLTreesRight4
import Derived.Test.YtamfolaicncblaaGreatZLTreesRight10
import Derived.Test.YtamfolaicncblaaGreatZLTreesRight11
import Derived.Test.YtamfolaicncblaaGreatZLTreesRight2
namespace Go.Proofs.YtamfolaicncblaaGreat
set_option maxRecDepth 20000
set_option linter.unusedVariables false
set_option linter.unusedSimpArgs false
open Go.RowKit
set_option maxHeartbeats 2000000
theorem Gr.bxn {w w':World} {v v':Value} {B n U:Nat} (h:Gr w w' v v') (ho:∀ q,v.ownBlock=some q->B<=q/\q<U) (hB:B<=w.heap.size) (hn:v.ownBlock≠some n) (hnw:n<w.heap.size):∃ q,B<=q/\(q≠n/\(q<U\/w.heap.size<=q))/\Bx q w w':=by
 cases hv:v.ownBlock with
 | none=>exact⟨w.heap.size,hB,⟨by omega,.inr (Nat.le_refl _)⟩,h.grow.os,h.grow.tape,h.grow.output,h.size,fun b hb _=>h.keepB hb (by rw [hv];simp)⟩
 | some q=>exact⟨q,(ho q hv).1,⟨fun e=>hn (by rw [hv,e]),.inl (ho q hv).2⟩,h.grow.os,h.grow.tape,h.grow.output,h.size,fun b hb hne=>h.keepB hb (by rw [hv];intro e;exact hne (by simpa using e.symm))⟩
theorem slx_of_grx {X:Nat->Prop} {w:World} {B n0:Nat} {T:TypeId} {size:Nat} {A:Option Addr} {c n:Nat} {xs:List D} (h:Grx X w B T size (.slice A n c) n xs) (hn:(Value.slice A n c).ownBlock≠some n0) (hX:∀ b,B<=b->b≠n0->X b):Sl w (fun b=>b<w.heap.size/\X b) size A c xs:=by
 have hlt:=h.own
 obtain⟨h1,cs,h2,h4⟩:=h
 rcases h2.2 with ⟨e,h⟩ | ⟨g,cap,cur,e,a1,a2,a3,a4,a5,a6⟩
 · have:xs= []:=List.eq_nil_of_length_eq_zero (by omega)
   subst this
   obtain⟨rfl,-,rfl⟩:A=none/\n=0/\c=0:=by simpa using e
   exact Sl.nil (by unfold maxLen;omega)
 ·
  obtain⟨rfl,rfl⟩:A=some ⟨g,0,none⟩/\c=cap:=by simpa using e
  have ho:(Value.slice (some ⟨g,0,none⟩) n c).ownBlock=some g:=rfl
  refine⟨by omega,a4,.inr ⟨g,0,rfl,⟨(hlt g ho).2,hX g (hlt g ho).1 (fun e=>hn (by rw [ho,e]))⟩,?_⟩⟩
  refine rdC_row xs cs 0 (fun j v hj=>?_) (rdC_keep (fun b hb=>⟨⟨hb.1,hb.2.2⟩,rfl⟩) xs cs h4)
  rw [Nat.zero_add,Row.cell (t:=T) (cs:=cur) a2]
  rw [<- a6,List.getElem?_take] at hj
  split at hj
  · simpa using hj
  · cases hj
theorem l3Case (k:Nat) (hkk:k<=1000000) (hE:∀ j,j<=k->Ok1 75 pE j) (hP:∀ j,j<=k->Ok1 127 pPat j):Ok1 107 pCase k:=by
 intro ts g L cl V cv st w h n st' hp
 have HE:=LH hE
 have HP:=LH hP
 clear hE hP
 simp [pCase,Option.bind_eq_some_iff] at hp
 obtain⟨n0,s0,hq1,ks,s9,hk0,hn,hst⟩:=hp
 have HNN:=LH hn
 have HST:=LH hst
 have HQ1:=LH hq1
 have HK0:=LH hk0
 clear hn hst hq1 hk0
 have HC:=LH h
 have M0:=LH h.mv
 have hgl:=h.row.lt
 clear h
 go_enter Tryz.func107,Tryz.ntmps107
 refine wp_hide (fun BP hBP=>?_)
 have HBP:=LH hBP
 clear hBP
 go_wp2_with fail
 obtain⟨w1,e1,Rr1,hz1,K1⟩:=boxed w 49 #[.int .i64 0,.int .i64 0,.string ⟨#[]⟩,.string ⟨#[]⟩,.slice none 0 0]
 have M1:=LH (M0.out.chg K1.out (by omega) (by omega))
 rw [<- e1]
 clear e1
 refine(l3Next ts g L cl V cv st w1 (M1.out.cur HC.out)).mono ?_
 rintro e w2 ⟨rfl,hm2⟩
 replace hm2:Mv ts g L cl V cv st.vars (pNext ts st) w1 w2:=hm2
 have hz2:=hm2.size
 have K2:=LH hm2.bx
 have Rr2:=LH (K2.out.row Rr1.out (by omega))
 have M2:=LH (M1.out.trans hm2)
 clear Rr1 M1
 clear hm2
 go_wp2_with fail
 refine(HE.out k (Nat.le_refl _) ts g L cl V cv (pNext ts st) w2 (M2.out.cur HC.out) n0 s0 HQ1.out).mono ?_
 rintro e w3 ⟨A0,c0,rfl,ha3,hm3⟩
 have hz3:=hm3.size
 have K3:=LH hm3.bx
 have DN3:=LH ha3
 have Rr3:=LH (K3.out.row Rr2.out (by omega))
 have M3:=LH (M2.out.trans hm3)
 clear Rr2 M2
 clear hm3 ha3
 go_wp2_with fail
 obtain⟨w4,e4,Re4,hz4,K4⟩:=boxed w3 49 #[.int .i64 n0.op,.int .i64 n0.n,.string n0.s,.string n0.t,.slice A0 n0.kids.length c0]
 have Rr4:=LH (K4.out.row Rr3.out (by omega))
 have D04:=LH (DN3.out.keep fun b hb=>K4.out.kq hb (by omega))
 have M4:=LH (M3.out.chg K4.out (by omega) (by omega))
 clear Rr3 DN3 M3
 rw [<- e4]
 clear e4
 refine(l3Word ts g L cl V cv s0 w4 (M4.out.cur HC.out) ⟨#[111,102]⟩).mono ?_
 rintro e w5 ⟨rfl,hm5⟩
 replace hm5:Mv ts g L cl V cv s0.vars (pWord ts [111,102] s0) w4 w5:=hm5
 have hz5:=hm5.size
 have K5:=LH hm5.bx
 have Rr5:=LH (K5.out.row Rr4.out (by omega))
 have Re5:=LH (K5.out.row Re4.out (by omega))
 have D05:=LH (D04.out.keep fun b hb=>K5.out.kq hb (by omega))
 have M5:=LH (M4.out.trans hm5)
 clear Rr4 Re4 D04 M4
 clear hm5
 go_wp2_with fail
 refine(l3Take ts g L cl V cv (pWord ts [111,102] s0) w5 (M5.out.cur HC.out) ⟨#[123]⟩).mono ?_
 rintro e w6 ⟨rfl,hm6⟩
 replace hm6:Mv ts g L cl V cv (pWord ts [111,102] s0).vars (pTake ts [123] (pWord ts [111,102] s0)) w5 w6:=hm6
 have hz6:=hm6.size
 have K6:=LH hm6.bx
 have Rr6:=LH (K6.out.row Rr5.out (by omega))
 have Re6:=LH (K6.out.row Re5.out (by omega))
 have D06:=LH (D05.out.keep fun b hb=>K6.out.kq hb (by omega))
 have M6:=LH (M5.out.trans hm6)
 clear Rr5 Re5 D05 M5
 clear hm6
 have hce6:=fun i=>Re6.out.cell i
 go_wp2_with fail
 clear hce6
 obtain⟨w7,e7,Rrow7,hz7,K7⟩:=boxed w6 49 #[.int .i64 n0.op,.int .i64 n0.n,.string n0.s,.string n0.t,.slice A0 n0.kids.length c0]
 have Rr7:=LH (K7.out.row Rr6.out (by omega))
 have D07:=LH (D06.out.keep fun b hb=>K7.out.kq hb (by omega))
 have M7:=LH (M6.out.chg K7.out (by omega) (by omega))
 clear Rr6 Re6 D06 M6
 have SL7:=LH (show Sl w7 (fun b=>b<w7.heap.size/\w.heap.size<=b/\b≠w.heap.size/\b<w6.heap.size+1) 5 (some ⟨w6.heap.size,0,none⟩) 1 ([n0].map GNode.toD) from Sl.ofRow Rrow7.out (rdC_one1 (GNode.rd_mk (D07.out.keep (w':=w7) (S':=fun b=>b<w7.heap.size/\w.heap.size<=b/\b≠w.heap.size/\b<w6.heap.size+1) fun b hb=>⟨⟨by omega,by omega⟩,rfl⟩)) rfl) ⟨by omega,by omega⟩ (by simp) (by unfold maxLen;omega))
 rw [<- e7]
 clear e7
 refine(l3Node (fun b=>w.heap.size<=b/\b≠w.heap.size/\b<w6.heap.size+1) (7) [n0] (some ⟨w6.heap.size,0,none⟩) 1 w7 SL7.out (by simp)).mono ?_
 rintro e w8 ⟨A2,c2,rfl,hG8,hb8⟩
 have hz8:=hb8.size
 have K8:=LH (Bx.of_below (g:=g) hb8 (Nat.le_refl _))
 have GN8:=LH hG8
 have Rr8:=LH (K8.out.row Rr7.out (by omega))
 have M8:=LH (M7.out.below hb8)
 clear Rr7 Rrow7 D07 M7
 clear hb8 hG8
 have HOWN:=LH (fun q hq=>(GN8.out.own q hq).2)
 go_wp2_with fail
 obtain⟨w9,e9,Ra9,hz9,K9⟩:=boxed w8 49 #[.int .i64 7,.int .i64 0,.string ⟨#[]⟩,.string ⟨#[]⟩,.slice A2 1 c2]
 have Rr9:=LH (K9.out.row Rr8.out (by omega))
 have GG9:=LH (GN8.out.keepP (w':=w9) (by omega) fun b hb h=>K9.out.block b hb (by
   rcases h with h | h
   · have:=GN8.out.own b h;omega
   · obtain⟨x1,x2,x3⟩:=h;omega))
 have M9:=LH (M8.out.chg K9.out (by omega) (by omega))
 clear Rr8 GN8 M8
 rw [<- e9]
 clear e9
 have hINV:∃ I:Nat->World->Prop,I=fun j wr=>∃ (acc:List GNode) (s:PSt) (A:Option Addr) (c:Nat),pCaseAlts ts j s acc=some (ks,s9)/\j<=k/\acc.length+j<=k+1/\Row wr w8.heap.size 49 #[.int .i64 7,.int .i64 0,.string ⟨#[]⟩,.string ⟨#[]⟩,.slice A acc.length c]/\Row wr w.heap.size 49 #[.int .i64 0,.int .i64 0,.string ⟨#[]⟩,.string ⟨#[]⟩,.slice none 0 0]/\Grx (fun b=>w.heap.size<=b/\b≠w8.heap.size/\b≠w.heap.size) wr (w7.heap.size) 49 5 (.slice A acc.length c) acc.length (acc.map GNode.toD)/\Mv ts g L cl V cv st.vars s w wr/\w8.heap.size<wr.heap.size/\(Value.slice A acc.length c).ownBlock≠some w8.heap.size:=⟨_,rfl⟩
 obtain⟨I,hI⟩:=hINV
 have HI:=LH hI
 have I0:I k w9:=by
  rw [hI]
  exact⟨[n0],pTake ts [123] (pWord ts [111,102] s0),A2,c2,HK0.out,Nat.le_refl _,by simp;omega,Ra9.out,Rr9.out,GG9.out.wide (Nat.le_refl _) (fun b h=>⟨h.1,by have:=h.2.2;omega,h.2.1⟩),M9.out,Ra9.out.lt,(fun e=>by have:=HOWN.out _ e;omega)⟩
 have hnw:w.heap.size<w8.heap.size:=by omega
 go_loopw [22] (fun v wr=>∃ j,I j wr) (fun _ wr=>leastK (fun j=>I j wr))
 case atStart=>exact⟨k,I0⟩
 case round=>
  have hex:=hrel
  have hleast:=leastK_spec (I:=fun j=>I j wr) hex
  obtain⟨j,hj⟩:∃ j,leastK (fun j=>I j wr)=j:=⟨_,rfl⟩
  rw [hj] at hleast
  have HJ:=LH hj
  clear hj hex hrel I0
  rw [hI] at hleast
  obtain⟨acc,s,A,c,hx,hjk,hal,ra,rr,gg,hm,hnl,hnon⟩:=hleast
  clear Ra9 Rr9 M9 GG9 hI
  have RA0:=LH ra
  have RR0:=LH rr
  have GG0:=LH gg
  have MR0:=LH hm
  have hzr:=hm.size
  have NON0:=LH hnon
  have HOW:=LH (fun q (hq:(Value.slice A acc.length c).ownBlock=some q)=>GG0.out.own q hq)
  clear hnon
  clear ra rr gg hm
  have hcu9:=fun i=>MR0.out.row.cell i
  cases j with
  | zero=>simp [pCaseAlts] at hx
  | succ j=>
   by_cases hbs:s.bad<0
   ·
    have d1:decide (s.bad<0)=true:=decide_eq_true hbs
    simp [pCaseAlts,hbs,Option.bind_eq_some_iff] at hx
    obtain⟨n1,s1,hq1,n2,s2,hq2,hr⟩:=hx
    have HR:=LH hr
    have HQ1:=LH hq1
    have HQ2:=LH hq2
    clear hr hq1 hq2 hbs
    go_wp2_with fail
    refine(HP.out j (by omega) ts g L cl V cv s wr (MR0.out.cur HC.out) n1 s1 HQ1.out).mono ?_
    rintro e w10 ⟨Ap,cp,rfl,ha10,hm10⟩
    have hz10:=hm10.size
    have K10:=LH hm10.bx
    have DN10:=LH ha10
    have Rr10:=LH (K10.out.row RR0.out (by omega))
    have Ra10:=LH (K10.out.row RA0.out (by omega))
    have GG10:=LH (GG0.out.keepP (w':=w10) (by omega) fun b hb h=>K10.out.block b hb (by
      rcases h with h | h
      · have:=GG0.out.own b h;omega
      · obtain⟨x1,x2,x3⟩:=h;omega))
    have M10:=LH (MR0.out.trans hm10)
    clear RR0 RA0 GG0 MR0
    clear hm10 ha10
    go_wp2_with fail
    obtain⟨w11,e11,Rp11,hz11,K11⟩:=boxed w10 49 #[.int .i64 n1.op,.int .i64 n1.n,.string n1.s,.string n1.t,.slice Ap n1.kids.length cp]
    have Rr11:=LH (K11.out.row Rr10.out (by omega))
    have Ra11:=LH (K11.out.row Ra10.out (by omega))
    have Dp11:=LH (DN10.out.keep fun b hb=>K11.out.kq hb (by omega))
    have GG11:=LH (GG10.out.keepP (w':=w11) (by omega) fun b hb h=>K11.out.block b hb (by
      rcases h with h | h
      · have:=GG10.out.own b h;omega
      · obtain⟨x1,x2,x3⟩:=h;omega))
    have M11:=LH (M10.out.chg K11.out (by omega) (by omega))
    clear Rr10 Ra10 DN10 GG10 M10
    rw [<- e11]
    clear e11
    refine(l3Take ts g L cl V cv s1 w11 (M11.out.cur HC.out) ⟨#[45,62]⟩).mono ?_
    rintro e w12 ⟨rfl,hm12⟩
    replace hm12:Mv ts g L cl V cv s1.vars (pTake ts [45,62] s1) w11 w12:=hm12
    have hz12:=hm12.size
    have K12:=LH hm12.bx
    have Rr12:=LH (K12.out.row Rr11.out (by omega))
    have Ra12:=LH (K12.out.row Ra11.out (by omega))
    have Rp12:=LH (K12.out.row Rp11.out (by omega))
    have Dp12:=LH (Dp11.out.keep fun b hb=>K12.out.kq hb (by omega))
    have GG12:=LH (GG11.out.keepP (w':=w12) (by omega) fun b hb h=>K12.out.block b hb (by
      rcases h with h | h
      · have:=GG11.out.own b h;omega
      · obtain⟨x1,x2,x3⟩:=h;omega))
    have M12:=LH (M11.out.trans hm12)
    clear Rr11 Ra11 Rp11 Dp11 GG11 M11
    clear hm12
    go_wp2_with fail
    refine(HE.out j (by omega) ts g L cl V cv (pTake ts [45,62] s1) w12 (M12.out.cur HC.out) n2 s2 HQ2.out).mono ?_
    rintro e w13 ⟨Ab,cb,rfl,ha13,hm13⟩
    have hz13:=hm13.size
    have K13:=LH hm13.bx
    have DN13:=LH ha13
    have Rr13:=LH (K13.out.row Rr12.out (by omega))
    have Ra13:=LH (K13.out.row Ra12.out (by omega))
    have Rp13:=LH (K13.out.row Rp12.out (by omega))
    have Dp13:=LH (Dp12.out.keep fun b hb=>K13.out.kq hb (by omega))
    have GG13:=LH (GG12.out.keepP (w':=w13) (by omega) fun b hb h=>K13.out.block b hb (by
      rcases h with h | h
      · have:=GG12.out.own b h;omega
      · obtain⟨x1,x2,x3⟩:=h;omega))
    have M13:=LH (M12.out.trans hm13)
    clear Rr12 Ra12 Rp12 Dp12 GG12 M12
    clear hm13 ha13
    go_upto_region 10 with (fail)
    obtain⟨w14,e14,Rb14,hz14,K14⟩:=boxed w13 49 #[.int .i64 n2.op,.int .i64 n2.n,.string n2.s,.string n2.t,.slice Ab n2.kids.length cb]
    have Rr14:=LH (K14.out.row Rr13.out (by omega))
    have Ra14:=LH (K14.out.row Ra13.out (by omega))
    have Rp14:=LH (K14.out.row Rp13.out (by omega))
    have Dp14:=LH (Dp13.out.keep fun b hb=>K14.out.kq hb (by omega))
    have Db14:=LH (DN13.out.keep fun b hb=>K14.out.kq hb (by omega))
    have GG14:=LH (GG13.out.keepP (w':=w14) (by omega) fun b hb h=>K14.out.block b hb (by
      rcases h with h | h
      · have:=GG13.out.own b h;omega
      · obtain⟨x1,x2,x3⟩:=h;omega))
    have M14:=LH (M13.out.chg K14.out (by omega) (by omega))
    clear Rr13 Ra13 Rp13 Dp13 DN13 GG13 M13
    rw [<- e14]
    clear e14
    refine wp_region_T (fun x=>x.cell? ⟨w8.heap.size,4,none⟩=some (.slice A acc.length c)/\(∀ i,x.cell? ⟨w10.heap.size,i,none⟩=(#[.int .i64 n1.op,.int .i64 n1.n,.string n1.s,.string n1.t,.slice Ap n1.kids.length cp]:Array Value)[i]?)/\(∀ i,x.cell? ⟨w13.heap.size,i,none⟩=(#[.int .i64 n2.op,.int .i64 n2.n,.string n2.s,.string n2.t,.slice Ab n2.kids.length cb]:Array Value)[i]?)) 9 (by kernel_rfl) ?_
    obtain⟨w15,e15⟩:∃ x,x=w14.drew:=⟨_,rfl⟩
    rw [<- e15]
    have hz15:w15.heap.size<=w14.heap.size/\w14.heap.size<=w15.heap.size:=by rw [e15];exact⟨Nat.le_refl _,Nat.le_refl _⟩
    have K15:=LH (show Bx w14.heap.size w14 w15 by rw [e15];exact Bx.of_below ((Below.refl _ _).drew) (Nat.le_refl _))
    clear e15
    have Rr15:=LH (K15.out.row Rr14.out (by omega))
    have Ra15:=LH (K15.out.row Ra14.out (by omega))
    have Rp15:=LH (K15.out.row Rp14.out (by omega))
    have Rb15:=LH (K15.out.row Rb14.out (by omega))
    have Dp15:=LH (Dp14.out.keep fun b hb=>K15.out.kq hb (by omega))
    have Db15:=LH (Db14.out.keep fun b hb=>K15.out.kq hb (by omega))
    have GG15:=LH (GG14.out.keepP (w':=w15) (by omega) fun b hb h=>K15.out.block b hb (by
      rcases h with h | h
      · have:=GG14.out.own b h;omega
      · obtain⟨x1,x2,x3⟩:=h;omega))
    have M15:=LH (M14.out.chg K15.out (by omega) (by omega))
    clear Rr14 Ra14 Rp14 Rb14 Dp14 Db14 GG14 M14
    have hS1:w15.cell? ⟨w8.heap.size,4,none⟩=some (.slice A acc.length c)/\(∀ i,w15.cell? ⟨w10.heap.size,i,none⟩=(#[.int .i64 n1.op,.int .i64 n1.n,.string n1.s,.string n1.t,.slice Ap n1.kids.length cp]:Array Value)[i]?)/\(∀ i,w15.cell? ⟨w13.heap.size,i,none⟩=(#[.int .i64 n2.op,.int .i64 n2.n,.string n2.s,.string n2.t,.slice Ab n2.kids.length cb]:Array Value)[i]?):=⟨Ra15.out.cell 4,fun i=>Rp15.out.cell i,fun i=>Rb15.out.cell i⟩
    refine wpAnyT_tk (i:=0) (oi:=_) (v:=?tv1) rfl (Or.inl ⟨by rfl,?th1⟩) hS1 ?_
    case th1=>(intro x hSx;(try dsimp only at hSx);go_simp;(try with_reducible rfl))
    try simp only [nA,nB,nC,Act.put,nD,nE,nF]
    refine wpAnyT_tk (i:=1) (oi:=_) (v:=?tv2) rfl (Or.inl ⟨by rfl,?th2⟩) hS1 ?_
    case th2=>(intro x hSx;(try dsimp only at hSx);go_simp;(try with_reducible rfl))
    try simp only [nA,nB,nC,Act.put,nD,nE,nF]
    refine wpAnyT_tk (i:=2) (oi:=_) (v:=?tv3) rfl (Or.inl ⟨by rfl,?th3⟩) hS1 ?_
    case th3=>(intro x hSx;(try dsimp only at hSx);go_simp;(try with_reducible rfl))
    try simp only [nA,nB,nC,Act.put,nD,nE,nF]
    refine wpAnyT_tk (i:=3) (oi:=_) (v:=?tv4) rfl (Or.inl ⟨by rfl,?th4⟩) hS1 ?_
    case th4=>(intro x hSx;(try dsimp only at hSx);go_simp;(try with_reducible rfl))
    try simp only [nA,nB,nC,Act.put,nD,nE,nF]
    refine wpAnyT_step (i:=4) (by kernel_rfl) rfl (fun K hK=>?_)
    try simp only [nA,nB,nC]
    go_simp
    obtain⟨w16,e16,Rrow16,hz16,K16⟩:=boxed w15 49 #[.int .i64 n1.op,.int .i64 n1.n,.string n1.s,.string n1.t,.slice Ap n1.kids.length cp,.int .i64 n2.op,.int .i64 n2.n,.string n2.s,.string n2.t,.slice Ab n2.kids.length cb]
    have Rr16:=LH (K16.out.row Rr15.out (by omega))
    have Ra16:=LH (K16.out.row Ra15.out (by omega))
    have Rp16:=LH (K16.out.row Rp15.out (by omega))
    have Rb16:=LH (K16.out.row Rb15.out (by omega))
    have Dp16:=LH (Dp15.out.keep fun b hb=>K16.out.kq hb (by omega))
    have Db16:=LH (Db15.out.keep fun b hb=>K16.out.kq hb (by omega))
    have GG16:=LH (GG15.out.keepP (w':=w16) (by omega) fun b hb h=>K16.out.block b hb (by
      rcases h with h | h
      · have:=GG15.out.own b h;omega
      · obtain⟨x1,x2,x3⟩:=h;omega))
    have M16:=LH (M15.out.chg K16.out (by omega) (by omega))
    clear Rr15 Ra15 Rp15 Rb15 Dp15 Db15 GG15 M15
    have SL16:=LH (show Sl w16 (fun b=>b<w16.heap.size/\wr.heap.size<=b/\b≠w8.heap.size/\b≠w.heap.size) 5 (some ⟨w15.heap.size,0,none⟩) 2 ([n1,n2].map GNode.toD) from Sl.ofRow Rrow16.out (rdC_cons (GNode.rd_mk (Dp16.out.keep (w':=w16) (S':=fun b=>b<w16.heap.size/\wr.heap.size<=b/\b≠w8.heap.size/\b≠w.heap.size) fun b hb=>⟨⟨by omega,by omega⟩,rfl⟩)) rfl (rdC_one1 (GNode.rd_mk (Db16.out.keep (w':=w16) (S':=fun b=>b<w16.heap.size/\wr.heap.size<=b/\b≠w8.heap.size/\b≠w.heap.size) fun b hb=>⟨⟨by omega,by omega⟩,rfl⟩)) rfl)) ⟨by omega,by omega⟩ (by simp) (by unfold maxLen;omega))
    rw [<- e16]
    clear e16
    have hS2:w16.cell? ⟨w8.heap.size,4,none⟩=some (.slice A acc.length c)/\(∀ i,w16.cell? ⟨w10.heap.size,i,none⟩=(#[.int .i64 n1.op,.int .i64 n1.n,.string n1.s,.string n1.t,.slice Ap n1.kids.length cp]:Array Value)[i]?)/\(∀ i,w16.cell? ⟨w13.heap.size,i,none⟩=(#[.int .i64 n2.op,.int .i64 n2.n,.string n2.s,.string n2.t,.slice Ab n2.kids.length cb]:Array Value)[i]?):=⟨Ra16.out.cell 4,fun i=>Rp16.out.cell i,fun i=>Rb16.out.cell i⟩
    refine hK.out _ _ hS2 (fun hS3=>?_)
    clear hK K hS1 hS2
    try simp only [nA,nB,nC,Act.put,nD,nE,nF]
    refine wpAnyT_step (i:=5) (by kernel_rfl) rfl (fun K hK=>?_)
    try simp only [nA,nB,nC]
    go_simp
    go_at_call 108
    refine(l3Node (fun b=>wr.heap.size<=b/\b≠w8.heap.size/\b≠w.heap.size) (8) [n1,n2] (some ⟨w15.heap.size,0,none⟩) 2 w16 SL16.out (by simp)).mono ?_
    rintro e w17 ⟨Am,cm,rfl,hG17,hb17⟩
    have hz17:=hb17.size
    have K17:=LH (Bx.of_below (g:=g) hb17 (Nat.le_refl _))
    have GN17:=LH hG17
    have Rr17:=LH (K17.out.row Rr16.out (by omega))
    have Ra17:=LH (K17.out.row Ra16.out (by omega))
    have Rp17:=LH (K17.out.row Rp16.out (by omega))
    have Rb17:=LH (K17.out.row Rb16.out (by omega))
    have GG17:=LH (GG16.out.keepP (w':=w17) (by omega) fun b hb h=>K17.out.block b hb (by
      rcases h with h | h
      · have:=GG16.out.own b h;omega
      · obtain⟨x1,x2,x3⟩:=h;omega))
    have M17:=LH (M16.out.below hb17)
    clear Rr16 Ra16 Rp16 Rb16 Rrow16 Dp16 Db16 GG16 M16
    clear hb17 hG17
    have DDm:=LH (ndOf (op:=8) GN17.out (fun b h=>by omega) (by decide))
    have hS4:w17.cell? ⟨w8.heap.size,4,none⟩=some (.slice A acc.length c)/\(∀ i,w17.cell? ⟨w10.heap.size,i,none⟩=(#[.int .i64 n1.op,.int .i64 n1.n,.string n1.s,.string n1.t,.slice Ap n1.kids.length cp]:Array Value)[i]?)/\(∀ i,w17.cell? ⟨w13.heap.size,i,none⟩=(#[.int .i64 n2.op,.int .i64 n2.n,.string n2.s,.string n2.t,.slice Ab n2.kids.length cb]:Array Value)[i]?):=⟨Ra17.out.cell 4,fun i=>Rp17.out.cell i,fun i=>Rb17.out.cell i⟩
    refine hK.out _ _ hS4 (fun hS5=>?_)
    clear hK K hS3 hS4
    try simp only [nA,nB,nC,Act.put,nD,nE,nF]
    refine wpAnyT_step (i:=6) (by kernel_rfl) rfl (fun K hK=>?_)
    try simp only [nA,nB,nC]
    go_simp
    obtain⟨w18,e18,Rrow18,hz18,K18⟩:=boxed w17 49 #[.int .i64 8,.int .i64 0,.string ⟨#[]⟩,.string ⟨#[]⟩,.slice Am 2 cm]
    have Rr18:=LH (K18.out.row Rr17.out (by omega))
    have Ra18:=LH (K18.out.row Ra17.out (by omega))
    have Rp18:=LH (K18.out.row Rp17.out (by omega))
    have Rb18:=LH (K18.out.row Rb17.out (by omega))
    have Dm18:=LH (DDm.out.keep fun b hb=>K18.out.kq hb (by omega))
    have GG18:=LH (GG17.out.keepP (w':=w18) (by omega) fun b hb h=>K18.out.block b hb (by
      rcases h with h | h
      · have:=GG17.out.own b h;omega
      · obtain⟨x1,x2,x3⟩:=h;omega))
    have M18:=LH (M17.out.chg K18.out (by omega) (by omega))
    clear Rr17 Ra17 Rp17 Rb17 DDm GG17 M17
    have SL18:=LH (show Sl w18 (fun b=>b<w18.heap.size/\(Value.slice A acc.length c).ownBlock≠some b/\w.heap.size<=b/\b≠w8.heap.size/\b≠w.heap.size) 5 (some ⟨w17.heap.size,0,none⟩) 1 ([(nd 8 [n1,n2])].map GNode.toD) from Sl.ofRow Rrow18.out (rdC_one1 (GNode.rd_mk (Dm18.out.keep (w':=w18) (S':=fun b=>b<w18.heap.size/\(Value.slice A acc.length c).ownBlock≠some b/\w.heap.size<=b/\b≠w8.heap.size/\b≠w.heap.size) fun b hb=>⟨⟨by omega,fun e=>by have h3:=(HOW.out b e).2;omega,by omega⟩,rfl⟩)) rfl) ⟨by omega,fun e=>by have h3:=(HOW.out _ e).2;omega,by omega⟩ (by simp) (by unfold maxLen;omega))
    rw [<- e18]
    clear e18
    have hla18:=Ra18.out.lt
    have hS6:w18.cell? ⟨w8.heap.size,4,none⟩=some (.slice A acc.length c)/\(∀ i,w18.cell? ⟨w10.heap.size,i,none⟩=(#[.int .i64 n1.op,.int .i64 n1.n,.string n1.s,.string n1.t,.slice Ap n1.kids.length cp]:Array Value)[i]?)/\(∀ i,w18.cell? ⟨w13.heap.size,i,none⟩=(#[.int .i64 n2.op,.int .i64 n2.n,.string n2.s,.string n2.t,.slice Ab n2.kids.length cb]:Array Value)[i]?):=⟨Ra18.out.cell 4,fun i=>Rp18.out.cell i,fun i=>Rb18.out.cell i⟩
    refine hK.out _ _ hS6 (fun hS7=>?_)
    clear hK K hS5 hS6
    try simp only [nA,nB,nC,Act.put,nD,nE,nF]
    refine wpAnyT_step (i:=7) (by kernel_rfl) rfl (fun K hK=>?_)
    refine step_append_X w18 rfl (.tmp 30) (.tmp 35) 25 rfl 49 zNd 5 72 Tryz.underlying25 (by kernel_rfl) rfl (by omega) (w7.heap.size) (.slice A acc.length c) acc.length _ GG18.out (some ⟨w17.heap.size,0,none⟩) 1 1 _ rfl SL18.out (by omega) (by unfold maxLen;omega) (by omega) rfl rfl ?_
    clear hla18
    intro A19 c19 w19 hG19 hGr19
    obtain⟨acc19,hac19⟩:∃ x,x=acc++[(nd 8 [n1,n2])]:=⟨_,rfl⟩
    have HAC19:=LH hac19
    have hal19:acc19.length=acc.length+1:=by rw [hac19];simp
    have GN19:=LH (show Grx (fun b=>w.heap.size<=b/\b≠w8.heap.size/\b≠w.heap.size) w19 (w7.heap.size) 49 5 (.slice A19 acc19.length c19) acc19.length (acc19.map GNode.toD) from by rw [hal19,hac19];simpa using hG19)
    rw [<- hal19]
    have HAL19:=LH hal19
    clear hal19 hac19
    have NON19:=LH (show(Value.slice A19 acc19.length c19).ownBlock≠some w8.heap.size by rw [HAL19.out];exact hGr19.ne NON0.out (by omega))
    obtain⟨q19,hq19,hqn19,hk19⟩:=hGr19.bxn (B:=w7.heap.size) (fun q hq=>HOW.out q hq) (by omega) NON0.out (by omega)
    have K19:=LH hk19
    clear hG19 hGr19 hk19
    have Rr19:=LH (K19.out.row Rr18.out (by omega))
    have Ra19:=LH (K19.out.row Ra18.out (by omega))
    have Rp19:=LH (K19.out.row Rp18.out (by omega))
    have Rb19:=LH (K19.out.row Rb18.out (by omega))
    have M19:=LH (M18.out.chg K19.out (by omega) (by omega))
    clear Rr18 Ra18 Rp18 Rb18 M18
    clear GG18
    have hca19:=fun i=>Ra19.out.cell i
    have hfa19:=fun i=>Ra19.out.frozen i
    have hS8:w19.cell? ⟨w8.heap.size,4,none⟩=some (.slice A acc.length c)/\(∀ i,w19.cell? ⟨w10.heap.size,i,none⟩=(#[.int .i64 n1.op,.int .i64 n1.n,.string n1.s,.string n1.t,.slice Ap n1.kids.length cp]:Array Value)[i]?)/\(∀ i,w19.cell? ⟨w13.heap.size,i,none⟩=(#[.int .i64 n2.op,.int .i64 n2.n,.string n2.s,.string n2.t,.slice Ab n2.kids.length cb]:Array Value)[i]?):=⟨Ra19.out.cell 4,fun i=>Rp19.out.cell i,fun i=>Rb19.out.cell i⟩
    refine hK.out _ _ hS8 (fun hS9=>?_)
    clear hK K hS7 hS8
    try simp only [nA,nB,nC,Act.put,nD,nE,nF]
    refine wpAnyT_tk (i:=8) (oi:=_) (v:=?tv5) rfl (Or.inl ⟨by rfl,?th5⟩) hS9 ?_
    case th5=>(intro x hSx;(try dsimp only at hSx);go_simp;(try with_reducible rfl))
    try simp only [nA,nB,nC,Act.put,nD,nE,nF]
    refine wpAnyT_last (by kernel_rfl) (by kernel_rfl) rfl (fun K hK=>?_)
    try simp only [nA,nB,nC]
    go_simp
    refine hK.out _ _ ?_
    clear hK K
    try simp only [nA,nB,nC,Act.put,nD,nE,nF]
    clear hS9 HOW
    clear hca19 hfa19
    obtain⟨w20,e20,RO20,hz20,K20⟩:=storedF Ra19.out 4 (.slice A19 acc19.length c19)
    have RN20:=LH (show Row w20 w8.heap.size 49 #[.int .i64 7,.int .i64 0,.string ⟨#[]⟩,.string ⟨#[]⟩,.slice A19 acc19.length c19] from RO20.out)
    clear RO20
    have Rr20:=LH (K20.out.row Rr19.out (by omega))
    have GG20:=LH (GN19.out.keepP (w':=w20) (by omega) fun b hb h=>K20.out.block b hb (by
      rcases h with h | h
      · have:=GN19.out.own b h;have hbn:b≠w8.heap.size:=fun e=>NON19.out (by rw [<- e];exact h);omega
      · obtain⟨x1,x2,x3⟩:=h;omega))
    have M20:=LH (M19.out.chg K20.out (by omega) (by omega))
    clear Rr19 Rp19 Rb19 GN19 M19
    clear Ra19
    rw [<- e20]
    clear e20
    go_wp2_with fail
    refine(l3Sign ts g L cl V cv s2 w20 (M20.out.cur HC.out) ⟨#[59]⟩).mono ?_
    rintro e w21 ⟨rfl,hb21⟩
    have hz21:=hb21.size
    have K21:=LH (Bx.of_below (g:=g) hb21 (Nat.le_refl _))
    have Rr21:=LH (K21.out.row Rr20.out (by omega))
    have Ra21:=LH (K21.out.row RN20.out (by omega))
    have GG21:=LH (GG20.out.keepP (w':=w21) (by omega) fun b hb h=>K21.out.block b hb (by
      rcases h with h | h
      · have:=GG20.out.own b h;omega
      · obtain⟨x1,x2,x3⟩:=h;omega))
    have M21:=LH (M20.out.below hb21)
    clear Rr20 RN20 GG20 M20
    clear hb21
    cases hs:pSign ts [59] s2
    ·
     have hr:=HR.out
     simp [hs] at hr
     obtain⟨hka,rfl⟩:=hr
     rw [<- HAC19.out] at hka
     obtain rfl:=hka
     go_wp2_with fail
     refine(l3Take ts g L cl V cv s2 w21 (M21.out.cur HC.out) ⟨#[125]⟩).mono ?_
     rintro e w22 ⟨rfl,hm22⟩
     replace hm22:Mv ts g L cl V cv s2.vars (pTake ts [125] s2) w21 w22:=hm22
     have hz22:=hm22.size
     have K22:=LH hm22.bx
     have Rr22:=LH (K22.out.row Rr21.out (by omega))
     have Ra22:=LH (K22.out.row Ra21.out (by omega))
     have GG22:=LH (GG21.out.keepP (w':=w22) (by omega) fun b hb h=>K22.out.block b hb (by
       rcases h with h | h
       · have:=GG21.out.own b h;omega
       · obtain⟨x1,x2,x3⟩:=h;omega))
     have M22:=LH (M21.out.trans hm22)
     clear Rr21 Ra21 GG21 M21
     clear hm22
     have hcr22:=fun i=>Rr22.out.cell i
     have hfr22:=fun i=>Rr22.out.frozen i
     have hca22:=fun i=>Ra22.out.cell i
     go_wp2_with fail
     clear hcr22 hfr22 hca22
     obtain⟨w23,e23,RN23,hz23,K23⟩:=stored5 Rr22.out (.int .i64 7) (.int .i64 0) (.string ⟨#[]⟩) (.string ⟨#[]⟩) (.slice A19 acc19.length c19)
     have GG23:=LH (GG22.out.keepP (w':=w23) (by omega) fun b hb h=>K23.out.block b hb (by
       rcases h with h | h
       · have:=GG22.out.own b h;omega
       · obtain⟨x1,x2,x3⟩:=h;omega))
     have M23:=LH (M22.out.chg K23.out (by omega) (by omega))
     clear Ra22 GG22 M22
     clear Rr22
     rw [<- e23]
     clear e23
     have hcr23:=fun i=>RN23.out.cell i
     have SX:=LH (slx_of_grx GG23.out NON19.out (fun b h hne=>⟨by omega,hne,by omega⟩))
     obtain rfl:=HNN.out
     obtain rfl:=HST.out
     show BP _ _
     rw [HBP.out]
     refine bodyPost_ret (v:=.agg #[.int .i64 7,.int .i64 0,.string ⟨#[]⟩,.string ⟨#[]⟩,.slice A19 acc19.length c19]) (by simp [results,Tryz.results107,go_sem,hcr23]) rfl ?_
     exact⟨A19,c19,rfl,⟨show(Lit.int .i64 7).wf=true by decide,show(Lit.int .i64 0).wf=true by decide,empty_le,empty_le,SX.out.keep fun b hb=>⟨⟨by have h1:=hb.1;omega,by have h1:=hb.1;omega⟩,rfl⟩⟩,M23.out⟩
    have hr:=HR.out
    simp [hs] at hr
    clear HR
    have HR:=LH hr
    clear hr
    go_wp2_with fail
    refine(l3Next ts g L cl V cv s2 w21 (M21.out.cur HC.out)).mono ?_
    rintro e w22 ⟨rfl,hm22⟩
    replace hm22:Mv ts g L cl V cv s2.vars (pNext ts s2) w21 w22:=hm22
    have hz22:=hm22.size
    have K22:=LH hm22.bx
    have Rr22:=LH (K22.out.row Rr21.out (by omega))
    have Ra22:=LH (K22.out.row Ra21.out (by omega))
    have GG22:=LH (GG21.out.keepP (w':=w22) (by omega) fun b hb h=>K22.out.block b hb (by
      rcases h with h | h
      · have:=GG21.out.own b h;omega
      · obtain⟨x1,x2,x3⟩:=h;omega))
    have M22:=LH (M21.out.trans hm22)
    clear Rr21 Ra21 GG21 M21
    clear hm22
    go_wp2_with fail
    have hall:=HAL19.out
    have HN:I j w22:=by
     rw [HI.out]
     exact⟨acc19,pNext ts s2,A19,c19,(by rw [HAC19.out];exact HR.out),by omega,by omega,Ra22.out,Rr22.out,GG22.out,M22.out,Ra22.out.lt,NON19.out⟩
    go_roundw
    case rel=>first | exact⟨j,HN⟩ | ((repeat apply Exists.intro);exact⟨⟨j,HN⟩,rfl⟩)
    case measure=>rw [HJ.out];exact Nat.lt_succ_of_le (leastK_le (I:=fun j=>I j w22) HN)
   ·
    have d1:decide (s.bad<0)=false:=decide_eq_false hbs
    simp [pCaseAlts,hbs] at hx
    obtain⟨rfl,rfl⟩:=hx
    clear hbs
    go_wp2_with fail
    refine(l3Take ts g L cl V cv s wr (MR0.out.cur HC.out) ⟨#[125]⟩).mono ?_
    rintro e w10 ⟨rfl,hm10⟩
    replace hm10:Mv ts g L cl V cv s.vars (pTake ts [125] s) wr w10:=hm10
    have hz10:=hm10.size
    have K10:=LH hm10.bx
    have Rr10:=LH (K10.out.row RR0.out (by omega))
    have Ra10:=LH (K10.out.row RA0.out (by omega))
    have GG10:=LH (GG0.out.keepP (w':=w10) (by omega) fun b hb h=>K10.out.block b hb (by
      rcases h with h | h
      · have:=GG0.out.own b h;omega
      · obtain⟨x1,x2,x3⟩:=h;omega))
    have M10:=LH (MR0.out.trans hm10)
    clear RR0 RA0 GG0 MR0
    clear hm10
    have hcr10:=fun i=>Rr10.out.cell i
    have hfr10:=fun i=>Rr10.out.frozen i
    have hca10:=fun i=>Ra10.out.cell i
    go_wp2_with fail
    clear hcr10 hfr10 hca10
    obtain⟨w11,e11,RN11,hz11,K11⟩:=stored5 Rr10.out (.int .i64 7) (.int .i64 0) (.string ⟨#[]⟩) (.string ⟨#[]⟩) (.slice A acc.length c)
    have GG11:=LH (GG10.out.keepP (w':=w11) (by omega) fun b hb h=>K11.out.block b hb (by
      rcases h with h | h
      · have:=GG10.out.own b h;omega
      · obtain⟨x1,x2,x3⟩:=h;omega))
    have M11:=LH (M10.out.chg K11.out (by omega) (by omega))
    clear Ra10 GG10 M10
    clear Rr10
    rw [<- e11]
    clear e11
    have hcr11:=fun i=>RN11.out.cell i
    have SX:=LH (slx_of_grx GG11.out NON0.out (fun b h hne=>⟨by omega,hne,by omega⟩))
    obtain rfl:=HNN.out
    obtain rfl:=HST.out
    show BP _ _
    rw [HBP.out]
    refine bodyPost_ret (v:=.agg #[.int .i64 7,.int .i64 0,.string ⟨#[]⟩,.string ⟨#[]⟩,.slice A acc.length c]) (by simp [results,Tryz.results107,go_sem,hcr11]) rfl ?_
    exact⟨A,c,rfl,⟨show(Lit.int .i64 7).wf=true by decide,show(Lit.int .i64 0).wf=true by decide,empty_le,empty_le,SX.out.keep fun b hb=>⟨⟨by have h1:=hb.1;omega,by have h1:=hb.1;omega⟩,rfl⟩⟩,M11.out⟩
theorem l3E (k:Nat) (hE:Ok1 75 pE k) (hC:Ok1 109 pCompare k) (hL:Ok1 105 pLet k) (hR:Ok1 106 pRec k) (hK:Ok1 107 pCase k):Ok1 75 pE (k+1):=by
 intro ts g L cl V cv st w h n st' hp
 rw [pE_succ] at hp
 have HE:=LH hE
 have HCM:=LH hC
 have HL:=LH hL
 have HRC:=LH hR
 have HK:=LH hK
 clear hE hC hL hR hK
 have HC:=LH h
 have M0:=LH h.mv
 have hgl:=h.row.lt
 clear h
 go_enter Tryz.func75,Tryz.ntmps75
 refine wp_hide (fun BP hBP=>?_)
 have HBP:=LH hBP
 clear hBP
 go_wp2_with fail
 obtain⟨w1,e1,Rr1,hz1,K1⟩:=boxed w 49 #[.int .i64 0,.int .i64 0,.string ⟨#[]⟩,.string ⟨#[]⟩,.slice none 0 0]
 have M1:=LH (M0.out.chg K1.out (by omega) (by omega))
 rw [<- e1]
 clear e1
 refine(l3Is ts g L cl V cv st w1 (M1.out.cur HC.out) ⟨#[102,117,110]⟩).mono ?_
 rintro e w2 ⟨rfl,hb2⟩
 have hz2:=hb2.size
 have K2:=LH (Bx.of_below (g:=g) hb2 (Nat.le_refl _))
 have Rr2:=LH (K2.out.row Rr1.out (by omega))
 have M2:=LH (M1.out.below hb2)
 clear Rr1 M1
 clear hb2
 cases h1:pIs ts [102,117,110] st
 ·
  simp only [h1,Bool.false_eq_true,if_false] at hp
  go_wp2_with fail
  refine(l3Is ts g L cl V cv st w2 (M2.out.cur HC.out) ⟨#[108,101,116]⟩).mono ?_
  rintro e w3 ⟨rfl,hb3⟩
  have hz3:=hb3.size
  have K3:=LH (Bx.of_below (g:=g) hb3 (Nat.le_refl _))
  have Rr3:=LH (K3.out.row Rr2.out (by omega))
  have M3:=LH (M2.out.below hb3)
  clear Rr2 M2
  clear hb3
  cases h2:pIs ts [108,101,116] st
  ·
   simp only [h2,Bool.false_eq_true,if_false] at hp
   go_wp2_with fail
   refine(l3Is ts g L cl V cv st w3 (M3.out.cur HC.out) ⟨#[114,101,99]⟩).mono ?_
   rintro e w4 ⟨rfl,hb4⟩
   have hz4:=hb4.size
   have K4:=LH (Bx.of_below (g:=g) hb4 (Nat.le_refl _))
   have Rr4:=LH (K4.out.row Rr3.out (by omega))
   have M4:=LH (M3.out.below hb4)
   clear Rr3 M3
   clear hb4
   cases h3:pIs ts [114,101,99] st
   ·
    simp only [h3,Bool.false_eq_true,if_false] at hp
    go_wp2_with fail
    refine(l3Is ts g L cl V cv st w4 (M4.out.cur HC.out) ⟨#[99,97,115,101]⟩).mono ?_
    rintro e w5 ⟨rfl,hb5⟩
    have hz5:=hb5.size
    have K5:=LH (Bx.of_below (g:=g) hb5 (Nat.le_refl _))
    have Rr5:=LH (K5.out.row Rr4.out (by omega))
    have M5:=LH (M4.out.below hb5)
    clear Rr4 M4
    clear hb5
    cases h4:pIs ts [99,97,115,101] st
    ·
     simp only [h4,Bool.false_eq_true,if_false] at hp
     go_wp2_with fail
     refine(l3Is ts g L cl V cv st w5 (M5.out.cur HC.out) ⟨#[105,102]⟩).mono ?_
     rintro e w6 ⟨rfl,hb6⟩
     have hz6:=hb6.size
     have K6:=LH (Bx.of_below (g:=g) hb6 (Nat.le_refl _))
     have Rr6:=LH (K6.out.row Rr5.out (by omega))
     have M6:=LH (M5.out.below hb6)
     clear Rr5 M5
     clear hb6
     cases h5:pIs ts [105,102] st
     ·
      simp only [h5,Bool.false_eq_true,if_false] at hp
      go_wp2_with fail
      refine(HCM.out ts g L cl V cv st w6 (M6.out.cur HC.out) n st' hp).mono ?_
      rintro e w7 ⟨A0,c0,rfl,ha7,hm7⟩
      have K7:=LH hm7.bx
      have DN7:=LH ha7
      have Rr7:=LH (K7.out.row Rr6.out (by omega))
      have M7:=LH (M6.out.trans hm7)
      clear Rr6 M6
      clear hm7 ha7
      have hcr7:=fun i=>Rr7.out.cell i
      have hfr7:=fun i=>Rr7.out.frozen i
      clear hp
      go_wp2_with fail
      clear hcr7
      obtain⟨w8,e8,RN8,hz8,K8⟩:=stored5 Rr7.out (.int .i64 n.op) (.int .i64 n.n) (.string n.s) (.string n.t) (.slice A0 n.kids.length c0)
      have D08:=LH (DN7.out.keep fun b hb=>K8.out.kq hb (by omega))
      have M8:=LH (M7.out.chg K8.out (by omega) (by omega))
      clear DN7 M7
      clear Rr7
      rw [<- e8]
      clear e8
      have hcr8:=fun i=>RN8.out.cell i
      show BP _ _
      rw [HBP.out]
      refine bodyPost_ret (v:=.agg #[.int .i64 n.op,.int .i64 n.n,.string n.s,.string n.t,.slice A0 n.kids.length c0]) (by simp [results,Tryz.results75,go_sem,hcr8]) rfl ?_
      exact⟨A0,c0,rfl,D08.out.keep fun b hb=>⟨⟨by omega,by omega⟩,rfl⟩,M8.out⟩
     ·
      simp [h5,Option.bind_eq_some_iff] at hp
      obtain⟨n1,s1,hq1,n2,s2,hq2,n3,hq3,hn⟩:=hp
      have HNN:=LH hn
      have HQ1:=LH hq1
      have HQ2:=LH hq2
      have HQ3:=LH hq3
      clear hn hq1 hq2 hq3
      go_wp2_with fail
      refine(l3Next ts g L cl V cv st w6 (M6.out.cur HC.out)).mono ?_
      rintro e w7 ⟨rfl,hm7⟩
      replace hm7:Mv ts g L cl V cv st.vars (pNext ts st) w6 w7:=hm7
      have hz7:=hm7.size
      have K7:=LH hm7.bx
      have Rr7:=LH (K7.out.row Rr6.out (by omega))
      have M7:=LH (M6.out.trans hm7)
      clear Rr6 M6
      clear hm7
      go_wp2_with fail
      refine(HE.out ts g L cl V cv (pNext ts st) w7 (M7.out.cur HC.out) n1 s1 HQ1.out).mono ?_
      rintro e w8 ⟨A1,c1,rfl,ha8,hm8⟩
      have hz8:=hm8.size
      have K8:=LH hm8.bx
      have DN8:=LH ha8
      have Rr8:=LH (K8.out.row Rr7.out (by omega))
      have M8:=LH (M7.out.trans hm8)
      clear Rr7 M7
      clear hm8 ha8
      go_wp2_with fail
      obtain⟨w9,e9,Ra9,hz9,K9⟩:=boxed w8 49 #[.int .i64 n1.op,.int .i64 n1.n,.string n1.s,.string n1.t,.slice A1 n1.kids.length c1]
      have Rr9:=LH (K9.out.row Rr8.out (by omega))
      have D19:=LH (DN8.out.keep fun b hb=>K9.out.kq hb (by omega))
      have M9:=LH (M8.out.chg K9.out (by omega) (by omega))
      clear Rr8 DN8 M8
      rw [<- e9]
      clear e9
      refine(l3Word ts g L cl V cv s1 w9 (M9.out.cur HC.out) ⟨#[116,104,101,110]⟩).mono ?_
      rintro e w10 ⟨rfl,hm10⟩
      replace hm10:Mv ts g L cl V cv s1.vars (pWord ts [116,104,101,110] s1) w9 w10:=hm10
      have hz10:=hm10.size
      have K10:=LH hm10.bx
      have Rr10:=LH (K10.out.row Rr9.out (by omega))
      have Ra10:=LH (K10.out.row Ra9.out (by omega))
      have D110:=LH (D19.out.keep fun b hb=>K10.out.kq hb (by omega))
      have M10:=LH (M9.out.trans hm10)
      clear Rr9 Ra9 D19 M9
      clear hm10
      go_wp2_with fail
      refine(HE.out ts g L cl V cv (pWord ts [116,104,101,110] s1) w10 (M10.out.cur HC.out) n2 s2 HQ2.out).mono ?_
      rintro e w11 ⟨A2,c2,rfl,ha11,hm11⟩
      have hz11:=hm11.size
      have K11:=LH hm11.bx
      have DN11:=LH ha11
      have Rr11:=LH (K11.out.row Rr10.out (by omega))
      have Ra11:=LH (K11.out.row Ra10.out (by omega))
      have D111:=LH (D110.out.keep fun b hb=>K11.out.kq hb (by omega))
      have M11:=LH (M10.out.trans hm11)
      clear Rr10 Ra10 D110 M10
      clear hm11 ha11
      go_wp2_with fail
      obtain⟨w12,e12,Rb12,hz12,K12⟩:=boxed w11 49 #[.int .i64 n2.op,.int .i64 n2.n,.string n2.s,.string n2.t,.slice A2 n2.kids.length c2]
      have Rr12:=LH (K12.out.row Rr11.out (by omega))
      have Ra12:=LH (K12.out.row Ra11.out (by omega))
      have D112:=LH (D111.out.keep fun b hb=>K12.out.kq hb (by omega))
      have D212:=LH (DN11.out.keep fun b hb=>K12.out.kq hb (by omega))
      have M12:=LH (M11.out.chg K12.out (by omega) (by omega))
      clear Rr11 Ra11 D111 DN11 M11
      rw [<- e12]
      clear e12
      refine(l3Word ts g L cl V cv s2 w12 (M12.out.cur HC.out) ⟨#[101,108,115,101]⟩).mono ?_
      rintro e w13 ⟨rfl,hm13⟩
      replace hm13:Mv ts g L cl V cv s2.vars (pWord ts [101,108,115,101] s2) w12 w13:=hm13
      have hz13:=hm13.size
      have K13:=LH hm13.bx
      have Rr13:=LH (K13.out.row Rr12.out (by omega))
      have Ra13:=LH (K13.out.row Ra12.out (by omega))
      have Rb13:=LH (K13.out.row Rb12.out (by omega))
      have D113:=LH (D112.out.keep fun b hb=>K13.out.kq hb (by omega))
      have D213:=LH (D212.out.keep fun b hb=>K13.out.kq hb (by omega))
      have M13:=LH (M12.out.trans hm13)
      clear Rr12 Ra12 Rb12 D112 D212 M12
      clear hm13
      go_wp2_with fail
      refine(HE.out ts g L cl V cv (pWord ts [101,108,115,101] s2) w13 (M13.out.cur HC.out) n3 st' HQ3.out).mono ?_
      rintro e w14 ⟨A3,c3,rfl,ha14,hm14⟩
      have hz14:=hm14.size
      have K14:=LH hm14.bx
      have DN14:=LH ha14
      have Rr14:=LH (K14.out.row Rr13.out (by omega))
      have Ra14:=LH (K14.out.row Ra13.out (by omega))
      have Rb14:=LH (K14.out.row Rb13.out (by omega))
      have D114:=LH (D113.out.keep fun b hb=>K14.out.kq hb (by omega))
      have D214:=LH (D213.out.keep fun b hb=>K14.out.kq hb (by omega))
      have M14:=LH (M13.out.trans hm14)
      clear Rr13 Ra13 Rb13 D113 D213 M13
      clear hm14 ha14
      have hca14:=fun i=>Ra14.out.cell i
      have hla14:=Ra14.out.lt
      have hcb14:=fun i=>Rb14.out.cell i
      have hlb14:=Rb14.out.lt
      go_wp2_with fail
      clear hca14 hla14 hcb14 hlb14
      obtain⟨w15,e15,Rd15,hz15,K15⟩:=boxed w14 49 #[.int .i64 n3.op,.int .i64 n3.n,.string n3.s,.string n3.t,.slice A3 n3.kids.length c3]
      have Rr15:=LH (K15.out.row Rr14.out (by omega))
      have D115:=LH (D114.out.keep fun b hb=>K15.out.kq hb (by omega))
      have D215:=LH (D214.out.keep fun b hb=>K15.out.kq hb (by omega))
      have D315:=LH (DN14.out.keep fun b hb=>K15.out.kq hb (by omega))
      have M15:=LH (M14.out.chg K15.out (by omega) (by omega))
      clear Rr14 Ra14 Rb14 D114 D214 DN14 M14
      obtain⟨w16,e16,Rrow16,hz16,K16⟩:=boxed w15 49 #[.int .i64 n1.op,.int .i64 n1.n,.string n1.s,.string n1.t,.slice A1 n1.kids.length c1,.int .i64 n2.op,.int .i64 n2.n,.string n2.s,.string n2.t,.slice A2 n2.kids.length c2,.int .i64 n3.op,.int .i64 n3.n,.string n3.s,.string n3.t,.slice A3 n3.kids.length c3]
      have hy16:w15.heap.size=(w14.heap.size+1):=by omega
      rw [hy16] at Rrow16 K16
      have Rr16:=LH (K16.out.row Rr15.out (by omega))
      have D116:=LH (D115.out.keep fun b hb=>K16.out.kq hb (by omega))
      have D216:=LH (D215.out.keep fun b hb=>K16.out.kq hb (by omega))
      have D316:=LH (D315.out.keep fun b hb=>K16.out.kq hb (by omega))
      have M16:=LH (M15.out.chg K16.out (by omega) (by omega))
      clear Rr15 Rd15 D115 D215 D315 M15
      have SL16:=LH (show Sl w16 (fun b=>b<w16.heap.size/\w.heap.size<=b/\b≠w.heap.size) 5 (some ⟨(w14.heap.size+1),0,none⟩) 3 ([n1,n2,n3].map GNode.toD) from Sl.ofRow Rrow16.out (rdC_cons (GNode.rd_mk (D116.out.keep (w':=w16) (S':=fun b=>b<w16.heap.size/\w.heap.size<=b/\b≠w.heap.size) fun b hb=>⟨⟨by omega,by omega⟩,rfl⟩)) rfl (rdC_cons (GNode.rd_mk (D216.out.keep (w':=w16) (S':=fun b=>b<w16.heap.size/\w.heap.size<=b/\b≠w.heap.size) fun b hb=>⟨⟨by omega,by omega⟩,rfl⟩)) rfl (rdC_one1 (GNode.rd_mk (D316.out.keep (w':=w16) (S':=fun b=>b<w16.heap.size/\w.heap.size<=b/\b≠w.heap.size) fun b hb=>⟨⟨by omega,by omega⟩,rfl⟩)) rfl))) ⟨by omega,by omega⟩ (by simp) (by unfold maxLen;omega))
      rw [<- e15,<- e16]
      clear e15 e16
      refine(l3Node (fun b=>w.heap.size<=b/\b≠w.heap.size) (9) [n1,n2,n3] (some ⟨(w14.heap.size+1),0,none⟩) 3 w16 SL16.out (by simp)).mono ?_
      rintro e w17 ⟨A4,c4,rfl,hG17,hb17⟩
      have K17:=LH (Bx.of_below (g:=g) hb17 (Nat.le_refl _))
      have GN17:=LH hG17
      have Rr17:=LH (K17.out.row Rr16.out (by omega))
      have M17:=LH (M16.out.below hb17)
      clear Rr16 Rrow16 D116 D216 D316 M16
      clear hb17 hG17
      have hcr17:=fun i=>Rr17.out.cell i
      have hfr17:=fun i=>Rr17.out.frozen i
      have DD4:=LH (ndOf (op:=9) GN17.out (fun b h=>by omega) (by decide))
      go_wp2_with fail
      clear hcr17 hfr17
      obtain⟨w18,e18,RN18,hz18,K18⟩:=stored5 Rr17.out (.int .i64 9) (.int .i64 0) (.string ⟨#[]⟩) (.string ⟨#[]⟩) (.slice A4 3 c4)
      have D418:=LH (DD4.out.keep fun b hb=>K18.out.kq hb (by have h2:=hb.2;omega))
      have M18:=LH (M17.out.chg K18.out (by omega) (by omega))
      clear DD4 M17
      clear Rr17
      rw [<- e18]
      clear e18
      have hcr18:=fun i=>RN18.out.cell i
      obtain rfl:=HNN.out
      show BP _ _
      rw [HBP.out]
      refine bodyPost_ret (v:=.agg #[.int .i64 9,.int .i64 0,.string ⟨#[]⟩,.string ⟨#[]⟩,.slice A4 3 c4]) (by simp [results,Tryz.results75,go_sem,hcr18]) rfl ?_
      exact⟨A4,c4,rfl,D418.out.keep fun b hb=>⟨⟨by omega,by omega⟩,rfl⟩,M18.out⟩
    ·
     simp [h4] at hp
     go_wp2_with fail
     refine(HK.out ts g L cl V cv st w5 (M5.out.cur HC.out) n st' hp).mono ?_
     rintro e w6 ⟨A0,c0,rfl,ha6,hm6⟩
     have K6:=LH hm6.bx
     have DN6:=LH ha6
     have Rr6:=LH (K6.out.row Rr5.out (by omega))
     have M6:=LH (M5.out.trans hm6)
     clear Rr5 M5
     clear hm6 ha6
     have hcr6:=fun i=>Rr6.out.cell i
     have hfr6:=fun i=>Rr6.out.frozen i
     clear hp
     go_wp2_with fail
     clear hcr6
     obtain⟨w7,e7,RN7,hz7,K7⟩:=stored5 Rr6.out (.int .i64 n.op) (.int .i64 n.n) (.string n.s) (.string n.t) (.slice A0 n.kids.length c0)
     have D07:=LH (DN6.out.keep fun b hb=>K7.out.kq hb (by omega))
     have M7:=LH (M6.out.chg K7.out (by omega) (by omega))
     clear DN6 M6
     clear Rr6
     rw [<- e7]
     clear e7
     have hcr7:=fun i=>RN7.out.cell i
     show BP _ _
     rw [HBP.out]
     refine bodyPost_ret (v:=.agg #[.int .i64 n.op,.int .i64 n.n,.string n.s,.string n.t,.slice A0 n.kids.length c0]) (by simp [results,Tryz.results75,go_sem,hcr7]) rfl ?_
     exact⟨A0,c0,rfl,D07.out.keep fun b hb=>⟨⟨by omega,by omega⟩,rfl⟩,M7.out⟩
   ·
    simp [h3] at hp
    go_wp2_with fail
    refine(HRC.out ts g L cl V cv st w4 (M4.out.cur HC.out) n st' hp).mono ?_
    rintro e w5 ⟨A0,c0,rfl,ha5,hm5⟩
    have K5:=LH hm5.bx
    have DN5:=LH ha5
    have Rr5:=LH (K5.out.row Rr4.out (by omega))
    have M5:=LH (M4.out.trans hm5)
    clear Rr4 M4
    clear hm5 ha5
    have hcr5:=fun i=>Rr5.out.cell i
    have hfr5:=fun i=>Rr5.out.frozen i
    clear hp
    go_wp2_with fail
    clear hcr5
    obtain⟨w6,e6,RN6,hz6,K6⟩:=stored5 Rr5.out (.int .i64 n.op) (.int .i64 n.n) (.string n.s) (.string n.t) (.slice A0 n.kids.length c0)
    have D06:=LH (DN5.out.keep fun b hb=>K6.out.kq hb (by omega))
    have M6:=LH (M5.out.chg K6.out (by omega) (by omega))
    clear DN5 M5
    clear Rr5
    rw [<- e6]
    clear e6
    have hcr6:=fun i=>RN6.out.cell i
    show BP _ _
    rw [HBP.out]
    refine bodyPost_ret (v:=.agg #[.int .i64 n.op,.int .i64 n.n,.string n.s,.string n.t,.slice A0 n.kids.length c0]) (by simp [results,Tryz.results75,go_sem,hcr6]) rfl ?_
    exact⟨A0,c0,rfl,D06.out.keep fun b hb=>⟨⟨by omega,by omega⟩,rfl⟩,M6.out⟩
  ·
   simp [h2] at hp
   go_wp2_with fail
   refine(HL.out ts g L cl V cv st w3 (M3.out.cur HC.out) n st' hp).mono ?_
   rintro e w4 ⟨A0,c0,rfl,ha4,hm4⟩
   have K4:=LH hm4.bx
   have DN4:=LH ha4
   have Rr4:=LH (K4.out.row Rr3.out (by omega))
   have M4:=LH (M3.out.trans hm4)
   clear Rr3 M3
   clear hm4 ha4
   have hcr4:=fun i=>Rr4.out.cell i
   have hfr4:=fun i=>Rr4.out.frozen i
   clear hp
   go_wp2_with fail
   clear hcr4 hfr4
   obtain⟨w5,e5,RN5,hz5,K5⟩:=stored5 Rr4.out (.int .i64 n.op) (.int .i64 n.n) (.string n.s) (.string n.t) (.slice A0 n.kids.length c0)
   have D05:=LH (DN4.out.keep fun b hb=>K5.out.kq hb (by omega))
   have M5:=LH (M4.out.chg K5.out (by omega) (by omega))
   clear DN4 M4
   clear Rr4
   rw [<- e5]
   clear e5
   have hcr5:=fun i=>RN5.out.cell i
   show BP _ _
   rw [HBP.out]
   refine bodyPost_ret (v:=.agg #[.int .i64 n.op,.int .i64 n.n,.string n.s,.string n.t,.slice A0 n.kids.length c0]) (by simp [results,Tryz.results75,go_sem,hcr5]) rfl ?_
   exact⟨A0,c0,rfl,D05.out.keep fun b hb=>⟨⟨by omega,by omega⟩,rfl⟩,M5.out⟩
 ·
  simp [h1,Option.bind_eq_some_iff] at hp
  obtain⟨n1,hq1,hn⟩:=hp
  have HNN:=LH hn
  have HQ1:=LH hq1
  clear hn hq1
  go_wp2_with fail
  refine(l3Next ts g L cl V cv st w2 (M2.out.cur HC.out)).mono ?_
  rintro e w3 ⟨rfl,hm3⟩
  replace hm3:Mv ts g L cl V cv st.vars (pNext ts st) w2 w3:=hm3
  have hz3:=hm3.size
  have K3:=LH hm3.bx
  have Rr3:=LH (K3.out.row Rr2.out (by omega))
  have M3:=LH (M2.out.trans hm3)
  clear Rr2 M2
  clear hm3
  go_wp2_with fail
  have HTX1:=LH ((M3.out.cur HC.out).ptext_le false)
  refine(l3TextN ts g L cl V cv (pNext ts st) w3 (M3.out.cur HC.out)).mono ?_
  rintro e w4 ⟨rfl,hm4⟩
  replace hm4:Mv ts g L cl V cv (pNext ts st).vars ((pText ts false (pNext ts st)).2) w3 w4:=hm4
  have hz4:=hm4.size
  have K4:=LH hm4.bx
  have Rr4:=LH (K4.out.row Rr3.out (by omega))
  have M4:=LH (M3.out.trans hm4)
  clear Rr3 M3
  clear hm4
  obtain⟨tx1,htx⟩:∃ x,(pText ts false (pNext ts st)).1=x:=⟨_,rfl⟩
  obtain⟨sx1,hsx⟩:∃ x,(pText ts false (pNext ts st)).2=x:=⟨_,rfl⟩
  rw [htx] at HTX1 HNN ⊢
  rw [hsx] at M4 HQ1
  clear htx hsx
  go_wp2_with fail
  refine(l3Take ts g L cl V cv sx1 w4 (M4.out.cur HC.out) ⟨#[45,62]⟩).mono ?_
  rintro e w5 ⟨rfl,hm5⟩
  replace hm5:Mv ts g L cl V cv sx1.vars (pTake ts [45,62] sx1) w4 w5:=hm5
  have hz5:=hm5.size
  have K5:=LH hm5.bx
  have Rr5:=LH (K5.out.row Rr4.out (by omega))
  have M5:=LH (M4.out.trans hm5)
  clear Rr4 M4
  clear hm5
  go_wp2_with fail
  refine(HE.out ts g L cl V cv (pTake ts [45,62] sx1) w5 (M5.out.cur HC.out) n1 st' HQ1.out).mono ?_
  rintro e w6 ⟨A1,c1,rfl,ha6,hm6⟩
  have hz6:=hm6.size
  have K6:=LH hm6.bx
  have DN6:=LH ha6
  have Rr6:=LH (K6.out.row Rr5.out (by omega))
  have M6:=LH (M5.out.trans hm6)
  clear Rr5 M5
  clear hm6 ha6
  have hcr6:=fun i=>Rr6.out.cell i
  have hfr6:=fun i=>Rr6.out.frozen i
  have hlr6:=Rr6.out.lt
  go_wp2_with fail
  clear hcr6 hlr6
  obtain⟨w7,e7,RN7,hz7,K7⟩:=stored5 Rr6.out (.int .i64 3) (.int .i64 0) (.string tx1) (.string ⟨#[]⟩) (.slice (some ⟨(w6.heap.size+1),0,none⟩) 1 1)
  have D17:=LH (DN6.out.keep fun b hb=>K7.out.kq hb (by omega))
  have M7:=LH (M6.out.chg K7.out (by omega) (by omega))
  clear DN6 M6
  clear Rr6
  obtain⟨w8,e8,Re8,hz8,K8⟩:=boxed w7 49 #[.int .i64 n1.op,.int .i64 n1.n,.string n1.s,.string n1.t,.slice A1 n1.kids.length c1]
  have hy8:w7.heap.size=w6.heap.size:=by omega
  rw [hy8] at Re8 K8
  have Rr8:=LH (K8.out.row RN7.out (by omega))
  have D18:=LH (D17.out.keep fun b hb=>K8.out.kq hb (by omega))
  have M8:=LH (M7.out.chg K8.out (by omega) (by omega))
  clear RN7 D17 M7
  obtain⟨w9,e9,Rrow9,hz9,K9⟩:=boxed w8 49 #[.int .i64 n1.op,.int .i64 n1.n,.string n1.s,.string n1.t,.slice A1 n1.kids.length c1]
  have hy9:w8.heap.size=(w6.heap.size+1):=by omega
  rw [hy9] at Rrow9 K9
  have Rr9:=LH (K9.out.row Rr8.out (by omega))
  have D19:=LH (D18.out.keep fun b hb=>K9.out.kq hb (by omega))
  have M9:=LH (M8.out.chg K9.out (by omega) (by omega))
  clear Rr8 Re8 D18 M8
  have SL9:=LH (show Sl w9 (fun b=>b<w9.heap.size/\w.heap.size<=b/\b≠w.heap.size) 5 (some ⟨(w6.heap.size+1),0,none⟩) 1 ([n1].map GNode.toD) from Sl.ofRow Rrow9.out (rdC_one1 (GNode.rd_mk (D19.out.keep (w':=w9) (S':=fun b=>b<w9.heap.size/\w.heap.size<=b/\b≠w.heap.size) fun b hb=>⟨⟨by omega,by omega⟩,rfl⟩)) rfl) ⟨by omega,by omega⟩ (by simp) (by unfold maxLen;omega))
  rw [<- e7,<- e8,<- e9]
  clear e7 e8 e9
  have hcr9:=fun i=>Rr9.out.cell i
  obtain rfl:=HNN.out
  show BP _ _
  rw [HBP.out]
  refine bodyPost_ret (v:=.agg #[.int .i64 3,.int .i64 0,.string tx1,.string ⟨#[]⟩,.slice (some ⟨(w6.heap.size+1),0,none⟩) 1 1]) (by simp [results,Tryz.results75,go_sem,hcr9]) rfl ?_
  exact⟨some ⟨(w6.heap.size+1),0,none⟩,1,rfl,⟨show(Lit.int .i64 3).wf=true by decide,show(Lit.int .i64 0).wf=true by decide,HTX1.out,empty_le,SL9.out.keep fun b hb=>⟨⟨by have h1:=hb.1;omega,by have h1:=hb.1;omega⟩,rfl⟩⟩,M9.out⟩
theorem Ok1.zero {F:FuncId} {p:List GToken->Nat->PSt->Option (GNode × PSt)} (h:∀ ts st,p ts 0 st=none):Ok1 F p 0:=by
 intro ts g L cl V cv st w _ n st' hp
 rw [h] at hp
 cases hp
theorem patOk:∀ n k,k<=n->k<=1000000->Ok1 137 pPatAtom k/\Ok1 127 pPat k
 | _,0,_,_=>⟨Ok1.zero fun ts st=>by simp [pPatAtom],Ok1.zero fun ts st=>by simp [pPat]⟩
 | 0,k+1,h,_=>by omega
 | n+1,k+1,h,hk=>by
  have ih:=fun i (hi:i<=k)=>patOk n i (by omega) (by omega)
  exact⟨l3PatAtom k (ih k (Nat.le_refl _)).2,l3Pat k (by omega) fun i hi=>(ih i hi).1⟩
structure EOk (k:Nat):Prop where
 e:Ok1 75 pE k
 atom:Ok1 142 pAtom k
 apply:Ok1 141 pApply k
 product:Ok1 139 pProduct k
 sum:Ok1 128 pSum k
 compare:Ok1 109 pCompare k
theorem exprOk:∀ n k,k<=n->k<=1000000->EOk k
 | _,0,_,_=>⟨Ok1.zero fun ts st=>by simp [pE],Ok1.zero fun ts st=>by simp [pAtom],Ok1.zero fun ts st=>by simp [pApply],Ok1.zero fun ts st=>by simp [pProduct],Ok1.zero fun ts st=>by simp [pSum],Ok1.zero fun ts st=>by simp [pCompare]⟩
 | 0,k+1,h,_=>by omega
 | n+1,k+1,h,hk=>by
  have ih:=fun i (hi:i<=k)=>exprOk n i (by omega) (by omega)
  have he:=(ih k (Nat.le_refl _)).e
  exact⟨l3E k he (ih k (Nat.le_refl _)).compare (l3Let k he) (l3Rec k he) (l3Case k (by omega) (fun i hi=>(ih i hi).e) (fun i hi=>(patOk i i (Nat.le_refl _) (by omega)).2)),
    l3Atom k he,l3Apply k (by omega) fun i hi=>(ih i hi).atom,l3Product k fun i hi=>(ih i hi).apply,l3Sum k fun i hi=>(ih i hi).product,l3Compare k fun i hi=>(ih i hi).sum⟩
theorem l3E_ok (k:Nat) (hk:k<=1000000):Ok1 75 pE k:=(exprOk k k (Nat.le_refl _) hk).e
end Go.Proofs.YtamfolaicncblaaGreat
