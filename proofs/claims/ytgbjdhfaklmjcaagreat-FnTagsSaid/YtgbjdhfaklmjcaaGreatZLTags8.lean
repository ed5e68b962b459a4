/- Texts of the claim LTags in one: PaW. Conditions: none but bounds on sizes. -/
import Derived.Test.YtgbjdhfaklmjcaaGreatZLTags7
import Derived.Deep.CutRange
import Derived.Test.YtgbjdhfaklmjcaaGreatZLTags1
namespace Go.Proofs.YtgbjdhfaklmjcaaGreat
set_option maxRecDepth 20000
set_option linter.unusedVariables false
set_option linter.unusedSimpArgs false
open Go.RowKit
set_option maxHeartbeats 2000000
theorem Mv.cur2 {ts:List GToken} {g:Nat} {L:Option Addr} {cl:Nat} {V V0:Option Addr} {cv cv0:Nat} {vs:List ByteArray} {st st0:PSt} {w w':World} (m:Mv ts g L cl V cv vs st w w') (h:PCur ts g L cl V0 cv0 st0 w) (hv:Sl w' (fun b=>b<w'.heap.size/\b≠g) 1 V cv (vs.map D.str)):PCur ts g L cl V cv st w':=
 ⟨by rw [m.vs];exact m.row,m.bx.sl h.toks,by rw [m.vs];exact hv,m.pos,h.few⟩
theorem Mv.vars {ts:List GToken} {g:Nat} {L:Option Addr} {cl:Nat} {V:Option Addr} {cv:Nat} {vs:List ByteArray} {st:PSt} {w w':World} (m:Mv ts g L cl V cv vs st w w') (V':Option Addr) (cv':Nat) (vs':List ByteArray):Mv ts g L cl V' cv' vs' {st with vars:=vs'} w (w'.setCell ⟨g,3,none⟩ (.slice V' vs'.length cv')):=
 ⟨m.bx.set (p:=⟨g,3,none⟩) (.inl rfl) _,m.row.set 3 _,rfl,m.pos⟩
theorem pVars_succ (ts:List GToken) (k:Nat) (st:PSt):pVars ts (k+1) st=if pName ts st then pVars ts k {(pText ts false st).2 with vars:=st.vars++[(pText ts false st).1]} else some st:=by simp only [pVars]
def PToData (ts:List GToken) (g:Nat) (L:Option Addr) (cl:Nat) (n:GData) (st:PSt) (w:World) (e:Ending) (w':World):Prop:=
 ∃ A c V cv vs,e= .returned (.agg #[.string n.name,.int .i64 n.vars,.slice A n.cons.length c])/\GData.At w' (fun b=>w.heap.size<=b/\b<w'.heap.size) A c n/\Mv ts g L cl V cv vs st w w'/\Sl w' (fun b=>w.heap.size<=b/\b<w'.heap.size) 1 V cv (vs.map D.str)
theorem l3Data (k:Nat) (hkk:k<=900000) (ts:List GToken) (g:Nat) (L:Option Addr) (cl:Nat) (V:Option Addr) (cv:Nat) (st:PSt) (w:World) (h:PCur ts g L cl V cv st w) (n:GData) (st':PSt) (hp:pData ts k st=some (n,st')):
 Calls Tryz.prog 55 #[.pointer (some ⟨g,0,none⟩)] w (PToData ts g L cl n st' w):=by
 simp only [pData,Option.bind_eq_some_iff,Option.map_eq_some_iff] at hp
 obtain⟨s9,hv,⟨n1,s10⟩,hal,⟨ks,s11⟩,hco,hn⟩:=hp
 obtain⟨hn1,hn2⟩:=Prod.mk.inj hn
 obtain⟨tx,htx⟩:∃ x,(pText ts true (pWord ts [100,97,116,97] st)).1=x:=⟨_,rfl⟩
 obtain⟨s0,hs0⟩:∃ x,(pText ts true (pWord ts [100,97,116,97] st)).2=x:=⟨_,rfl⟩
 rw [htx] at hn1
 rw [hs0] at hv
 have HNN:=LH hn1
 have HST:=LH hn2
 have HV:=LH hv
 have HAL:=LH hal
 have HCO:=LH hco
 clear hn hn1 hn2 hv hal hco
 have HC:=LH h
 have M0:=LH h.mv
 have hgl:=h.row.lt
 clear h
 have hcu0:=fun i=>M0.out.row.cell i
 have hfu0:=fun i=>M0.out.row.frozen i
 go_enter Tryz.func55,Tryz.ntmps55
 refine wp_hide (fun BP hBP=>?_)
 have HBP:=LH hBP
 clear hBP
 go_wp2_with fail
 clear hcu0 hfu0
 obtain⟨w1,e1,Rr1,hz1,K1⟩:=boxed w 40 #[.string ⟨#[]⟩,.int .i64 0,.slice none 0 0]
 have M1:=LH (M0.out.chg K1.out (by omega) (by omega))
 rw [<- e1]
 clear e1
 have hcu1:=fun i=>M1.out.row.cell i
 have hfu1:=fun i=>M1.out.row.frozen i
 have hlu1:=M1.out.row.lt
 have hcr1:=fun i=>Rr1.out.cell i
 have hlr1:=Rr1.out.lt
 refine(l3Word ts g L cl V cv st w1 (M1.out.cur HC.out) ⟨#[100,97,116,97]⟩).mono ?_
 clear hcu1 hfu1 hlu1 hcr1 hlr1
 rintro e w2 ⟨rfl,hm2⟩
 replace hm2:Mv ts g L cl V cv st.vars (pWord ts [100,97,116,97] st) w1 w2:=hm2
 have hz2:=hm2.size
 have K2:=LH hm2.bx
 have Rr2:=LH (K2.out.row Rr1.out (by omega))
 have M2:=LH (M1.out.trans hm2)
 clear Rr1 M1
 clear hm2
 have hcu2:=fun i=>M2.out.row.cell i
 have hfu2:=fun i=>M2.out.row.frozen i
 have hlu2:=M2.out.row.lt
 have hcr2:=fun i=>Rr2.out.cell i
 have hlr2:=Rr2.out.lt
 go_wp2_with fail
 have HTX:=LH ((M2.out.cur HC.out).ptext_le true)
 refine(l3TextC ts g L cl V cv (pWord ts [100,97,116,97] st) w2 (M2.out.cur HC.out)).mono ?_
 clear hcu2 hfu2 hlu2 hcr2 hlr2
 rintro e w3 ⟨rfl,hm3⟩
 replace hm3:Mv ts g L cl V cv (pWord ts [100,97,116,97] st).vars ((pText ts true (pWord ts [100,97,116,97] st)).2) w2 w3:=hm3
 have hz3:=hm3.size
 have K3:=LH hm3.bx
 have Rr3:=LH (K3.out.row Rr2.out (by omega))
 have M3:=LH (M2.out.trans hm3)
 clear Rr2 M2
 clear hm3
 have hcu3:=fun i=>M3.out.row.cell i
 have hfu3:=fun i=>M3.out.row.frozen i
 have hlu3:=M3.out.row.lt
 have hcr3:=fun i=>Rr3.out.cell i
 have hlr3:=Rr3.out.lt
 rw [hs0] at M3
 rw [htx] at HTX ⊢
 clear hs0 htx
 clear hcu3 hfu3 hlu3 hcr3 hlr3
 have hcu3:=fun i=>M3.out.row.cell i
 have hfu3:=fun i=>M3.out.row.frozen i
 have hlu3:=M3.out.row.lt
 have hcr3:=fun i=>Rr3.out.cell i
 have hlr3:=Rr3.out.lt
 go_wp2_with fail
 clear hcu3 hfu3 hlu3 hcr3 hlr3
 obtain⟨w4,e4⟩:∃ x,x=w3.setCell ⟨g,3,none⟩ (.slice none 0 0):=⟨_,rfl⟩
 have hz4:w4.heap.size=w3.heap.size:=by rw [e4];simp [World.setCell]
 have K4:=LH (show Bx g w3 w4 by rw [e4];exact(Bx.refl _ _).set (p:=⟨g,3,none⟩) (.inl rfl) _)
 have MV4:=LH (show Mv ts g L cl none 0 [] {s0 with vars:=[]} w w4 by rw [e4];exact M3.out.vars none 0 [])
 have Rr4:=LH (K4.out.row Rr3.out (by omega))
 clear Rr3
 clear M3
 obtain⟨w5,e5,Ra5,hz5,K5⟩:=boxed w4 40 #[.string tx,.int .i64 0,.slice none 0 0]
 have hy5:w4.heap.size=w3.heap.size:=by omega
 rw [hy5] at Ra5 K5
 have Rr5:=LH (K5.out.row Rr4.out (by omega))
 have M5:=LH (MV4.out.chg K5.out (by omega) (by omega))
 clear Rr4 MV4
 rw [<- e4,<- e5]
 clear e4 e5
 have hcu5:=fun i=>M5.out.row.cell i
 have hfu5:=fun i=>M5.out.row.frozen i
 have hlu5:=M5.out.row.lt
 have hcr5:=fun i=>Rr5.out.cell i
 have hlr5:=Rr5.out.lt
 have hca5:=fun i=>Ra5.out.cell i
 have hla5:=Ra5.out.lt
 clear hcu5 hfu5 hlu5 hcr5 hlr5 hca5 hla5
 have hINV:∃ I:Nat->World->Prop,I=fun j wr=>∃ (s:PSt) (V':Option Addr) (cv':Nat),pVars ts j s=some s9/\j<=k/\s.vars.length+j<=k+1/\Row wr w3.heap.size 40 #[.string tx,.int .i64 0,.slice none 0 0]/\Row wr w.heap.size 40 #[.string ⟨#[]⟩,.int .i64 0,.slice none 0 0]/\Grx (fun b=>w3.heap.size+1<=b) wr (w3.heap.size+1) 9 1 (.slice V' s.vars.length cv') s.vars.length (s.vars.map D.str)/\Mv ts g L cl V' cv' s.vars s w wr/\w3.heap.size<wr.heap.size:=⟨_,rfl⟩
 obtain⟨I,hI⟩:=hINV
 have HI:=LH hI
 have I0:I k w5:=by
  rw [hI]
  exact⟨{s0 with vars:=[]},none,0,HV.out,Nat.le_refl _,by simp,Ra5.out,Rr5.out,Grx.nil _ _ _ _ _,M5.out,Ra5.out.lt⟩
 have hnw:w.heap.size<w3.heap.size:=by omega
 have hzw:w.heap.size<=w5.heap.size:=M5.out.size
 go_loopw [13] (fun v wr=>∃ j,I j wr) (fun _ wr=>leastK (fun j=>I j wr))
 case atStart=>exact⟨k,I0⟩
 case round=>
  have hex:=hrel
  have hleast:=leastK_spec (I:=fun j=>I j wr) hex
  obtain⟨j,hj⟩:∃ j,leastK (fun j=>I j wr)=j:=⟨_,rfl⟩
  rw [hj] at hleast
  have HJ:=LH hj
  clear hj hex hrel I0
  rw [hI] at hleast
  obtain⟨s,V',cv',hx,hjk,hvl,ra,rr,gg,hm,hnl⟩:=hleast
  clear Ra5 Rr5 M5 hI
  have RA0:=LH ra
  have RR0:=LH rr
  have GG0:=LH gg
  have MR0:=LH hm
  have hzr:=hm.size
  have HOW:=LH (fun q (hq:(Value.slice V' s.vars.length cv').ownBlock=some q)=>GG0.out.own q hq)
  clear ra rr gg hm
  have hcu5:=fun i=>MR0.out.row.cell i
  have hfu5:=fun i=>MR0.out.row.frozen i
  have hlu5:=MR0.out.row.lt
  have hcr5:=fun i=>RR0.out.cell i
  have hlr5:=RR0.out.lt
  have hca5:=fun i=>RA0.out.cell i
  have hla5:=RA0.out.lt
  cases j with
  | zero=>simp [pVars] at hx
  | succ j=>
   rw [pVars_succ] at hx
   have HX:=LH hx
   clear hx
   go_wp2_with fail
   refine(l3Name ts g L cl V' cv' s wr (MR0.out.cur2 HC.out ((sl_of_grx GG0.out (fun b h=>h)).keep fun b hb=>⟨⟨hb.1,by have h2:w3.heap.size+1<=b:=hb.2;omega⟩,rfl⟩))).mono ?_
   clear hcu5 hfu5 hlu5 hcr5 hlr5 hca5 hla5
   rintro e w6 ⟨rfl,hb6⟩
   have hz6:=hb6.size
   have K6:=LH (Bx.of_below (g:=g) hb6 (Nat.le_refl _))
   have Rr6:=LH (K6.out.row RR0.out (by omega))
   have Ra6:=LH (K6.out.row RA0.out (by omega))
   have GV6:=LH (GG0.out.keepP (w':=w6) (by omega) fun b hb h=>K6.out.block b hb (by
     rcases h with h | h
     · have:=GG0.out.own b h;omega
     · have h2:w3.heap.size+1<=b:=h;omega))
   have M6:=LH (MR0.out.below hb6)
   clear RR0 RA0 GG0 MR0
   clear hb6
   have hcu6:=fun i=>M6.out.row.cell i
   have hfu6:=fun i=>M6.out.row.frozen i
   have hlu6:=M6.out.row.lt
   have hcr6:=fun i=>Rr6.out.cell i
   have hlr6:=Rr6.out.lt
   have hca6:=fun i=>Ra6.out.cell i
   have hfa6:=fun i=>Ra6.out.frozen i
   have hla6:=Ra6.out.lt
   cases hs:pName ts s
   ·
    have hx:=HX.out
    simp only [hs,Bool.false_eq_true,if_false,Option.some.injEq] at hx
    obtain rfl:=hx
    clear HX HJ HI HV
    obtain⟨wv,rfl⟩:∃ x:World,x=w6:=⟨_,rfl⟩
    have hlen:s.vars.length<=1000001:=by omega
    clear hvl
    have DV:=LH (show Sl wv (fun b=>b<wv.heap.size/\w3.heap.size+1<=b) 1 V' cv' (s.vars.map D.str) from sl_of_grx GV6.out (fun b h=>h))
    clear GV6 HOW
    go_wp2_with fail
    obtain⟨acc0,hac0⟩:∃ x:List GCon,x= []:=⟨_,rfl⟩
    have hl0:acc0.length=0:=by rw [hac0];rfl
    clear hcu6 hfu6 hlu6 hcr6 hlr6 hca6 hfa6 hla6
    obtain⟨w7,e7,RO7,hz7,K7⟩:=storedF Ra6.out 1 (.int .i64 s.vars.length)
    have RN7:=LH (show Row w7 w3.heap.size 40 #[.string tx,.int .i64 s.vars.length,.slice none 0 0] from RO7.out)
    clear RO7
    have Rr7:=LH (K7.out.row Rr6.out (by omega))
    have DV7:=LH (DV.out.keep fun b hb=>K7.out.kq hb (by have h1:=hb.1;have h2:=hb.2;omega))
    have M7:=LH (M6.out.chg K7.out (by omega) (by omega))
    clear Rr6 DV M6
    clear Ra6
    rw [<- e7]
    clear e7
    have hcu7:=fun i=>M7.out.row.cell i
    have hfu7:=fun i=>M7.out.row.frozen i
    have hlu7:=M7.out.row.lt
    have hcr7:=fun i=>Rr7.out.cell i
    have hlr7:=Rr7.out.lt
    have hca7:=fun i=>RN7.out.cell i
    have hla7:=RN7.out.lt
    clear hcu7 hfu7 hlu7 hcr7 hlr7 hca7 hla7
    have RA9:=LH (show Row w7 w3.heap.size 40 #[.string tx,.int .i64 s.vars.length,.slice none acc0.length 0] by rw [hl0];exact RN7.out)
    have GC:=LH (show Grx (fun b=>w.heap.size<=b/\b≠w3.heap.size/\b≠w.heap.size) w7 (wv.heap.size) 37 2 (.slice none acc0.length 0) acc0.length (acc0.map GCon.toD) by rw [hac0];exact Grx.nil _ _ _ _ _)
    have HAC0:=LH hac0
    have HL0:=LH hl0
    have hl05:acc0.length<=5:=by omega
    clear RN7 hac0 hl0
    have hcu7:=fun i=>M7.out.row.cell i
    have hfu7:=fun i=>M7.out.row.frozen i
    have hlu7:=M7.out.row.lt
    have hcr7:=fun i=>Rr7.out.cell i
    have hlr7:=Rr7.out.lt
    have hca7:=fun i=>RA9.out.cell i
    have hla7:=RA9.out.lt
    refine(l3Take ts g L cl V' cv' s w7 (M7.out.cur2 HC.out (DV7.out.keep fun b hb=>⟨⟨by have h1:=hb.1;have h2:=hb.2;omega,by have h2:=hb.2;omega⟩,rfl⟩)) ⟨#[61]⟩).mono ?_
    clear hcu7 hfu7 hlu7 hcr7 hlr7 hca7 hla7
    rintro e w8 ⟨rfl,hm8⟩
    replace hm8:Mv ts g L cl V' cv' s.vars (pTake ts [61] s) w7 w8:=hm8
    have hz8:=hm8.size
    have K8:=LH hm8.bx
    have Rr8:=LH (K8.out.row Rr7.out (by omega))
    have Ra8:=LH (K8.out.row RA9.out (by omega))
    have DV8:=LH (DV7.out.keep fun b hb=>K8.out.kq hb (by have h1:=hb.1;have h2:=hb.2;omega))
    have GG8:=LH (GC.out.keepP (w':=w8) (by omega) fun b hb h=>K8.out.block b hb (by
      rcases h with h | h
      · have:=GC.out.own b h;omega
      · obtain⟨x1,x2,x3⟩:=h;omega))
    have M8:=LH (M7.out.trans hm8)
    clear Rr7 RA9 DV7 GC M7
    clear hm8
    have hcu8:=fun i=>M8.out.row.cell i
    have hfu8:=fun i=>M8.out.row.frozen i
    have hlu8:=M8.out.row.lt
    have hcr8:=fun i=>Rr8.out.cell i
    have hlr8:=Rr8.out.lt
    have hca8:=fun i=>Ra8.out.cell i
    have hla8:=Ra8.out.lt
    have HOW:=LH (fun q (hq:(Value.slice none acc0.length 0).ownBlock=some q)=>GG8.out.own q hq)
    go_upto_region 8 with (fail)
    refine wp_region_T (fun x=>x.cell? ⟨w3.heap.size,2,none⟩=some (.slice none acc0.length 0)) 7 (by kernel_rfl) ?_
    clear hcu8 hfu8 hlu8 hcr8 hlr8 hca8 hla8
    obtain⟨w9,e9⟩:∃ x,x=w8.drew:=⟨_,rfl⟩
    rw [<- e9]
    have hz9:w9.heap.size<=w8.heap.size/\w8.heap.size<=w9.heap.size:=by rw [e9];exact⟨Nat.le_refl _,Nat.le_refl _⟩
    have K9:=LH (show Bx w8.heap.size w8 w9 by rw [e9];exact Bx.of_below ((Below.refl _ _).drew) (Nat.le_refl _))
    clear e9
    have Rr9:=LH (K9.out.row Rr8.out (by omega))
    have Ra9:=LH (K9.out.row Ra8.out (by omega))
    have DV9:=LH (DV8.out.keep fun b hb=>K9.out.kq hb (by have h1:=hb.1;have h2:=hb.2;omega))
    have GG9:=LH (GG8.out.keepP (w':=w9) (by omega) fun b hb h=>K9.out.block b hb (by
      rcases h with h | h
      · have:=GG8.out.own b h;omega
      · obtain⟨x1,x2,x3⟩:=h;omega))
    have M9:=LH (M8.out.chg K9.out (by omega) (by omega))
    clear Rr8 Ra8 DV8 GG8 M8
    have hcu9:=fun i=>M9.out.row.cell i
    have hfu9:=fun i=>M9.out.row.frozen i
    have hlu9:=M9.out.row.lt
    have hcr9:=fun i=>Rr9.out.cell i
    have hlr9:=Rr9.out.lt
    have hca9:=fun i=>Ra9.out.cell i
    have hla9:=Ra9.out.lt
    have hS1:w9.cell? ⟨w3.heap.size,2,none⟩=some (.slice none acc0.length 0):=Ra9.out.cell 2
    refine wpAnyT_tk (i:=0) (oi:=_) (v:=?tv8) rfl (Or.inl ⟨by rfl,?th8⟩) hS1 ?_
    case th8=>(intro x hSx;(try dsimp only at hSx);go_simp;(try with_reducible rfl))
    try simp only [nA,nB,nC,Act.put,nD,nE,nF]
    refine wpAnyT_tk (i:=1) (oi:=_) (v:=?tv9) rfl (Or.inl ⟨by rfl,?th9⟩) hS1 ?_
    case th9=>(intro x hSx;(try dsimp only at hSx);go_simp;(try with_reducible rfl))
    try simp only [nA,nB,nC,Act.put,nD,nE,nF]
    refine wpAnyT_tk (i:=2) (oi:=_) (v:=?tv10) rfl (Or.inl ⟨by rfl,?th10⟩) hS1 ?_
    case th10=>(intro x hSx;(try dsimp only at hSx);go_simp;(try with_reducible rfl))
    try simp only [nA,nB,nC,Act.put,nD,nE,nF]
    refine wpAnyT_step (i:=3) (by kernel_rfl) rfl (fun K hK=>?_)
    try simp only [nA,nB,nC]
    go_simp
    go_at_call 66
    refine(l3Alt k (by omega) ts g L cl V' cv' (pTake ts [61] s) w9 (M9.out.cur2 HC.out (DV9.out.keep fun b hb=>⟨⟨by have h1:=hb.1;have h2:=hb.2;omega,by have h2:=hb.2;omega⟩,rfl⟩)) n1 s10 HAL.out).mono ?_
    clear hcu9 hfu9 hlu9 hcr9 hlr9 hca9 hla9
    rintro e w10 ⟨An1,cn1,rfl,ha10,hm10⟩
    have hz10:=hm10.size
    have K10:=LH hm10.bx
    have DN10:=LH ha10
    have Rr10:=LH (K10.out.row Rr9.out (by omega))
    have Ra10:=LH (K10.out.row Ra9.out (by omega))
    have DV10:=LH (DV9.out.keep fun b hb=>K10.out.kq hb (by have h1:=hb.1;have h2:=hb.2;omega))
    have GG10:=LH (GG9.out.keepP (w':=w10) (by omega) fun b hb h=>K10.out.block b hb (by
      rcases h with h | h
      · have:=GG9.out.own b h;omega
      · obtain⟨x1,x2,x3⟩:=h;omega))
    have M10:=LH (M9.out.trans hm10)
    clear Rr9 Ra9 DV9 GG9 M9
    clear hm10 ha10
    have hcu10:=fun i=>M10.out.row.cell i
    have hfu10:=fun i=>M10.out.row.frozen i
    have hlu10:=M10.out.row.lt
    have hcr10:=fun i=>Rr10.out.cell i
    have hlr10:=Rr10.out.lt
    have hca10:=fun i=>Ra10.out.cell i
    have hla10:=Ra10.out.lt
    have hS2:w10.cell? ⟨w3.heap.size,2,none⟩=some (.slice none acc0.length 0):=Ra10.out.cell 2
    refine hK.out _ _ hS2 (fun hS3=>?_)
    clear hK K hS1 hS2
    try simp only [nA,nB,nC,Act.put,nD,nE,nF]
    refine wpAnyT_step (i:=4) (by kernel_rfl) rfl (fun K hK=>?_)
    try simp only [nA,nB,nC]
    go_simp
    clear hcu10 hfu10 hlu10 hcr10 hlr10 hca10 hla10
    obtain⟨w11,e11,Rrow11,hz11,K11⟩:=boxed w10 37 #[.string n1.name,.slice An1 n1.args.length cn1]
    have Rr11:=LH (K11.out.row Rr10.out (by omega))
    have Ra11:=LH (K11.out.row Ra10.out (by omega))
    have DV11:=LH (DV10.out.keep fun b hb=>K11.out.kq hb (by have h1:=hb.1;have h2:=hb.2;omega))
    have Dn111:=LH (DN10.out.keep fun b hb=>K11.out.kq hb (by have h1:=hb.1;have h2:=hb.2;omega))
    have GG11:=LH (GG10.out.keepP (w':=w11) (by omega) fun b hb h=>K11.out.block b hb (by
      rcases h with h | h
      · have:=GG10.out.own b h;omega
      · obtain⟨x1,x2,x3⟩:=h;omega))
    have M11:=LH (M10.out.chg K11.out (by omega) (by omega))
    clear Rr10 Ra10 DV10 DN10 GG10 M10
    have SL11:=LH (show Sl w11 (fun b=>b<w11.heap.size/\(Value.slice none acc0.length 0).ownBlock≠some b/\w.heap.size<=b/\b≠w3.heap.size/\b≠w.heap.size) 2 (some ⟨w10.heap.size,0,none⟩) 1 ([n1].map GCon.toD) from Sl.ofRow Rrow11.out (rdC_one1 (GCon.rd_mk (Dn111.out.keep (w':=w11) (S':=fun b=>b<w11.heap.size/\(Value.slice none acc0.length 0).ownBlock≠some b/\w.heap.size<=b/\b≠w3.heap.size/\b≠w.heap.size) fun b hb=>⟨⟨by have h1:=hb.1;have h2:=hb.2;omega,fun e=>by have h1:=hb.1;have h3:=(HOW.out b e).2;omega,by have h1:=hb.1;have h2:=hb.2;omega⟩,rfl⟩)) rfl) ⟨by omega,fun e=>by have h3:=(HOW.out _ e).2;omega,by omega⟩ (by simp) (by unfold maxLen;omega))
    rw [<- e11]
    clear e11
    have hcu11:=fun i=>M11.out.row.cell i
    have hfu11:=fun i=>M11.out.row.frozen i
    have hlu11:=M11.out.row.lt
    have hcr11:=fun i=>Rr11.out.cell i
    have hlr11:=Rr11.out.lt
    have hca11:=fun i=>Ra11.out.cell i
    have hla11:=Ra11.out.lt
    have hcrow11:=fun i=>Rrow11.out.cell i
    have hlrow11:=Rrow11.out.lt
    have hS4:w11.cell? ⟨w3.heap.size,2,none⟩=some (.slice none acc0.length 0):=Ra11.out.cell 2
    refine hK.out _ _ hS4 (fun hS5=>?_)
    clear hK K hS3 hS4
    try simp only [nA,nB,nC,Act.put,nD,nE,nF]
    refine wpAnyT_step (i:=5) (by kernel_rfl) rfl (fun K hK=>?_)
    refine step_append_X w11 rfl (.tmp 34) (.tmp 37) 38 rfl 37 zCn 2 40 Tryz.underlying38 (by kernel_rfl) rfl (by omega) (wv.heap.size) (.slice none acc0.length 0) acc0.length _ GG11.out (some ⟨w10.heap.size,0,none⟩) 1 1 _ rfl SL11.out (by omega) (by unfold maxLen;omega) (by omega) rfl rfl ?_
    clear hcu11 hfu11 hlu11 hcr11 hlr11 hca11 hla11 hcrow11 hlrow11
    intro A12 c12 w12 hG12 hGr12
    obtain⟨acc12,hac12⟩:∃ x,x=acc0++[n1]:=⟨_,rfl⟩
    have HAC12:=LH hac12
    have hal12:acc12.length=acc0.length+1:=by rw [hac12];simp
    have GN12:=LH (show Grx (fun b=>w.heap.size<=b/\b≠w3.heap.size/\b≠w.heap.size) w12 (wv.heap.size) 37 2 (.slice A12 acc12.length c12) acc12.length (acc12.map GCon.toD) from by rw [hal12,hac12];simpa using hG12)
    rw [<- hal12]
    have HAL12:=LH hal12
    clear hal12 hac12
    obtain⟨q12,hq12,hk12⟩:=hGr12.bxe (B:=wv.heap.size) (fun q hq=>(HOW.out q hq).1) (by omega)
    have hz12:=hGr12.size
    have K12:=LH hk12
    clear hG12 hGr12 hk12
    have Rr12:=LH (K12.out.row Rr11.out (by omega))
    have Ra12:=LH (K12.out.row Ra11.out (by omega))
    have DV12:=LH (DV11.out.keep fun b hb=>K12.out.kq hb (by have h1:=hb.1;have h2:=hb.2;omega))
    have M12:=LH (M11.out.chg K12.out (by omega) (by omega))
    clear Rr11 Ra11 DV11 M11
    clear GG11
    have hcu12:=fun i=>M12.out.row.cell i
    have hfu12:=fun i=>M12.out.row.frozen i
    have hlu12:=M12.out.row.lt
    have hcr12:=fun i=>Rr12.out.cell i
    have hlr12:=Rr12.out.lt
    have hca12:=fun i=>Ra12.out.cell i
    have hfa12:=fun i=>Ra12.out.frozen i
    have hla12:=Ra12.out.lt
    have hS6:w12.cell? ⟨w3.heap.size,2,none⟩=some (.slice none acc0.length 0):=Ra12.out.cell 2
    refine hK.out _ _ hS6 (fun hS7=>?_)
    clear hK K hS5 hS6
    try simp only [nA,nB,nC,Act.put,nD,nE,nF]
    refine wpAnyT_tk (i:=6) (oi:=_) (v:=?tv11) rfl (Or.inl ⟨by rfl,?th11⟩) hS7 ?_
    case th11=>(intro x hSx;(try dsimp only at hSx);go_simp;(try with_reducible rfl))
    try simp only [nA,nB,nC,Act.put,nD,nE,nF]
    refine wpAnyT_last (by kernel_rfl) (by kernel_rfl) rfl (fun K hK=>?_)
    try simp only [nA,nB,nC]
    go_simp
    refine hK.out _ _ ?_
    clear hK K
    try simp only [nA,nB,nC,Act.put,nD,nE,nF]
    clear hS7 HOW
    clear hcu12 hfu12 hlu12 hcr12 hlr12 hca12 hfa12 hla12
    obtain⟨w13,e13,RO13,hz13,K13⟩:=storedF Ra12.out 2 (.slice A12 acc12.length c12)
    have RN13:=LH (show Row w13 w3.heap.size 40 #[.string tx,.int .i64 s.vars.length,.slice A12 acc12.length c12] from RO13.out)
    clear RO13
    have Rr13:=LH (K13.out.row Rr12.out (by omega))
    have DV13:=LH (DV12.out.keep fun b hb=>K13.out.kq hb (by have h1:=hb.1;have h2:=hb.2;omega))
    have GG13:=LH (GN12.out.keepP (w':=w13) (by omega) fun b hb h=>K13.out.block b hb (by
      rcases h with h | h
      · have:=GN12.out.own b h;omega
      · obtain⟨x1,x2,x3⟩:=h;omega))
    have M13:=LH (M12.out.chg K13.out (by omega) (by omega))
    clear Rr12 DV12 GN12 M12
    clear Ra12
    rw [<- e13]
    clear e13
    have hcu13:=fun i=>M13.out.row.cell i
    have hfu13:=fun i=>M13.out.row.frozen i
    have hlu13:=M13.out.row.lt
    have hcr13:=fun i=>Rr13.out.cell i
    have hlr13:=Rr13.out.lt
    have hca13:=fun i=>RN13.out.cell i
    have hla13:=RN13.out.lt
    have hl16:acc12.length<=6:=by have h1:=HAL12.out;omega
    clear hl05
    go_wp2_with fail
    clear hcu13 hfu13 hlu13 hcr13 hlr13 hca13 hla13
    have hINV:∃ I:Nat->World->Prop,I=fun j wr=>∃ (acc:List GCon) (s2:PSt) (A:Option Addr) (c:Nat),pCons ts j s2 acc=some (ks,s11)/\j<=(k+6)/\acc.length+j<=(k+6)+1/\Row wr w3.heap.size 40 #[.string tx,.int .i64 s.vars.length,.slice A acc.length c]/\Row wr w.heap.size 40 #[.string ⟨#[]⟩,.int .i64 0,.slice none 0 0]/\Grx (fun b=>w.heap.size<=b/\b≠w3.heap.size/\b≠w.heap.size) wr (wv.heap.size) 37 2 (.slice A acc.length c) acc.length (acc.map GCon.toD)/\Mv ts g L cl V' cv' s.vars s2 w wr/\w3.heap.size<wr.heap.size/\(Sl wr (fun b=>b<wv.heap.size/\w3.heap.size+1<=b) 1 V' cv' (s.vars.map D.str)/\wv.heap.size<=wr.heap.size):=⟨_,rfl⟩
    obtain⟨I,hI⟩:=hINV
    have HI:=LH hI
    have I0:I k w13:=by
     rw [hI]
     exact⟨acc12,s10,A12,c12,(by rw [HAC12.out,HAC0.out];exact HCO.out),Nat.le_add_right _ _,by omega,RN13.out,Rr13.out,GG13.out,M13.out,RN13.out.lt,⟨DV13.out,by omega⟩⟩
    have hnw:w.heap.size<w3.heap.size:=by omega
    have hzw:w.heap.size<=w13.heap.size:=M13.out.size
    go_loopw [41] (fun v wr=>∃ j,I j wr) (fun _ wr=>leastK (fun j=>I j wr))
    case atStart=>exact⟨k,I0⟩
    case round=>
     have hex:=hrel
     have hleast:=leastK_spec (I:=fun j=>I j wr) hex
     obtain⟨j,hj⟩:∃ j,leastK (fun j=>I j wr)=j:=⟨_,rfl⟩
     rw [hj] at hleast
     have HJ:=LH hj
     clear hj hex hrel I0
     rw [hI] at hleast
     obtain⟨acc,s2,A,c,hx,hjk,hal,ra,rr,gg,hm,hnl,hxi⟩:=hleast
     clear RN13 Rr13 M13 GG13 DV13 hI
     have RA0:=LH ra
     have RR0:=LH rr
     have GG0:=LH gg
     have MR0:=LH hm
     have hzr:=hm.size
     have DV0:=LH hxi.1
     have hxv:=hxi.2
     clear hxi
     clear ra rr gg hm
     have hcu13:=fun i=>MR0.out.row.cell i
     have hfu13:=fun i=>MR0.out.row.frozen i
     have hlu13:=MR0.out.row.lt
     have hcr13:=fun i=>RR0.out.cell i
     have hlr13:=RR0.out.lt
     have hca13:=fun i=>RA0.out.cell i
     have hla13:=RA0.out.lt
     cases j with
     | zero=>simp [pCons] at hx
     | succ j=>
      go_wp2_with fail
      refine(l3Sign ts g L cl V' cv' s2 wr (MR0.out.cur2 HC.out (DV0.out.keep fun b hb=>⟨⟨by have h1:=hb.1;have h2:=hb.2;omega,by have h2:=hb.2;omega⟩,rfl⟩)) ⟨#[124]⟩).mono ?_
      clear hcu13 hfu13 hlu13 hcr13 hlr13 hca13 hla13
      rintro e w14 ⟨rfl,hb14⟩
      have hz14:=hb14.size
      have K14:=LH (Bx.of_below (g:=g) hb14 (Nat.le_refl _))
      have Rr14:=LH (K14.out.row RR0.out (by omega))
      have Ra14:=LH (K14.out.row RA0.out (by omega))
      have DV14:=LH (DV0.out.keep fun b hb=>K14.out.kq hb (by have h1:=hb.1;have h2:=hb.2;omega))
      have GG14:=LH (GG0.out.keepP (w':=w14) (by omega) fun b hb h=>K14.out.block b hb (by
        rcases h with h | h
        · have:=GG0.out.own b h;omega
        · obtain⟨x1,x2,x3⟩:=h;omega))
      have M14:=LH (MR0.out.below hb14)
      clear RR0 RA0 DV0 GG0 MR0
      clear hb14
      have hcu14:=fun i=>M14.out.row.cell i
      have hfu14:=fun i=>M14.out.row.frozen i
      have hlu14:=M14.out.row.lt
      have hcr14:=fun i=>Rr14.out.cell i
      have hlr14:=Rr14.out.lt
      have hca14:=fun i=>Ra14.out.cell i
      have hla14:=Ra14.out.lt
      cases hs2:pSign ts [124] s2
      ·
       simp [pCons,hs2] at hx
       obtain⟨hxa,hxs⟩:=hx
       obtain rfl:=hxa
       rw [<- hxs] at HST
       clear hxs
       go_wp2_with fail
       refine(l3Take ts g L cl V' cv' s2 w14 (M14.out.cur2 HC.out (DV14.out.keep fun b hb=>⟨⟨by have h1:=hb.1;have h2:=hb.2;omega,by have h2:=hb.2;omega⟩,rfl⟩)) ⟨#[59]⟩).mono ?_
       clear hcu14 hfu14 hlu14 hcr14 hlr14 hca14 hla14
       rintro e w15 ⟨rfl,hm15⟩
       replace hm15:Mv ts g L cl V' cv' s2.vars (pTake ts [59] s2) w14 w15:=hm15
       have hz15:=hm15.size
       have K15:=LH hm15.bx
       have Rr15:=LH (K15.out.row Rr14.out (by omega))
       have Ra15:=LH (K15.out.row Ra14.out (by omega))
       have DV15:=LH (DV14.out.keep fun b hb=>K15.out.kq hb (by have h1:=hb.1;have h2:=hb.2;omega))
       have GG15:=LH (GG14.out.keepP (w':=w15) (by omega) fun b hb h=>K15.out.block b hb (by
         rcases h with h | h
         · have:=GG14.out.own b h;omega
         · obtain⟨x1,x2,x3⟩:=h;omega))
       have M15:=LH (M14.out.trans hm15)
       clear Rr14 Ra14 DV14 GG14 M14
       clear hm15
       have hcu15:=fun i=>M15.out.row.cell i
       have hfu15:=fun i=>M15.out.row.frozen i
       have hlu15:=M15.out.row.lt
       have hcr15:=fun i=>Rr15.out.cell i
       have hfr15:=fun i=>Rr15.out.frozen i
       have hlr15:=Rr15.out.lt
       have hca15:=fun i=>Ra15.out.cell i
       have hla15:=Ra15.out.lt
       go_wp2_with fail
       clear hcu15 hfu15 hlu15 hcr15 hfr15 hlr15 hca15 hla15
       obtain⟨w16,e16,RN16,hz16,K16⟩:=stored3 Rr15.out (.string tx) (.int .i64 s.vars.length) (.slice A acc.length c)
       have Ra16:=LH (K16.out.row Ra15.out (by omega))
       have DV16:=LH (DV15.out.keep fun b hb=>K16.out.kq hb (by have h1:=hb.1;have h2:=hb.2;omega))
       have GG16:=LH (GG15.out.keepP (w':=w16) (by omega) fun b hb h=>K16.out.block b hb (by
         rcases h with h | h
         · have:=GG15.out.own b h;omega
         · obtain⟨x1,x2,x3⟩:=h;omega))
       have M16:=LH (M15.out.chg K16.out (by omega) (by omega))
       clear Ra15 DV15 GG15 M15
       clear Rr15
       rw [<- e16]
       clear e16
       have hcu16:=fun i=>M16.out.row.cell i
       have hfu16:=fun i=>M16.out.row.frozen i
       have hlu16:=M16.out.row.lt
       have hca16:=fun i=>Ra16.out.cell i
       have hla16:=Ra16.out.lt
       have hcr16:=fun i=>RN16.out.cell i
       have hlr16:=RN16.out.lt
       have SX:=LH (sl_of_grx GG16.out (fun b h=>by omega))
       obtain rfl:=HNN.out
       obtain rfl:=HST.out
       show BP _ _
       rw [HBP.out]
       refine bodyPost_ret (v:=.agg #[.string tx,.int .i64 s.vars.length,.slice A acc.length c]) (by simp [results,Tryz.results55,go_sem,hcr16]) rfl ?_
       exact⟨A,c,V',cv',s.vars,rfl,⟨HTX.out,wfNat' s.vars.length (by omega),SX.out.keep fun b hb=>⟨⟨by have h1:=hb.1;have h2:=hb.2;omega,by have h1:=hb.1;have h2:=hb.2;omega⟩,rfl⟩⟩,M16.out,DV16.out.keep fun b hb=>⟨⟨by have h1:=hb.1;have h2:=hb.2;omega,by have h1:=hb.1;have h2:=hb.2;omega⟩,rfl⟩⟩
      ·
       simp [pCons,hs2,Option.bind_eq_some_iff] at hx
       obtain⟨n2,s3,hq,hr⟩:=hx
       have HR:=LH hr
       have HQ:=LH hq
       clear hr hq
       go_wp2_with fail
       refine(l3Next ts g L cl V' cv' s2 w14 (M14.out.cur2 HC.out (DV14.out.keep fun b hb=>⟨⟨by have h1:=hb.1;have h2:=hb.2;omega,by have h2:=hb.2;omega⟩,rfl⟩))).mono ?_
       clear hcu14 hfu14 hlu14 hcr14 hlr14 hca14 hla14
       rintro e w15 ⟨rfl,hm15⟩
       replace hm15:Mv ts g L cl V' cv' s2.vars (pNext ts s2) w14 w15:=hm15
       have hz15:=hm15.size
       have K15:=LH hm15.bx
       have Rr15:=LH (K15.out.row Rr14.out (by omega))
       have Ra15:=LH (K15.out.row Ra14.out (by omega))
       have DV15:=LH (DV14.out.keep fun b hb=>K15.out.kq hb (by have h1:=hb.1;have h2:=hb.2;omega))
       have GG15:=LH (GG14.out.keepP (w':=w15) (by omega) fun b hb h=>K15.out.block b hb (by
         rcases h with h | h
         · have:=GG14.out.own b h;omega
         · obtain⟨x1,x2,x3⟩:=h;omega))
       have M15:=LH (M14.out.trans hm15)
       clear Rr14 Ra14 DV14 GG14 M14
       clear hm15
       have hcu15:=fun i=>M15.out.row.cell i
       have hfu15:=fun i=>M15.out.row.frozen i
       have hlu15:=M15.out.row.lt
       have hcr15:=fun i=>Rr15.out.cell i
       have hfr15:=fun i=>Rr15.out.frozen i
       have hlr15:=Rr15.out.lt
       have hca15:=fun i=>Ra15.out.cell i
       have hla15:=Ra15.out.lt
       have HOW:=LH (fun q (hq:(Value.slice A acc.length c).ownBlock=some q)=>GG15.out.own q hq)
       go_upto_region 11 with (fail)
       refine wp_region_T (fun x=>x.cell? ⟨w3.heap.size,2,none⟩=some (.slice A acc.length c)) 7 (by kernel_rfl) ?_
       clear hcu15 hfu15 hlu15 hcr15 hfr15 hlr15 hca15 hla15
       obtain⟨w16,e16⟩:∃ x,x=w15.drew:=⟨_,rfl⟩
       rw [<- e16]
       have hz16:w16.heap.size<=w15.heap.size/\w15.heap.size<=w16.heap.size:=by rw [e16];exact⟨Nat.le_refl _,Nat.le_refl _⟩
       have K16:=LH (show Bx w15.heap.size w15 w16 by rw [e16];exact Bx.of_below ((Below.refl _ _).drew) (Nat.le_refl _))
       clear e16
       have Rr16:=LH (K16.out.row Rr15.out (by omega))
       have Ra16:=LH (K16.out.row Ra15.out (by omega))
       have DV16:=LH (DV15.out.keep fun b hb=>K16.out.kq hb (by have h1:=hb.1;have h2:=hb.2;omega))
       have GG16:=LH (GG15.out.keepP (w':=w16) (by omega) fun b hb h=>K16.out.block b hb (by
         rcases h with h | h
         · have:=GG15.out.own b h;omega
         · obtain⟨x1,x2,x3⟩:=h;omega))
       have M16:=LH (M15.out.chg K16.out (by omega) (by omega))
       clear Rr15 Ra15 DV15 GG15 M15
       have hcu16:=fun i=>M16.out.row.cell i
       have hfu16:=fun i=>M16.out.row.frozen i
       have hlu16:=M16.out.row.lt
       have hcr16:=fun i=>Rr16.out.cell i
       have hlr16:=Rr16.out.lt
       have hca16:=fun i=>Ra16.out.cell i
       have hla16:=Ra16.out.lt
       have hS1:w16.cell? ⟨w3.heap.size,2,none⟩=some (.slice A acc.length c):=Ra16.out.cell 2
       refine wpAnyT_tk (i:=0) (oi:=_) (v:=?tv12) rfl (Or.inl ⟨by rfl,?th12⟩) hS1 ?_
       case th12=>(intro x hSx;(try dsimp only at hSx);go_simp;(try with_reducible rfl))
       try simp only [nA,nB,nC,Act.put,nD,nE,nF]
       refine wpAnyT_tk (i:=1) (oi:=_) (v:=?tv13) rfl (Or.inl ⟨by rfl,?th13⟩) hS1 ?_
       case th13=>(intro x hSx;(try dsimp only at hSx);go_simp;(try with_reducible rfl))
       try simp only [nA,nB,nC,Act.put,nD,nE,nF]
       refine wpAnyT_tk (i:=2) (oi:=_) (v:=?tv14) rfl (Or.inl ⟨by rfl,?th14⟩) hS1 ?_
       case th14=>(intro x hSx;(try dsimp only at hSx);go_simp;(try with_reducible rfl))
       try simp only [nA,nB,nC,Act.put,nD,nE,nF]
       refine wpAnyT_step (i:=3) (by kernel_rfl) rfl (fun K hK=>?_)
       try simp only [nA,nB,nC]
       go_simp
       go_at_call 66
       refine(l3Alt j (by omega) ts g L cl V' cv' (pNext ts s2) w16 (M16.out.cur2 HC.out (DV16.out.keep fun b hb=>⟨⟨by have h1:=hb.1;have h2:=hb.2;omega,by have h2:=hb.2;omega⟩,rfl⟩)) n2 s3 HQ.out).mono ?_
       clear hcu16 hfu16 hlu16 hcr16 hlr16 hca16 hla16
       rintro e w17 ⟨An2,cn2,rfl,ha17,hm17⟩
       have hz17:=hm17.size
       have K17:=LH hm17.bx
       have DN17:=LH ha17
       have Rr17:=LH (K17.out.row Rr16.out (by omega))
       have Ra17:=LH (K17.out.row Ra16.out (by omega))
       have DV17:=LH (DV16.out.keep fun b hb=>K17.out.kq hb (by have h1:=hb.1;have h2:=hb.2;omega))
       have GG17:=LH (GG16.out.keepP (w':=w17) (by omega) fun b hb h=>K17.out.block b hb (by
         rcases h with h | h
         · have:=GG16.out.own b h;omega
         · obtain⟨x1,x2,x3⟩:=h;omega))
       have M17:=LH (M16.out.trans hm17)
       clear Rr16 Ra16 DV16 GG16 M16
       clear hm17 ha17
       have hcu17:=fun i=>M17.out.row.cell i
       have hfu17:=fun i=>M17.out.row.frozen i
       have hlu17:=M17.out.row.lt
       have hcr17:=fun i=>Rr17.out.cell i
       have hlr17:=Rr17.out.lt
       have hca17:=fun i=>Ra17.out.cell i
       have hla17:=Ra17.out.lt
       have hS2:w17.cell? ⟨w3.heap.size,2,none⟩=some (.slice A acc.length c):=Ra17.out.cell 2
       refine hK.out _ _ hS2 (fun hS3=>?_)
       clear hK K hS1 hS2
       try simp only [nA,nB,nC,Act.put,nD,nE,nF]
       refine wpAnyT_step (i:=4) (by kernel_rfl) rfl (fun K hK=>?_)
       try simp only [nA,nB,nC]
       go_simp
       clear hcu17 hfu17 hlu17 hcr17 hlr17 hca17 hla17
       obtain⟨w18,e18,Rrow18,hz18,K18⟩:=boxed w17 37 #[.string n2.name,.slice An2 n2.args.length cn2]
       have Rr18:=LH (K18.out.row Rr17.out (by omega))
       have Ra18:=LH (K18.out.row Ra17.out (by omega))
       have DV18:=LH (DV17.out.keep fun b hb=>K18.out.kq hb (by have h1:=hb.1;have h2:=hb.2;omega))
       have Dn218:=LH (DN17.out.keep fun b hb=>K18.out.kq hb (by have h1:=hb.1;have h2:=hb.2;omega))
       have GG18:=LH (GG17.out.keepP (w':=w18) (by omega) fun b hb h=>K18.out.block b hb (by
         rcases h with h | h
         · have:=GG17.out.own b h;omega
         · obtain⟨x1,x2,x3⟩:=h;omega))
       have M18:=LH (M17.out.chg K18.out (by omega) (by omega))
       clear Rr17 Ra17 DV17 DN17 GG17 M17
       have SL18:=LH (show Sl w18 (fun b=>b<w18.heap.size/\(Value.slice A acc.length c).ownBlock≠some b/\w.heap.size<=b/\b≠w3.heap.size/\b≠w.heap.size) 2 (some ⟨w17.heap.size,0,none⟩) 1 ([n2].map GCon.toD) from Sl.ofRow Rrow18.out (rdC_one1 (GCon.rd_mk (Dn218.out.keep (w':=w18) (S':=fun b=>b<w18.heap.size/\(Value.slice A acc.length c).ownBlock≠some b/\w.heap.size<=b/\b≠w3.heap.size/\b≠w.heap.size) fun b hb=>⟨⟨by have h1:=hb.1;have h2:=hb.2;omega,fun e=>by have h1:=hb.1;have h3:=(HOW.out b e).2;omega,by have h1:=hb.1;have h2:=hb.2;omega⟩,rfl⟩)) rfl) ⟨by omega,fun e=>by have h3:=(HOW.out _ e).2;omega,by omega⟩ (by simp) (by unfold maxLen;omega))
       rw [<- e18]
       clear e18
       have hcu18:=fun i=>M18.out.row.cell i
       have hfu18:=fun i=>M18.out.row.frozen i
       have hlu18:=M18.out.row.lt
       have hcr18:=fun i=>Rr18.out.cell i
       have hlr18:=Rr18.out.lt
       have hca18:=fun i=>Ra18.out.cell i
       have hla18:=Ra18.out.lt
       have hcrow18:=fun i=>Rrow18.out.cell i
       have hlrow18:=Rrow18.out.lt
       have hS4:w18.cell? ⟨w3.heap.size,2,none⟩=some (.slice A acc.length c):=Ra18.out.cell 2
       refine hK.out _ _ hS4 (fun hS5=>?_)
       clear hK K hS3 hS4
       try simp only [nA,nB,nC,Act.put,nD,nE,nF]
       refine wpAnyT_step (i:=5) (by kernel_rfl) rfl (fun K hK=>?_)
       refine step_append_X w18 rfl (.tmp 45) (.tmp 48) 38 rfl 37 zCn 2 40 Tryz.underlying38 (by kernel_rfl) rfl (by omega) (wv.heap.size) (.slice A acc.length c) acc.length _ GG18.out (some ⟨w17.heap.size,0,none⟩) 1 1 _ rfl SL18.out (by omega) (by unfold maxLen;omega) (by omega) rfl rfl ?_
       clear hcu18 hfu18 hlu18 hcr18 hlr18 hca18 hla18 hcrow18 hlrow18
       intro A19 c19 w19 hG19 hGr19
       obtain⟨acc19,hac19⟩:∃ x,x=acc++[n2]:=⟨_,rfl⟩
       have HAC19:=LH hac19
       have hal19:acc19.length=acc.length+1:=by rw [hac19];simp
       have GN19:=LH (show Grx (fun b=>w.heap.size<=b/\b≠w3.heap.size/\b≠w.heap.size) w19 (wv.heap.size) 37 2 (.slice A19 acc19.length c19) acc19.length (acc19.map GCon.toD) from by rw [hal19,hac19];simpa using hG19)
       rw [<- hal19]
       have HAL19:=LH hal19
       clear hal19 hac19
       obtain⟨q19,hq19,hk19⟩:=hGr19.bxe (B:=wv.heap.size) (fun q hq=>(HOW.out q hq).1) (by omega)
       have hz19:=hGr19.size
       have K19:=LH hk19
       clear hG19 hGr19 hk19
       have Rr19:=LH (K19.out.row Rr18.out (by omega))
       have Ra19:=LH (K19.out.row Ra18.out (by omega))
       have DV19:=LH (DV18.out.keep fun b hb=>K19.out.kq hb (by have h1:=hb.1;have h2:=hb.2;omega))
       have M19:=LH (M18.out.chg K19.out (by omega) (by omega))
       clear Rr18 Ra18 DV18 M18
       clear GG18
       have hcu19:=fun i=>M19.out.row.cell i
       have hfu19:=fun i=>M19.out.row.frozen i
       have hlu19:=M19.out.row.lt
       have hcr19:=fun i=>Rr19.out.cell i
       have hlr19:=Rr19.out.lt
       have hca19:=fun i=>Ra19.out.cell i
       have hfa19:=fun i=>Ra19.out.frozen i
       have hla19:=Ra19.out.lt
       have hS6:w19.cell? ⟨w3.heap.size,2,none⟩=some (.slice A acc.length c):=Ra19.out.cell 2
       refine hK.out _ _ hS6 (fun hS7=>?_)
       clear hK K hS5 hS6
       try simp only [nA,nB,nC,Act.put,nD,nE,nF]
       refine wpAnyT_tk (i:=6) (oi:=_) (v:=?tv15) rfl (Or.inl ⟨by rfl,?th15⟩) hS7 ?_
       case th15=>(intro x hSx;(try dsimp only at hSx);go_simp;(try with_reducible rfl))
       try simp only [nA,nB,nC,Act.put,nD,nE,nF]
       refine wpAnyT_last (by kernel_rfl) (by kernel_rfl) rfl (fun K hK=>?_)
       try simp only [nA,nB,nC]
       go_simp
       refine hK.out _ _ ?_
       clear hK K
       try simp only [nA,nB,nC,Act.put,nD,nE,nF]
       clear hS7 HOW
       clear hcu19 hfu19 hlu19 hcr19 hlr19 hca19 hfa19 hla19
       obtain⟨w20,e20,RO20,hz20,K20⟩:=storedF Ra19.out 2 (.slice A19 acc19.length c19)
       have RN20:=LH (show Row w20 w3.heap.size 40 #[.string tx,.int .i64 s.vars.length,.slice A19 acc19.length c19] from RO20.out)
       clear RO20
       have Rr20:=LH (K20.out.row Rr19.out (by omega))
       have DV20:=LH (DV19.out.keep fun b hb=>K20.out.kq hb (by have h1:=hb.1;have h2:=hb.2;omega))
       have GG20:=LH (GN19.out.keepP (w':=w20) (by omega) fun b hb h=>K20.out.block b hb (by
         rcases h with h | h
         · have:=GN19.out.own b h;omega
         · obtain⟨x1,x2,x3⟩:=h;omega))
       have M20:=LH (M19.out.chg K20.out (by omega) (by omega))
       clear Rr19 DV19 GN19 M19
       clear Ra19
       rw [<- e20]
       clear e20
       have hcu20:=fun i=>M20.out.row.cell i
       have hfu20:=fun i=>M20.out.row.frozen i
       have hlu20:=M20.out.row.lt
       have hcr20:=fun i=>Rr20.out.cell i
       have hlr20:=Rr20.out.lt
       have hca20:=fun i=>RN20.out.cell i
       have hla20:=RN20.out.lt
       have hall:=HAL19.out
       have HN:I j w20:=by
        rw [HI.out]
        exact⟨acc19,s3,A19,c19,(by rw [HAC19.out];exact HR.out),by omega,by omega,RN20.out,Rr20.out,GG20.out,M20.out,RN20.out.lt,⟨DV20.out,by omega⟩⟩
       go_roundw
       case rel=>first | exact⟨j,HN⟩ | ((repeat apply Exists.intro);exact⟨⟨j,HN⟩,rfl⟩)
       case measure=>rw [HJ.out];exact Nat.lt_succ_of_le (leastK_le (I:=fun j=>I j w20) HN)
   ·
    have hx:=HX.out
    simp only [hs,if_true] at hx
    clear HX
    have HX:=LH hx
    clear hx
    have HTV:=LH (PCur.ptext_le (M6.out.cur2 HC.out ((sl_of_grx GV6.out (fun b h=>h)).keep fun b hb=>⟨⟨hb.1,by have h2:w3.heap.size+1<=b:=hb.2;omega⟩,rfl⟩)) false)
    go_upto_region 5 with (fail)
    refine wp_region_T (fun x=>x.cell? ⟨g,3,none⟩=some (Value.slice V' s.vars.length cv')) 11 (by kernel_rfl) ?_
    clear hcu6 hfu6 hlu6 hcr6 hlr6 hca6 hfa6 hla6
    obtain⟨w7,e7⟩:∃ x,x=w6.drew:=⟨_,rfl⟩
    rw [<- e7]
    have hz7:w7.heap.size<=w6.heap.size/\w6.heap.size<=w7.heap.size:=by rw [e7];exact⟨Nat.le_refl _,Nat.le_refl _⟩
    have K7:=LH (show Bx w6.heap.size w6 w7 by rw [e7];exact Bx.of_below ((Below.refl _ _).drew) (Nat.le_refl _))
    clear e7
    have Rr7:=LH (K7.out.row Rr6.out (by omega))
    have Ra7:=LH (K7.out.row Ra6.out (by omega))
    have GV7:=LH (GV6.out.keepP (w':=w7) (by omega) fun b hb h=>K7.out.block b hb (by
      rcases h with h | h
      · have:=GV6.out.own b h;omega
      · have h2:w3.heap.size+1<=b:=h;omega))
    have M7:=LH (M6.out.chg K7.out (by omega) (by omega))
    clear Rr6 Ra6 GV6 M6
    have hcu7:=fun i=>M7.out.row.cell i
    have hfu7:=fun i=>M7.out.row.frozen i
    have hlu7:=M7.out.row.lt
    have hcr7:=fun i=>Rr7.out.cell i
    have hlr7:=Rr7.out.lt
    have hca7:=fun i=>Ra7.out.cell i
    have hla7:=Ra7.out.lt
    have hS1:w7.cell? ⟨g,3,none⟩=some (Value.slice V' s.vars.length cv'):=M7.out.row.cell 3
    refine wpAnyT_tk (i:=0) (oi:=_) (v:=?tv1) rfl (Or.inl ⟨by rfl,?th1⟩) hS1 ?_
    case th1=>(intro x hSx;(try dsimp only at hSx);go_simp;(try with_reducible rfl))
    try simp only [nA,nB,nC,Act.put,nD,nE,nF]
    refine wpAnyT_tk (i:=1) (oi:=_) (v:=?tv2) rfl (Or.inl ⟨by rfl,?th2⟩) hS1 ?_
    case th2=>(intro x hSx;(try dsimp only at hSx);go_simp;(try with_reducible rfl))
    try simp only [nA,nB,nC,Act.put,nD,nE,nF]
    refine wpAnyT_tk (i:=2) (oi:=_) (v:=?tv3) rfl (Or.inl ⟨by rfl,?th3⟩) hS1 ?_
    case th3=>(intro x hSx;(try dsimp only at hSx);go_simp;(try with_reducible rfl))
    try simp only [nA,nB,nC,Act.put,nD,nE,nF]
    refine wpAnyT_tk (i:=3) (oi:=_) (v:=?tv4) rfl (Or.inl ⟨by rfl,?th4⟩) hS1 ?_
    case th4=>(intro x hSx;(try dsimp only at hSx);go_simp;(try with_reducible rfl))
    try simp only [nA,nB,nC,Act.put,nD,nE,nF]
    refine wpAnyT_tk (i:=4) (oi:=_) (v:=?tv5) rfl (Or.inl ⟨by rfl,?th5⟩) hS1 ?_
    case th5=>(intro x hSx;(try dsimp only at hSx);go_simp;(try with_reducible rfl))
    try simp only [nA,nB,nC,Act.put,nD,nE,nF]
    refine wpAnyT_tk (i:=5) (oi:=_) (v:=?tv6) rfl (Or.inl ⟨by rfl,?th6⟩) hS1 ?_
    case th6=>(intro x hSx;(try dsimp only at hSx);go_simp;(try with_reducible rfl))
    try simp only [nA,nB,nC,Act.put,nD,nE,nF]
    refine wpAnyT_step (i:=6) (by kernel_rfl) rfl (fun K hK=>?_)
    try simp only [nA,nB,nC]
    go_simp
    go_at_call 63
    refine(l3TextN ts g L cl V' cv' s w7 (M7.out.cur2 HC.out ((sl_of_grx GV7.out (fun b h=>h)).keep fun b hb=>⟨⟨hb.1,by have h2:w3.heap.size+1<=b:=hb.2;omega⟩,rfl⟩))).mono ?_
    clear hcu7 hfu7 hlu7 hcr7 hlr7 hca7 hla7
    rintro e w8 ⟨rfl,hm8⟩
    replace hm8:Mv ts g L cl V' cv' s.vars ((pText ts false s).2) w7 w8:=hm8
    have hz8:=hm8.size
    have K8:=LH hm8.bx
    have Rr8:=LH (K8.out.row Rr7.out (by omega))
    have Ra8:=LH (K8.out.row Ra7.out (by omega))
    have GV8:=LH (GV7.out.keepP (w':=w8) (by omega) fun b hb h=>K8.out.block b hb (by
      rcases h with h | h
      · have:=GV7.out.own b h;omega
      · have h2:w3.heap.size+1<=b:=h;omega))
    have M8:=LH (M7.out.trans hm8)
    clear Rr7 Ra7 GV7 M7
    clear hm8
    have hcu8:=fun i=>M8.out.row.cell i
    have hfu8:=fun i=>M8.out.row.frozen i
    have hlu8:=M8.out.row.lt
    have hcr8:=fun i=>Rr8.out.cell i
    have hlr8:=Rr8.out.lt
    have hca8:=fun i=>Ra8.out.cell i
    have hla8:=Ra8.out.lt
    obtain⟨tv,htv⟩:∃ x,(pText ts false s).1=x:=⟨_,rfl⟩
    obtain⟨sv,hsv⟩:∃ x,(pText ts false s).2=x:=⟨_,rfl⟩
    rw [hsv] at M8 HX
    rw [htv] at HTV HX ⊢
    clear htv hsv
    clear hcu8 hfu8 hlu8 hcr8 hlr8 hca8 hla8
    have hcu8:=fun i=>M8.out.row.cell i
    have hfu8:=fun i=>M8.out.row.frozen i
    have hlu8:=M8.out.row.lt
    have hcr8:=fun i=>Rr8.out.cell i
    have hlr8:=Rr8.out.lt
    have hca8:=fun i=>Ra8.out.cell i
    have hla8:=Ra8.out.lt
    have hS2:w8.cell? ⟨g,3,none⟩=some (Value.slice V' s.vars.length cv'):=M8.out.row.cell 3
    refine hK.out _ _ hS2 (fun hS3=>?_)
    clear hK K hS1 hS2
    try simp only [nA,nB,nC,Act.put,nD,nE,nF]
    refine wpAnyT_step (i:=7) (by kernel_rfl) rfl (fun K hK=>?_)
    try simp only [nA,nB,nC]
    go_simp
    clear hcu8 hfu8 hlu8 hcr8 hlr8 hca8 hla8
    obtain⟨w9,e9,Rrow9,hz9,K9⟩:=boxed w8 9 #[.string tv]
    have Rr9:=LH (K9.out.row Rr8.out (by omega))
    have Ra9:=LH (K9.out.row Ra8.out (by omega))
    have GV9:=LH (GV8.out.keepP (w':=w9) (by omega) fun b hb h=>K9.out.block b hb (by
      rcases h with h | h
      · have:=GV8.out.own b h;omega
      · have h2:w3.heap.size+1<=b:=h;omega))
    have M9:=LH (M8.out.chg K9.out (by omega) (by omega))
    clear Rr8 Ra8 GV8 M8
    have SL:=LH (show Sl w9 (fun b=>b<w9.heap.size/\(Value.slice V' s.vars.length cv').ownBlock≠some b/\w3.heap.size+1<=b) 1 (some ⟨w8.heap.size,0,none⟩) 1 ([tv].map D.str) from Sl.ofRow Rrow9.out (rdC_one1 (D.rd_str.2 ⟨rfl,HTV.out⟩) rfl) ⟨by omega,fun e=>by have h3:=(HOW.out _ e).2;omega,by omega⟩ (by simp) (by unfold maxLen;omega))
    rw [<- e9]
    clear e9
    have hcu9:=fun i=>M9.out.row.cell i
    have hfu9:=fun i=>M9.out.row.frozen i
    have hlu9:=M9.out.row.lt
    have hcr9:=fun i=>Rr9.out.cell i
    have hlr9:=Rr9.out.lt
    have hca9:=fun i=>Ra9.out.cell i
    have hla9:=Ra9.out.lt
    have hcrow9:=fun i=>Rrow9.out.cell i
    have hlrow9:=Rrow9.out.lt
    have hS4:w9.cell? ⟨g,3,none⟩=some (Value.slice V' s.vars.length cv'):=M9.out.row.cell 3
    refine hK.out _ _ hS4 (fun hS5=>?_)
    clear hK K hS3 hS4
    try simp only [nA,nB,nC,Act.put,nD,nE,nF]
    refine wpAnyT_step (i:=8) (by kernel_rfl) rfl (fun K hK=>?_)
    refine step_append_X w9 rfl (.tmp 18) (.tmp 21) 69 rfl 9 (.string ⟨#[]⟩) 1 16 Tryz.underlying69 (by kernel_rfl) rfl (by omega) (w3.heap.size+1) (Value.slice V' s.vars.length cv') s.vars.length _ GV9.out (some ⟨w8.heap.size,0,none⟩) 1 1 _ rfl SL.out (by omega) (by unfold maxLen;omega) (by omega) rfl rfl ?_
    clear hcu9 hfu9 hlu9 hcr9 hlr9 hca9 hla9 hcrow9 hlrow9
    intro V2 cv2 w10 hG hGr
    obtain⟨vs2,hvs⟩:∃ x,x=s.vars++[tv]:=⟨_,rfl⟩
    have HVS:=LH hvs
    have hal2:vs2.length=s.vars.length+1:=by rw [hvs];simp
    have GN:=LH (show Grx (fun b=>w3.heap.size+1<=b) w10 (w3.heap.size+1) 9 1 (.slice V2 vs2.length cv2) vs2.length (vs2.map D.str) from by rw [hal2,hvs];simpa using hG)
    rw [<- hal2]
    have HAL2:=LH hal2
    clear hal2 hvs
    obtain⟨q0,hq0,hk0⟩:=hGr.bxe (B:=w3.heap.size+1) (fun q hq=>(HOW.out q hq).1) (by omega)
    have hz10:=hGr.size
    have K10:=LH hk0
    clear hG hGr hk0
    have Rr10:=LH (K10.out.row Rr9.out (by omega))
    have Ra10:=LH (K10.out.row Ra9.out (by omega))
    have M10:=LH (M9.out.chg K10.out (by omega) (by omega))
    clear Rr9 Ra9 M9
    clear GV9
    have hcu10:=fun i=>M10.out.row.cell i
    have hfu10:=fun i=>M10.out.row.frozen i
    have hlu10:=M10.out.row.lt
    have hcr10:=fun i=>Rr10.out.cell i
    have hlr10:=Rr10.out.lt
    have hca10:=fun i=>Ra10.out.cell i
    have hla10:=Ra10.out.lt
    have hS6:w10.cell? ⟨g,3,none⟩=some (Value.slice V' s.vars.length cv'):=M10.out.row.cell 3
    refine hK.out _ _ hS6 (fun hS7=>?_)
    clear hK K hS5 hS6
    try simp only [nA,nB,nC,Act.put,nD,nE,nF]
    refine wpAnyT_step (i:=9) (by kernel_rfl) rfl (fun K hK=>?_)
    try simp only [nA,nB,nC]
    go_simp
    refine hK.out _ _ hS7 (fun hS8=>?_)
    clear hK K hS7
    try simp only [nA,nB,nC,Act.put,nD,nE,nF]
    refine wpAnyT_tk (i:=10) (oi:=_) (v:=?tv7) rfl (Or.inl ⟨by rfl,?th7⟩) hS8 ?_
    case th7=>(intro x hSx;(try dsimp only at hSx);go_simp;(try with_reducible rfl))
    try simp only [nA,nB,nC,Act.put,nD,nE,nF]
    refine wpAnyT_last (by kernel_rfl) (by kernel_rfl) rfl (fun K hK=>?_)
    try simp only [nA,nB,nC]
    go_simp
    refine hK.out _ _ ?_
    clear hK K
    try simp only [nA,nB,nC,Act.put,nD,nE,nF]
    clear hS8 HOW
    clear hcu10 hfu10 hlu10 hcr10 hlr10 hca10 hla10
    obtain⟨w11,e11⟩:∃ x,x=w10.setCell ⟨g,3,none⟩ (.slice V2 vs2.length cv2):=⟨_,rfl⟩
    rw [<- e11]
    have hz11:w11.heap.size=w10.heap.size:=by rw [e11];simp [World.setCell]
    have K11:=LH (show Bx g w10 w11 by rw [e11];exact(Bx.refl _ _).set (p:=⟨g,3,none⟩) (.inl rfl) _)
    have MN:=LH (show Mv ts g L cl V2 cv2 vs2 {sv with vars:=vs2} w w11 by rw [e11];exact M10.out.vars V2 cv2 vs2)
    clear e11
    have Rr11:=LH (K11.out.row Rr10.out (by omega))
    have Ra11:=LH (K11.out.row Ra10.out (by omega))
    have GV11:=LH (GN.out.keepP (w':=w11) (by omega) fun b hb h=>K11.out.block b hb (by
      rcases h with h | h
      · have:=GN.out.own b h;omega
      · have h2:w3.heap.size+1<=b:=h;omega))
    clear Rr10 Ra10 GN
    clear M10
    have hcu11:=fun i=>MN.out.row.cell i
    have hfu11:=fun i=>MN.out.row.frozen i
    have hlu11:=MN.out.row.lt
    have hcr11:=fun i=>Rr11.out.cell i
    have hlr11:=Rr11.out.lt
    have hca11:=fun i=>Ra11.out.cell i
    have hla11:=Ra11.out.lt
    have hall:=HAL2.out
    rw [<- HVS.out] at HX
    have HN:I j w11:=by
     rw [HI.out]
     exact⟨{sv with vars:=vs2},V2,cv2,HX.out,by omega,by dsimp only;omega,Ra11.out,Rr11.out,GV11.out,MN.out,Ra11.out.lt⟩
    go_roundw
    case rel=>first | exact⟨j,HN⟩ | ((repeat apply Exists.intro);exact⟨⟨j,HN⟩,rfl⟩)
    case measure=>rw [HJ.out];exact Nat.lt_succ_of_le (leastK_le (I:=fun j=>I j w11) HN)
end Go.Proofs.YtgbjdhfaklmjcaaGreat
