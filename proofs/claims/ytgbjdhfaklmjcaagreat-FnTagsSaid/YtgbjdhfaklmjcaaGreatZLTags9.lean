/- Texts of the claim LTags in one: PaJ PaF. Conditions: none but bounds on sizes. -/
import Derived.Test.YtgbjdhfaklmjcaaGreatZLTags4
import Derived.Deep.CutRange
import Derived.Test.YtgbjdhfaklmjcaaGreatZLTags3
import Derived.Test.YtgbjdhfaklmjcaaGreatZLTags1
namespace Go.Proofs.YtgbjdhfaklmjcaaGreat
set_option maxRecDepth 20000
set_option linter.unusedVariables false
set_option linter.unusedSimpArgs false
open Go.RowKit
set_option maxHeartbeats 2000000
theorem l3Apply (k:Nat) (hkk:k<=1000000) (hA:∀ j,j<=k->Ok1 105 pAtom j):Ok1 104 pApply (k+1):=by
 intro ts g L cl V cv st w h n st' hp
 have HA:=LH hA
 clear hA
 have HC:=LH h
 have M0:=LH h.mv
 have hgl:=h.row.lt
 clear h
 go_enter Tryz.func104,Tryz.ntmps104
 go_wp2_with fail
 obtain⟨w1,e1,Rr1,hz1,K1⟩:=boxed w 45 #[.int .i64 0,.int .i64 0,.string ⟨#[]⟩,.string ⟨#[]⟩,.slice none 0 0]
 have M1:=LH (M0.out.chg K1.out (by omega) (by omega))
 rw [<- e1]
 clear e1
 have hlu1:=M1.out.row.lt
 have hcr1:=fun i=>Rr1.out.cell i
 have hlr1:=Rr1.out.lt
 refine(l3Is ts g L cl V cv st w1 (M1.out.cur HC.out) ⟨#[112,117,116]⟩).mono ?_
 clear hlu1 hcr1 hlr1
 rintro e w2 ⟨rfl,hb2⟩
 have hz2:=hb2.size
 have K2:=LH (Bx.of_below (g:=g) hb2 (Nat.le_refl _))
 have Rr2:=LH (K2.out.row Rr1.out (by omega))
 have M2:=LH (M1.out.below hb2)
 clear Rr1 M1
 clear hb2
 have hlu2:=M2.out.row.lt
 have hcr2:=fun i=>Rr2.out.cell i
 have hlr2:=Rr2.out.lt
 cases hs0:pIs ts [112,117,116] st
 ·
  go_wp2_with fail
  refine(l3Con ts g L cl V cv st w2 (M2.out.cur HC.out)).mono ?_
  clear hlu2 hcr2 hlr2
  rintro e w3 ⟨rfl,hb3⟩
  have hz3:=hb3.size
  have K3:=LH (Bx.of_below (g:=g) hb3 (Nat.le_refl _))
  have Rr3:=LH (K3.out.row Rr2.out (by omega))
  have M3:=LH (M2.out.below hb3)
  clear Rr2 M2
  clear hb3
  have hlu3:=M3.out.row.lt
  have hcr3:=fun i=>Rr3.out.cell i
  have hlr3:=Rr3.out.lt
  cases hs1:pCon ts st
  ·
   simp [pApply,hs0,hs1,Option.bind_eq_some_iff] at hp
   obtain⟨n0,s0,hp0,hp1⟩:=hp
   have HL:=LH hp1
   clear hp1
   go_wp2_with fail
   refine(HA.out k (Nat.le_refl _) ts g L cl V cv st w3 (M3.out.cur HC.out) n0 s0 hp0).mono ?_
   clear hlu3 hcr3 hlr3
   rintro e w4 ⟨A0,c0,rfl,ha4,hm4⟩
   have hz4:=hm4.size
   have K4:=LH hm4.bx
   have DN4:=LH ha4
   have Rr4:=LH (K4.out.row Rr3.out (by omega))
   have M4:=LH (M3.out.trans hm4)
   clear Rr3 M3
   clear hm4 ha4
   have hlu4:=M4.out.row.lt
   have hcr4:=fun i=>Rr4.out.cell i
   have hlr4:=Rr4.out.lt
   clear hp0
   go_wp2_with fail
   clear hlu4 hcr4 hlr4
   obtain⟨w5,e5,Ra5,hz5,K5⟩:=boxed w4 45 #[.int .i64 n0.op,.int .i64 n0.n,.string n0.s,.string n0.t,.slice A0 n0.kids.length c0]
   have Rr5:=LH (K5.out.row Rr4.out (by omega))
   have D05:=LH (DN4.out.keep fun b hb=>K5.out.kq hb (by have h1:=hb.1;have h2:=hb.2;omega))
   have M5:=LH (M4.out.chg K5.out (by omega) (by omega))
   clear Rr4 DN4 M4
   rw [<- e5]
   clear e5
   have hlu5:=M5.out.row.lt
   have hcr5:=fun i=>Rr5.out.cell i
   have hlr5:=Rr5.out.lt
   have hca5:=fun i=>Ra5.out.cell i
   have hla5:=Ra5.out.lt
   clear hlu5 hcr5 hlr5 hca5 hla5
   have hINV:∃ I:Nat->World->Prop,I=fun j wr=>∃ (x:GNode) (s:PSt) (A:Option Addr) (c:Nat),pApps ts j s x=some (n,st')/\j<=k/\Row wr w4.heap.size 45 #[.int .i64 x.op,.int .i64 x.n,.string x.s,.string x.t,.slice A x.kids.length c]/\Row wr w.heap.size 45 #[.int .i64 0,.int .i64 0,.string ⟨#[]⟩,.string ⟨#[]⟩,.slice none 0 0]/\GNode.At wr (fun b=>b<wr.heap.size/\w.heap.size<=b/\b≠w4.heap.size/\b≠w.heap.size) A c x/\Mv ts g L cl V cv st.vars s w wr/\w4.heap.size<wr.heap.size:=⟨_,rfl⟩
   obtain⟨I,hI⟩:=hINV
   have HI:=LH hI
   have I0:I k w5:=by
    rw [hI]
    exact⟨n0,s0,A0,c0,HL.out,Nat.le_refl _,Ra5.out,Rr5.out,D05.out.keep fun b hb=>⟨⟨by have h1:=hb.1;have h2:=hb.2;omega,by have h1:=hb.1;have h2:=hb.2;omega⟩,rfl⟩,M5.out,Ra5.out.lt⟩
   have hnw:w.heap.size<w4.heap.size:=by omega
   have hzw:w.heap.size<=w5.heap.size:=M5.out.size
   go_loopw [5] (fun v wr=>∃ j,I j wr) (fun _ wr=>leastK (fun j=>I j wr))
   case atStart=>exact⟨k,I0⟩
   case round=>
    have hex:=hrel
    have hleast:=leastK_spec (I:=fun j=>I j wr) hex
    obtain⟨j,hj⟩:∃ j,leastK (fun j=>I j wr)=j:=⟨_,rfl⟩
    rw [hj] at hleast
    have HJ:=LH hj
    clear hj hex hrel I0
    rw [hI] at hleast
    obtain⟨x,s,A,c,hx,hjk,ra,rr,da,hm,hnl⟩:=hleast
    clear Ra5 Rr5 D05 M5 hI
    have RA0:=LH ra
    have RR0:=LH rr
    have DA0:=LH da
    have MR0:=LH hm
    have hzr:=hm.size
    clear ra rr da hm
    have hlu5:=MR0.out.row.lt
    have hcr5:=fun i=>RR0.out.cell i
    have hlr5:=RR0.out.lt
    have hca5:=fun i=>RA0.out.cell i
    have hla5:=RA0.out.lt
    cases j with
    | zero=>simp [pApps] at hx
    | succ j=>
     go_wp2_with fail
     refine(l3Atomic ts g L cl V cv s wr (MR0.out.cur HC.out)).mono ?_
     clear hlu5 hcr5 hlr5 hca5 hla5
     rintro e w6 ⟨rfl,hb6⟩
     have hz6:=hb6.size
     have K6:=LH (Bx.of_below (g:=g) hb6 (Nat.le_refl _))
     have Rr6:=LH (K6.out.row RR0.out (by omega))
     have Ra6:=LH (K6.out.row RA0.out (by omega))
     have Da6:=LH (DA0.out.keep fun b hb=>K6.out.kq hb (by have h1:=hb.1;have h2:=hb.2;omega))
     have M6:=LH (MR0.out.below hb6)
     clear RR0 RA0 DA0 MR0
     clear hb6
     have hlu6:=M6.out.row.lt
     have hcr6:=fun i=>Rr6.out.cell i
     have hfr6:=fun i=>Rr6.out.frozen i
     have hlr6:=Rr6.out.lt
     have hca6:=fun i=>Ra6.out.cell i
     have hla6:=Ra6.out.lt
     cases hs:pAtomic ts s
     ·
      simp [pApps,hs,Option.bind_eq_some_iff] at hx
      obtain⟨rfl,rfl⟩:=hx
      go_wp2_with fail
      clear hlu6 hcr6 hfr6 hlr6 hca6 hla6
      obtain⟨w7,e7,RN7,hz7,K7⟩:=stored5 Rr6.out (.int .i64 x.op) (.int .i64 x.n) (.string x.s) (.string x.t) (.slice A x.kids.length c)
      have Ra7:=LH (K7.out.row Ra6.out (by omega))
      have Da7:=LH (Da6.out.keep fun b hb=>K7.out.kq hb (by have h1:=hb.1;have h2:=hb.2;omega))
      have M7:=LH (M6.out.chg K7.out (by omega) (by omega))
      clear Ra6 Da6 M6
      clear Rr6
      rw [<- e7]
      clear e7
      have hlu7:=M7.out.row.lt
      have hca7:=fun i=>Ra7.out.cell i
      have hla7:=Ra7.out.lt
      have hcr7:=fun i=>RN7.out.cell i
      have hlr7:=RN7.out.lt
      refine bodyPost_ret (v:=.agg #[.int .i64 x.op,.int .i64 x.n,.string x.s,.string x.t,.slice A x.kids.length c]) (by simp [results,Tryz.results104,go_sem,hcr7]) rfl ?_
      exact⟨A,c,rfl,Da7.out.keep fun b hb=>⟨⟨by have h1:=hb.1;have h2:=hb.2;omega,by have h1:=hb.1;have h2:=hb.2;omega⟩,rfl⟩,M7.out⟩
     ·
      simp [pApps,hs,Option.bind_eq_some_iff] at hx
      obtain⟨n1,s1,hq,hr⟩:=hx
      have HR:=LH hr
      clear hr
      go_wp2_with fail
      refine(HA.out j (by omega) ts g L cl V cv s w6 (M6.out.cur HC.out) n1 s1 hq).mono ?_
      clear hlu6 hcr6 hfr6 hlr6 hca6 hla6
      rintro e w7 ⟨A1,c1,rfl,ha7,hm7⟩
      have hz7:=hm7.size
      have K7:=LH hm7.bx
      have DN7:=LH ha7
      have Rr7:=LH (K7.out.row Rr6.out (by omega))
      have Ra7:=LH (K7.out.row Ra6.out (by omega))
      have Da7:=LH (Da6.out.keep fun b hb=>K7.out.kq hb (by have h1:=hb.1;have h2:=hb.2;omega))
      have M7:=LH (M6.out.trans hm7)
      clear Rr6 Ra6 Da6 M6
      clear hm7 ha7
      have hlu7:=M7.out.row.lt
      have hcr7:=fun i=>Rr7.out.cell i
      have hlr7:=Rr7.out.lt
      have hca7:=fun i=>Ra7.out.cell i
      have hla7:=Ra7.out.lt
      clear hq
      go_wp2_with fail
      clear hlu7 hcr7 hlr7 hca7 hla7
      obtain⟨w8,e8,Rb8,hz8,K8⟩:=boxed w7 45 #[.int .i64 n1.op,.int .i64 n1.n,.string n1.s,.string n1.t,.slice A1 n1.kids.length c1]
      have Rr8:=LH (K8.out.row Rr7.out (by omega))
      have Ra8:=LH (K8.out.row Ra7.out (by omega))
      have Da8:=LH (Da7.out.keep fun b hb=>K8.out.kq hb (by have h1:=hb.1;have h2:=hb.2;omega))
      have D18:=LH (DN7.out.keep fun b hb=>K8.out.kq hb (by have h1:=hb.1;have h2:=hb.2;omega))
      have M8:=LH (M7.out.chg K8.out (by omega) (by omega))
      clear Rr7 Ra7 Da7 DN7 M7
      obtain⟨w9,e9,Rrow9,hz9,K9⟩:=boxed w8 45 #[.int .i64 x.op,.int .i64 x.n,.string x.s,.string x.t,.slice A x.kids.length c,.int .i64 n1.op,.int .i64 n1.n,.string n1.s,.string n1.t,.slice A1 n1.kids.length c1]
      have hy9:w8.heap.size=(w7.heap.size+1):=by omega
      rw [hy9] at Rrow9 K9
      have Rr9:=LH (K9.out.row Rr8.out (by omega))
      have Ra9:=LH (K9.out.row Ra8.out (by omega))
      have Rb9:=LH (K9.out.row Rb8.out (by omega))
      have Da9:=LH (Da8.out.keep fun b hb=>K9.out.kq hb (by have h1:=hb.1;have h2:=hb.2;omega))
      have D19:=LH (D18.out.keep fun b hb=>K9.out.kq hb (by have h1:=hb.1;have h2:=hb.2;omega))
      have M9:=LH (M8.out.chg K9.out (by omega) (by omega))
      clear Rr8 Ra8 Rb8 Da8 D18 M8
      have SL9:=LH (show Sl w9 (fun b=>b<w9.heap.size/\w.heap.size<=b/\b≠w4.heap.size/\b≠w.heap.size) 5 (some ⟨(w7.heap.size+1),0,none⟩) 2 ([x,n1].map GNode.toD) from Sl.ofRow Rrow9.out (rdC_cons (GNode.rd_mk (Da9.out.keep (w':=w9) (S':=fun b=>b<w9.heap.size/\w.heap.size<=b/\b≠w4.heap.size/\b≠w.heap.size) fun b hb=>⟨⟨by have h1:=hb.1;have h2:=hb.2;omega,by have h1:=hb.1;have h2:=hb.2;omega⟩,rfl⟩)) rfl (rdC_one1 (GNode.rd_mk (D19.out.keep (w':=w9) (S':=fun b=>b<w9.heap.size/\w.heap.size<=b/\b≠w4.heap.size/\b≠w.heap.size) fun b hb=>⟨⟨by have h1:=hb.1;have h2:=hb.2;omega,by have h1:=hb.1;have h2:=hb.2;omega⟩,rfl⟩)) rfl)) ⟨by omega,by omega⟩ (by simp) (by unfold maxLen;omega))
      rw [<- e8,<- e9]
      clear e8 e9
      have hlu9:=M9.out.row.lt
      have hcr9:=fun i=>Rr9.out.cell i
      have hlr9:=Rr9.out.lt
      have hca9:=fun i=>Ra9.out.cell i
      have hla9:=Ra9.out.lt
      have hcb9:=fun i=>Rb9.out.cell i
      have hlb9:=Rb9.out.lt
      have hcrow9:=fun i=>Rrow9.out.cell i
      have hlrow9:=Rrow9.out.lt
      refine(l3Node (fun b=>w.heap.size<=b/\b≠w4.heap.size/\b≠w.heap.size) (4) [x,n1] (some ⟨(w7.heap.size+1),0,none⟩) 2 w9 SL9.out (by simp)).mono ?_
      clear hlu9 hcr9 hlr9 hca9 hla9 hcb9 hlb9 hcrow9 hlrow9
      rintro e w10 ⟨A2,c2,rfl,hG10,hb10⟩
      have hz10:=hb10.size
      have K10:=LH (Bx.of_below (g:=g) hb10 (Nat.le_refl _))
      have GN10:=LH hG10
      have Rr10:=LH (K10.out.row Rr9.out (by omega))
      have Ra10:=LH (K10.out.row Ra9.out (by omega))
      have Rb10:=LH (K10.out.row Rb9.out (by omega))
      have Rrow10:=LH (K10.out.row Rrow9.out (by omega))
      have Da10:=LH (Da9.out.keep fun b hb=>K10.out.kq hb (by have h1:=hb.1;have h2:=hb.2;omega))
      have D110:=LH (D19.out.keep fun b hb=>K10.out.kq hb (by have h1:=hb.1;have h2:=hb.2;omega))
      have M10:=LH (M9.out.below hb10)
      clear Rr9 Ra9 Rb9 Rrow9 Da9 D19 M9
      clear hb10 hG10
      have hlu10:=M10.out.row.lt
      have hcr10:=fun i=>Rr10.out.cell i
      have hlr10:=Rr10.out.lt
      have hca10:=fun i=>Ra10.out.cell i
      have hfa10:=fun i=>Ra10.out.frozen i
      have hla10:=Ra10.out.lt
      have hcb10:=fun i=>Rb10.out.cell i
      have hlb10:=Rb10.out.lt
      have hcrow10:=fun i=>Rrow10.out.cell i
      have hlrow10:=Rrow10.out.lt
      have DD:=LH (ndOf (op:=4) GN10.out (fun b h=>by omega) (by decide))
      go_wp2_with fail
      clear hlu10 hcr10 hlr10 hca10 hfa10 hla10 hcb10 hlb10 hcrow10 hlrow10
      obtain⟨w11,e11,RN11,hz11,K11⟩:=stored5 Ra10.out (.int .i64 4) (.int .i64 0) (.string ⟨#[]⟩) (.string ⟨#[]⟩) (.slice A2 2 c2)
      have Rr11:=LH (K11.out.row Rr10.out (by omega))
      have Rb11:=LH (K11.out.row Rb10.out (by omega))
      have D211:=LH (DD.out.keep fun b hb=>K11.out.kq hb (by have h1:=hb.1;have h2:=hb.2;omega))
      have M11:=LH (M10.out.chg K11.out (by omega) (by omega))
      clear Rr10 Rb10 DD M10
      clear Ra10
      rw [<- e11]
      clear e11
      have hlu11:=M11.out.row.lt
      have hcr11:=fun i=>Rr11.out.cell i
      have hlr11:=Rr11.out.lt
      have hcb11:=fun i=>Rb11.out.cell i
      have hlb11:=Rb11.out.lt
      have hca11:=fun i=>RN11.out.cell i
      have hla11:=RN11.out.lt
      have HN:I j w11:=by
       rw [HI.out]
       exact⟨nd (4) [x,n1],s1,A2,c2,HR.out,by omega,RN11.out,Rr11.out,D211.out.keep fun b hb=>⟨⟨by have h1:=hb.1;have h2:=hb.2;omega,hb.2⟩,rfl⟩,M11.out,RN11.out.lt⟩
      go_roundw
      case rel=>exact⟨j,HN⟩
      case measure=>rw [HJ.out];exact Nat.lt_succ_of_le (leastK_le (I:=fun j=>I j w11) HN)
  ·
   simp [pApply,hs0,hs1] at hp
   obtain⟨ks,hk0,hn⟩:=hp
   have HTX:=LH (HC.out.ptext_le true)
   obtain⟨tx,htx⟩:∃ x,(pText ts true st).1=x:=⟨_,rfl⟩
   obtain⟨s0,hs0⟩:∃ x,(pText ts true st).2=x:=⟨_,rfl⟩
   go_wp2_with fail
   refine(l3TextC ts g L cl V cv st w3 (M3.out.cur HC.out)).mono ?_
   clear hlu3 hcr3 hlr3
   rintro e w4 ⟨rfl,hm4⟩
   replace hm4:Mv ts g L cl V cv st.vars ((pText ts true st).2) w3 w4:=hm4
   have hz4:=hm4.size
   have K4:=LH hm4.bx
   have Rr4:=LH (K4.out.row Rr3.out (by omega))
   have M4:=LH (M3.out.trans hm4)
   clear Rr3 M3
   clear hm4
   have hlu4:=M4.out.row.lt
   have hcr4:=fun i=>Rr4.out.cell i
   have hlr4:=Rr4.out.lt
   rw [hs0] at M4 hk0
   rw [htx] at HTX hn ⊢
   have HNN:=LH hn
   clear hs0 htx hn
   clear hlu4 hcr4 hlr4
   have hlu4:=M4.out.row.lt
   have hcr4:=fun i=>Rr4.out.cell i
   have hlr4:=Rr4.out.lt
   go_wp2_with fail
   clear hlu4 hcr4 hlr4
   obtain⟨w5,e5,Ra5,hz5,K5⟩:=boxed w4 45 #[.int .i64 15,.int .i64 0,.string tx,.string ⟨#[]⟩,.slice none 0 0]
   have Rr5:=LH (K5.out.row Rr4.out (by omega))
   have M5:=LH (M4.out.chg K5.out (by omega) (by omega))
   clear Rr4 M4
   rw [<- e5]
   clear e5
   have hlu5:=M5.out.row.lt
   have hcr5:=fun i=>Rr5.out.cell i
   have hlr5:=Rr5.out.lt
   have hca5:=fun i=>Ra5.out.cell i
   have hla5:=Ra5.out.lt
   clear hlu5 hcr5 hlr5 hca5 hla5
   have hINV:∃ I:Nat->World->Prop,I=fun j wr=>∃ (acc:List GNode) (s:PSt) (A:Option Addr) (c:Nat),pKids ts j s acc=some (ks,st')/\j<=k/\acc.length+j<=k+1/\Row wr w4.heap.size 45 #[.int .i64 15,.int .i64 0,.string tx,.string ⟨#[]⟩,.slice A acc.length c]/\Row wr w.heap.size 45 #[.int .i64 0,.int .i64 0,.string ⟨#[]⟩,.string ⟨#[]⟩,.slice none 0 0]/\Grx (fun b=>w.heap.size<=b/\b≠w4.heap.size/\b≠w.heap.size) wr (w4.heap.size+1) 45 5 (.slice A acc.length c) acc.length (acc.map GNode.toD)/\Mv ts g L cl V cv st.vars s w wr/\w4.heap.size<wr.heap.size:=⟨_,rfl⟩
   obtain⟨I,hI⟩:=hINV
   have HI:=LH hI
   have I0:I k w5:=by
    rw [hI]
    exact⟨[],s0,none,0,hk0,Nat.le_refl _,by simp,Ra5.out,Rr5.out,Grx.nil _ _ _ _ _,M5.out,Ra5.out.lt⟩
   have hnw:w.heap.size<w4.heap.size:=by omega
   have hzw:w.heap.size<=w5.heap.size:=M5.out.size
   go_loopw [20] (fun v wr=>∃ j,I j wr) (fun _ wr=>leastK (fun j=>I j wr))
   case atStart=>exact⟨k,I0⟩
   case round=>
    have hex:=hrel
    have hleast:=leastK_spec (I:=fun j=>I j wr) hex
    obtain⟨j,hj⟩:∃ j,leastK (fun j=>I j wr)=j:=⟨_,rfl⟩
    rw [hj] at hleast
    have HJ:=LH hj
    clear hj hex hrel I0
    rw [hI] at hleast
    obtain⟨acc,s,A,c,hx,hjk,hal,ra,rr,gg,hm,hnl⟩:=hleast
    clear Ra5 Rr5 M5 hI
    have RA0:=LH ra
    have RR0:=LH rr
    have GG0:=LH gg
    have MR0:=LH hm
    have hzr:=hm.size
    clear ra rr gg hm
    have hlu5:=MR0.out.row.lt
    have hcr5:=fun i=>RR0.out.cell i
    have hlr5:=RR0.out.lt
    have hca5:=fun i=>RA0.out.cell i
    have hla5:=RA0.out.lt
    cases j with
    | zero=>simp [pKids] at hx
    | succ j=>
     go_wp2_with fail
     refine(l3Atomic ts g L cl V cv s wr (MR0.out.cur HC.out)).mono ?_
     clear hlu5 hcr5 hlr5 hca5 hla5
     rintro e w6 ⟨rfl,hb6⟩
     have hz6:=hb6.size
     have K6:=LH (Bx.of_below (g:=g) hb6 (Nat.le_refl _))
     have Rr6:=LH (K6.out.row RR0.out (by omega))
     have Ra6:=LH (K6.out.row RA0.out (by omega))
     have GG6:=LH (GG0.out.keepP (w':=w6) (by omega) fun b hb h=>K6.out.block b hb (by
       rcases h with h | h
       · have:=GG0.out.own b h;omega
       · obtain⟨x1,x2,x3⟩:=h;omega))
     have M6:=LH (MR0.out.below hb6)
     clear RR0 RA0 GG0 MR0
     clear hb6
     have hlu6:=M6.out.row.lt
     have hcr6:=fun i=>Rr6.out.cell i
     have hfr6:=fun i=>Rr6.out.frozen i
     have hlr6:=Rr6.out.lt
     have hca6:=fun i=>Ra6.out.cell i
     have hla6:=Ra6.out.lt
     cases hs:pAtomic ts s
     ·
      simp [pKids,hs,Option.bind_eq_some_iff] at hx
      obtain⟨rfl,rfl⟩:=hx
      go_wp2_with fail
      clear hlu6 hcr6 hfr6 hlr6 hca6 hla6
      obtain⟨w7,e7,RN7,hz7,K7⟩:=stored5 Rr6.out (.int .i64 15) (.int .i64 0) (.string tx) (.string ⟨#[]⟩) (.slice A acc.length c)
      have Ra7:=LH (K7.out.row Ra6.out (by omega))
      have GG7:=LH (GG6.out.keepP (w':=w7) (by omega) fun b hb h=>K7.out.block b hb (by
        rcases h with h | h
        · have:=GG6.out.own b h;omega
        · obtain⟨x1,x2,x3⟩:=h;omega))
      have M7:=LH (M6.out.chg K7.out (by omega) (by omega))
      clear Ra6 GG6 M6
      clear Rr6
      rw [<- e7]
      clear e7
      have hlu7:=M7.out.row.lt
      have hca7:=fun i=>Ra7.out.cell i
      have hla7:=Ra7.out.lt
      have hcr7:=fun i=>RN7.out.cell i
      have hlr7:=RN7.out.lt
      obtain rfl:=HNN.out
      have SX:=LH (sl_of_grx GG7.out (fun b h=>by omega))
      refine bodyPost_ret (v:=.agg #[.int .i64 15,.int .i64 0,.string tx,.string ⟨#[]⟩,.slice A acc.length c]) (by simp [results,Tryz.results104,go_sem,hcr7]) rfl ?_
      exact⟨A,c,rfl,⟨show(Lit.int .i64 15).wf=true by decide,show(Lit.int .i64 0).wf=true by decide,HTX.out,empty_le,SX.out.keep fun b hb=>⟨⟨by have h1:=hb.1;have h2:=hb.2;omega,by have h1:=hb.1;have h2:=hb.2;omega⟩,rfl⟩⟩,M7.out⟩
     ·
      simp [pKids,hs,Option.bind_eq_some_iff] at hx
      obtain⟨n1,s1,hq,hr⟩:=hx
      have HR:=LH hr
      clear hr
      have HOW:=LH (fun q (hq:(Value.slice A acc.length c).ownBlock=some q)=>GG6.out.own q hq)
      go_upto_region 7 with (fail)
      refine wp_region_T (fun x=>x.cell? ⟨w4.heap.size,4,none⟩=some (.slice A acc.length c)) 7 (by kernel_rfl) ?_
      clear hlu6 hcr6 hfr6 hlr6 hca6 hla6
      obtain⟨w7,e7⟩:∃ x,x=w6.drew:=⟨_,rfl⟩
      rw [<- e7]
      have hz7:w7.heap.size=w6.heap.size:=by rw [e7];rfl
      have K7:=LH (show Bx w6.heap.size w6 w7 by rw [e7];exact Bx.of_below ((Below.refl _ _).drew) (Nat.le_refl _))
      clear e7
      have Rr7:=LH (K7.out.row Rr6.out (by omega))
      have Ra7:=LH (K7.out.row Ra6.out (by omega))
      have GG7:=LH (GG6.out.keepP (w':=w7) (by omega) fun b hb h=>K7.out.block b hb (by
        rcases h with h | h
        · have:=GG6.out.own b h;omega
        · obtain⟨x1,x2,x3⟩:=h;omega))
      have M7:=LH (M6.out.chg K7.out (by omega) (by omega))
      clear Rr6 Ra6 GG6 M6
      have hlu7:=M7.out.row.lt
      have hcr7:=fun i=>Rr7.out.cell i
      have hlr7:=Rr7.out.lt
      have hca7:=fun i=>Ra7.out.cell i
      have hla7:=Ra7.out.lt
      have hS1:w7.cell? ⟨w4.heap.size,4,none⟩=some (.slice A acc.length c):=Ra7.out.cell 4
      refine wpAnyT_tk (i:=0) (oi:=_) (v:=?tv1) rfl (Or.inl ⟨by rfl,?th1⟩) hS1 ?_
      case th1=>(intro x hSx;(try dsimp only at hSx);go_simp;(try with_reducible rfl))
      try simp only [nA,nB,nC,Act.put,nD,nE,nF]
      refine wpAnyT_tk (i:=1) (oi:=_) (v:=?tv2) rfl (Or.inl ⟨by rfl,?th2⟩) hS1 ?_
      case th2=>(intro x hSx;(try dsimp only at hSx);go_simp;(try with_reducible rfl))
      try simp only [nA,nB,nC,Act.put,nD,nE,nF]
      refine wpAnyT_tk (i:=2) (oi:=_) (v:=?tv3) rfl (Or.inl ⟨by rfl,?th3⟩) hS1 ?_
      case th3=>(intro x hSx;(try dsimp only at hSx);go_simp;(try with_reducible rfl))
      try simp only [nA,nB,nC,Act.put,nD,nE,nF]
      refine wpAnyT_step (i:=3) (by kernel_rfl) rfl (fun K hK=>?_)
      try simp only [nA,nB,nC]
      go_simp
      go_at_call 105
      refine(HA.out j (by omega) ts g L cl V cv s w7 (M7.out.cur HC.out) n1 s1 hq).mono ?_
      clear hlu7 hcr7 hlr7 hca7 hla7
      rintro e w8 ⟨An1,cn1,rfl,ha8,hm8⟩
      have hz8:=hm8.size
      have K8:=LH hm8.bx
      have DN8:=LH ha8
      have Rr8:=LH (K8.out.row Rr7.out (by omega))
      have Ra8:=LH (K8.out.row Ra7.out (by omega))
      have GG8:=LH (GG7.out.keepP (w':=w8) (by omega) fun b hb h=>K8.out.block b hb (by
        rcases h with h | h
        · have:=GG7.out.own b h;omega
        · obtain⟨x1,x2,x3⟩:=h;omega))
      have M8:=LH (M7.out.trans hm8)
      clear Rr7 Ra7 GG7 M7
      clear hm8 ha8
      have hlu8:=M8.out.row.lt
      have hcr8:=fun i=>Rr8.out.cell i
      have hlr8:=Rr8.out.lt
      have hca8:=fun i=>Ra8.out.cell i
      have hla8:=Ra8.out.lt
      clear hq
      have hS2:w8.cell? ⟨w4.heap.size,4,none⟩=some (.slice A acc.length c):=Ra8.out.cell 4
      refine hK.out _ _ hS2 (fun hS3=>?_)
      clear hK K hS1 hS2
      try simp only [nA,nB,nC,Act.put,nD,nE,nF]
      refine wpAnyT_step (i:=4) (by kernel_rfl) rfl (fun K hK=>?_)
      try simp only [nA,nB,nC]
      go_simp
      clear hlu8 hcr8 hlr8 hca8 hla8
      obtain⟨w9,e9,Rrow9,hz9,K9⟩:=boxed w8 45 #[.int .i64 n1.op,.int .i64 n1.n,.string n1.s,.string n1.t,.slice An1 n1.kids.length cn1]
      have Rr9:=LH (K9.out.row Rr8.out (by omega))
      have Ra9:=LH (K9.out.row Ra8.out (by omega))
      have Dn19:=LH (DN8.out.keep fun b hb=>K9.out.kq hb (by have h1:=hb.1;have h2:=hb.2;omega))
      have GG9:=LH (GG8.out.keepP (w':=w9) (by omega) fun b hb h=>K9.out.block b hb (by
        rcases h with h | h
        · have:=GG8.out.own b h;omega
        · obtain⟨x1,x2,x3⟩:=h;omega))
      have M9:=LH (M8.out.chg K9.out (by omega) (by omega))
      clear Rr8 Ra8 DN8 GG8 M8
      have SL9:=LH (show Sl w9 (fun b=>b<w9.heap.size/\(Value.slice A acc.length c).ownBlock≠some b/\w.heap.size<=b/\b≠w4.heap.size/\b≠w.heap.size) 5 (some ⟨w8.heap.size,0,none⟩) 1 ([n1].map GNode.toD) from Sl.ofRow Rrow9.out (rdC_one1 (GNode.rd_mk (Dn19.out.keep (w':=w9) (S':=fun b=>b<w9.heap.size/\(Value.slice A acc.length c).ownBlock≠some b/\w.heap.size<=b/\b≠w4.heap.size/\b≠w.heap.size) fun b hb=>⟨⟨by have h1:=hb.1;have h2:=hb.2;omega,fun e=>by have h1:=hb.1;have h3:=(HOW.out b e).2;omega,by have h1:=hb.1;have h2:=hb.2;omega⟩,rfl⟩)) rfl) ⟨by omega,fun e=>by have h3:=(HOW.out _ e).2;omega,by omega⟩ (by simp) (by unfold maxLen;omega))
      rw [<- e9]
      clear e9
      have hlu9:=M9.out.row.lt
      have hcr9:=fun i=>Rr9.out.cell i
      have hlr9:=Rr9.out.lt
      have hca9:=fun i=>Ra9.out.cell i
      have hla9:=Ra9.out.lt
      have hcrow9:=fun i=>Rrow9.out.cell i
      have hlrow9:=Rrow9.out.lt
      have hS4:w9.cell? ⟨w4.heap.size,4,none⟩=some (.slice A acc.length c):=Ra9.out.cell 4
      refine hK.out _ _ hS4 (fun hS5=>?_)
      clear hK K hS3 hS4
      try simp only [nA,nB,nC,Act.put,nD,nE,nF]
      refine wpAnyT_step (i:=5) (by kernel_rfl) rfl (fun K hK=>?_)
      refine step_append_X w9 rfl (.tmp 22) (.tmp 25) 43 rfl 45 zNd 5 72 Tryz.underlying43 (by kernel_rfl) rfl (by omega) (w4.heap.size+1) (.slice A acc.length c) acc.length _ GG9.out (some ⟨w8.heap.size,0,none⟩) 1 1 _ rfl SL9.out (by omega) (by unfold maxLen;omega) (by omega) rfl rfl ?_
      clear hlu9 hcr9 hlr9 hca9 hla9 hcrow9 hlrow9
      intro A10 c10 w10 hG10 hGr10
      obtain⟨acc10,hac10⟩:∃ x,x=acc++[n1]:=⟨_,rfl⟩
      have HAC10:=LH hac10
      have hal10:acc10.length=acc.length+1:=by rw [hac10];simp
      have GN10:=LH (show Grx (fun b=>w.heap.size<=b/\b≠w4.heap.size/\b≠w.heap.size) w10 (w4.heap.size+1) 45 5 (.slice A10 acc10.length c10) acc10.length (acc10.map GNode.toD) from by rw [hal10,hac10];simpa using hG10)
      rw [<- hal10]
      have HAL10:=LH hal10
      clear hal10 hac10
      obtain⟨q10,hq10,hk10⟩:=hGr10.bxe (B:=w4.heap.size+1) (fun q hq=>(HOW.out q hq).1) (by omega)
      have hz10:=hGr10.size
      have K10:=LH hk10
      clear hG10 hGr10 hk10
      have Rr10:=LH (K10.out.row Rr9.out (by omega))
      have Ra10:=LH (K10.out.row Ra9.out (by omega))
      have M10:=LH (M9.out.chg K10.out (by omega) (by omega))
      clear Rr9 Ra9 M9
      clear GG9
      have hlu10:=M10.out.row.lt
      have hcr10:=fun i=>Rr10.out.cell i
      have hlr10:=Rr10.out.lt
      have hca10:=fun i=>Ra10.out.cell i
      have hfa10:=fun i=>Ra10.out.frozen i
      have hla10:=Ra10.out.lt
      have hS6:w10.cell? ⟨w4.heap.size,4,none⟩=some (.slice A acc.length c):=Ra10.out.cell 4
      refine hK.out _ _ hS6 (fun hS7=>?_)
      clear hK K hS5 hS6
      try simp only [nA,nB,nC,Act.put,nD,nE,nF]
      refine wpAnyT_tk (i:=6) (oi:=_) (v:=?tv4) rfl (Or.inl ⟨by rfl,?th4⟩) hS7 ?_
      case th4=>(intro x hSx;(try dsimp only at hSx);go_simp;(try with_reducible rfl))
      try simp only [nA,nB,nC,Act.put,nD,nE,nF]
      refine wpAnyT_last (by kernel_rfl) (by kernel_rfl) rfl (fun K hK=>?_)
      try simp only [nA,nB,nC]
      go_simp
      refine hK.out _ _ ?_
      clear hK K
      try simp only [nA,nB,nC,Act.put,nD,nE,nF]
      clear hS7 HOW
      clear hlu10 hcr10 hlr10 hca10 hfa10 hla10
      obtain⟨w11,e11,RO11,hz11,K11⟩:=storedF Ra10.out 4 (.slice A10 acc10.length c10)
      have RN11:=LH (show Row w11 w4.heap.size 45 #[.int .i64 15,.int .i64 0,.string tx,.string ⟨#[]⟩,.slice A10 acc10.length c10] from RO11.out)
      clear RO11
      have Rr11:=LH (K11.out.row Rr10.out (by omega))
      have GG11:=LH (GN10.out.keepP (w':=w11) (by omega) fun b hb h=>K11.out.block b hb (by
        rcases h with h | h
        · have:=GN10.out.own b h;omega
        · obtain⟨x1,x2,x3⟩:=h;omega))
      have M11:=LH (M10.out.chg K11.out (by omega) (by omega))
      clear Rr10 GN10 M10
      clear Ra10
      rw [<- e11]
      clear e11
      have hlu11:=M11.out.row.lt
      have hcr11:=fun i=>Rr11.out.cell i
      have hlr11:=Rr11.out.lt
      have hca11:=fun i=>RN11.out.cell i
      have hla11:=RN11.out.lt
      have hall:=HAL10.out
      have HN:I j w11:=by
       rw [HI.out]
       exact⟨acc10,s1,A10,c10,(by rw [HAC10.out];exact HR.out),by omega,by omega,RN11.out,Rr11.out,GG11.out,M11.out,RN11.out.lt⟩
      go_roundw
      case rel=>first | exact⟨j,HN⟩ | ((repeat apply Exists.intro);exact⟨⟨j,HN⟩,rfl⟩)
      case measure=>rw [HJ.out];exact Nat.lt_succ_of_le (leastK_le (I:=fun j=>I j w11) HN)
 ·
  simp [pApply,hs0] at hp
  obtain⟨n0,hq,rfl⟩:=hp
  go_wp2_with fail
  refine(l3Next ts g L cl V cv st w2 (M2.out.cur HC.out)).mono ?_
  clear hlu2 hcr2 hlr2
  rintro e w3 ⟨rfl,hm3⟩
  replace hm3:Mv ts g L cl V cv st.vars (pNext ts st) w2 w3:=hm3
  have hz3:=hm3.size
  have K3:=LH hm3.bx
  have Rr3:=LH (K3.out.row Rr2.out (by omega))
  have M3:=LH (M2.out.trans hm3)
  clear Rr2 M2
  clear hm3
  have hlu3:=M3.out.row.lt
  have hcr3:=fun i=>Rr3.out.cell i
  have hlr3:=Rr3.out.lt
  go_wp2_with fail
  refine(HA.out k (Nat.le_refl _) ts g L cl V cv (pNext ts st) w3 (M3.out.cur HC.out) n0 st' hq).mono ?_
  clear hlu3 hcr3 hlr3
  rintro e w4 ⟨A0,c0,rfl,ha4,hm4⟩
  have hz4:=hm4.size
  have K4:=LH hm4.bx
  have DN4:=LH ha4
  have Rr4:=LH (K4.out.row Rr3.out (by omega))
  have M4:=LH (M3.out.trans hm4)
  clear Rr3 M3
  clear hm4 ha4
  have hlu4:=M4.out.row.lt
  have hcr4:=fun i=>Rr4.out.cell i
  have hlr4:=Rr4.out.lt
  clear hq
  go_wp2_with fail
  clear hlu4 hcr4 hlr4
  obtain⟨w5,e5,Rrow5,hz5,K5⟩:=boxed w4 45 #[.int .i64 n0.op,.int .i64 n0.n,.string n0.s,.string n0.t,.slice A0 n0.kids.length c0]
  have Rr5:=LH (K5.out.row Rr4.out (by omega))
  have D05:=LH (DN4.out.keep fun b hb=>K5.out.kq hb (by have h1:=hb.1;have h2:=hb.2;omega))
  have M5:=LH (M4.out.chg K5.out (by omega) (by omega))
  clear Rr4 DN4 M4
  have SL5:=LH (show Sl w5 (fun b=>b<w5.heap.size/\w.heap.size<=b/\b≠w.heap.size) 5 (some ⟨w4.heap.size,0,none⟩) 1 ([n0].map GNode.toD) from Sl.ofRow Rrow5.out (rdC_one1 (GNode.rd_mk (D05.out.keep (w':=w5) (S':=fun b=>b<w5.heap.size/\w.heap.size<=b/\b≠w.heap.size) fun b hb=>⟨⟨by have h1:=hb.1;have h2:=hb.2;omega,by have h1:=hb.1;have h2:=hb.2;omega⟩,rfl⟩)) rfl) ⟨by omega,by omega⟩ (by simp) (by unfold maxLen;omega))
  rw [<- e5]
  clear e5
  have hlu5:=M5.out.row.lt
  have hcr5:=fun i=>Rr5.out.cell i
  have hlr5:=Rr5.out.lt
  have hcrow5:=fun i=>Rrow5.out.cell i
  have hlrow5:=Rrow5.out.lt
  refine(l3Node (fun b=>w.heap.size<=b/\b≠w.heap.size) (16) [n0] (some ⟨w4.heap.size,0,none⟩) 1 w5 SL5.out (by simp)).mono ?_
  clear hlu5 hcr5 hlr5 hcrow5 hlrow5
  rintro e w6 ⟨A2,c2,rfl,hG6,hb6⟩
  have hz6:=hb6.size
  have K6:=LH (Bx.of_below (g:=g) hb6 (Nat.le_refl _))
  have GN6:=LH hG6
  have Rr6:=LH (K6.out.row Rr5.out (by omega))
  have Rrow6:=LH (K6.out.row Rrow5.out (by omega))
  have D06:=LH (D05.out.keep fun b hb=>K6.out.kq hb (by have h1:=hb.1;have h2:=hb.2;omega))
  have M6:=LH (M5.out.below hb6)
  clear Rr5 Rrow5 D05 M5
  clear hb6 hG6
  have hlu6:=M6.out.row.lt
  have hcr6:=fun i=>Rr6.out.cell i
  have hfr6:=fun i=>Rr6.out.frozen i
  have hlr6:=Rr6.out.lt
  have hcrow6:=fun i=>Rrow6.out.cell i
  have hlrow6:=Rrow6.out.lt
  have DD2:=LH (ndOf (op:=16) GN6.out (fun b h=>by omega) (by decide))
  go_wp2_with fail
  clear hlu6 hcr6 hfr6 hlr6 hcrow6 hlrow6
  obtain⟨w7,e7,RN7,hz7,K7⟩:=stored5 Rr6.out (.int .i64 16) (.int .i64 0) (.string ⟨#[]⟩) (.string ⟨#[]⟩) (.slice A2 1 c2)
  have D27:=LH (DD2.out.keep fun b hb=>K7.out.kq hb (by have h1:=hb.1;have h2:=hb.2;omega))
  have M7:=LH (M6.out.chg K7.out (by omega) (by omega))
  clear DD2 M6
  clear Rr6
  rw [<- e7]
  clear e7
  have hlu7:=M7.out.row.lt
  have hcr7:=fun i=>RN7.out.cell i
  have hlr7:=RN7.out.lt
  refine bodyPost_ret (v:=.agg #[.int .i64 16,.int .i64 0,.string ⟨#[]⟩,.string ⟨#[]⟩,.slice A2 1 c2]) (by simp [results,Tryz.results104,go_sem,hcr7]) rfl ?_
  exact⟨A2,c2,rfl,D27.out.keep fun b hb=>⟨⟨by have h1:=hb.1;have h2:=hb.2;omega,by have h1:=hb.1;have h2:=hb.2;omega⟩,rfl⟩,M7.out⟩
theorem l3PatAtom (k:Nat) (hE:Ok1 89 pPat k):Ok1 100 pPatAtom (k+1):=by
 intro ts g L cl V cv st w h n st' hp
 have HE:=LH hE
 clear hE
 obtain⟨b0,off0,hL,hbt,-,-,-,-,hat⟩:=h.now
 clear hL hbt
 obtain⟨t,ht⟩:∃ t,pNow ts st=t:=⟨_,rfl⟩
 rw [ht] at hat
 have HAT:=LH hat
 have HT:=LH ht
 clear hat
 have HC:=LH h
 have M0:=LH h.mv
 have hgl:=h.row.lt
 clear h
 have hcu0:=fun i=>M0.out.row.cell i
 have HN:=LH (l3Now ts g L cl V cv st w HC.out)
 rw [ht] at HN
 clear ht
 go_enter Tryz.func100,Tryz.ntmps100
 go_wp2_with fail
 clear hcu0
 obtain⟨w1,e1,Rr1,hz1,K1⟩:=boxed w 45 #[.int .i64 0,.int .i64 0,.string ⟨#[]⟩,.string ⟨#[]⟩,.slice none 0 0]
 have M1:=LH (M0.out.chg K1.out (by omega) (by omega))
 rw [<- e1]
 clear e1
 have hcu1:=fun i=>M1.out.row.cell i
 have hlu1:=M1.out.row.lt
 have hcr1:=fun i=>Rr1.out.cell i
 have hlr1:=Rr1.out.lt
 have HN1:=LH (l3Now ts g L cl V cv st w1 (M1.out.cur HC.out))
 rw [HT.out] at HN1
 clear HN
 refine(HN1.out).mono ?_
 clear hcu1 hlu1 hcr1 hlr1
 rintro e w2 ⟨rfl,hb2⟩
 have hz2:=hb2.size
 have K2:=LH (Bx.of_below (g:=g) hb2 (Nat.le_refl _))
 have Rr2:=LH (K2.out.row Rr1.out (by omega))
 have M2:=LH (M1.out.below hb2)
 clear Rr1 M1
 clear hb2
 have hcu2:=fun i=>M2.out.row.cell i
 have hlu2:=M2.out.row.lt
 have hcr2:=fun i=>Rr2.out.cell i
 have hlr2:=Rr2.out.lt
 clear HN1
 go_wp2_with fail
 clear hcu2 hlu2 hcr2 hlr2
 obtain⟨w3,e3,Rt3,hz3,K3⟩:=boxed w2 95 #[.int .i64 t.kind,.string t.text,.int .i64 t.n,.int .i64 t.pos]
 have Rr3:=LH (K3.out.row Rr2.out (by omega))
 have M3:=LH (M2.out.chg K3.out (by omega) (by omega))
 clear Rr2 M2
 rw [<- e3]
 clear e3
 have hcu3:=fun i=>M3.out.row.cell i
 have hlu3:=M3.out.row.lt
 have hcr3:=fun i=>Rr3.out.cell i
 have hlr3:=Rr3.out.lt
 have hct3:=fun i=>Rt3.out.cell i
 have hlt3:=Rt3.out.lt
 refine(l3Sign ts g L cl V cv st w3 (M3.out.cur HC.out) ⟨#[95]⟩).mono ?_
 clear hcu3 hlu3 hcr3 hlr3 hct3 hlt3
 rintro e w4 ⟨rfl,hb4⟩
 have hz4:=hb4.size
 have K4:=LH (Bx.of_below (g:=g) hb4 (Nat.le_refl _))
 have Rr4:=LH (K4.out.row Rr3.out (by omega))
 have Rt4:=LH (K4.out.row Rt3.out (by omega))
 have M4:=LH (M3.out.below hb4)
 clear Rr3 Rt3 M3
 clear hb4
 have hcu4:=fun i=>M4.out.row.cell i
 have hlu4:=M4.out.row.lt
 have hcr4:=fun i=>Rr4.out.cell i
 have hlr4:=Rr4.out.lt
 have hct4:=fun i=>Rt4.out.cell i
 have hlt4:=Rt4.out.lt
 cases hs:pSign ts [95] st
 case' true=>
  simp [pPatAtom,hs,HT.out] at hp
  obtain⟨rfl,rfl⟩:=hp
  go_wp2_with fail
  refine(l3Next ts g L cl V cv st w4 (M4.out.cur HC.out)).mono ?_
  clear hcu4 hlu4 hcr4 hlr4 hct4 hlt4
  rintro e w5 ⟨rfl,hm5⟩
  replace hm5:Mv ts g L cl V cv st.vars (pNext ts st) w4 w5:=hm5
  have hz5:=hm5.size
  have K5:=LH hm5.bx
  have Rr5:=LH (K5.out.row Rr4.out (by omega))
  have Rt5:=LH (K5.out.row Rt4.out (by omega))
  have M5:=LH (M4.out.trans hm5)
  clear Rr4 Rt4 M4
  clear hm5
  have hcu5:=fun i=>M5.out.row.cell i
  have hlu5:=M5.out.row.lt
  have hcr5:=fun i=>Rr5.out.cell i
  have hfr5:=fun i=>Rr5.out.frozen i
  have hlr5:=Rr5.out.lt
  have hct5:=fun i=>Rt5.out.cell i
  have hlt5:=Rt5.out.lt
  go_wp2_with fail
  clear hcu5 hlu5 hcr5 hfr5 hlr5 hct5 hlt5
  obtain⟨w6,e6,RN6,hz6,K6⟩:=stored5 Rr5.out (.int .i64 17) (.int .i64 0) (.string ⟨#[]⟩) (.string ⟨#[]⟩) (.slice none 0 0)
  have Rt6:=LH (K6.out.row Rt5.out (by omega))
  have M6:=LH (M5.out.chg K6.out (by omega) (by omega))
  clear Rt5 M5
  clear Rr5
  rw [<- e6]
  clear e6
  have hcu6:=fun i=>M6.out.row.cell i
  have hlu6:=M6.out.row.lt
  have hct6:=fun i=>Rt6.out.cell i
  have hlt6:=Rt6.out.lt
  have hcr6:=fun i=>RN6.out.cell i
  have hlr6:=RN6.out.lt
  refine bodyPost_ret (v:=.agg #[.int .i64 17,.int .i64 0,.string ⟨#[]⟩,.string ⟨#[]⟩,.slice none 0 0]) (by simp [results,Tryz.results100,go_sem,hcr6]) rfl ?_
  exact⟨none,0,rfl,GNode.leaf (by decide) (by decide) empty_le empty_le,M6.out⟩
 cases hb:decide (st.bad<0)
 case' false.true=>cases hk:(t.kind ==3)
 case' false.true.true=>
  simp [pPatAtom,hs,hb,hk,HT.out] at hp
  obtain⟨rfl,rfl⟩:=hp
  go_wp2_with fail
  refine(l3Next ts g L cl V cv st w4 (M4.out.cur HC.out)).mono ?_
  clear hcu4 hlu4 hcr4 hlr4 hct4 hlt4
  rintro e w5 ⟨rfl,hm5⟩
  replace hm5:Mv ts g L cl V cv st.vars (pNext ts st) w4 w5:=hm5
  have hz5:=hm5.size
  have K5:=LH hm5.bx
  have Rr5:=LH (K5.out.row Rr4.out (by omega))
  have Rt5:=LH (K5.out.row Rt4.out (by omega))
  have M5:=LH (M4.out.trans hm5)
  clear Rr4 Rt4 M4
  clear hm5
  have hcu5:=fun i=>M5.out.row.cell i
  have hlu5:=M5.out.row.lt
  have hcr5:=fun i=>Rr5.out.cell i
  have hfr5:=fun i=>Rr5.out.frozen i
  have hlr5:=Rr5.out.lt
  have hct5:=fun i=>Rt5.out.cell i
  have hlt5:=Rt5.out.lt
  go_wp2_with fail
  clear hcu5 hlu5 hcr5 hfr5 hlr5 hct5 hlt5
  obtain⟨w6,e6,RN6,hz6,K6⟩:=stored5 Rr5.out (.int .i64 19) (.int .i64 t.n) (.string ⟨#[]⟩) (.string ⟨#[]⟩) (.slice none 0 0)
  have Rt6:=LH (K6.out.row Rt5.out (by omega))
  have M6:=LH (M5.out.chg K6.out (by omega) (by omega))
  clear Rt5 M5
  clear Rr5
  rw [<- e6]
  clear e6
  have hcu6:=fun i=>M6.out.row.cell i
  have hlu6:=M6.out.row.lt
  have hct6:=fun i=>Rt6.out.cell i
  have hlt6:=Rt6.out.lt
  have hcr6:=fun i=>RN6.out.cell i
  have hlr6:=RN6.out.lt
  refine bodyPost_ret (v:=.agg #[.int .i64 19,.int .i64 t.n,.string ⟨#[]⟩,.string ⟨#[]⟩,.slice none 0 0]) (by simp [results,Tryz.results100,go_sem,hcr6]) rfl ?_
  exact⟨none,0,rfl,GNode.leaf (by decide) HAT.out.2.2.1 empty_le empty_le,M6.out⟩
 all_goals
  go_wp2_with fail
  refine(l3Name ts g L cl V cv st w4 (M4.out.cur HC.out)).mono ?_
  clear hcu4 hlu4 hcr4 hlr4 hct4 hlt4
  rintro e w5 ⟨rfl,hb5⟩
  have hz5:=hb5.size
  have K5:=LH (Bx.of_below (g:=g) hb5 (Nat.le_refl _))
  have Rr5:=LH (K5.out.row Rr4.out (by omega))
  have Rt5:=LH (K5.out.row Rt4.out (by omega))
  have M5:=LH (M4.out.below hb5)
  clear Rr4 Rt4 M4
  clear hb5
  have hcu5:=fun i=>M5.out.row.cell i
  have hlu5:=M5.out.row.lt
  have hcr5:=fun i=>Rr5.out.cell i
  have hfr5:=fun i=>Rr5.out.frozen i
  have hlr5:=Rr5.out.lt
  have hct5:=fun i=>Rt5.out.cell i
  have hlt5:=Rt5.out.lt
  cases hn:pName ts st
  case' true=>
   simp [pPatAtom, *,HT.out] at hp
   obtain⟨rfl,rfl⟩:=hp
   go_wp2_with fail
   refine(l3Next ts g L cl V cv st w5 (M5.out.cur HC.out)).mono ?_
   clear hcu5 hlu5 hcr5 hfr5 hlr5 hct5 hlt5
   rintro e w6 ⟨rfl,hm6⟩
   replace hm6:Mv ts g L cl V cv st.vars (pNext ts st) w5 w6:=hm6
   have hz6:=hm6.size
   have K6:=LH hm6.bx
   have Rr6:=LH (K6.out.row Rr5.out (by omega))
   have Rt6:=LH (K6.out.row Rt5.out (by omega))
   have M6:=LH (M5.out.trans hm6)
   clear Rr5 Rt5 M5
   clear hm6
   have hcu6:=fun i=>M6.out.row.cell i
   have hlu6:=M6.out.row.lt
   have hcr6:=fun i=>Rr6.out.cell i
   have hfr6:=fun i=>Rr6.out.frozen i
   have hlr6:=Rr6.out.lt
   have hct6:=fun i=>Rt6.out.cell i
   have hlt6:=Rt6.out.lt
   go_wp2_with fail
   clear hcu6 hlu6 hcr6 hlr6 hct6 hlt6
   obtain⟨w7,e7,RN7,hz7,K7⟩:=stored5 Rr6.out (.int .i64 18) (.int .i64 0) (.string t.text) (.string ⟨#[]⟩) (.slice none 0 0)
   have Rt7:=LH (K7.out.row Rt6.out (by omega))
   have M7:=LH (M6.out.chg K7.out (by omega) (by omega))
   clear Rt6 M6
   clear Rr6
   rw [<- e7]
   clear e7
   have hcu7:=fun i=>M7.out.row.cell i
   have hlu7:=M7.out.row.lt
   have hct7:=fun i=>Rt7.out.cell i
   have hlt7:=Rt7.out.lt
   have hcr7:=fun i=>RN7.out.cell i
   have hlr7:=RN7.out.lt
   refine bodyPost_ret (v:=.agg #[.int .i64 18,.int .i64 0,.string t.text,.string ⟨#[]⟩,.slice none 0 0]) (by simp [results,Tryz.results100,go_sem,hcr7]) rfl ?_
   exact⟨none,0,rfl,GNode.leaf (by decide) (by decide) HAT.out.2.1 empty_le,M7.out⟩
  go_wp2_with fail
  refine(l3Con ts g L cl V cv st w5 (M5.out.cur HC.out)).mono ?_
  clear hcu5 hlu5 hcr5 hfr5 hlr5 hct5 hlt5
  rintro e w6 ⟨rfl,hb6⟩
  have hz6:=hb6.size
  have K6:=LH (Bx.of_below (g:=g) hb6 (Nat.le_refl _))
  have Rr6:=LH (K6.out.row Rr5.out (by omega))
  have Rt6:=LH (K6.out.row Rt5.out (by omega))
  have M6:=LH (M5.out.below hb6)
  clear Rr5 Rt5 M5
  clear hb6
  have hcu6:=fun i=>M6.out.row.cell i
  have hlu6:=M6.out.row.lt
  have hcr6:=fun i=>Rr6.out.cell i
  have hfr6:=fun i=>Rr6.out.frozen i
  have hlr6:=Rr6.out.lt
  have hct6:=fun i=>Rt6.out.cell i
  have hlt6:=Rt6.out.lt
  cases hc:pCon ts st
  case' true=>
   simp [pPatAtom, *,HT.out] at hp
   obtain⟨rfl,rfl⟩:=hp
   go_wp2_with fail
   refine(l3Next ts g L cl V cv st w6 (M6.out.cur HC.out)).mono ?_
   clear hcu6 hlu6 hcr6 hlr6 hct6 hlt6
   rintro e w7 ⟨rfl,hm7⟩
   replace hm7:Mv ts g L cl V cv st.vars (pNext ts st) w6 w7:=hm7
   have hz7:=hm7.size
   have K7:=LH hm7.bx
   have Rr7:=LH (K7.out.row Rr6.out (by omega))
   have Rt7:=LH (K7.out.row Rt6.out (by omega))
   have M7:=LH (M6.out.trans hm7)
   clear Rr6 Rt6 M6
   clear hm7
   have hcu7:=fun i=>M7.out.row.cell i
   have hlu7:=M7.out.row.lt
   have hcr7:=fun i=>Rr7.out.cell i
   have hfr7:=fun i=>Rr7.out.frozen i
   have hlr7:=Rr7.out.lt
   have hct7:=fun i=>Rt7.out.cell i
   have hlt7:=Rt7.out.lt
   go_wp2_with fail
   clear hcu7 hlu7 hcr7 hlr7 hct7 hlt7
   obtain⟨w8,e8,RN8,hz8,K8⟩:=stored5 Rr7.out (.int .i64 20) (.int .i64 0) (.string t.text) (.string ⟨#[]⟩) (.slice none 0 0)
   have Rt8:=LH (K8.out.row Rt7.out (by omega))
   have M8:=LH (M7.out.chg K8.out (by omega) (by omega))
   clear Rt7 M7
   clear Rr7
   rw [<- e8]
   clear e8
   have hcu8:=fun i=>M8.out.row.cell i
   have hlu8:=M8.out.row.lt
   have hct8:=fun i=>Rt8.out.cell i
   have hlt8:=Rt8.out.lt
   have hcr8:=fun i=>RN8.out.cell i
   have hlr8:=RN8.out.lt
   refine bodyPost_ret (v:=.agg #[.int .i64 20,.int .i64 0,.string t.text,.string ⟨#[]⟩,.slice none 0 0]) (by simp [results,Tryz.results100,go_sem,hcr8]) rfl ?_
   exact⟨none,0,rfl,GNode.leaf (by decide) (by decide) HAT.out.2.1 empty_le,M8.out⟩
  go_wp2_with fail
  obtain⟨s1,hs1⟩:∃ s1,pTake ts [40] st=s1:=⟨_,rfl⟩
  refine(l3Take ts g L cl V cv st w6 (M6.out.cur HC.out) ⟨#[40]⟩).mono ?_
  clear hcu6 hlu6 hcr6 hlr6 hct6 hlt6
  rintro e w7 ⟨rfl,hm7⟩
  replace hm7:Mv ts g L cl V cv st.vars (pTake ts [40] st) w6 w7:=hm7
  have hz7:=hm7.size
  have K7:=LH hm7.bx
  have Rr7:=LH (K7.out.row Rr6.out (by omega))
  have Rt7:=LH (K7.out.row Rt6.out (by omega))
  have M7:=LH (M6.out.trans hm7)
  clear Rr6 Rt6 M6
  clear hm7
  have hcu7:=fun i=>M7.out.row.cell i
  have hlu7:=M7.out.row.lt
  have hcr7:=fun i=>Rr7.out.cell i
  have hfr7:=fun i=>Rr7.out.frozen i
  have hlr7:=Rr7.out.lt
  have hct7:=fun i=>Rt7.out.cell i
  have hlt7:=Rt7.out.lt
  rw [hs1] at M7
  clear hcu7 hlu7 hcr7 hlr7 hct7 hlt7
  have hcu7:=fun i=>M7.out.row.cell i
  have hlu7:=M7.out.row.lt
  have hcr7:=fun i=>Rr7.out.cell i
  have hfr7:=fun i=>Rr7.out.frozen i
  have hlr7:=Rr7.out.lt
  have hct7:=fun i=>Rt7.out.cell i
  have hlt7:=Rt7.out.lt
  have HS1:=LH hs1
  by_cases hb1:0<=s1.bad
  ·
   simp [pPatAtom, *,HT.out] at hp
   obtain⟨rfl,rfl⟩:=hp
   have d1:decide (0<=s1.bad)=true:=decide_eq_true hb1
   go_wp2_with fail
   clear hcu7 hlu7 hcr7 hlr7 hct7 hlt7
   obtain⟨w8,e8,RN8,hz8,K8⟩:=stored5 Rr7.out (.int .i64 0) (.int .i64 0) (.string ⟨#[]⟩) (.string ⟨#[]⟩) (.slice none 0 0)
   have Rt8:=LH (K8.out.row Rt7.out (by omega))
   have M8:=LH (M7.out.chg K8.out (by omega) (by omega))
   clear Rt7 M7
   clear Rr7
   rw [<- e8]
   clear e8
   have hcu8:=fun i=>M8.out.row.cell i
   have hlu8:=M8.out.row.lt
   have hct8:=fun i=>Rt8.out.cell i
   have hlt8:=Rt8.out.lt
   have hcr8:=fun i=>RN8.out.cell i
   have hlr8:=RN8.out.lt
   refine bodyPost_ret (v:=.agg #[.int .i64 0,.int .i64 0,.string ⟨#[]⟩,.string ⟨#[]⟩,.slice none 0 0]) (by simp [results,Tryz.results100,go_sem,hcr8]) rfl ?_
   exact⟨none,0,rfl,GNode.leaf (by decide) (by decide) empty_le empty_le,M8.out⟩
  ·
   simp [pPatAtom, *,HT.out] at hp
   obtain⟨n1,s2,hq,rfl,rfl⟩:=hp
   have d1:decide (0<=s1.bad)=false:=decide_eq_false hb1
   clear hb1 hs1
   go_wp2_with fail
   refine(HE.out ts g L cl V cv s1 w7 (M7.out.cur HC.out) n1 s2 hq).mono ?_
   clear hcu7 hlu7 hcr7 hlr7 hct7 hlt7
   rintro e w8 ⟨Ax,cx,rfl,ha8,hm8⟩
   have hz8:=hm8.size
   have K8:=LH hm8.bx
   have DN8:=LH ha8
   have Rr8:=LH (K8.out.row Rr7.out (by omega))
   have Rt8:=LH (K8.out.row Rt7.out (by omega))
   have M8:=LH (M7.out.trans hm8)
   clear Rr7 Rt7 M7
   clear hm8 ha8
   have hcu8:=fun i=>M8.out.row.cell i
   have hlu8:=M8.out.row.lt
   have hcr8:=fun i=>Rr8.out.cell i
   have hlr8:=Rr8.out.lt
   have hct8:=fun i=>Rt8.out.cell i
   have hlt8:=Rt8.out.lt
   go_wp2_with fail
   clear hcu8 hlu8 hcr8 hlr8 hct8 hlt8
   obtain⟨w9,e9,Rx9,hz9,K9⟩:=boxed w8 45 #[.int .i64 n1.op,.int .i64 n1.n,.string n1.s,.string n1.t,.slice Ax n1.kids.length cx]
   have Rr9:=LH (K9.out.row Rr8.out (by omega))
   have Rt9:=LH (K9.out.row Rt8.out (by omega))
   have Dx9:=LH (DN8.out.keep fun b hb=>K9.out.kq hb (by have h1:=hb.1;have h2:=hb.2;omega))
   have M9:=LH (M8.out.chg K9.out (by omega) (by omega))
   clear Rr8 Rt8 DN8 M8
   rw [<- e9]
   clear e9
   have hcu9:=fun i=>M9.out.row.cell i
   have hlu9:=M9.out.row.lt
   have hcr9:=fun i=>Rr9.out.cell i
   have hlr9:=Rr9.out.lt
   have hct9:=fun i=>Rt9.out.cell i
   have hlt9:=Rt9.out.lt
   have hcx9:=fun i=>Rx9.out.cell i
   have hlx9:=Rx9.out.lt
   refine(l3Take ts g L cl V cv s2 w9 (M9.out.cur HC.out) ⟨#[41]⟩).mono ?_
   clear hcu9 hlu9 hcr9 hlr9 hct9 hlt9 hcx9 hlx9
   rintro e w10 ⟨rfl,hm10⟩
   replace hm10:Mv ts g L cl V cv s2.vars (pTake ts [41] s2) w9 w10:=hm10
   have hz10:=hm10.size
   have K10:=LH hm10.bx
   have Rr10:=LH (K10.out.row Rr9.out (by omega))
   have Rt10:=LH (K10.out.row Rt9.out (by omega))
   have Rx10:=LH (K10.out.row Rx9.out (by omega))
   have Dx10:=LH (Dx9.out.keep fun b hb=>K10.out.kq hb (by have h1:=hb.1;have h2:=hb.2;omega))
   have M10:=LH (M9.out.trans hm10)
   clear Rr9 Rt9 Rx9 Dx9 M9
   clear hm10
   have hcu10:=fun i=>M10.out.row.cell i
   have hlu10:=M10.out.row.lt
   have hcr10:=fun i=>Rr10.out.cell i
   have hfr10:=fun i=>Rr10.out.frozen i
   have hlr10:=Rr10.out.lt
   have hct10:=fun i=>Rt10.out.cell i
   have hlt10:=Rt10.out.lt
   have hcx10:=fun i=>Rx10.out.cell i
   have hlx10:=Rx10.out.lt
   go_wp2_with fail
   clear hcu10 hlu10 hcr10 hfr10 hlr10 hct10 hlt10 hcx10 hlx10
   obtain⟨w11,e11,RN11,hz11,K11⟩:=stored5 Rr10.out (.int .i64 n1.op) (.int .i64 n1.n) (.string n1.s) (.string n1.t) (.slice Ax n1.kids.length cx)
   have Rt11:=LH (K11.out.row Rt10.out (by omega))
   have Rx11:=LH (K11.out.row Rx10.out (by omega))
   have Dx11:=LH (Dx10.out.keep fun b hb=>K11.out.kq hb (by have h1:=hb.1;have h2:=hb.2;omega))
   have M11:=LH (M10.out.chg K11.out (by omega) (by omega))
   clear Rt10 Rx10 Dx10 M10
   clear Rr10
   rw [<- e11]
   clear e11
   have hcu11:=fun i=>M11.out.row.cell i
   have hlu11:=M11.out.row.lt
   have hct11:=fun i=>Rt11.out.cell i
   have hlt11:=Rt11.out.lt
   have hcx11:=fun i=>Rx11.out.cell i
   have hlx11:=Rx11.out.lt
   have hcr11:=fun i=>RN11.out.cell i
   have hlr11:=RN11.out.lt
   refine bodyPost_ret (v:=.agg #[.int .i64 n1.op,.int .i64 n1.n,.string n1.s,.string n1.t,.slice Ax n1.kids.length cx]) (by simp [results,Tryz.results100,go_sem,hcr11]) rfl ?_
   exact⟨Ax,cx,rfl,Dx11.out.keep fun b hb=>⟨⟨by have:=hb.1;omega,by have:=hb.2;omega⟩,rfl⟩,M11.out⟩
end Go.Proofs.YtgbjdhfaklmjcaaGreat
