/- Texts of the claim LTags in one: PaS PaT PaU. Conditions: none but bounds on sizes. -/
import Derived.Test.YtgbjdhfaklmjcaaGreatZLTags4
import Derived.Test.YtgbjdhfaklmjcaaGreatZLTags1
import Derived.Test.YtgbjdhfaklmjcaaGreatZLTags3
import Derived.Deep.CutRange
namespace Go.Proofs.YtgbjdhfaklmjcaaGreat
set_option maxRecDepth 20000
set_option linter.unusedVariables false
set_option linter.unusedSimpArgs false
open Go.RowKit
set_option maxHeartbeats 2000000
theorem pVar_some {st:PSt} {s:ByteArray} {j:Nat} (hj:j<st.vars.length) (he:(st.vars[j].toList ==s.toList)=true) (hn:∀ q (hq:q<st.vars.length),q<j->(st.vars[q].toList ==s.toList)=false):pVar s st=((j:Int),st):=by
 have h:st.vars.findIdx? (fun v=>v.data.toList ==s.data.toList)=some j:=by
  rw [List.findIdx?_eq_some_iff_getElem]
  refine⟨hj,by rw [bytes_beq] at he;exact he,fun q hq=>?_⟩
  have:=hn q (by omega) hq
  rw [bytes_beq] at this
  simp [this]
 unfold pVar
 rw [h]
theorem pVar_none {st:PSt} {s:ByteArray} (hn:∀ q (hq:q<st.vars.length),(st.vars[q].toList ==s.toList)=false):pVar s st=(0,{st with nov:=true}):=by
 have h:st.vars.findIdx? (fun v=>v.data.toList ==s.data.toList)=none:=by
  rw [List.findIdx?_eq_none_iff]
  intro x hx
  obtain⟨q,hq,rfl⟩:=List.getElem_of_mem hx
  have:=hn q hq
  rw [bytes_beq] at this
  exact this
 unfold pVar
 rw [h]
theorem l3Var (ts:List GToken) (g:Nat) (L:Option Addr) (cl:Nat) (V:Option Addr) (cv:Nat) (st:PSt) (w:World) (h:PCur ts g L cl V cv st w) (s:ByteArray):
 Calls Tryz.prog 98 #[.pointer (some ⟨g,0,none⟩),.string s] w fun e w'=>e= .returned (.int .i64 (pVar s st).1)/\Mv ts g L cl V cv st.vars (pVar s st).2 w w':=by
 have hlen:st.vars.length<=9223372036854775807:=by simpa using h.vars.len
 have HC:=LH h
 have HR:=LH h.row
 have hca:=fun i=>HR.out.cell i
 have hfa:=fun i=>HR.out.frozen i
 have hgl:=HR.out.lt
 clear h
 go_enter Tryz.func98,Tryz.ntmps98
 go_wp2_with fail
 go_loop [5] (fun i=>∃ (j:Nat),j<=st.vars.length/\i= .int .i64 j/\Hid (∀ q (hq:q<st.vars.length),q<j->(st.vars[q].toList ==s.toList)=false)) (fun i=>st.vars.length - (intOf i).toNat)
 case atStart=>exact⟨0,by omega,by go_num,LH fun q _ hq=>by omega⟩
 case round=>
  obtain⟨j,hj,rfl,Hn⟩:=hrel
  by_cases hlt:j<st.vars.length
  ·
   obtain⟨b,off,hV,hSb,g0,k0⟩:=HC.out.vars.strAt j hlt
   subst hV
   cases he:(st.vars[j].toList ==s.toList)
   ·
    have he2:=LH he
    go_wp2_with fail
    go_round
    case rel=>exact⟨j+1,by omega,by go_num,LH fun q hq hlt2=>by
      rcases Nat.lt_or_ge q j with h1 | h1
      · exact Hn.out q hq h1
      · obtain rfl:q=j:=by omega
        exact he2.out⟩
    case measure=>simp [intOf];omega
   · have hm:=LH (pVar_some hlt he Hn.out)
     go_wp2_with fail
     go_ret
     exact⟨by rw [hm.out];rfl,by rw [hm.out];exact HC.out.mv⟩
  ·
   have hm:=LH (pVar_none (st:=st) (s:=s) fun q hq=>Hn.out q hq (by omega))
   have hjl:j=st.vars.length:=by omega
   have Hj:=LH hjl
   clear hjl
   go_wp2_with fail
   go_ret
   refine⟨by rw [hm.out];rfl,?_⟩
   rw [hm.out]
   exact⟨(Bx.refl g w).set (p:=⟨g,4,none⟩) (.inl rfl) _,HR.out.set 4 _,rfl,HC.out.pos⟩
theorem wfNat' (n:Nat) (h:n<=9223372036854775807):(Lit.int .i64 (n:Int)).wf=true:=by
 simp [Lit.wf,IntKind.min,IntKind.max,IntKind.signed,IntKind.bits];omega
theorem GTy.leaf {w:World} {S:Nat->Prop} {op n:Int} {s:ByteArray} (h1:(Lit.int .i64 op).wf=true) (h2:(Lit.int .i64 n).wf=true) (h3:s.size<=maxLen):GTy.At w S none 0 (.mk op n s []):=⟨h1,h2,h3,Sl.nil (by unfold maxLen;omega)⟩
theorem PCur.pvar_wf {ts:List GToken} {g:Nat} {L:Option Addr} {cl:Nat} {V:Option Addr} {cv:Nat} {st:PSt} {w:World} (h:PCur ts g L cl V cv st w) (s:ByteArray):(Lit.int .i64 (pVar s st).1).wf=true:=by
 have hlen:st.vars.length<=9223372036854775807:=by simpa using h.vars.len
 unfold pVar
 split
 · rename_i i hi
   obtain⟨hlt,-⟩:=List.findIdx?_eq_some_iff_getElem.1 hi
   exact wfNat' i (by omega)
 · exact(show(Lit.int .i64 0).wf=true by decide)
theorem l3TyAtom (k:Nat) (hE:OkT 99 pTy k):OkT 88 pTyAtom (k+1):=by
 intro ts g L cl V cv st w h n st' hp
 have HE:=LH hE
 clear hE
 obtain⟨b0,off0,hL,hbt,-,-,-,-,hat⟩:=h.now
 clear hL hbt
 obtain⟨t,ht⟩:∃ t,pNow ts st=t:=⟨_,rfl⟩
 rw [ht] at hat
 have HAT:=LH hat
 have HT:=LH ht
 clear hat
 have HC:=LH h
 have M0:=LH h.mv
 have hgl:=h.row.lt
 clear h
 have hcu0:=fun i=>M0.out.row.cell i
 have HN:=LH (l3Now ts g L cl V cv st w HC.out)
 rw [ht] at HN
 clear ht
 go_enter Tryz.func88,Tryz.ntmps88
 refine wp_hide (fun BP hBP=>?_)
 have HBP:=LH hBP
 clear hBP
 go_wp2_with fail
 clear hcu0
 obtain⟨w1,e1,Rr1,hz1,K1⟩:=boxed w 59 #[.int .i64 0,.int .i64 0,.string ⟨#[]⟩,.slice none 0 0]
 have M1:=LH (M0.out.chg K1.out (by omega) (by omega))
 rw [<- e1]
 clear e1
 have hcu1:=fun i=>M1.out.row.cell i
 have hlu1:=M1.out.row.lt
 have hcr1:=fun i=>Rr1.out.cell i
 have hlr1:=Rr1.out.lt
 have HN1:=LH (l3Now ts g L cl V cv st w1 (M1.out.cur HC.out))
 rw [HT.out] at HN1
 clear HN
 refine(HN1.out).mono ?_
 clear hcu1 hlu1 hcr1 hlr1
 rintro e w2 ⟨rfl,hb2⟩
 have hz2:=hb2.size
 have K2:=LH (Bx.of_below (g:=g) hb2 (Nat.le_refl _))
 have Rr2:=LH (K2.out.row Rr1.out (by omega))
 have M2:=LH (M1.out.below hb2)
 clear Rr1 M1
 clear hb2
 have hcu2:=fun i=>M2.out.row.cell i
 have hlu2:=M2.out.row.lt
 have hcr2:=fun i=>Rr2.out.cell i
 have hlr2:=Rr2.out.lt
 clear HN1
 go_wp2_with fail
 clear hcu2 hlu2 hcr2 hlr2
 obtain⟨w3,e3,Rt3,hz3,K3⟩:=boxed w2 95 #[.int .i64 t.kind,.string t.text,.int .i64 t.n,.int .i64 t.pos]
 have Rr3:=LH (K3.out.row Rr2.out (by omega))
 have M3:=LH (M2.out.chg K3.out (by omega) (by omega))
 clear Rr2 M2
 rw [<- e3]
 clear e3
 have hcu3:=fun i=>M3.out.row.cell i
 have hlu3:=M3.out.row.lt
 have hcr3:=fun i=>Rr3.out.cell i
 have hlr3:=Rr3.out.lt
 have hct3:=fun i=>Rt3.out.cell i
 have hlt3:=Rt3.out.lt
 refine(l3Name ts g L cl V cv st w3 (M3.out.cur HC.out)).mono ?_
 clear hcu3 hlu3 hcr3 hlr3 hct3 hlt3
 rintro e w4 ⟨rfl,hb4⟩
 have hz4:=hb4.size
 have K4:=LH (Bx.of_below (g:=g) hb4 (Nat.le_refl _))
 have Rr4:=LH (K4.out.row Rr3.out (by omega))
 have Rt4:=LH (K4.out.row Rt3.out (by omega))
 have M4:=LH (M3.out.below hb4)
 clear Rr3 Rt3 M3
 clear hb4
 have hcu4:=fun i=>M4.out.row.cell i
 have hlu4:=M4.out.row.lt
 have hcr4:=fun i=>Rr4.out.cell i
 have hlr4:=Rr4.out.lt
 have hct4:=fun i=>Rt4.out.cell i
 have hlt4:=Rt4.out.lt
 cases hn:pName ts st
 ·
  go_wp2_with fail
  refine(l3Con ts g L cl V cv st w4 (M4.out.cur HC.out)).mono ?_
  clear hcu4 hlu4 hcr4 hlr4 hct4 hlt4
  rintro e w5 ⟨rfl,hb5⟩
  have hz5:=hb5.size
  have K5:=LH (Bx.of_below (g:=g) hb5 (Nat.le_refl _))
  have Rr5:=LH (K5.out.row Rr4.out (by omega))
  have Rt5:=LH (K5.out.row Rt4.out (by omega))
  have M5:=LH (M4.out.below hb5)
  clear Rr4 Rt4 M4
  clear hb5
  have hcu5:=fun i=>M5.out.row.cell i
  have hlu5:=M5.out.row.lt
  have hcr5:=fun i=>Rr5.out.cell i
  have hlr5:=Rr5.out.lt
  have hct5:=fun i=>Rt5.out.cell i
  have hlt5:=Rt5.out.lt
  cases hc:pCon ts st
  ·
   cases hb:decide (st.bad<0)
   case' true=>cases hk:(t.kind ==2)
   case' true.true=>
    simp [pTyAtom,hn,hc,hb,hk,HT.out] at hp
    obtain⟨rfl,rfl⟩:=hp
    go_wp2_with fail
    refine(l3Next ts g L cl V cv st w5 (M5.out.cur HC.out)).mono ?_
    clear hcu5 hlu5 hcr5 hlr5 hct5 hlt5
    rintro e w6 ⟨rfl,hm6⟩
    replace hm6:Mv ts g L cl V cv st.vars (pNext ts st) w5 w6:=hm6
    have hz6:=hm6.size
    have K6:=LH hm6.bx
    have Rr6:=LH (K6.out.row Rr5.out (by omega))
    have Rt6:=LH (K6.out.row Rt5.out (by omega))
    have M6:=LH (M5.out.trans hm6)
    clear Rr5 Rt5 M5
    clear hm6
    have hcu6:=fun i=>M6.out.row.cell i
    have hlu6:=M6.out.row.lt
    have hcr6:=fun i=>Rr6.out.cell i
    have hfr6:=fun i=>Rr6.out.frozen i
    have hlr6:=Rr6.out.lt
    have hct6:=fun i=>Rt6.out.cell i
    have hlt6:=Rt6.out.lt
    go_wp2_with fail
    clear hcu6 hlu6 hcr6 hfr6 hlr6 hct6 hlt6
    obtain⟨w7,e7,RN7,hz7,K7⟩:=stored4 Rr6.out (.int .i64 1) (.int .i64 0) (.string ⟨#[]⟩) (.slice none 0 0)
    have Rt7:=LH (K7.out.row Rt6.out (by omega))
    have M7:=LH (M6.out.chg K7.out (by omega) (by omega))
    clear Rt6 M6
    clear Rr6
    rw [<- e7]
    clear e7
    have hcu7:=fun i=>M7.out.row.cell i
    have hlu7:=M7.out.row.lt
    have hct7:=fun i=>Rt7.out.cell i
    have hlt7:=Rt7.out.lt
    have hcr7:=fun i=>RN7.out.cell i
    have hlr7:=RN7.out.lt
    show BP _ _
    rw [HBP.out]
    refine bodyPost_ret (v:=.agg #[.int .i64 1,.int .i64 0,.string ⟨#[]⟩,.slice none 0 0]) (by simp [results,Tryz.results88,go_sem,hcr7]) rfl ?_
    exact⟨none,0,rfl,GTy.leaf (by decide) (by decide) empty_le,M7.out⟩
   all_goals
    go_wp2_with fail
    obtain⟨s1,hs1⟩:∃ s1,pTake ts [40] st=s1:=⟨_,rfl⟩
    refine(l3Take ts g L cl V cv st w5 (M5.out.cur HC.out) ⟨#[40]⟩).mono ?_
    clear hcu5 hlu5 hcr5 hlr5 hct5 hlt5
    rintro e w6 ⟨rfl,hm6⟩
    replace hm6:Mv ts g L cl V cv st.vars (pTake ts [40] st) w5 w6:=hm6
    have hz6:=hm6.size
    have K6:=LH hm6.bx
    have Rr6:=LH (K6.out.row Rr5.out (by omega))
    have Rt6:=LH (K6.out.row Rt5.out (by omega))
    have M6:=LH (M5.out.trans hm6)
    clear Rr5 Rt5 M5
    clear hm6
    have hcu6:=fun i=>M6.out.row.cell i
    have hlu6:=M6.out.row.lt
    have hcr6:=fun i=>Rr6.out.cell i
    have hfr6:=fun i=>Rr6.out.frozen i
    have hlr6:=Rr6.out.lt
    have hct6:=fun i=>Rt6.out.cell i
    have hlt6:=Rt6.out.lt
    rw [hs1] at M6
    clear hcu6 hlu6 hcr6 hfr6 hlr6 hct6 hlt6
    have hcu6:=fun i=>M6.out.row.cell i
    have hlu6:=M6.out.row.lt
    have hcr6:=fun i=>Rr6.out.cell i
    have hfr6:=fun i=>Rr6.out.frozen i
    have hlr6:=Rr6.out.lt
    have hct6:=fun i=>Rt6.out.cell i
    have hlt6:=Rt6.out.lt
    have HS1:=LH hs1
    by_cases hb1:0<=s1.bad
    ·
     simp [pTyAtom, *,HT.out] at hp
     obtain⟨rfl,rfl⟩:=hp
     have d1:decide (0<=s1.bad)=true:=decide_eq_true hb1
     go_wp2_with fail
     clear hcu6 hlu6 hcr6 hfr6 hlr6 hct6 hlt6
     obtain⟨w7,e7,RN7,hz7,K7⟩:=stored4 Rr6.out (.int .i64 0) (.int .i64 0) (.string ⟨#[]⟩) (.slice none 0 0)
     have Rt7:=LH (K7.out.row Rt6.out (by omega))
     have M7:=LH (M6.out.chg K7.out (by omega) (by omega))
     clear Rt6 M6
     clear Rr6
     rw [<- e7]
     clear e7
     have hcu7:=fun i=>M7.out.row.cell i
     have hlu7:=M7.out.row.lt
     have hct7:=fun i=>Rt7.out.cell i
     have hlt7:=Rt7.out.lt
     have hcr7:=fun i=>RN7.out.cell i
     have hlr7:=RN7.out.lt
     show BP _ _
     rw [HBP.out]
     refine bodyPost_ret (v:=.agg #[.int .i64 0,.int .i64 0,.string ⟨#[]⟩,.slice none 0 0]) (by simp [results,Tryz.results88,go_sem,hcr7]) rfl ?_
     exact⟨none,0,rfl,GTy.leaf (by decide) (by decide) empty_le,M7.out⟩
    ·
     simp [pTyAtom, *,HT.out] at hp
     obtain⟨n1,s2,hq,rfl,rfl⟩:=hp
     have d1:decide (0<=s1.bad)=false:=decide_eq_false hb1
     clear hb1 hs1
     go_wp2_with fail
     refine(HE.out ts g L cl V cv s1 w6 (M6.out.cur HC.out) n1 s2 hq).mono ?_
     clear hcu6 hlu6 hcr6 hfr6 hlr6 hct6 hlt6
     rintro e w7 ⟨Ax,cx,rfl,ha7,hm7⟩
     have hz7:=hm7.size
     have K7:=LH hm7.bx
     have DN7:=LH ha7
     have Rr7:=LH (K7.out.row Rr6.out (by omega))
     have Rt7:=LH (K7.out.row Rt6.out (by omega))
     have M7:=LH (M6.out.trans hm7)
     clear Rr6 Rt6 M6
     clear hm7 ha7
     have hcu7:=fun i=>M7.out.row.cell i
     have hlu7:=M7.out.row.lt
     have hcr7:=fun i=>Rr7.out.cell i
     have hlr7:=Rr7.out.lt
     have hct7:=fun i=>Rt7.out.cell i
     have hlt7:=Rt7.out.lt
     go_wp2_with fail
     clear hcu7 hlu7 hcr7 hlr7 hct7 hlt7
     obtain⟨w8,e8,Rx8,hz8,K8⟩:=boxed w7 59 #[.int .i64 n1.op,.int .i64 n1.n,.string n1.s,.slice Ax n1.kids.length cx]
     have Rr8:=LH (K8.out.row Rr7.out (by omega))
     have Rt8:=LH (K8.out.row Rt7.out (by omega))
     have Dx8:=LH (DN7.out.keep fun b hb=>K8.out.kq hb (by have h1:=hb.1;have h2:=hb.2;omega))
     have M8:=LH (M7.out.chg K8.out (by omega) (by omega))
     clear Rr7 Rt7 DN7 M7
     rw [<- e8]
     clear e8
     have hcu8:=fun i=>M8.out.row.cell i
     have hlu8:=M8.out.row.lt
     have hcr8:=fun i=>Rr8.out.cell i
     have hlr8:=Rr8.out.lt
     have hct8:=fun i=>Rt8.out.cell i
     have hlt8:=Rt8.out.lt
     have hcx8:=fun i=>Rx8.out.cell i
     have hlx8:=Rx8.out.lt
     refine(l3Take ts g L cl V cv s2 w8 (M8.out.cur HC.out) ⟨#[41]⟩).mono ?_
     clear hcu8 hlu8 hcr8 hlr8 hct8 hlt8 hcx8 hlx8
     rintro e w9 ⟨rfl,hm9⟩
     replace hm9:Mv ts g L cl V cv s2.vars (pTake ts [41] s2) w8 w9:=hm9
     have hz9:=hm9.size
     have K9:=LH hm9.bx
     have Rr9:=LH (K9.out.row Rr8.out (by omega))
     have Rt9:=LH (K9.out.row Rt8.out (by omega))
     have Rx9:=LH (K9.out.row Rx8.out (by omega))
     have Dx9:=LH (Dx8.out.keep fun b hb=>K9.out.kq hb (by have h1:=hb.1;have h2:=hb.2;omega))
     have M9:=LH (M8.out.trans hm9)
     clear Rr8 Rt8 Rx8 Dx8 M8
     clear hm9
     have hcu9:=fun i=>M9.out.row.cell i
     have hlu9:=M9.out.row.lt
     have hcr9:=fun i=>Rr9.out.cell i
     have hfr9:=fun i=>Rr9.out.frozen i
     have hlr9:=Rr9.out.lt
     have hct9:=fun i=>Rt9.out.cell i
     have hlt9:=Rt9.out.lt
     have hcx9:=fun i=>Rx9.out.cell i
     have hlx9:=Rx9.out.lt
     go_wp2_with fail
     clear hcu9 hlu9 hcr9 hfr9 hlr9 hct9 hlt9 hcx9 hlx9
     obtain⟨w10,e10,RN10,hz10,K10⟩:=stored4 Rr9.out (.int .i64 n1.op) (.int .i64 n1.n) (.string n1.s) (.slice Ax n1.kids.length cx)
     have Rt10:=LH (K10.out.row Rt9.out (by omega))
     have Rx10:=LH (K10.out.row Rx9.out (by omega))
     have Dx10:=LH (Dx9.out.keep fun b hb=>K10.out.kq hb (by have h1:=hb.1;have h2:=hb.2;omega))
     have M10:=LH (M9.out.chg K10.out (by omega) (by omega))
     clear Rt9 Rx9 Dx9 M9
     clear Rr9
     rw [<- e10]
     clear e10
     have hcu10:=fun i=>M10.out.row.cell i
     have hlu10:=M10.out.row.lt
     have hct10:=fun i=>Rt10.out.cell i
     have hlt10:=Rt10.out.lt
     have hcx10:=fun i=>Rx10.out.cell i
     have hlx10:=Rx10.out.lt
     have hcr10:=fun i=>RN10.out.cell i
     have hlr10:=RN10.out.lt
     show BP _ _
     rw [HBP.out]
     refine bodyPost_ret (v:=.agg #[.int .i64 n1.op,.int .i64 n1.n,.string n1.s,.slice Ax n1.kids.length cx]) (by simp [results,Tryz.results88,go_sem,hcr10]) rfl ?_
     exact⟨Ax,cx,rfl,Dx10.out.keep fun b hb=>⟨⟨by have h1:=hb.1;have h2:=hb.2;omega,by have h1:=hb.1;have h2:=hb.2;omega⟩,rfl⟩,M10.out⟩
  ·
   simp [pTyAtom,hn,hc,HT.out] at hp
   obtain⟨rfl,rfl⟩:=hp
   go_wp2_with fail
   refine(l3Next ts g L cl V cv st w5 (M5.out.cur HC.out)).mono ?_
   clear hcu5 hlu5 hcr5 hlr5 hct5 hlt5
   rintro e w6 ⟨rfl,hm6⟩
   replace hm6:Mv ts g L cl V cv st.vars (pNext ts st) w5 w6:=hm6
   have hz6:=hm6.size
   have K6:=LH hm6.bx
   have Rr6:=LH (K6.out.row Rr5.out (by omega))
   have Rt6:=LH (K6.out.row Rt5.out (by omega))
   have M6:=LH (M5.out.trans hm6)
   clear Rr5 Rt5 M5
   clear hm6
   have hcu6:=fun i=>M6.out.row.cell i
   have hlu6:=M6.out.row.lt
   have hcr6:=fun i=>Rr6.out.cell i
   have hfr6:=fun i=>Rr6.out.frozen i
   have hlr6:=Rr6.out.lt
   have hct6:=fun i=>Rt6.out.cell i
   have hlt6:=Rt6.out.lt
   go_wp2_with fail
   clear hcu6 hlu6 hcr6 hfr6 hlr6 hct6 hlt6
   obtain⟨w7,e7,RN7,hz7,K7⟩:=stored4 Rr6.out (.int .i64 4) (.int .i64 0) (.string t.text) (.slice none 0 0)
   have Rt7:=LH (K7.out.row Rt6.out (by omega))
   have M7:=LH (M6.out.chg K7.out (by omega) (by omega))
   clear Rt6 M6
   clear Rr6
   rw [<- e7]
   clear e7
   have hcu7:=fun i=>M7.out.row.cell i
   have hlu7:=M7.out.row.lt
   have hct7:=fun i=>Rt7.out.cell i
   have hlt7:=Rt7.out.lt
   have hcr7:=fun i=>RN7.out.cell i
   have hlr7:=RN7.out.lt
   show BP _ _
   rw [HBP.out]
   refine bodyPost_ret (v:=.agg #[.int .i64 4,.int .i64 0,.string t.text,.slice none 0 0]) (by simp [results,Tryz.results88,go_sem,hcr7]) rfl ?_
   exact⟨none,0,rfl,GTy.leaf (by decide) (by decide) HAT.out.2.1,M7.out⟩
 ·
  simp [pTyAtom,hn,HT.out] at hp
  obtain⟨hn1,hst1⟩:=hp
  have HNN:=LH hn1
  have HST:=LH hst1
  clear hn1 hst1
  go_wp2_with fail
  refine(l3Next ts g L cl V cv st w4 (M4.out.cur HC.out)).mono ?_
  clear hcu4 hlu4 hcr4 hlr4 hct4 hlt4
  rintro e w5 ⟨rfl,hm5⟩
  replace hm5:Mv ts g L cl V cv st.vars (pNext ts st) w4 w5:=hm5
  have hz5:=hm5.size
  have K5:=LH hm5.bx
  have Rr5:=LH (K5.out.row Rr4.out (by omega))
  have Rt5:=LH (K5.out.row Rt4.out (by omega))
  have M5:=LH (M4.out.trans hm5)
  clear Rr4 Rt4 M4
  clear hm5
  have hcu5:=fun i=>M5.out.row.cell i
  have hlu5:=M5.out.row.lt
  have hcr5:=fun i=>Rr5.out.cell i
  have hlr5:=Rr5.out.lt
  have hct5:=fun i=>Rt5.out.cell i
  have hlt5:=Rt5.out.lt
  go_wp2_with fail
  have HWF:=LH ((M5.out.cur HC.out).pvar_wf t.text)
  refine(l3Var ts g L cl V cv (pNext ts st) w5 (M5.out.cur HC.out) t.text).mono ?_
  clear hcu5 hlu5 hcr5 hlr5 hct5 hlt5
  rintro e w6 ⟨rfl,hm6⟩
  replace hm6:Mv ts g L cl V cv (pNext ts st).vars ((pVar t.text (pNext ts st)).2) w5 w6:=hm6
  have hz6:=hm6.size
  have K6:=LH hm6.bx
  have Rr6:=LH (K6.out.row Rr5.out (by omega))
  have Rt6:=LH (K6.out.row Rt5.out (by omega))
  have M6:=LH (M5.out.trans hm6)
  clear Rr5 Rt5 M5
  clear hm6
  have hcu6:=fun i=>M6.out.row.cell i
  have hlu6:=M6.out.row.lt
  have hcr6:=fun i=>Rr6.out.cell i
  have hfr6:=fun i=>Rr6.out.frozen i
  have hlr6:=Rr6.out.lt
  have hct6:=fun i=>Rt6.out.cell i
  have hlt6:=Rt6.out.lt
  go_wp2_with fail
  clear hcu6 hlu6 hcr6 hfr6 hlr6 hct6 hlt6
  obtain⟨w7,e7,RN7,hz7,K7⟩:=stored4 Rr6.out (.int .i64 2) (.int .i64 (pVar t.text (pNext ts st)).1) (.string ⟨#[]⟩) (.slice none 0 0)
  have Rt7:=LH (K7.out.row Rt6.out (by omega))
  have M7:=LH (M6.out.chg K7.out (by omega) (by omega))
  clear Rt6 M6
  clear Rr6
  rw [<- e7]
  clear e7
  have hcu7:=fun i=>M7.out.row.cell i
  have hlu7:=M7.out.row.lt
  have hct7:=fun i=>Rt7.out.cell i
  have hlt7:=Rt7.out.lt
  have hcr7:=fun i=>RN7.out.cell i
  have hlr7:=RN7.out.lt
  obtain rfl:=HNN.out
  obtain rfl:=HST.out
  show BP _ _
  rw [HBP.out]
  refine bodyPost_ret (v:=.agg #[.int .i64 2,.int .i64 (pVar t.text (pNext ts st)).1,.string ⟨#[]⟩,.slice none 0 0]) (by simp [results,Tryz.results88,go_sem,hcr7]) rfl ?_
  exact⟨none,0,rfl,GTy.leaf (by decide) HWF.out empty_le,M7.out⟩
theorem pTy_succ (ts:List GToken) (k:Nat) (st:PSt):pTy ts (k+1) st=
 ((if pCon ts st then(pTyKids ts k (pText ts true st).2 []).map fun r=>(GTy.mk 4 0 (pText ts true st).1 r.1,r.2) else pTyAtom ts k st).bind fun a=>
   if pSign ts [45,62] a.2 then(pTy ts k (pNext ts a.2)).map fun b=>(.mk 3 0 ⟨#[]⟩ [a.1,b.1],b.2) else some a):=by simp only [pTy]
theorem l3Ty (k:Nat) (hkk:k<=1000000) (hA:∀ j,j<=k->OkT 88 pTyAtom j) (hT:OkT 99 pTy k):OkT 99 pTy (k+1):=by
 intro ts g L cl V cv st w h n st' hp
 rw [pTy_succ] at hp
 have HA:=LH hA
 have HTY:=LH hT
 clear hA hT
 have HC:=LH h
 have M0:=LH h.mv
 have hgl:=h.row.lt
 clear h
 go_enter Tryz.func99,Tryz.ntmps99
 refine wp_hide (fun BP hBP=>?_)
 have HBP:=LH hBP
 clear hBP
 go_wp2_with fail
 obtain⟨w1,e1,Rr1,hz1,K1⟩:=boxed w 59 #[.int .i64 0,.int .i64 0,.string ⟨#[]⟩,.slice none 0 0]
 have M1:=LH (M0.out.chg K1.out (by omega) (by omega))
 obtain⟨w2,e2,Ra2,hz2,K2⟩:=boxed w1 59 #[.int .i64 0,.int .i64 0,.string ⟨#[]⟩,.slice none 0 0]
 have hy2:w1.heap.size=(w.heap.size+1):=by omega
 rw [hy2] at Ra2 K2
 have Rr2:=LH (K2.out.row Rr1.out (by omega))
 have M2:=LH (M1.out.chg K2.out (by omega) (by omega))
 clear Rr1 M1
 rw [<- e1,<- e2]
 clear e1 e2
 have hlu2:=M2.out.row.lt
 have hcr2:=fun i=>Rr2.out.cell i
 have hlr2:=Rr2.out.lt
 have hca2:=fun i=>Ra2.out.cell i
 have hla2:=Ra2.out.lt
 refine(l3Con ts g L cl V cv st w2 (M2.out.cur HC.out)).mono ?_
 clear hlu2 hcr2 hlr2 hca2 hla2
 rintro e w3 ⟨rfl,hb3⟩
 have hz3:=hb3.size
 have K3:=LH (Bx.of_below (g:=g) hb3 (Nat.le_refl _))
 have Rr3:=LH (K3.out.row Rr2.out (by omega))
 have Ra3:=LH (K3.out.row Ra2.out (by omega))
 have M3:=LH (M2.out.below hb3)
 clear Rr2 Ra2 M2
 clear hb3
 have hlu3:=M3.out.row.lt
 have hcr3:=fun i=>Rr3.out.cell i
 have hlr3:=Rr3.out.lt
 have hca3:=fun i=>Ra3.out.cell i
 have hla3:=Ra3.out.lt
 cases hs1:pCon ts st
 ·
  simp only [hs1,Bool.false_eq_true,if_false,Option.bind_eq_some_iff] at hp
  obtain⟨⟨n1,s1⟩,hq1,hb0⟩:=hp
  have HB:=LH hb0
  clear hb0
  go_wp2_with fail
  refine(HA.out k (Nat.le_refl _) ts g L cl V cv st w3 (M3.out.cur HC.out) n1 s1 hq1).mono ?_
  clear hlu3 hcr3 hlr3 hca3 hla3
  rintro e w4 ⟨Ax,cx,rfl,ha4,hm4⟩
  have hz4:=hm4.size
  have K4:=LH hm4.bx
  have DN4:=LH ha4
  have Rr4:=LH (K4.out.row Rr3.out (by omega))
  have Ra4:=LH (K4.out.row Ra3.out (by omega))
  have M4:=LH (M3.out.trans hm4)
  clear Rr3 Ra3 M3
  clear hm4 ha4
  have hlu4:=M4.out.row.lt
  have hcr4:=fun i=>Rr4.out.cell i
  have hlr4:=Rr4.out.lt
  have hca4:=fun i=>Ra4.out.cell i
  have hfa4:=fun i=>Ra4.out.frozen i
  have hla4:=Ra4.out.lt
  clear hq1
  go_upto_region 7 with (fail)
  clear hlu4 hcr4 hlr4 hca4 hfa4 hla4
  obtain⟨w5,e5,RN5,hz5,K5⟩:=stored4 Ra4.out (.int .i64 n1.op) (.int .i64 n1.n) (.string n1.s) (.slice Ax n1.kids.length cx)
  have Rr5:=LH (K5.out.row Rr4.out (by omega))
  have Dx5:=LH (DN4.out.keep fun b hb=>K5.out.kq hb (by have h1:=hb.1;have h2:=hb.2;omega))
  have M5:=LH (M4.out.chg K5.out (by omega) (by omega))
  clear Rr4 DN4 M4
  clear Ra4
  rw [<- e5]
  clear e5
  have hlu5:=M5.out.row.lt
  have hcr5:=fun i=>Rr5.out.cell i
  have hlr5:=Rr5.out.lt
  have hca5:=fun i=>RN5.out.cell i
  have hla5:=RN5.out.lt
  go_wp2_with fail
  refine(l3Sign ts g L cl V cv s1 w5 (M5.out.cur HC.out) ⟨#[45,62]⟩).mono ?_
  clear hlu5 hcr5 hlr5 hca5 hla5
  rintro e w6 ⟨rfl,hb6⟩
  have hz6:=hb6.size
  have K6:=LH (Bx.of_below (g:=g) hb6 (Nat.le_refl _))
  have Rr6:=LH (K6.out.row Rr5.out (by omega))
  have Ra6:=LH (K6.out.row RN5.out (by omega))
  have Dx6:=LH (Dx5.out.keep fun b hb=>K6.out.kq hb (by have h1:=hb.1;have h2:=hb.2;omega))
  have M6:=LH (M5.out.below hb6)
  clear Rr5 RN5 Dx5 M5
  clear hb6
  have hlu6:=M6.out.row.lt
  have hcr6:=fun i=>Rr6.out.cell i
  have hfr6:=fun i=>Rr6.out.frozen i
  have hlr6:=Rr6.out.lt
  have hca6:=fun i=>Ra6.out.cell i
  have hla6:=Ra6.out.lt
  cases hs3:pSign ts [45,62] s1
  ·
   have hb:=HB.out
   simp [hs3] at hb
   obtain⟨hb1,hb2⟩:=hb
   have HB1:=LH hb1
   have HB2:=LH hb2
   clear hb1 hb2
   go_wp2_with fail
   clear hlu6 hcr6 hfr6 hlr6 hca6 hla6
   obtain⟨w7,e7,RN7,hz7,K7⟩:=stored4 Rr6.out (.int .i64 n1.op) (.int .i64 n1.n) (.string n1.s) (.slice Ax n1.kids.length cx)
   have Ra7:=LH (K7.out.row Ra6.out (by omega))
   have Dx7:=LH (Dx6.out.keep fun b hb=>K7.out.kq hb (by have h1:=hb.1;have h2:=hb.2;omega))
   have M7:=LH (M6.out.chg K7.out (by omega) (by omega))
   clear Ra6 Dx6 M6
   clear Rr6
   rw [<- e7]
   clear e7
   have hlu7:=M7.out.row.lt
   have hca7:=fun i=>Ra7.out.cell i
   have hla7:=Ra7.out.lt
   have hcr7:=fun i=>RN7.out.cell i
   have hlr7:=RN7.out.lt
   obtain rfl:=HB1.out
   obtain rfl:=HB2.out
   show BP _ _
   rw [HBP.out]
   refine bodyPost_ret (v:=.agg #[.int .i64 n1.op,.int .i64 n1.n,.string n1.s,.slice Ax n1.kids.length cx]) (by simp [results,Tryz.results99,go_sem,hcr7]) rfl ?_
   exact⟨Ax,cx,rfl,Dx7.out.keep fun b hb=>⟨⟨by have h1:=hb.1;have h2:=hb.2;omega,by have h1:=hb.1;have h2:=hb.2;omega⟩,rfl⟩,M7.out⟩
  ·
   have hb:=HB.out
   simp [hs3,Option.map_eq_some_iff] at hb
   obtain⟨n2,hq2,hn⟩:=hb
   have HNN:=LH hn
   have HQ2:=LH hq2
   clear hn hq2
   go_wp2_with fail
   refine(l3Next ts g L cl V cv s1 w6 (M6.out.cur HC.out)).mono ?_
   clear hlu6 hcr6 hfr6 hlr6 hca6 hla6
   rintro e w7 ⟨rfl,hm7⟩
   replace hm7:Mv ts g L cl V cv s1.vars (pNext ts s1) w6 w7:=hm7
   have hz7:=hm7.size
   have K7:=LH hm7.bx
   have Rr7:=LH (K7.out.row Rr6.out (by omega))
   have Ra7:=LH (K7.out.row Ra6.out (by omega))
   have Dx7:=LH (Dx6.out.keep fun b hb=>K7.out.kq hb (by have h1:=hb.1;have h2:=hb.2;omega))
   have M7:=LH (M6.out.trans hm7)
   clear Rr6 Ra6 Dx6 M6
   clear hm7
   have hlu7:=M7.out.row.lt
   have hcr7:=fun i=>Rr7.out.cell i
   have hfr7:=fun i=>Rr7.out.frozen i
   have hlr7:=Rr7.out.lt
   have hca7:=fun i=>Ra7.out.cell i
   have hla7:=Ra7.out.lt
   go_wp2_with fail
   refine(HTY.out ts g L cl V cv (pNext ts s1) w7 (M7.out.cur HC.out) n2 st' HQ2.out).mono ?_
   clear hlu7 hcr7 hlr7 hca7 hla7
   rintro e w8 ⟨Ab,cb,rfl,ha8,hm8⟩
   have hz8:=hm8.size
   have K8:=LH hm8.bx
   have DN8:=LH ha8
   have Rr8:=LH (K8.out.row Rr7.out (by omega))
   have Ra8:=LH (K8.out.row Ra7.out (by omega))
   have Dx8:=LH (Dx7.out.keep fun b hb=>K8.out.kq hb (by have h1:=hb.1;have h2:=hb.2;omega))
   have M8:=LH (M7.out.trans hm8)
   clear Rr7 Ra7 Dx7 M7
   clear hm8 ha8
   have hlu8:=M8.out.row.lt
   have hcr8:=fun i=>Rr8.out.cell i
   have hfr8:=fun i=>Rr8.out.frozen i
   have hlr8:=Rr8.out.lt
   have hca8:=fun i=>Ra8.out.cell i
   have hla8:=Ra8.out.lt
   go_wp2_with fail
   clear hlu8 hcr8 hlr8 hca8 hla8
   obtain⟨w9,e9,RN9,hz9,K9⟩:=stored4 Rr8.out (.int .i64 3) (.int .i64 0) (.string ⟨#[]⟩) (.slice (some ⟨(w8.heap.size+1),0,none⟩) 2 2)
   have Ra9:=LH (K9.out.row Ra8.out (by omega))
   have Dx9:=LH (Dx8.out.keep fun b hb=>K9.out.kq hb (by have h1:=hb.1;have h2:=hb.2;omega))
   have Db9:=LH (DN8.out.keep fun b hb=>K9.out.kq hb (by have h1:=hb.1;have h2:=hb.2;omega))
   have M9:=LH (M8.out.chg K9.out (by omega) (by omega))
   clear Ra8 Dx8 DN8 M8
   clear Rr8
   obtain⟨w10,e10,Rb10,hz10,K10⟩:=boxed w9 59 #[.int .i64 n2.op,.int .i64 n2.n,.string n2.s,.slice Ab n2.kids.length cb]
   have hy10:w9.heap.size=w8.heap.size:=by omega
   rw [hy10] at Rb10 K10
   have Ra10:=LH (K10.out.row Ra9.out (by omega))
   have Rr10:=LH (K10.out.row RN9.out (by omega))
   have Dx10:=LH (Dx9.out.keep fun b hb=>K10.out.kq hb (by have h1:=hb.1;have h2:=hb.2;omega))
   have Db10:=LH (Db9.out.keep fun b hb=>K10.out.kq hb (by have h1:=hb.1;have h2:=hb.2;omega))
   have M10:=LH (M9.out.chg K10.out (by omega) (by omega))
   clear Ra9 RN9 Dx9 Db9 M9
   obtain⟨w11,e11,Rrow11,hz11,K11⟩:=boxed w10 59 #[.int .i64 n1.op,.int .i64 n1.n,.string n1.s,.slice Ax n1.kids.length cx,.int .i64 n2.op,.int .i64 n2.n,.string n2.s,.slice Ab n2.kids.length cb]
   have hy11:w10.heap.size=(w8.heap.size+1):=by omega
   rw [hy11] at Rrow11 K11
   have Ra11:=LH (K11.out.row Ra10.out (by omega))
   have Rr11:=LH (K11.out.row Rr10.out (by omega))
   have Rb11:=LH (K11.out.row Rb10.out (by omega))
   have Dx11:=LH (Dx10.out.keep fun b hb=>K11.out.kq hb (by have h1:=hb.1;have h2:=hb.2;omega))
   have Db11:=LH (Db10.out.keep fun b hb=>K11.out.kq hb (by have h1:=hb.1;have h2:=hb.2;omega))
   have M11:=LH (M10.out.chg K11.out (by omega) (by omega))
   clear Ra10 Rr10 Rb10 Dx10 Db10 M10
   have SL11:=LH (show Sl w11 (fun b=>b<w11.heap.size/\w.heap.size<=b/\b≠w.heap.size) 4 (some ⟨(w8.heap.size+1),0,none⟩) 2 ([n1,n2].map GTy.toD) from Sl.ofRow Rrow11.out (rdC_cons (GTy.rd_mk (Dx11.out.keep (w':=w11) (S':=fun b=>b<w11.heap.size/\w.heap.size<=b/\b≠w.heap.size) fun b hb=>⟨⟨by have h1:=hb.1;have h2:=hb.2;omega,by have h1:=hb.1;have h2:=hb.2;omega⟩,rfl⟩)) rfl (rdC_one1 (GTy.rd_mk (Db11.out.keep (w':=w11) (S':=fun b=>b<w11.heap.size/\w.heap.size<=b/\b≠w.heap.size) fun b hb=>⟨⟨by have h1:=hb.1;have h2:=hb.2;omega,by have h1:=hb.1;have h2:=hb.2;omega⟩,rfl⟩)) rfl)) ⟨by omega,by omega⟩ (by simp) (by unfold maxLen;omega))
   rw [<- e9,<- e10,<- e11]
   clear e9 e10 e11
   have hlu11:=M11.out.row.lt
   have hca11:=fun i=>Ra11.out.cell i
   have hla11:=Ra11.out.lt
   have hcr11:=fun i=>Rr11.out.cell i
   have hlr11:=Rr11.out.lt
   have hcb11:=fun i=>Rb11.out.cell i
   have hlb11:=Rb11.out.lt
   have hcrow11:=fun i=>Rrow11.out.cell i
   have hlrow11:=Rrow11.out.lt
   obtain rfl:=HNN.out
   show BP _ _
   rw [HBP.out]
   refine bodyPost_ret (v:=.agg #[.int .i64 3,.int .i64 0,.string ⟨#[]⟩,.slice (some ⟨(w8.heap.size+1),0,none⟩) 2 2]) (by simp [results,Tryz.results99,go_sem,hcr11]) rfl ?_
   exact⟨some ⟨(w8.heap.size+1),0,none⟩,2,rfl,⟨show(Lit.int .i64 3).wf=true by decide,show(Lit.int .i64 0).wf=true by decide,empty_le,SL11.out.keep fun b hb=>⟨⟨by have h1:=hb.1;have h2:=hb.2;omega,by have h1:=hb.1;have h2:=hb.2;omega⟩,rfl⟩⟩,M11.out⟩
 ·
  simp only [hs1,if_true,Option.bind_eq_some_iff,Option.map_eq_some_iff] at hp
  obtain⟨⟨n1,s8⟩,⟨⟨ks,s9⟩,hk0,he⟩,hb0⟩:=hp
  obtain⟨he1,rfl⟩:=Prod.mk.inj he
  have HTX:=LH (HC.out.ptext_le true)
  obtain⟨tx,htx⟩:∃ x,(pText ts true st).1=x:=⟨_,rfl⟩
  obtain⟨s0,hs0⟩:∃ x,(pText ts true st).2=x:=⟨_,rfl⟩
  have he2:=he1
  rw [htx] at he2 HTX
  obtain rfl:=he2
  clear he1 he
  have HB:=LH hb0
  have HK0:=LH hk0
  clear hb0 hk0
  go_wp2_with fail
  refine(l3TextC ts g L cl V cv st w3 (M3.out.cur HC.out)).mono ?_
  clear hlu3 hcr3 hlr3 hca3 hla3
  rintro e w4 ⟨rfl,hm4⟩
  replace hm4:Mv ts g L cl V cv st.vars ((pText ts true st).2) w3 w4:=hm4
  have hz4:=hm4.size
  have K4:=LH hm4.bx
  have Rr4:=LH (K4.out.row Rr3.out (by omega))
  have Ra4:=LH (K4.out.row Ra3.out (by omega))
  have M4:=LH (M3.out.trans hm4)
  clear Rr3 Ra3 M3
  clear hm4
  have hlu4:=M4.out.row.lt
  have hcr4:=fun i=>Rr4.out.cell i
  have hlr4:=Rr4.out.lt
  have hca4:=fun i=>Ra4.out.cell i
  have hfa4:=fun i=>Ra4.out.frozen i
  have hla4:=Ra4.out.lt
  rw [hs0] at M4 HK0
  rw [htx]
  clear hs0 htx
  clear hlu4 hcr4 hlr4 hca4 hfa4 hla4
  have hlu4:=M4.out.row.lt
  have hcr4:=fun i=>Rr4.out.cell i
  have hlr4:=Rr4.out.lt
  have hca4:=fun i=>Ra4.out.cell i
  have hfa4:=fun i=>Ra4.out.frozen i
  have hla4:=Ra4.out.lt
  go_wp2_with fail
  clear hlu4 hcr4 hlr4 hca4 hfa4 hla4
  obtain⟨w5,e5,RN5,hz5,K5⟩:=stored4 Ra4.out (.int .i64 4) (.int .i64 0) (.string tx) (.slice none 0 0)
  have Rr5:=LH (K5.out.row Rr4.out (by omega))
  have M5:=LH (M4.out.chg K5.out (by omega) (by omega))
  clear Rr4 M4
  clear Ra4
  rw [<- e5]
  clear e5
  have hlu5:=M5.out.row.lt
  have hcr5:=fun i=>Rr5.out.cell i
  have hlr5:=Rr5.out.lt
  have hca5:=fun i=>RN5.out.cell i
  have hla5:=RN5.out.lt
  clear hlu5 hcr5 hlr5 hca5 hla5
  have hINV:∃ I:Nat->World->Prop,I=fun j wr=>∃ (acc:List GTy) (s:PSt) (A:Option Addr) (c:Nat),pTyKids ts j s acc=some (ks,s9)/\j<=k/\acc.length+j<=k+1/\Row wr (w.heap.size+1) 59 #[.int .i64 4,.int .i64 0,.string tx,.slice A acc.length c]/\Row wr w.heap.size 59 #[.int .i64 0,.int .i64 0,.string ⟨#[]⟩,.slice none 0 0]/\Grx (fun b=>w.heap.size<=b/\b≠(w.heap.size+1)/\b≠w.heap.size) wr ((w.heap.size+1)+1) 59 4 (.slice A acc.length c) acc.length (acc.map GTy.toD)/\Mv ts g L cl V cv st.vars s w wr/\(w.heap.size+1)<wr.heap.size:=⟨_,rfl⟩
  obtain⟨I,hI⟩:=hINV
  have HI:=LH hI
  have I0:I k w5:=by
   rw [hI]
   exact⟨[],s0,none,0,HK0.out,Nat.le_refl _,by simp,RN5.out,Rr5.out,Grx.nil _ _ _ _ _,M5.out,RN5.out.lt⟩
  have hnw:w.heap.size<(w.heap.size+1):=by omega
  have hzw:w.heap.size<=w5.heap.size:=M5.out.size
  go_loopw [12] (fun v wr=>∃ j,I j wr) (fun _ wr=>leastK (fun j=>I j wr))
  case atStart=>exact⟨k,I0⟩
  case round=>
   have hex:=hrel
   have hleast:=leastK_spec (I:=fun j=>I j wr) hex
   obtain⟨j,hj⟩:∃ j,leastK (fun j=>I j wr)=j:=⟨_,rfl⟩
   rw [hj] at hleast
   have HJ:=LH hj
   clear hj hex hrel I0
   rw [hI] at hleast
   obtain⟨acc,s,A,c,hx,hjk,hal,ra,rr,gg,hm,hnl⟩:=hleast
   clear RN5 Rr5 M5 hI
   have RA0:=LH ra
   have RR0:=LH rr
   have GG0:=LH gg
   have MR0:=LH hm
   have hzr:=hm.size
   clear ra rr gg hm
   have hlu5:=MR0.out.row.lt
   have hcr5:=fun i=>RR0.out.cell i
   have hlr5:=RR0.out.lt
   have hca5:=fun i=>RA0.out.cell i
   have hla5:=RA0.out.lt
   cases j with
   | zero=>simp [pTyKids] at hx
   | succ j=>
    go_wp2_with fail
    refine(l3Small ts g L cl V cv s wr (MR0.out.cur HC.out)).mono ?_
    clear hlu5 hcr5 hlr5 hca5 hla5
    rintro e w6 ⟨rfl,hb6⟩
    have hz6:=hb6.size
    have K6:=LH (Bx.of_below (g:=g) hb6 (Nat.le_refl _))
    have Rr6:=LH (K6.out.row RR0.out (by omega))
    have Ra6:=LH (K6.out.row RA0.out (by omega))
    have GG6:=LH (GG0.out.keepP (w':=w6) (by omega) fun b hb h=>K6.out.block b hb (by
      rcases h with h | h
      · have:=GG0.out.own b h;omega
      · obtain⟨x1,x2,x3⟩:=h;omega))
    have M6:=LH (MR0.out.below hb6)
    clear RR0 RA0 GG0 MR0
    clear hb6
    have hlu6:=M6.out.row.lt
    have hcr6:=fun i=>Rr6.out.cell i
    have hfr6:=fun i=>Rr6.out.frozen i
    have hlr6:=Rr6.out.lt
    have hca6:=fun i=>Ra6.out.cell i
    have hla6:=Ra6.out.lt
    cases hs:pSmall ts s
    ·
     simp [pTyKids,hs] at hx
     obtain⟨hxa,hxs⟩:=hx
     obtain rfl:=hxa
     rw [<- hxs] at HB
     clear hxs
     have SX0:=LH (show GTy.At w6 (fun b=>b<w6.heap.size/\w.heap.size<=b/\b≠(w.heap.size+1)/\b≠w.heap.size) A c (.mk 4 0 tx acc) from⟨show(Lit.int .i64 4).wf=true by decide,show(Lit.int .i64 0).wf=true by decide,HTX.out,sl_of_grx GG6.out (fun b h=>by omega)⟩)
     go_wp2_with fail
     refine(l3Sign ts g L cl V cv s w6 (M6.out.cur HC.out) ⟨#[45,62]⟩).mono ?_
     clear hlu6 hcr6 hfr6 hlr6 hca6 hla6
     rintro e w7 ⟨rfl,hb7⟩
     have hz7:=hb7.size
     have K7:=LH (Bx.of_below (g:=g) hb7 (Nat.le_refl _))
     have Rr7:=LH (K7.out.row Rr6.out (by omega))
     have Ra7:=LH (K7.out.row Ra6.out (by omega))
     have Dx7:=LH (SX0.out.keep fun b hb=>K7.out.kq hb (by have h1:=hb.1;have h2:=hb.2;omega))
     have M7:=LH (M6.out.below hb7)
     clear Rr6 Ra6 SX0 M6
     clear hb7
     have hlu7:=M7.out.row.lt
     have hcr7:=fun i=>Rr7.out.cell i
     have hfr7:=fun i=>Rr7.out.frozen i
     have hlr7:=Rr7.out.lt
     have hca7:=fun i=>Ra7.out.cell i
     have hla7:=Ra7.out.lt
     cases hs3:pSign ts [45,62] s
     ·
      have hb:=HB.out
      simp [hs3] at hb
      obtain⟨hb1,hb2⟩:=hb
      have HB1:=LH hb1
      have HB2:=LH hb2
      clear hb1 hb2
      go_wp2_with fail
      clear hlu7 hcr7 hlr7 hca7 hla7
      obtain⟨w8,e8,RN8,hz8,K8⟩:=stored4 Rr7.out (.int .i64 4) (.int .i64 0) (.string tx) (.slice A acc.length c)
      have Ra8:=LH (K8.out.row Ra7.out (by omega))
      have Dx8:=LH (Dx7.out.keep fun b hb=>K8.out.kq hb (by have h1:=hb.1;have h2:=hb.2;omega))
      have M8:=LH (M7.out.chg K8.out (by omega) (by omega))
      clear Ra7 Dx7 M7
      clear Rr7
      rw [<- e8]
      clear e8
      have hlu8:=M8.out.row.lt
      have hca8:=fun i=>Ra8.out.cell i
      have hla8:=Ra8.out.lt
      have hcr8:=fun i=>RN8.out.cell i
      have hlr8:=RN8.out.lt
      obtain rfl:=HB1.out
      obtain rfl:=HB2.out
      show BP _ _
      rw [HBP.out]
      refine bodyPost_ret (v:=.agg #[.int .i64 4,.int .i64 0,.string tx,.slice A acc.length c]) (by simp [results,Tryz.results99,go_sem,hcr8]) rfl ?_
      exact⟨A,c,rfl,Dx8.out.keep fun b hb=>⟨⟨by have h1:=hb.1;have h2:=hb.2;omega,by have h1:=hb.1;have h2:=hb.2;omega⟩,rfl⟩,M8.out⟩
     ·
      have hb:=HB.out
      simp [hs3,Option.map_eq_some_iff] at hb
      obtain⟨n2,hq2,hn⟩:=hb
      have HNN:=LH hn
      have HQ2:=LH hq2
      clear hn hq2
      go_wp2_with fail
      refine(l3Next ts g L cl V cv s w7 (M7.out.cur HC.out)).mono ?_
      clear hlu7 hcr7 hlr7 hca7 hla7
      rintro e w8 ⟨rfl,hm8⟩
      replace hm8:Mv ts g L cl V cv s.vars (pNext ts s) w7 w8:=hm8
      have hz8:=hm8.size
      have K8:=LH hm8.bx
      have Rr8:=LH (K8.out.row Rr7.out (by omega))
      have Ra8:=LH (K8.out.row Ra7.out (by omega))
      have Dx8:=LH (Dx7.out.keep fun b hb=>K8.out.kq hb (by have h1:=hb.1;have h2:=hb.2;omega))
      have M8:=LH (M7.out.trans hm8)
      clear Rr7 Ra7 Dx7 M7
      clear hm8
      have hlu8:=M8.out.row.lt
      have hcr8:=fun i=>Rr8.out.cell i
      have hfr8:=fun i=>Rr8.out.frozen i
      have hlr8:=Rr8.out.lt
      have hca8:=fun i=>Ra8.out.cell i
      have hla8:=Ra8.out.lt
      go_wp2_with fail
      refine(HTY.out ts g L cl V cv (pNext ts s) w8 (M8.out.cur HC.out) n2 st' HQ2.out).mono ?_
      clear hlu8 hcr8 hlr8 hca8 hla8
      rintro e w9 ⟨Ab,cb,rfl,ha9,hm9⟩
      have hz9:=hm9.size
      have K9:=LH hm9.bx
      have DN9:=LH ha9
      have Rr9:=LH (K9.out.row Rr8.out (by omega))
      have Ra9:=LH (K9.out.row Ra8.out (by omega))
      have Dx9:=LH (Dx8.out.keep fun b hb=>K9.out.kq hb (by have h1:=hb.1;have h2:=hb.2;omega))
      have M9:=LH (M8.out.trans hm9)
      clear Rr8 Ra8 Dx8 M8
      clear hm9 ha9
      have hlu9:=M9.out.row.lt
      have hcr9:=fun i=>Rr9.out.cell i
      have hfr9:=fun i=>Rr9.out.frozen i
      have hlr9:=Rr9.out.lt
      have hca9:=fun i=>Ra9.out.cell i
      have hla9:=Ra9.out.lt
      go_wp2_with fail
      clear hlu9 hcr9 hfr9 hlr9 hca9 hla9
      obtain⟨w10,e10,RN10,hz10,K10⟩:=stored4 Rr9.out (.int .i64 3) (.int .i64 0) (.string ⟨#[]⟩) (.slice (some ⟨(w9.heap.size+1),0,none⟩) 2 2)
      have Ra10:=LH (K10.out.row Ra9.out (by omega))
      have Dx10:=LH (Dx9.out.keep fun b hb=>K10.out.kq hb (by have h1:=hb.1;have h2:=hb.2;omega))
      have Db10:=LH (DN9.out.keep fun b hb=>K10.out.kq hb (by have h1:=hb.1;have h2:=hb.2;omega))
      have M10:=LH (M9.out.chg K10.out (by omega) (by omega))
      clear Ra9 Dx9 DN9 M9
      clear Rr9
      obtain⟨w11,e11,Rb11,hz11,K11⟩:=boxed w10 59 #[.int .i64 n2.op,.int .i64 n2.n,.string n2.s,.slice Ab n2.kids.length cb]
      have hy11:w10.heap.size=w9.heap.size:=by omega
      rw [hy11] at Rb11 K11
      have Ra11:=LH (K11.out.row Ra10.out (by omega))
      have Rr11:=LH (K11.out.row RN10.out (by omega))
      have Dx11:=LH (Dx10.out.keep fun b hb=>K11.out.kq hb (by have h1:=hb.1;have h2:=hb.2;omega))
      have Db11:=LH (Db10.out.keep fun b hb=>K11.out.kq hb (by have h1:=hb.1;have h2:=hb.2;omega))
      have M11:=LH (M10.out.chg K11.out (by omega) (by omega))
      clear Ra10 RN10 Dx10 Db10 M10
      obtain⟨w12,e12,Rrow12,hz12,K12⟩:=boxed w11 59 #[.int .i64 4,.int .i64 0,.string tx,.slice A acc.length c,.int .i64 n2.op,.int .i64 n2.n,.string n2.s,.slice Ab n2.kids.length cb]
      have hy12:w11.heap.size=(w9.heap.size+1):=by omega
      rw [hy12] at Rrow12 K12
      have Ra12:=LH (K12.out.row Ra11.out (by omega))
      have Rr12:=LH (K12.out.row Rr11.out (by omega))
      have Rb12:=LH (K12.out.row Rb11.out (by omega))
      have Dx12:=LH (Dx11.out.keep fun b hb=>K12.out.kq hb (by have h1:=hb.1;have h2:=hb.2;omega))
      have Db12:=LH (Db11.out.keep fun b hb=>K12.out.kq hb (by have h1:=hb.1;have h2:=hb.2;omega))
      have M12:=LH (M11.out.chg K12.out (by omega) (by omega))
      clear Ra11 Rr11 Rb11 Dx11 Db11 M11
      have SL12:=LH (show Sl w12 (fun b=>b<w12.heap.size/\w.heap.size<=b/\b≠w.heap.size) 4 (some ⟨(w9.heap.size+1),0,none⟩) 2 ([(GTy.mk 4 0 tx acc),n2].map GTy.toD) from Sl.ofRow Rrow12.out (rdC_cons (GTy.rd_mk (Dx12.out.keep (w':=w12) (S':=fun b=>b<w12.heap.size/\w.heap.size<=b/\b≠w.heap.size) fun b hb=>⟨⟨by have h1:=hb.1;have h2:=hb.2;omega,by have h1:=hb.1;have h2:=hb.2;omega⟩,rfl⟩)) rfl (rdC_one1 (GTy.rd_mk (Db12.out.keep (w':=w12) (S':=fun b=>b<w12.heap.size/\w.heap.size<=b/\b≠w.heap.size) fun b hb=>⟨⟨by have h1:=hb.1;have h2:=hb.2;omega,by have h1:=hb.1;have h2:=hb.2;omega⟩,rfl⟩)) rfl)) ⟨by omega,by omega⟩ (by simp) (by unfold maxLen;omega))
      rw [<- e10,<- e11,<- e12]
      clear e10 e11 e12
      have hlu12:=M12.out.row.lt
      have hca12:=fun i=>Ra12.out.cell i
      have hla12:=Ra12.out.lt
      have hcr12:=fun i=>Rr12.out.cell i
      have hlr12:=Rr12.out.lt
      have hcb12:=fun i=>Rb12.out.cell i
      have hlb12:=Rb12.out.lt
      have hcrow12:=fun i=>Rrow12.out.cell i
      have hlrow12:=Rrow12.out.lt
      obtain rfl:=HNN.out
      show BP _ _
      rw [HBP.out]
      refine bodyPost_ret (v:=.agg #[.int .i64 3,.int .i64 0,.string ⟨#[]⟩,.slice (some ⟨(w9.heap.size+1),0,none⟩) 2 2]) (by simp [results,Tryz.results99,go_sem,hcr12]) rfl ?_
      exact⟨some ⟨(w9.heap.size+1),0,none⟩,2,rfl,⟨show(Lit.int .i64 3).wf=true by decide,show(Lit.int .i64 0).wf=true by decide,empty_le,SL12.out.keep fun b hb=>⟨⟨by have h1:=hb.1;have h2:=hb.2;omega,by have h1:=hb.1;have h2:=hb.2;omega⟩,rfl⟩⟩,M12.out⟩
    ·
     simp [pTyKids,hs,Option.bind_eq_some_iff] at hx
     obtain⟨n1,s1,hq,hr⟩:=hx
     have HR:=LH hr
     clear hr
     have HOW:=LH (fun q (hq:(Value.slice A acc.length c).ownBlock=some q)=>GG6.out.own q hq)
     go_upto_region 5 with (fail)
     refine wp_region_T (fun x=>x.cell? ⟨(w.heap.size+1),3,none⟩=some (.slice A acc.length c)) 7 (by kernel_rfl) ?_
     clear hlu6 hcr6 hfr6 hlr6 hca6 hla6
     obtain⟨w7,e7⟩:∃ x,x=w6.drew:=⟨_,rfl⟩
     rw [<- e7]
     have hz7:w7.heap.size<=w6.heap.size/\w6.heap.size<=w7.heap.size:=by rw [e7];exact⟨Nat.le_refl _,Nat.le_refl _⟩
     have K7:=LH (show Bx w6.heap.size w6 w7 by rw [e7];exact Bx.of_below ((Below.refl _ _).drew) (Nat.le_refl _))
     clear e7
     have Rr7:=LH (K7.out.row Rr6.out (by omega))
     have Ra7:=LH (K7.out.row Ra6.out (by omega))
     have GG7:=LH (GG6.out.keepP (w':=w7) (by omega) fun b hb h=>K7.out.block b hb (by
       rcases h with h | h
       · have:=GG6.out.own b h;omega
       · obtain⟨x1,x2,x3⟩:=h;omega))
     have M7:=LH (M6.out.chg K7.out (by omega) (by omega))
     clear Rr6 Ra6 GG6 M6
     have hlu7:=M7.out.row.lt
     have hcr7:=fun i=>Rr7.out.cell i
     have hfr7:=fun i=>Rr7.out.frozen i
     have hlr7:=Rr7.out.lt
     have hca7:=fun i=>Ra7.out.cell i
     have hla7:=Ra7.out.lt
     have hS1:w7.cell? ⟨(w.heap.size+1),3,none⟩=some (.slice A acc.length c):=Ra7.out.cell 3
     refine wpAnyT_tk (i:=0) (oi:=_) (v:=?tv1) rfl (Or.inl ⟨by rfl,?th1⟩) hS1 ?_
     case th1=>(intro x hSx;(try dsimp only at hSx);go_simp;(try with_reducible rfl))
     try simp only [nA,nB,nC,Act.put,nD,nE,nF]
     refine wpAnyT_tk (i:=1) (oi:=_) (v:=?tv2) rfl (Or.inl ⟨by rfl,?th2⟩) hS1 ?_
     case th2=>(intro x hSx;(try dsimp only at hSx);go_simp;(try with_reducible rfl))
     try simp only [nA,nB,nC,Act.put,nD,nE,nF]
     refine wpAnyT_tk (i:=2) (oi:=_) (v:=?tv3) rfl (Or.inl ⟨by rfl,?th3⟩) hS1 ?_
     case th3=>(intro x hSx;(try dsimp only at hSx);go_simp;(try with_reducible rfl))
     try simp only [nA,nB,nC,Act.put,nD,nE,nF]
     refine wpAnyT_step (i:=3) (by kernel_rfl) rfl (fun K hK=>?_)
     try simp only [nA,nB,nC]
     go_simp
     go_at_call 88
     refine(HA.out j (by omega) ts g L cl V cv s w7 (M7.out.cur HC.out) n1 s1 hq).mono ?_
     clear hlu7 hcr7 hlr7 hca7 hla7
     rintro e w8 ⟨An1,cn1,rfl,ha8,hm8⟩
     have hz8:=hm8.size
     have K8:=LH hm8.bx
     have DN8:=LH ha8
     have Rr8:=LH (K8.out.row Rr7.out (by omega))
     have Ra8:=LH (K8.out.row Ra7.out (by omega))
     have GG8:=LH (GG7.out.keepP (w':=w8) (by omega) fun b hb h=>K8.out.block b hb (by
       rcases h with h | h
       · have:=GG7.out.own b h;omega
       · obtain⟨x1,x2,x3⟩:=h;omega))
     have M8:=LH (M7.out.trans hm8)
     clear Rr7 Ra7 GG7 M7
     clear hm8 ha8
     have hlu8:=M8.out.row.lt
     have hcr8:=fun i=>Rr8.out.cell i
     have hfr8:=fun i=>Rr8.out.frozen i
     have hlr8:=Rr8.out.lt
     have hca8:=fun i=>Ra8.out.cell i
     have hla8:=Ra8.out.lt
     clear hq
     have hS2:w8.cell? ⟨(w.heap.size+1),3,none⟩=some (.slice A acc.length c):=Ra8.out.cell 3
     refine hK.out _ _ hS2 (fun hS3=>?_)
     clear hK K hS1 hS2
     try simp only [nA,nB,nC,Act.put,nD,nE,nF]
     refine wpAnyT_step (i:=4) (by kernel_rfl) rfl (fun K hK=>?_)
     try simp only [nA,nB,nC]
     go_simp
     clear hlu8 hcr8 hlr8 hca8 hla8
     obtain⟨w9,e9,Rrow9,hz9,K9⟩:=boxed w8 59 #[.int .i64 n1.op,.int .i64 n1.n,.string n1.s,.slice An1 n1.kids.length cn1]
     have Rr9:=LH (K9.out.row Rr8.out (by omega))
     have Ra9:=LH (K9.out.row Ra8.out (by omega))
     have Dn19:=LH (DN8.out.keep fun b hb=>K9.out.kq hb (by have h1:=hb.1;have h2:=hb.2;omega))
     have GG9:=LH (GG8.out.keepP (w':=w9) (by omega) fun b hb h=>K9.out.block b hb (by
       rcases h with h | h
       · have:=GG8.out.own b h;omega
       · obtain⟨x1,x2,x3⟩:=h;omega))
     have M9:=LH (M8.out.chg K9.out (by omega) (by omega))
     clear Rr8 Ra8 DN8 GG8 M8
     have SL9:=LH (show Sl w9 (fun b=>b<w9.heap.size/\(Value.slice A acc.length c).ownBlock≠some b/\w.heap.size<=b/\b≠(w.heap.size+1)/\b≠w.heap.size) 4 (some ⟨w8.heap.size,0,none⟩) 1 ([n1].map GTy.toD) from Sl.ofRow Rrow9.out (rdC_one1 (GTy.rd_mk (Dn19.out.keep (w':=w9) (S':=fun b=>b<w9.heap.size/\(Value.slice A acc.length c).ownBlock≠some b/\w.heap.size<=b/\b≠(w.heap.size+1)/\b≠w.heap.size) fun b hb=>⟨⟨by have h1:=hb.1;have h2:=hb.2;omega,fun e=>by have h1:=hb.1;have h3:=(HOW.out b e).2;omega,by have h1:=hb.1;have h2:=hb.2;omega⟩,rfl⟩)) rfl) ⟨by omega,fun e=>by have h3:=(HOW.out _ e).2;omega,by omega⟩ (by simp) (by unfold maxLen;omega))
     rw [<- e9]
     clear e9
     have hlu9:=M9.out.row.lt
     have hcr9:=fun i=>Rr9.out.cell i
     have hfr9:=fun i=>Rr9.out.frozen i
     have hlr9:=Rr9.out.lt
     have hca9:=fun i=>Ra9.out.cell i
     have hla9:=Ra9.out.lt
     have hcrow9:=fun i=>Rrow9.out.cell i
     have hlrow9:=Rrow9.out.lt
     have hS4:w9.cell? ⟨(w.heap.size+1),3,none⟩=some (.slice A acc.length c):=Ra9.out.cell 3
     refine hK.out _ _ hS4 (fun hS5=>?_)
     clear hK K hS3 hS4
     try simp only [nA,nB,nC,Act.put,nD,nE,nF]
     refine wpAnyT_step (i:=5) (by kernel_rfl) rfl (fun K hK=>?_)
     refine step_append_X w9 rfl (.tmp 14) (.tmp 17) 35 rfl 59 zTyv 4 56 Tryz.underlying35 (by kernel_rfl) rfl (by omega) ((w.heap.size+1)+1) (.slice A acc.length c) acc.length _ GG9.out (some ⟨w8.heap.size,0,none⟩) 1 1 _ rfl SL9.out (by omega) (by unfold maxLen;omega) (by omega) rfl rfl ?_
     clear hlu9 hcr9 hfr9 hlr9 hca9 hla9 hcrow9 hlrow9
     intro A10 c10 w10 hG10 hGr10
     obtain⟨acc10,hac10⟩:∃ x,x=acc++[n1]:=⟨_,rfl⟩
     have HAC10:=LH hac10
     have hal10:acc10.length=acc.length+1:=by rw [hac10];simp
     have GN10:=LH (show Grx (fun b=>w.heap.size<=b/\b≠(w.heap.size+1)/\b≠w.heap.size) w10 ((w.heap.size+1)+1) 59 4 (.slice A10 acc10.length c10) acc10.length (acc10.map GTy.toD) from by rw [hal10,hac10];simpa using hG10)
     rw [<- hal10]
     have HAL10:=LH hal10
     clear hal10 hac10
     obtain⟨q10,hq10,hk10⟩:=hGr10.bxe (B:=(w.heap.size+1)+1) (fun q hq=>(HOW.out q hq).1) (by omega)
     have hz10:=hGr10.size
     have K10:=LH hk10
     clear hG10 hGr10 hk10
     have Rr10:=LH (K10.out.row Rr9.out (by omega))
     have Ra10:=LH (K10.out.row Ra9.out (by omega))
     have M10:=LH (M9.out.chg K10.out (by omega) (by omega))
     clear Rr9 Ra9 M9
     clear GG9
     have hlu10:=M10.out.row.lt
     have hcr10:=fun i=>Rr10.out.cell i
     have hlr10:=Rr10.out.lt
     have hca10:=fun i=>Ra10.out.cell i
     have hfa10:=fun i=>Ra10.out.frozen i
     have hla10:=Ra10.out.lt
     have hS6:w10.cell? ⟨(w.heap.size+1),3,none⟩=some (.slice A acc.length c):=Ra10.out.cell 3
     refine hK.out _ _ hS6 (fun hS7=>?_)
     clear hK K hS5 hS6
     try simp only [nA,nB,nC,Act.put,nD,nE,nF]
     refine wpAnyT_tk (i:=6) (oi:=_) (v:=?tv4) rfl (Or.inl ⟨by rfl,?th4⟩) hS7 ?_
     case th4=>(intro x hSx;(try dsimp only at hSx);go_simp;(try with_reducible rfl))
     try simp only [nA,nB,nC,Act.put,nD,nE,nF]
     refine wpAnyT_last (by kernel_rfl) (by kernel_rfl) rfl (fun K hK=>?_)
     try simp only [nA,nB,nC]
     go_simp
     refine hK.out _ _ ?_
     clear hK K
     try simp only [nA,nB,nC,Act.put,nD,nE,nF]
     clear hS7 HOW
     clear hlu10 hcr10 hlr10 hca10 hfa10 hla10
     obtain⟨w11,e11,RO11,hz11,K11⟩:=storedF Ra10.out 3 (.slice A10 acc10.length c10)
     have RN11:=LH (show Row w11 ((w.heap.size+1)) 59 #[.int .i64 4,.int .i64 0,.string tx,.slice A10 acc10.length c10] from RO11.out)
     clear RO11
     have Rr11:=LH (K11.out.row Rr10.out (by omega))
     have GG11:=LH (GN10.out.keepP (w':=w11) (by omega) fun b hb h=>K11.out.block b hb (by
       rcases h with h | h
       · have:=GN10.out.own b h;omega
       · obtain⟨x1,x2,x3⟩:=h;omega))
     have M11:=LH (M10.out.chg K11.out (by omega) (by omega))
     clear Rr10 GN10 M10
     clear Ra10
     rw [<- e11]
     clear e11
     have hlu11:=M11.out.row.lt
     have hcr11:=fun i=>Rr11.out.cell i
     have hlr11:=Rr11.out.lt
     have hca11:=fun i=>RN11.out.cell i
     have hla11:=RN11.out.lt
     have hall:=HAL10.out
     have HN:I j w11:=by
      rw [HI.out]
      exact⟨acc10,s1,A10,c10,(by rw [HAC10.out];exact HR.out),by omega,by omega,RN11.out,Rr11.out,GG11.out,M11.out,RN11.out.lt⟩
     go_roundw
     case rel=>first | exact⟨j,HN⟩ | ((repeat apply Exists.intro);exact⟨⟨j,HN⟩,rfl⟩)
     case measure=>rw [HJ.out];exact Nat.lt_succ_of_le (leastK_le (I:=fun j=>I j w11) HN)
end Go.Proofs.YtgbjdhfaklmjcaaGreat
