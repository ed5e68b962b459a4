/- Texts of the claim LTags in one: Nd. Conditions: none but bounds on sizes. -/
import Derived.Test.YtgbjdhfaklmjcaaGreatZLTags17
import Derived.Test.YtgbjdhfaklmjcaaGreatZLTags4
import Derived.Test.YtgbjdhfaklmjcaaGreatZLTags1
import Derived.OwnWalk
import Derived.Deep.RegionLaw
import Derived.Deep.CutRange
namespace Go.Proofs.YtgbjdhfaklmjcaaGreat
set_option maxRecDepth 20000
set_option linter.unusedVariables false
set_option linter.unusedSimpArgs false
open Go.RowKit
set_option maxHeartbeats 2000000
def DgR (w:World) (lo hi:Nat) (v:Value) (l:List GData):Prop:=∃ cells,w.ownsRow lo 40 3 v l.length cells/\(∀ q,v.ownBlock=some q->q<hi)/\gdL w (fun q=>lo<=q/\q<hi/\v.ownBlock≠some q) l cells
theorem DgR.keep {w w':World} {lo hi hi':Nat} {v:Value} {l:List GData} (h:DgR w lo hi v l) (hh:hi<=hi') (hk:∀ q,lo<=q->q<hi->w'.heap[q]? =w.heap[q]?):DgR w' lo hi' v l:=by
 obtain⟨cells,h1,h2,h3⟩:=h
 exact⟨cells,own_kp h1 fun b hb hl _=>hk b hl (h2 b hb),fun q hq=>Nat.lt_of_lt_of_le (h2 q hq) hh,gdL_keep l _ _ cells (fun b hb=>⟨⟨hb.1,Nat.lt_of_lt_of_le hb.2.1 hh,hb.2.2⟩,hk b hb.1 hb.2.1⟩) h3⟩
def GrR (w:World) (lo hi:Nat) (e:TypeId) (size:Nat) (v:Value) (n:Nat) (xs:List D):Prop:=Grx (fun q=>lo<=q/\q<hi) w lo e size v n xs/\∀ q,v.ownBlock=some q->lo<=q/\q<hi
theorem GrR.keep {w w':World} {lo hi hi':Nat} {e:TypeId} {size:Nat} {v:Value} {n:Nat} {xs:List D} (h:GrR w lo hi e size v n xs) (hs:w.heap.size<=w'.heap.size) (hh:hi<=hi') (hk:∀ q,lo<=q->q<hi->w'.heap[q]? =w.heap[q]?):GrR w' lo hi' e size v n xs:=
 ⟨(h.1.keepP hs fun b _ hb=>by
   rcases hb with hb | hb
   · exact hk b (h.2 b hb).1 (h.2 b hb).2
   · exact hk b hb.1 hb.2).wide (Nat.le_refl _) fun b hb=>⟨hb.1,Nat.lt_of_lt_of_le hb.2 hh⟩,fun q hq=>⟨(h.2 q hq).1,Nat.lt_of_lt_of_le (h.2 q hq).2 hh⟩⟩
theorem GrR.nil (w:World) (lo hi:Nat) (e:TypeId) (size:Nat):GrR w lo hi e size (.slice none 0 0) 0 []:=⟨Grx.nil _ _ _ _ _,fun q hq=>by cases hq⟩
def zDat:Value:=.agg #[.string ⟨#[]⟩,.int .i64 0,.slice none 0 0]
def zCo:Value:=.agg #[.string ⟨#[]⟩,.slice none 0 0]
def zTyd:Value:=.agg #[.int .i64 0,.int .i64 0,.string ⟨#[]⟩,.slice none 0 0]
theorem specDatas (ds:List GData) (A:Option Addr) (c:Nat) (w:World) (hb:bulkL GData.bulk ds<=1048576) (hn:∀ d∈ds,d.cons.length<=200) (hs:Sl w (Lt w.heap.size) 3 A c (ds.map GData.toD)):
 Calls Tryz.prog 44 #[.slice A ds.length c] w fun e w'=>∃ v,e= .returned v/\DgR w' w.heap.size w'.heap.size v ds/\Below w.heap.size w w':=by
 have S0:=LH hs
 have hlen:=bulkL_len GData.bulk ds
 have HN:=LH hn
 clear hs hn
 obtain⟨w1,e1,R1,hz1,K1⟩:=boxed w 40 #[]
 have B1:=LH (show Below w.heap.size w w1 by rw [e1];exact(Below.refl _ _).alloc (Nat.le_refl _) _)
 have D1:=LH (show DgR w1 w.heap.size w1.heap.size (.slice (some ⟨w.heap.size,0,none⟩) 0 0) [] from
   ⟨[],⟨by simp,.inr ⟨w.heap.size,0,#[],rfl,Nat.le_refl _,R1.out,Nat.le_refl _,by unfold maxLen;omega,by simp,by simp⟩⟩,fun q hq=>by cases hq;have:=R1.out.lt;omega,rfl⟩)
 clear R1 K1 hz1
 go_enter Tryz.func44,Tryz.ntmps44
 refine wp_hide (fun BP hBP=>?_)
 have HBP:=LH hBP
 clear hBP
 go_wp2_with fail
 rw [<- e1]
 clear e1
 go_loopw [3,4] (fun x i wr=>∃ (j:Nat) (A':Option Addr) (c':Nat),i= .int .i64 j/\x= .slice A' j c'/\j<=ds.length/\Hid (DgR wr w.heap.size wr.heap.size (.slice A' j c') (ds.take j))/\Hid (Below w.heap.size w wr)) (fun _ i _=>ds.length - (intOf i).toNat)
 case atStart=>exact⟨0,_,_,by go_num,rfl,Nat.zero_le _,D1,B1⟩
 case round=>
  clear D1 B1
  obtain⟨j,A',c',rfl,rfl,hj,HD,HB⟩:=hrel
  have hzr:=HB.out.size
  have hwj:IntKind.i64.wrap ((j:Int)+1)=(j:Int)+1:=(IntWalk.i64_left _).trans (IntWalk.wrap64_in ((j:Int)+1) (by omega))
  by_cases hlt:j<ds.length
  ·
   obtain⟨b,off,A1,c1,eA,hSb,g0,g1,g2,hat⟩:=GData.elem S0.out j hlt
   subst eA
   have hSb':b<w.heap.size:=hSb
   have hblt:b<wr.heap.size:=by omega
   have hjj:(j:Int)<(ds.length:Int):=by omega
   have h0r:=(HB.out.cell (p:=⟨b,off+j*3,none⟩) hSb').trans g0
   have h1r:=(HB.out.cell (p:=⟨b,off+j*3+1,none⟩) hSb').trans g1
   go_wp2_with fail
   refine wp_region_T (fun x=>x.cell? ⟨b,off+j*3,none⟩=some (.string ds[j].name)/\x.cell? ⟨b,off+j*3+1,none⟩=some (.int .i64 ds[j].vars)) 100 (by kernel_rfl) ?_
   obtain⟨w2,e2⟩:∃ x,x=wr.drew:=⟨_,rfl⟩
   rw [<- e2]
   have K2:=LH (show Below wr.heap.size wr w2 by rw [e2];exact(Below.refl _ _).drew)
   have hz2:w2.heap.size<=wr.heap.size/\wr.heap.size<=w2.heap.size:=by rw [e2];exact⟨Nat.le_refl _,Nat.le_refl _⟩
   clear e2
   have hS1:w2.cell? ⟨b,off+j*3,none⟩=some (.string ds[j].name)/\w2.cell? ⟨b,off+j*3+1,none⟩=some (.int .i64 ds[j].vars):=⟨(K2.out.cell (p:=⟨b,off+j*3,none⟩) hblt).trans h0r,(K2.out.cell (p:=⟨b,off+j*3+1,none⟩) hblt).trans h1r⟩
   refine wpAnyT_tk (i:=0) (oi:=_) (v:=?tv1) rfl (Or.inl ⟨by rfl,?th1⟩) hS1 ?_
   case th1=>(intro x hSx;obtain⟨y0,y1⟩:=hSx;go_simp;(try with_reducible rfl))
   try simp only [nA,nB,nC,Act.put,nD,nE,nF]
   refine wpAnyT_tk (i:=1) (oi:=_) (v:=?tv2) rfl (Or.inl ⟨by rfl,?th2⟩) hS1 ?_
   case th2=>(intro x hSx;obtain⟨y0,y1⟩:=hSx;go_simp;(try with_reducible rfl))
   try simp only [nA,nB,nC,Act.put,nD,nE,nF]
   refine wpAnyT_tk (i:=2) (oi:=_) (v:=?tv3) rfl (Or.inl ⟨by rfl,?th3⟩) hS1 ?_
   case th3=>(intro x hSx;obtain⟨y0,y1⟩:=hSx;go_simp;(try with_reducible rfl))
   try simp only [nA,nB,nC,Act.put,nD,nE,nF]
   refine wpAnyT_tk (i:=3) (oi:=_) (v:=?tv4) rfl (Or.inl ⟨by rfl,?th4⟩) hS1 ?_
   case th4=>(intro x hSx;obtain⟨y0,y1⟩:=hSx;go_simp;(try with_reducible rfl))
   try simp only [nA,nB,nC,Act.put,nD,nE,nF]
   refine wpAnyT_tk (i:=4) (oi:=_) (v:=?tv5) rfl (Or.inl ⟨by rfl,?th5⟩) hS1 ?_
   case th5=>(intro x hSx;obtain⟨y0,y1⟩:=hSx;go_simp;(try with_reducible rfl))
   try simp only [nA,nB,nC,Act.put,nD,nE,nF]
   refine wpAnyT_tk (i:=5) (oi:=_) (v:=?tv6) rfl (Or.inl ⟨by rfl,?th6⟩) hS1 ?_
   case th6=>(intro x hSx;obtain⟨y0,y1⟩:=hSx;go_simp;(try with_reducible rfl))
   try simp only [nA,nB,nC,Act.put,nD,nE,nF]
   refine wpAnyT_tk (i:=6) (oi:=_) (v:=?tv7) rfl (Or.inl ⟨by rfl,?th7⟩) hS1 ?_
   case th7=>(intro x hSx;obtain⟨y0,y1⟩:=hSx;go_simp;(try with_reducible rfl))
   try simp only [nA,nB,nC,Act.put,nD,nE,nF]
   refine wpAnyT_tk (i:=7) (oi:=_) (v:=?tv8) rfl (Or.inl ⟨by rfl,?th8⟩) hS1 ?_
   case th8=>(intro x hSx;obtain⟨y0,y1⟩:=hSx;go_simp;(try with_reducible rfl))
   try simp only [nA,nB,nC,Act.put,nD,nE,nF]
   refine wpAnyT_tk (i:=8) (oi:=_) (v:=?tv9) rfl (Or.inl ⟨by rfl,?th9⟩) hS1 ?_
   case th9=>(intro x hSx;obtain⟨y0,y1⟩:=hSx;go_simp;(try with_reducible rfl))
   try simp only [nA,nB,nC,Act.put,nD,nE,nF]
   refine wpAnyT_tk (i:=9) (oi:=_) (v:=?tv10) rfl (Or.inl ⟨by rfl,?th10⟩) hS1 ?_
   case th10=>(intro x hSx;obtain⟨y0,y1⟩:=hSx;go_simp;(try with_reducible rfl))
   try simp only [nA,nB,nC,Act.put,nD,nE,nF]
   refine wpAnyT_tk (i:=10) (oi:=_) (v:=?tv11) rfl (Or.inl ⟨by rfl,?th11⟩) hS1 ?_
   case th11=>(intro x hSx;obtain⟨y0,y1⟩:=hSx;go_simp;(try with_reducible rfl))
   try simp only [nA,nB,nC,Act.put,nD,nE,nF]
   refine wpAnyT_step (i:=11) (by kernel_rfl) rfl (fun K hK=>?_)
   try simp only [nA,nB,nC]
   go_simp
   obtain⟨w3,e3⟩:∃ x,x=w2.alloc (.cells #[.string ⟨#[]⟩,.int .i64 0,.slice none 0 0] 40):=⟨_,rfl⟩
   have K3:=LH (show Below w2.heap.size w2 w3 by rw [e3];exact(Below.refl _ _).alloc (Nat.le_refl _) _)
   have hz3:w2.heap.size+1<=w3.heap.size/\w3.heap.size<=w2.heap.size+1:=by rw [e3];simp
   have RD3:=LH (show Row w3 w2.heap.size 40 #[.string ⟨#[]⟩,.int .i64 0,.slice none 0 0] by rw [e3];exact Row.new' _ _ _ rfl)
   rw [<- e3]
   clear e3
   have hS2:=(⟨(K3.out.cell (p:=⟨b,off+j*3,none⟩) (by show b<_;omega)).trans hS1.1,(K3.out.cell (p:=⟨b,off+j*3+1,none⟩) (by show b<_;omega)).trans hS1.2⟩:w3.cell? ⟨b,off+j*3,none⟩=some (.string ds[j].name)/\w3.cell? ⟨b,off+j*3+1,none⟩=some (.int .i64 ds[j].vars))
   refine hK.out _ _ hS2 (fun hS3=>?_)
   clear hK K hS1 hS2
   try simp only [nA,nB,nC,Act.put,nD,nE,nF]
   have hcd:=fun i=>RD3.out.cell i
   have hfd:=fun i=>RD3.out.frozen i
   have hld:=RD3.out.lt
   refine wpAnyT_step (i:=12) (by kernel_rfl) rfl (fun K hK=>?_)
   try simp only [nA,nB,nC]
   go_simp
   obtain⟨w4,e4,RD4,hz4,K4⟩:=stored3 RD3.out (.string ds[j].name) (.int .i64 ds[j].vars) (.slice none 0 0)
   rw [<- e4]
   replace hz4:w4.heap.size<=w3.heap.size/\w3.heap.size<=w4.heap.size:=by omega
   have hS4:=(⟨(show w4.cell? ⟨b,off+j*3,none⟩=w3.cell? ⟨b,off+j*3,none⟩ from by unfold World.cell?;rw [K4.out.block b (by omega) (by omega)]).trans hS3.1,(show w4.cell? ⟨b,off+j*3+1,none⟩=w3.cell? ⟨b,off+j*3+1,none⟩ from by unfold World.cell?;rw [K4.out.block b (by omega) (by omega)]).trans hS3.2⟩:w4.cell? ⟨b,off+j*3,none⟩=some (.string ds[j].name)/\w4.cell? ⟨b,off+j*3+1,none⟩=some (.int .i64 ds[j].vars))
   refine hK.out _ _ hS4 (fun _=>?_)
   refine wpAnyT_done (by kernel_rfl) ?_ _
   have KR:=LH (fun q (hq:q<wr.heap.size)=>show w4.heap[q]? =wr.heap[q]? from(K4.out.block q (by omega) (by omega)).trans ((K3.out.block q (by omega)).trans (K2.out.block q hq)))
   have BB4:=LH (HB.out.trans (((K2.out.trans (K3.out.mono (by omega))).trans (K4.out.below (B:=wr.heap.size) (by omega) (by omega))).mono hzr))
   have HD4:=LH (HD.out.keep (w':=w4) (hi':=w2.heap.size) (by omega) fun q h1 h2=>KR.out q h2)
   have GC4:=LH (GrR.nil w4 (w2.heap.size+1) w4.heap.size 37 2)
   have hwl:w.heap.size<=w2.heap.size:=by omega
   have hbj:=bulkL_mem GData.bulk ds _ (List.getElem_mem hlt)
   have HCN:=LH (HN.out _ (List.getElem_mem hlt))
   have HBJ:=LH (show bulkL GCon.bulk ds[j].cons<=1048576 by have h1:=GData.bulk_eq ds[j];omega)
   clear hK K e4 hcd hfd hS3 hS4 RD3 K2 K3 K4 KR HD h0r h1r hbj
   go_wp2_with fail
   go_loopw [6] (fun i2 wx=>∃ (k:Nat) (A2:Option Addr) (c2:Nat),i2= .int .i64 k/\k<=ds[j].cons.length/\Hid (Row wx w2.heap.size 40 #[.string ds[j].name,.int .i64 ds[j].vars,.slice A2 k c2])/\Hid (GrR wx (w2.heap.size+1) wx.heap.size 37 2 (.slice A2 k c2) k ((ds[j].cons.take k).map GCon.toD))/\Hid (DgR wx w.heap.size w2.heap.size (.slice A' j c') (ds.take j))/\Hid (Below w.heap.size w wx)/\w2.heap.size+1<=wx.heap.size) (fun i2 _=>ds[j].cons.length - (intOf i2).toNat)
   case atStart=>exact⟨0,none,0,by go_num,Nat.zero_le _,RD4,GC4,HD4,BB4,by omega⟩
   case round=>
    rename World=>wx
    clear RD4 GC4 HD4 BB4 hz2 hz3 hz4 HB hzr
    obtain⟨k,A2,c2,rfl,hk,RD2x,HG1,HD2,HB2,hzx⟩:=hrel
    have hkn:k<=200:=by have:=HCN.out;omega
    have hwk:IntKind.i64.wrap ((k:Int)+1)=(k:Int)+1:=(IntWalk.i64_left _).trans (IntWalk.wrap64_in ((k:Int)+1) (by omega))
    have g2x:=(HB2.out.cell (p:=⟨b,off+j*3+2,none⟩) hSb').trans g2
    by_cases hkl:k<ds[j].cons.length
    ·
     obtain⟨b2,off2,A3s,c3s,eA2,hSb2,q0,q1,hat2⟩:=GCon.elem hat.2.2 k hkl
     subst eA2
     have hSb2':b2<w.heap.size:=hSb2
     have hkk:(k:Int)<(ds[j].cons.length:Int):=by omega
     have q0x:=(HB2.out.cell (p:=⟨b2,off2+k*2,none⟩) hSb2').trans q0
     have hbk:=bulkL_mem GCon.bulk ds[j].cons _ (List.getElem_mem hkl)
     have HBK:=LH (show bulkL GTy.bulk (ds[j].cons[k]).args<=1048576 by have h1:=GCon.bulk_eq ds[j].cons[k];have h2:=HBJ.out;omega)
     have hal:=bulkL_len GTy.bulk (ds[j].cons[k]).args
     have HAL:=LH (show(ds[j].cons[k]).args.length<=1048576 by have:=HBK.out;omega)
     clear hbk hal
     have hdx:=fun i=>RD2x.out.cell i
     go_upto_region 10 with (fail)
     obtain⟨w3,e3,RC4,hz3,K3⟩:=boxed wx 37 #[.string (ds[j].cons[k]).name,.slice none 0 0]
     rw [<- e3]
     have E3:=LH (show Below wx.heap.size wx w3 by rw [e3];exact(Below.refl _ _).alloc (Nat.le_refl _) _)
     clear e3 K3 hdx q0x g2x
     replace hz3:wx.heap.size+1<=w3.heap.size/\w3.heap.size<=wx.heap.size+1:=by omega
     have RD4:=LH (RD2x.out.below E3.out RD2x.out.lt)
     have GC4:=LH (HG1.out.keep (w':=w3) (hi':=wx.heap.size) (by omega) (Nat.le_refl _) fun q h1 h2=>E3.out.block q h2)
     have HD4:=LH (HD2.out.keep (w':=w3) (hi':=w2.heap.size) (Nat.le_refl _) fun q h1 h2=>E3.out.block q (by omega))
     have BB4:=LH (HB2.out.trans (E3.out.mono (by omega)))
     have GA4:=LH (GrR.nil w3 (wx.heap.size+1) w3.heap.size 59 4)
     clear E3 RD2x HG1 HD2
     go_wp2_with fail
     go_loopw [8] (fun i3 wy=>∃ (m:Nat) (A3:Option Addr) (c3:Nat),i3= .int .i64 m/\m<=(ds[j].cons[k]).args.length/\Hid (Row wy wx.heap.size 37 #[.string (ds[j].cons[k]).name,.slice A3 m c3])/\Hid (GrR wy (wx.heap.size+1) wy.heap.size 59 4 (.slice A3 m c3) m (((ds[j].cons[k]).args.take m).map GTy.toD))/\Hid (Row wy w2.heap.size 40 #[.string ds[j].name,.int .i64 ds[j].vars,.slice A2 k c2])/\Hid (GrR wy (w2.heap.size+1) wx.heap.size 37 2 (.slice A2 k c2) k ((ds[j].cons.take k).map GCon.toD))/\Hid (DgR wy w.heap.size w2.heap.size (.slice A' j c') (ds.take j))/\Hid (Below w.heap.size w wy)/\wx.heap.size+1<=wy.heap.size) (fun i3 _=>(ds[j].cons[k]).args.length - (intOf i3).toNat)
     case atStart=>exact⟨0,none,0,by go_num,Nat.zero_le _,RC4,GA4,RD4,GC4,HD4,BB4,by omega⟩
     case round=>
      rename World=>wy
      clear RC4 GA4 RD4 GC4 HD4 BB4 HB2 hz3
      obtain⟨m,A3,c3,rfl,hml,RC3,HG3,RD3x,HG2,HD3,HB3,hzy⟩:=hrel
      have hm20:=HAL.out
      by_cases hm:m<(ds[j].cons[k]).args.length
      ·
       obtain⟨b3,off3,A4,c4,eA3,hSb3,t0,t1,t2,t3,hat3⟩:=GTy.elem hat2.2 m hm
       subst eA3
       have hSb3':b3<w.heap.size:=hSb3
       have hmm:(m:Int)<((ds[j].cons[k]).args.length:Int):=by omega
       have g2y:=(HB3.out.cell (p:=⟨b,off+j*3+2,none⟩) hSb').trans g2
       have q1y:=(HB3.out.cell (p:=⟨b2,off2+k*2+1,none⟩) hSb2').trans q1
       have hwm:IntKind.i64.wrap ((m:Int)+1)=(m:Int)+1:=(IntWalk.i64_left _).trans (IntWalk.wrap64_in ((m:Int)+1) (by omega))
       have HOW:=LH (fun q (hq:(Value.slice A3 m c3).ownBlock=some q)=>HG3.out.2 q hq)
       have T3:=LH hat3
       have hb3:=bulkL_mem GTy.bulk (ds[j].cons[k]).args _ (List.getElem_mem hm)
       have HBT:=LH (show((ds[j].cons[k]).args[m]).bulk<=1048576 by have h1:=HBK.out;omega)
       clear hat3 hb3
       go_wp2_with fail
       refine wp_region_T (fun x=>x.cell? ⟨wx.heap.size,1,none⟩=some (.slice A3 m c3)/\Below w.heap.size w x) 18 (by kernel_rfl) ?_
       obtain⟨w5,e5⟩:∃ x,x=wy.drew:=⟨_,rfl⟩
       rw [<- e5]
       have K5:=LH (show Below wy.heap.size wy w5 by rw [e5];exact(Below.refl _ _).drew)
       have hz5:w5.heap.size<=wy.heap.size/\wy.heap.size<=w5.heap.size:=by rw [e5];exact⟨Nat.le_refl _,Nat.le_refl _⟩
       clear e5
       have RC5:=LH (RC3.out.below K5.out RC3.out.lt)
       have B5:=LH (HB3.out.trans (K5.out.mono (by omega)))
       have hS1:=(⟨RC5.out.cell 1,B5.out⟩:w5.cell? ⟨wx.heap.size,1,none⟩=some (.slice A3 m c3)/\Below w.heap.size w w5)
       refine wpAnyT_tk (i:=0) (oi:=_) (v:=?tv12) rfl (Or.inl ⟨by rfl,?th12⟩) hS1 ?_
       case th12=>(intro x hSx;obtain⟨y0,yB⟩:=hSx;have y1:=(yB.cell (p:=⟨b,off+j*3+2,none⟩) hSb').trans g2;have y2:=(yB.cell (p:=⟨b2,off2+k*2+1,none⟩) hSb2').trans q1;have y3:=(yB.cell (p:=⟨b3,off3+m*4,none⟩) hSb3').trans t0;have y4:=(yB.cell (p:=⟨b3,off3+m*4+1,none⟩) hSb3').trans t1;have y5:=(yB.cell (p:=⟨b3,off3+m*4+2,none⟩) hSb3').trans t2;have y6:=(yB.cell (p:=⟨b3,off3+m*4+3,none⟩) hSb3').trans t3;go_simp;(try with_reducible rfl))
       try simp only [nA,nB,nC,Act.put,nD,nE,nF]
       refine wpAnyT_tk (i:=1) (oi:=_) (v:=?tv13) rfl (Or.inl ⟨by rfl,?th13⟩) hS1 ?_
       case th13=>(intro x hSx;obtain⟨y0,yB⟩:=hSx;have y1:=(yB.cell (p:=⟨b,off+j*3+2,none⟩) hSb').trans g2;have y2:=(yB.cell (p:=⟨b2,off2+k*2+1,none⟩) hSb2').trans q1;have y3:=(yB.cell (p:=⟨b3,off3+m*4,none⟩) hSb3').trans t0;have y4:=(yB.cell (p:=⟨b3,off3+m*4+1,none⟩) hSb3').trans t1;have y5:=(yB.cell (p:=⟨b3,off3+m*4+2,none⟩) hSb3').trans t2;have y6:=(yB.cell (p:=⟨b3,off3+m*4+3,none⟩) hSb3').trans t3;go_simp;(try with_reducible rfl))
       try simp only [nA,nB,nC,Act.put,nD,nE,nF]
       refine wpAnyT_tk (i:=2) (oi:=_) (v:=?tv14) rfl (Or.inl ⟨by rfl,?th14⟩) hS1 ?_
       case th14=>(intro x hSx;obtain⟨y0,yB⟩:=hSx;have y1:=(yB.cell (p:=⟨b,off+j*3+2,none⟩) hSb').trans g2;have y2:=(yB.cell (p:=⟨b2,off2+k*2+1,none⟩) hSb2').trans q1;have y3:=(yB.cell (p:=⟨b3,off3+m*4,none⟩) hSb3').trans t0;have y4:=(yB.cell (p:=⟨b3,off3+m*4+1,none⟩) hSb3').trans t1;have y5:=(yB.cell (p:=⟨b3,off3+m*4+2,none⟩) hSb3').trans t2;have y6:=(yB.cell (p:=⟨b3,off3+m*4+3,none⟩) hSb3').trans t3;go_simp;(try with_reducible rfl))
       try simp only [nA,nB,nC,Act.put,nD,nE,nF]
       refine wpAnyT_tk (i:=3) (oi:=_) (v:=?tv15) rfl (Or.inl ⟨by rfl,?th15⟩) hS1 ?_
       case th15=>(intro x hSx;obtain⟨y0,yB⟩:=hSx;have y1:=(yB.cell (p:=⟨b,off+j*3+2,none⟩) hSb').trans g2;have y2:=(yB.cell (p:=⟨b2,off2+k*2+1,none⟩) hSb2').trans q1;have y3:=(yB.cell (p:=⟨b3,off3+m*4,none⟩) hSb3').trans t0;have y4:=(yB.cell (p:=⟨b3,off3+m*4+1,none⟩) hSb3').trans t1;have y5:=(yB.cell (p:=⟨b3,off3+m*4+2,none⟩) hSb3').trans t2;have y6:=(yB.cell (p:=⟨b3,off3+m*4+3,none⟩) hSb3').trans t3;go_simp;(try with_reducible rfl))
       try simp only [nA,nB,nC,Act.put,nD,nE,nF]
       refine wpAnyT_tk (i:=4) (oi:=_) (v:=?tv16) rfl (Or.inl ⟨by rfl,?th16⟩) hS1 ?_
       case th16=>(intro x hSx;obtain⟨y0,yB⟩:=hSx;have y1:=(yB.cell (p:=⟨b,off+j*3+2,none⟩) hSb').trans g2;have y2:=(yB.cell (p:=⟨b2,off2+k*2+1,none⟩) hSb2').trans q1;have y3:=(yB.cell (p:=⟨b3,off3+m*4,none⟩) hSb3').trans t0;have y4:=(yB.cell (p:=⟨b3,off3+m*4+1,none⟩) hSb3').trans t1;have y5:=(yB.cell (p:=⟨b3,off3+m*4+2,none⟩) hSb3').trans t2;have y6:=(yB.cell (p:=⟨b3,off3+m*4+3,none⟩) hSb3').trans t3;go_simp;(try with_reducible rfl))
       try simp only [nA,nB,nC,Act.put,nD,nE,nF]
       refine wpAnyT_tk (i:=5) (oi:=_) (v:=?tv17) rfl (Or.inl ⟨by rfl,?th17⟩) hS1 ?_
       case th17=>(intro x hSx;obtain⟨y0,yB⟩:=hSx;have y1:=(yB.cell (p:=⟨b,off+j*3+2,none⟩) hSb').trans g2;have y2:=(yB.cell (p:=⟨b2,off2+k*2+1,none⟩) hSb2').trans q1;have y3:=(yB.cell (p:=⟨b3,off3+m*4,none⟩) hSb3').trans t0;have y4:=(yB.cell (p:=⟨b3,off3+m*4+1,none⟩) hSb3').trans t1;have y5:=(yB.cell (p:=⟨b3,off3+m*4+2,none⟩) hSb3').trans t2;have y6:=(yB.cell (p:=⟨b3,off3+m*4+3,none⟩) hSb3').trans t3;go_simp;(try with_reducible rfl))
       try simp only [nA,nB,nC,Act.put,nD,nE,nF]
       refine wpAnyT_tk (i:=6) (oi:=_) (v:=?tv18) rfl (Or.inl ⟨by rfl,?th18⟩) hS1 ?_
       case th18=>(intro x hSx;obtain⟨y0,yB⟩:=hSx;have y1:=(yB.cell (p:=⟨b,off+j*3+2,none⟩) hSb').trans g2;have y2:=(yB.cell (p:=⟨b2,off2+k*2+1,none⟩) hSb2').trans q1;have y3:=(yB.cell (p:=⟨b3,off3+m*4,none⟩) hSb3').trans t0;have y4:=(yB.cell (p:=⟨b3,off3+m*4+1,none⟩) hSb3').trans t1;have y5:=(yB.cell (p:=⟨b3,off3+m*4+2,none⟩) hSb3').trans t2;have y6:=(yB.cell (p:=⟨b3,off3+m*4+3,none⟩) hSb3').trans t3;go_simp;(try with_reducible rfl))
       try simp only [nA,nB,nC,Act.put,nD,nE,nF]
       refine wpAnyT_tk (i:=7) (oi:=_) (v:=?tv19) rfl (Or.inl ⟨by rfl,?th19⟩) hS1 ?_
       case th19=>(intro x hSx;obtain⟨y0,yB⟩:=hSx;have y1:=(yB.cell (p:=⟨b,off+j*3+2,none⟩) hSb').trans g2;have y2:=(yB.cell (p:=⟨b2,off2+k*2+1,none⟩) hSb2').trans q1;have y3:=(yB.cell (p:=⟨b3,off3+m*4,none⟩) hSb3').trans t0;have y4:=(yB.cell (p:=⟨b3,off3+m*4+1,none⟩) hSb3').trans t1;have y5:=(yB.cell (p:=⟨b3,off3+m*4+2,none⟩) hSb3').trans t2;have y6:=(yB.cell (p:=⟨b3,off3+m*4+3,none⟩) hSb3').trans t3;go_simp;(try with_reducible rfl))
       try simp only [nA,nB,nC,Act.put,nD,nE,nF]
       refine wpAnyT_tk (i:=8) (oi:=_) (v:=?tv20) rfl (Or.inl ⟨by rfl,?th20⟩) hS1 ?_
       case th20=>(intro x hSx;obtain⟨y0,yB⟩:=hSx;have y1:=(yB.cell (p:=⟨b,off+j*3+2,none⟩) hSb').trans g2;have y2:=(yB.cell (p:=⟨b2,off2+k*2+1,none⟩) hSb2').trans q1;have y3:=(yB.cell (p:=⟨b3,off3+m*4,none⟩) hSb3').trans t0;have y4:=(yB.cell (p:=⟨b3,off3+m*4+1,none⟩) hSb3').trans t1;have y5:=(yB.cell (p:=⟨b3,off3+m*4+2,none⟩) hSb3').trans t2;have y6:=(yB.cell (p:=⟨b3,off3+m*4+3,none⟩) hSb3').trans t3;go_simp;(try with_reducible rfl))
       try simp only [nA,nB,nC,Act.put,nD,nE,nF]
       refine wpAnyT_tk (i:=9) (oi:=_) (v:=?tv21) rfl (Or.inl ⟨by rfl,?th21⟩) hS1 ?_
       case th21=>(intro x hSx;obtain⟨y0,yB⟩:=hSx;have y1:=(yB.cell (p:=⟨b,off+j*3+2,none⟩) hSb').trans g2;have y2:=(yB.cell (p:=⟨b2,off2+k*2+1,none⟩) hSb2').trans q1;have y3:=(yB.cell (p:=⟨b3,off3+m*4,none⟩) hSb3').trans t0;have y4:=(yB.cell (p:=⟨b3,off3+m*4+1,none⟩) hSb3').trans t1;have y5:=(yB.cell (p:=⟨b3,off3+m*4+2,none⟩) hSb3').trans t2;have y6:=(yB.cell (p:=⟨b3,off3+m*4+3,none⟩) hSb3').trans t3;go_simp;(try with_reducible rfl))
       try simp only [nA,nB,nC,Act.put,nD,nE,nF]
       refine wpAnyT_tk (i:=10) (oi:=_) (v:=?tv22) rfl (Or.inl ⟨by rfl,?th22⟩) hS1 ?_
       case th22=>(intro x hSx;obtain⟨y0,yB⟩:=hSx;have y1:=(yB.cell (p:=⟨b,off+j*3+2,none⟩) hSb').trans g2;have y2:=(yB.cell (p:=⟨b2,off2+k*2+1,none⟩) hSb2').trans q1;have y3:=(yB.cell (p:=⟨b3,off3+m*4,none⟩) hSb3').trans t0;have y4:=(yB.cell (p:=⟨b3,off3+m*4+1,none⟩) hSb3').trans t1;have y5:=(yB.cell (p:=⟨b3,off3+m*4+2,none⟩) hSb3').trans t2;have y6:=(yB.cell (p:=⟨b3,off3+m*4+3,none⟩) hSb3').trans t3;go_simp;(try with_reducible rfl))
       try simp only [nA,nB,nC,Act.put,nD,nE,nF]
       refine wpAnyT_tk (i:=11) (oi:=_) (v:=?tv23) rfl (Or.inl ⟨by rfl,?th23⟩) hS1 ?_
       case th23=>(intro x hSx;obtain⟨y0,yB⟩:=hSx;have y1:=(yB.cell (p:=⟨b,off+j*3+2,none⟩) hSb').trans g2;have y2:=(yB.cell (p:=⟨b2,off2+k*2+1,none⟩) hSb2').trans q1;have y3:=(yB.cell (p:=⟨b3,off3+m*4,none⟩) hSb3').trans t0;have y4:=(yB.cell (p:=⟨b3,off3+m*4+1,none⟩) hSb3').trans t1;have y5:=(yB.cell (p:=⟨b3,off3+m*4+2,none⟩) hSb3').trans t2;have y6:=(yB.cell (p:=⟨b3,off3+m*4+3,none⟩) hSb3').trans t3;go_simp;(try with_reducible rfl))
       try simp only [nA,nB,nC,Act.put,nD,nE,nF]
       refine wpAnyT_tk (i:=12) (oi:=_) (v:=?tv24) rfl (Or.inl ⟨by rfl,?th24⟩) hS1 ?_
       case th24=>(intro x hSx;obtain⟨y0,yB⟩:=hSx;have y1:=(yB.cell (p:=⟨b,off+j*3+2,none⟩) hSb').trans g2;have y2:=(yB.cell (p:=⟨b2,off2+k*2+1,none⟩) hSb2').trans q1;have y3:=(yB.cell (p:=⟨b3,off3+m*4,none⟩) hSb3').trans t0;have y4:=(yB.cell (p:=⟨b3,off3+m*4+1,none⟩) hSb3').trans t1;have y5:=(yB.cell (p:=⟨b3,off3+m*4+2,none⟩) hSb3').trans t2;have y6:=(yB.cell (p:=⟨b3,off3+m*4+3,none⟩) hSb3').trans t3;go_simp;(try with_reducible rfl))
       try simp only [nA,nB,nC,Act.put,nD,nE,nF]
       refine wpAnyT_tk (i:=13) (oi:=_) (v:=?tv25) rfl (Or.inl ⟨by rfl,?th25⟩) hS1 ?_
       case th25=>(intro x hSx;obtain⟨y0,yB⟩:=hSx;have y1:=(yB.cell (p:=⟨b,off+j*3+2,none⟩) hSb').trans g2;have y2:=(yB.cell (p:=⟨b2,off2+k*2+1,none⟩) hSb2').trans q1;have y3:=(yB.cell (p:=⟨b3,off3+m*4,none⟩) hSb3').trans t0;have y4:=(yB.cell (p:=⟨b3,off3+m*4+1,none⟩) hSb3').trans t1;have y5:=(yB.cell (p:=⟨b3,off3+m*4+2,none⟩) hSb3').trans t2;have y6:=(yB.cell (p:=⟨b3,off3+m*4+3,none⟩) hSb3').trans t3;go_simp;(try with_reducible rfl))
       try simp only [nA,nB,nC,Act.put,nD,nE,nF]
       refine wpAnyT_step (i:=14) (by kernel_rfl) rfl (fun K hK=>?_)
       try simp only [nA,nB,nC]
       go_simp
       refine(specTyCopy' ((ds[j].cons[k]).args[m]) A4 c4 w5 HBT.out (T3.out.below B5.out B5.out.size)).mono ?_
       rintro e w6 ⟨A5,c5,rfl,how,hb6⟩
       have hz6:=hb6.size
       have K6:=LH hb6
       have RC6:=LH (RC5.out.below hb6 RC5.out.lt)
       have B6:=LH (B5.out.trans (hb6.mono B5.out.size))
       have O6:=LH how.at
       have hS2:=(⟨RC6.out.cell 1,B6.out⟩:w6.cell? ⟨wx.heap.size,1,none⟩=some (.slice A3 m c3)/\Below w.heap.size w w6)
       clear how hb6 RC5
       try simp only [nA,nB,nC]
       go_simp
       refine hK.out _ _ hS2 (fun hS3=>?_)
       clear hK K hS1 hS2
       try simp only [nA,nB,nC,Act.put,nD,nE,nF]
       refine wpAnyT_step (i:=15) (by kernel_rfl) rfl (fun K hK=>?_)
       try simp only [nA,nB,nC]
       go_simp
       obtain⟨w7,e7,R7,hz7,K7⟩:=boxed w6 59 #[.int .i64 ((ds[j].cons[k]).args[m]).op,.int .i64 ((ds[j].cons[k]).args[m]).n,.string ((ds[j].cons[k]).args[m]).s,.slice A5 ((ds[j].cons[k]).args[m]).kids.length c5]
       rw [<- e7]
       have E7:=LH (show Below w6.heap.size w6 w7 by rw [e7];exact(Below.refl _ _).alloc (Nat.le_refl _) _)
       clear e7 K7
       replace hz7:w6.heap.size+1<=w7.heap.size/\w7.heap.size<=w6.heap.size+1:=by omega
       have RC7:=LH (RC6.out.below E7.out RC6.out.lt)
       have B7:=LH (B6.out.trans (E7.out.mono B6.out.size))
       have K57:=LH (fun q (hq:q<wy.heap.size)=>(E7.out.block q (by omega)).trans ((K6.out.block q (by omega)).trans (K5.out.block q hq)))
       have G7:=LH ((HG3.out.keep (w':=w7) (hi':=w7.heap.size) (by omega) (by omega) fun q h1 h2=>K57.out q h2))
       have SL:=LH (show Sl w7 (fun q=>q<w7.heap.size/\(Value.slice A3 m c3).ownBlock≠some q/\(wx.heap.size+1<=q/\q<w7.heap.size)) 4 (some ⟨w6.heap.size,0,none⟩) 1 ([(ds[j].cons[k]).args[m]].map GTy.toD) from
         Sl.ofRow R7.out (rdC_one1 (GTy.rd_mk (O6.out.keep fun q hq=>⟨⟨by have:=hq.2;omega,fun e=>by have:=(HOW.out q e).2;have:=hq.1;omega,by have:=hq.1;omega,by have:=hq.2;omega⟩,E7.out.block q hq.2⟩)) rfl) ⟨by omega,fun e=>by have:=(HOW.out _ e).2;omega,by omega,by omega⟩ (by simp) (by unfold maxLen;omega))
       have hS4:=(⟨RC7.out.cell 1,B7.out⟩:w7.cell? ⟨wx.heap.size,1,none⟩=some (.slice A3 m c3)/\Below w.heap.size w w7)
       clear RC6 O6 R7
       refine hK.out _ _ hS4 (fun hS5=>?_)
       clear hK K hS3 hS4
       try simp only [nA,nB,nC,Act.put,nD,nE,nF]
       refine wpAnyT_step (i:=16) (by kernel_rfl) rfl (fun K hK=>?_)
       refine step_append_X w7 rfl (.tmp 62) (.tmp 76) 35 rfl 59 zTyd 4 56 Tryz.underlying35 (by kernel_rfl) rfl (by omega) (wx.heap.size+1) (.slice A3 m c3) m _ G7.out.1 (some ⟨w6.heap.size,0,none⟩) 1 1 _ rfl SL.out (by omega) (by unfold maxLen;omega) (by omega) rfl rfl ?_
       intro A8 c8 w8 hG8 hGr8
       have hz8:=hGr8.size
       have RC8:=LH (hGr8.row RC7.out (fun e=>by have:=(HOW.out _ e).1;omega))
       have B8:=LH (B7.out.trans (hGr8.below (B:=w.heap.size) (by have:=B7.out.size;omega) (fun q hq=>by have:=(HOW.out q hq).1;omega)))
       have GG8:=LH hG8
       have GRR8:=LH hGr8
       have hS6:=(⟨RC8.out.cell 1,B8.out⟩:w8.cell? ⟨wx.heap.size,1,none⟩=some (.slice A3 m c3)/\Below w.heap.size w w8)
       clear hG8 hGr8 G7 SL RC7
       refine hK.out _ _ hS6 (fun hS7=>?_)
       clear hK K hS5 hS6
       try simp only [nA,nB,nC,Act.put,nD,nE,nF]
       refine wpAnyT_tk (i:=17) (oi:=_) (v:=?tv26) rfl (Or.inl ⟨by rfl,?th26⟩) hS7 ?_
       case th26=>(intro x hSx;obtain⟨y0,yB⟩:=hSx;have y1:=(yB.cell (p:=⟨b,off+j*3+2,none⟩) hSb').trans g2;have y2:=(yB.cell (p:=⟨b2,off2+k*2+1,none⟩) hSb2').trans q1;have y3:=(yB.cell (p:=⟨b3,off3+m*4,none⟩) hSb3').trans t0;have y4:=(yB.cell (p:=⟨b3,off3+m*4+1,none⟩) hSb3').trans t1;have y5:=(yB.cell (p:=⟨b3,off3+m*4+2,none⟩) hSb3').trans t2;have y6:=(yB.cell (p:=⟨b3,off3+m*4+3,none⟩) hSb3').trans t3;go_simp;(try with_reducible rfl))
       try simp only [nA,nB,nC,Act.put,nD,nE,nF]
       have hcc:=fun i=>RC8.out.cell i
       have hfc:=fun i=>RC8.out.frozen i
       have hlc:=RC8.out.lt
       refine wpAnyT_last (by kernel_rfl) (by kernel_rfl) rfl (fun K hK=>?_)
       try simp only [nA,nB,nC]
       go_simp
       refine hK.out _ _ ?_
       clear hK K
       try simp only [nA,nB,nC,Act.put,nD,nE,nF]
       clear hS7
       obtain⟨w9,e9,RC9,hz9,K9⟩:=storedF RC8.out 1 (.slice A8 (m+1) c8)
       rw [<- e9]
       clear e9 hcc hfc
       replace hz9:w9.heap.size<=w8.heap.size/\w8.heap.size<=w9.heap.size:=by omega
       have RN9:=LH (show Row w9 wx.heap.size 37 #[.string (ds[j].cons[k]).name,.slice A8 (m+1) c8] from RC9.out)
       have KK:=LH (fun q (hq:q<wx.heap.size)=>show w9.heap[q]? =wy.heap[q]? from(K9.out.block q (by omega) (by omega)).trans ((GRR8.out.grow.block q (by omega) (fun e=>by have:=(HOW.out q e.symm).1;omega)).trans (K57.out q (by omega))))
       have B9:=LH (B8.out.trans (K9.out.below (B:=w.heap.size) B8.out.size (by omega)))
       have hown:∀ q,(Value.slice A8 (m+1) c8).ownBlock=some q->wx.heap.size+1<=q/\q<w9.heap.size:=fun q hq=>by have:=GG8.out.own q hq;omega
       have G9:=LH (show GrR w9 (wx.heap.size+1) w9.heap.size 59 4 (.slice A8 (m+1) c8) (m+1) (((ds[j].cons[k]).args.take (m+1)).map GTy.toD) from by
         have hcore:Grx (fun q=>wx.heap.size+1<=q/\q<w7.heap.size) w9 (wx.heap.size+1) 59 4 (.slice A8 (m+1) c8) (m+1) (((ds[j].cons[k]).args.take (m+1)).map GTy.toD):=by
           rw [take_snoc' _ m hm,List.map_append]
           exact GG8.out.keepP (by omega) fun q hq h=>K9.out.block q hq (by
             rcases h with h | h
             · have:=(hown q h).1;omega
             · omega)
         exact⟨hcore.wide (Nat.le_refl _) fun q hq=>⟨hq.1,by have:=hq.2;omega⟩,hown⟩)
       have RD9:=LH (show Row w9 w2.heap.size 40 #[.string ds[j].name,.int .i64 ds[j].vars,.slice A2 k c2] from(KK.out _ (by omega)).trans RD3x.out)
       have GC9:=LH (HG2.out.keep (w':=w9) (hi':=wx.heap.size) (by omega) (Nat.le_refl _) fun q h1 h2=>KK.out q h2)
       have DD9:=LH (HD3.out.keep (w':=w9) (hi':=w2.heap.size) (Nat.le_refl _) fun q h1 h2=>KK.out q (by omega))
       clear KK K9 GG8 GRR8 K57
       go_wp2_with fail
       go_roundw
       case rel=>exact⟨m+1,A8,c8,by go_num,by omega,RN9,G9,RD9,GC9,DD9,B9,by omega⟩
       case measure=>simp [intOf];omega
      ·
       have hme:m=(ds[j].cons[k]).args.length:=by omega
       subst hme
       have hmm:¬ (((ds[j].cons[k]).args.length:Int)<((ds[j].cons[k]).args.length:Int)):=by omega
       have g2y:=(HB3.out.cell (p:=⟨b,off+j*3+2,none⟩) hSb').trans g2
       have q1y:=(HB3.out.cell (p:=⟨b2,off2+k*2+1,none⟩) hSb2').trans q1
       have HOW:=LH (fun q (hq:(Value.slice A2 k c2).ownBlock=some q)=>HG2.out.2 q hq)
       obtain⟨w5,e5,R5,hz5,K5⟩:=boxed wy 37 #[.string (ds[j].cons[k]).name,.slice A3 (ds[j].cons[k]).args.length c3]
       replace hz5:wy.heap.size+1<=w5.heap.size/\w5.heap.size<=wy.heap.size+1:=by omega
       have E5:=LH (show Below wy.heap.size wy w5 by rw [e5];exact(Below.refl _ _).alloc (Nat.le_refl _) _)
       have RD5:=LH (RD3x.out.below E5.out RD3x.out.lt)
       have G5:=LH (HG2.out.keep (w':=w5) (hi':=w5.heap.size) (by omega) (by omega) fun q h1 h2=>E5.out.block q (by omega))
       have SA:=LH (show Sl wy (fun q=>q<wy.heap.size/\(wx.heap.size+1<=q/\q<wy.heap.size)) 4 A3 c3 ((ds[j].cons[k]).args.map GTy.toD) from by
         have h:=HG3.out
         rw [List.take_length] at h
         obtain⟨⟨hl,cs,h3,h4⟩,h5⟩:=h
         obtain⟨A9,c9,e9,h9⟩:=own_sl h3 (xs:=(ds[j].cons[k]).args.map GTy.toD) (by simp) (S:=fun q=>q<wy.heap.size/\(wx.heap.size+1<=q/\q<wy.heap.size)) (fun q hq=>⟨(h5 q hq).2,h5 q hq⟩) (rdC_keep (fun q hq=>⟨⟨hq.1,hq.2.2⟩,rfl⟩) _ _ h4)
         obtain⟨rfl,rfl⟩:A3=A9/\c3=c9:=by simpa using e9
         exact h9)
       have SL:=LH (show Sl w5 (fun q=>q<w5.heap.size/\(Value.slice A2 k c2).ownBlock≠some q/\(w2.heap.size+1<=q/\q<w5.heap.size)) 2 (some ⟨wy.heap.size,0,none⟩) 1 ([ds[j].cons[k]].map GCon.toD) from
         Sl.ofRow R5.out (rdC_one1 (GCon.rd_mk ⟨hat2.1,SA.out.keep fun q hq=>⟨⟨by have:=hq.1;omega,fun e=>by have:=(HOW.out q e).2;have:=hq.2.1;omega,by have:=hq.2.1;omega,by have:=hq.1;omega⟩,E5.out.block q hq.1⟩⟩) rfl) ⟨by omega,fun e=>by have:=(HOW.out _ e).2;omega,by omega,by omega⟩ (by simp) (by unfold maxLen;omega))
       have hcc:=fun i=>RC3.out.cell i
       have hcd:=fun i=>RD3x.out.cell i
       have hld:=RD3x.out.lt
       have hlc:=RC3.out.lt
       clear K5
       go_wp2_with (first | (at_builtin;rw [<- e5];refine wpList_append_X w5 rfl (.tmp 80) (.tmp 82) 38 rfl 37 zCo 2 40 Tryz.underlying38 (by kernel_rfl) rfl (by omega) (w2.heap.size+1) (.slice A2 k c2) k _ G5.out.1 (some ⟨wy.heap.size,0,none⟩) 1 1 _ rfl SL.out (by omega) (by unfold maxLen;omega) (by omega) rfl rfl ?_;intro A8 c8 w6 hG hGr;have GG:=LH hG;have GR:=LH hGr;have RD6:=LH (hGr.row RD5.out (fun e=>by have:=(HOW.out _ e).1;omega));have hcd6:=fun i=>RD6.out.cell i;have hfd6:=fun i=>RD6.out.frozen i;have hld6:=RD6.out.lt;clear hG hGr))
       obtain⟨w7,e7,RD7,hz7,K7⟩:=storedF RD6.out 2 (.slice A8 (k+1) c8)
       rw [<- e7]
       clear e7 hcd6 hfd6
       have hz6:=GR.out.size
       have RN7:=LH (show Row w7 w2.heap.size 40 #[.string ds[j].name,.int .i64 ds[j].vars,.slice A8 (k+1) c8] from RD7.out)
       have hown:∀ q,(Value.slice A8 (k+1) c8).ownBlock=some q->w2.heap.size+1<=q/\q<w7.heap.size:=fun q hq=>by have:=GG.out.own q hq;omega
       have G7:=LH (show GrR w7 (w2.heap.size+1) w7.heap.size 37 2 (.slice A8 (k+1) c8) (k+1) ((ds[j].cons.take (k+1)).map GCon.toD) from by
         have hcore:Grx (fun q=>w2.heap.size+1<=q/\q<w5.heap.size) w7 (w2.heap.size+1) 37 2 (.slice A8 (k+1) c8) (k+1) ((ds[j].cons.take (k+1)).map GCon.toD):=by
           rw [take_snoc' _ k hkl,List.map_append]
           exact GG.out.keepP (by omega) fun q hq h=>K7.out.block q hq (by
             rcases h with h | h
             · have:=(hown q h).1;omega
             · omega)
         exact⟨hcore.wide (Nat.le_refl _) fun q hq=>⟨hq.1,by have:=hq.2;omega⟩,hown⟩)
       have KK:=LH (fun q (hq:q<w2.heap.size)=>show w7.heap[q]? =wy.heap[q]? from(K7.out.block q (by omega) (by omega)).trans ((GR.out.grow.block q (by omega) (fun e=>by have:=(HOW.out q e.symm).1;omega)).trans (E5.out.block q (by omega))))
       have DD7:=LH (HD3.out.keep (w':=w7) (hi':=w2.heap.size) (Nat.le_refl _) fun q h1 h2=>KK.out q h2)
       have B7:=LH ((HB3.out.trans (E5.out.mono HB3.out.size)).trans ((GR.out.below (B:=w.heap.size) (by have:=HB3.out.size;omega) (fun q hq=>by have:=(HOW.out q hq).1;omega)).trans (K7.out.below (B:=w.heap.size) (by have:=HB3.out.size;omega) (by omega))))
       go_roundw
       case rel=>exact⟨k+1,A8,c8,by go_num,by omega,RN7,G7,DD7,B7,by omega⟩
       case measure=>simp [intOf];omega
    ·
     have hke:k=ds[j].cons.length:=by omega
     subst hke
     have hkk:¬ ((ds[j].cons.length:Int)<(ds[j].cons.length:Int)):=by omega
     have hlj:(ds.take j).length=j:=by rw [List.length_take];omega
     obtain⟨cells,ho,hh,hg⟩:=HD2.out
     rw [hlj] at ho
     have HO:=LH ho
     have HH:=LH hh
     have HGL:=LH hg
     have HOW:=LH (fun q (hq:(Value.slice A' j c').ownBlock=some q)=>show w.heap.size<=q/\q<w2.heap.size from⟨(ho.lt q hq).1,hh q hq⟩)
     have HGD:=LH (show gdO wx (fun q=>w2.heap.size+1<=q/\q<wx.heap.size) ds[j] (.slice A2 ds[j].cons.length c2) from by
       obtain⟨h1,h2⟩:=HG1.out
       rw [List.take_length] at h1
       obtain⟨-,cs,h3,h4⟩:=h1
       exact⟨hat.1,hat.2.1,by have:=HCN.out;omega,cs,own_mono h3 (Nat.zero_le _),h2,rdC_keep (fun q hq=>⟨⟨hq.2.2,hq.2.1⟩,rfl⟩) _ _ h4⟩)
     clear ho hh hg hlj
     obtain⟨w5,e5,R5,hz5,K5⟩:=boxed wx 40 #[.string ds[j].name,.int .i64 ds[j].vars,.slice A2 ds[j].cons.length c2]
     replace hz5:wx.heap.size+1<=w5.heap.size/\w5.heap.size<=wx.heap.size+1:=by omega
     have E5:=LH (show Below wx.heap.size wx w5 by rw [e5];exact(Below.refl _ _).alloc (Nat.le_refl _) _)
     have HO5:=LH (own_kp HO.out fun q _ _ hq=>E5.out.block q hq)
     have hcd:=fun i=>RD2x.out.cell i
     have hld:=RD2x.out.lt
     clear K5
     go_wp2_with (first | (at_builtin;rw [<- e5];refine wpList_append_C w5 rfl (.tmp 85) (.tmp 87) 24 rfl 40 zDat 3 48 Tryz.underlying24 (by kernel_rfl) rfl (by omega) w.heap.size (.slice A' j c') j cells HO5.out wx.heap.size 1 1 40 [.string ds[j].name,.int .i64 ds[j].vars,.slice A2 ds[j].cons.length c2] rfl (by simp [Value.oneCell']) R5.out (by omega) (by unfold maxLen;omega) (by omega) rfl rfl ?_;intro A8 c8 w6 hG hGr;have GG:=LH hG;have GR:=LH hGr;clear hG hGr))
     have hz6:=GR.out.size
     have hk6:∀ q,q<wx.heap.size->(Value.slice A' j c').ownBlock≠some q->w6.heap[q]? =wx.heap[q]?:=fun q hq hne=>(GR.out.grow.block q (by omega) fun e=>hne e.symm).trans (E5.out.block q hq)
     have hn6:∀ q,q<wx.heap.size->(Value.slice A' j c').ownBlock≠some q->(Value.slice A8 (j+1) c8).ownBlock≠some q:=fun q hq hne=>GR.out.ne hne (by omega)
     have hns:∀ q,w2.heap.size+1<=q->(Value.slice A' j c').ownBlock≠some q:=fun q hq e=>by have:=(HOW.out q e).2;omega
     have D6:=LH (show DgR w6 w.heap.size w6.heap.size (.slice A8 (j+1) c8) (ds.take (j+1)) from
       ⟨cells++[.string ds[j].name,.int .i64 ds[j].vars,.slice A2 ds[j].cons.length c2],by rw [show(ds.take (j+1)).length=j+1 by rw [List.length_take];omega];exact GG.out,fun q hq=>(GG.out.lt q hq).2,by
         rw [take_snoc' ds j hlt]
         exact gdL_snoc _ (fun q=>w.heap.size<=q/\q<w2.heap.size/\(Value.slice A' j c').ownBlock≠some q) _ (fun q=>w2.heap.size+1<=q/\q<wx.heap.size) cells (HGD.out.keep fun q hq=>⟨hq,hk6 q hq.2 (hns q hq.1)⟩)
           (fun q hq=>⟨⟨hq.1,by have:=hq.2.1;omega,hn6 q (by have:=hq.2.1;omega) hq.2.2⟩,fun h=>by have:=h.1;have:=hq.2.1;omega⟩) (fun q hq=>⟨by have:=hq.1;omega,by have:=hq.2;omega,hn6 q hq.2 (hns q hq.1)⟩)
           (gdL_keep _ _ _ cells (fun q hq=>⟨hq,hk6 q (by have:=hq.2.1;omega) hq.2.2⟩) HGL.out)⟩)
     have B6:=LH (HB2.out.trans ((E5.out.mono HB2.out.size).trans (GR.out.below (B:=w.heap.size) (by have:=HB2.out.size;omega) (fun q hq=>(HOW.out q hq).1))))
     go_roundw
     case rel=>exact⟨j+1,A8,c8,by go_num,rfl,by omega,D6,B6⟩
     case measure=>simp [intOf];omega
  ·
   have hjl:j=ds.length:=by omega
   have hjj:¬ (j:Int)<(ds.length:Int):=by omega
   have HD2:=LH (show DgR wr w.heap.size wr.heap.size (.slice A' j c') ds by have h:=HD.out;rw [hjl,List.take_length] at h;rw [hjl];exact h)
   clear hjl HD hlt
   go_wp2_with fail
   show BP _ _
   rw [HBP.out]
   refine bodyPost_ret (v:=.slice A' j c') (by simp [results,Tryz.results44,go_sem]) rfl ?_
   exact⟨_,rfl,HD2.out,HB.out⟩
end Go.Proofs.YtgbjdhfaklmjcaaGreat
