/- Texts of the claim LTags in one: Nh. Conditions: none but bounds on sizes. -/
import Derived.Test.YtgbjdhfaklmjcaaGreatZLTags20
import Derived.Test.YtgbjdhfaklmjcaaGreatZLTags21
import Derived.Deep.CutRange
import Derived.Test.YtgbjdhfaklmjcaaGreatZLTags1
namespace Go.Proofs.YtgbjdhfaklmjcaaGreat
set_option maxRecDepth 20000
set_option linter.unusedVariables false
set_option linter.unusedSimpArgs false
open Go.RowKit
set_option maxHeartbeats 4000000
theorem consN_blk:∀ (l:List GData),consN l<=bulkL GData.bulk l
 | []=>by simp [consN]
 | d::r=>by
  have:=consN_blk r
  have h1:=GData.bulk_eq d
  have h2:=bulkL_len GCon.bulk d.cons
  simp only [consN,bulkL];omega
theorem consN_set:∀ (l:List GData) (i:Nat) (d:GData),consN (l.set i d)<=consN l+d.cons.length
 | [],i,d=>by simp [consN]
 | a::r,0,d=>by simp only [List.set_cons_zero,consN];omega
 | a::r,i+1,d=>by have:=consN_set r i d;simp only [List.set_cons_succ,consN];omega
def DrawnPg (l:List Int) (A:Option Addr) (c:Nat) (g:Nat) (w:World) (e:Ending) (w':World):Prop:=
 ∃ ds AD cD op n s t AM lm cM,e= .returned (.agg #[.slice AD (List.length ds) cD,.int .i64 op,.int .i64 n,.string s,.string t,.slice AM lm cM])/\(ds.length<=200/\consN ds<=30000)/\Grx (fun q=>w.heap.size+1<=q) w' (w.heap.size+1) 40 3 (.slice AD ds.length cD) ds.length (ds.map GData.toD)/\Dm l A c g w w'
def GCon.length0 (d:GData):Nat:=d.cons.length
theorem drawPickIntD {l:List Int} {A:Option Addr} {c:Nat} {g:Nat} {a w:World} (m:Dm l A c g a w) (vs:List Int) (b:Nat) (hb:b≠g) (t:TypeId) (hr:Row w b t (vs.map (Value.int .i64)).toArray) (h1:1<=vs.length) (h2:vs.length<=256) (P:Int->Prop) (hP:∀ x∈vs,P x):
 Calls Tryz.prog 20 #[.pointer (some ⟨g,0,none⟩),.slice (some ⟨b,0,none⟩) vs.length vs.length] w fun e w'=>∃ x:Int,e= .returned (.int .i64 x)/\P x/\Dm l A c g w w':=by
 obtain⟨i,h,hc⟩:=m.cur
 refine(drawPickInt hc vs b hb t hr h1 h2 P hP).mono ?_
 rintro e w1 ⟨x,i1,k1,rfl,hx,hc1,ht⟩
 exact⟨x,rfl,hx,⟨⟨i1,k1,hc1⟩,ht.bx⟩⟩
theorem drawProg {l:List Int} {A:Option Addr} {c:Nat} {g:Nat} {w0 w:World} (hm0:Dm l A c g w0 w):
 Calls Tryz.prog 18 #[.pointer (some ⟨g,0,none⟩)] w (DrawnPg l A c g w):=by
 have hm:=hm0.again
 clear hm0
 have hgl:=hm.lt
 have M0:=LH hm
 clear hm
 go_enter Tryz.func18,Tryz.ntmps18
 refine wp_hide (fun BP hBP=>?_)
 have HBP:=LH hBP
 clear hBP
 go_wp2_with fail
 obtain⟨w1,e1,Rr1,hz1,K1⟩:=boxed w 47 #[.slice none 0 0,.int .i64 0,.int .i64 0,.string ⟨#[]⟩,.string ⟨#[]⟩,.slice none 0 0]
 rw [<- e1]
 clear e1
 replace hz1:w.heap.size+1<=w1.heap.size/\w1.heap.size<=w.heap.size+1:=by omega
 have M1:=LH (M0.out.chg K1.out (Nat.le_refl _) hgl)
 clear M0 K1
 refine(drawRight M1.out).mono ?_
 rintro e w2 ⟨pp,A1,c1,A2,c2,rfl,hp,hat,hm2⟩
 have hz2:=hm2.size
 have Rr2:=LH (hm2.bx.row Rr1.out (by omega))
 have M2:=LH (M1.out.trans hm2)
 have HPP:=LH hp
 have HAT:=LH (hat.1.keep (w':=w2) (S':=Lt w2.heap.size) fun b hb=>⟨by have h1:=hb.2;show b<_;omega,rfl⟩)
 have HAN:=LH (hat.2.keep (w':=w2) (S':=Lt w2.heap.size) fun b hb=>⟨by have h1:=hb.2;show b<_;omega,rfl⟩)
 clear hm2 hp hat Rr1 M1
 go_wp2_with fail
 refine(specProg pp A1 c1 A2 c2 w2 (litB_bulk HPP.out.1) HPP.out.2 ⟨HAT.out,HAN.out⟩).mono ?_
 rintro e w3 ⟨AD,cD,AM,cM,lo,mid,rfl,hlo,hlm,hmz,hD,hN,hb3⟩
 have hz3:=hb3.size
 have Rr3:=LH (Rr2.out.below hb3 Rr2.out.lt)
 have M3:=LH (M2.out.below hb3)
 have HD3:=LH hD
 have HN3:=LH hN
 clear hb3 hD hN Rr2 M2 HAT HAN
 go_upto_region 2 with (fail)
 obtain⟨w4,e4,Rp4,hz4,K4⟩:=boxed w3 47 #[.slice AD pp.datas.length cD,.int .i64 pp.main.op,.int .i64 pp.main.n,.string pp.main.s,.string pp.main.t,.slice AM pp.main.kids.length cM]
 rw [<- e4]
 clear e4
 replace hz4:w3.heap.size+1<=w4.heap.size/\w4.heap.size<=w3.heap.size+1:=by omega
 have Rr4:=LH (K4.out.row Rr3.out (by omega))
 have M4:=LH (M3.out.chg K4.out (by omega) hgl)
 have HD4:=LH (HD3.out.keep (w':=w4) (Nat.le_refl _) fun q h1 h2=>K4.out.block q (by omega) (by omega))
 have NA4:=LH (show NAt w4 (fun b=>mid<=b/\b<w3.heap.size) w3.heap.size 1 pp.main (.slice AM pp.main.kids.length cM) from
   ⟨Rp4.out.cell 1,Rp4.out.cell 2,Rp4.out.cell 3,Rp4.out.cell 4,Rp4.out.cell 5,fun o=>Rp4.out.frozen o,Rp4.out.lt,(fun e=>by obtain⟨-,-,k2,-⟩:=gwN_eq.1 HN3.out;have:=(k2 _ e).2;omega),gwN_keep (fun q hq=>⟨hq,K4.out.block q hq.2 (by have:=hq.2;omega)⟩) _ _ HN3.out⟩)
 clear K4 Rr3 M3 HD3 HN3
 go_wp2_with fail
 refine(pickNode (S:=fun b=>mid<=b/\b<w3.heap.size) (fun b hb=>⟨by have:=hb.2;omega,by have:=hb.1;omega⟩) (by omega) NA4.out M4.out).mono ?_
 rintro e w5 ⟨nb,off,n,v,rfl,hN5,hnb,hm5⟩
 have hz5:=hm5.size
 have Rr5:=LH (hm5.bx.row Rr4.out (by omega))
 have Rp5:=LH (hm5.bx.row Rp4.out (by omega))
 have M5:=LH (M4.out.trans hm5)
 have HD5:=LH (HD4.out.keep (w':=w5) (Nat.le_refl _) fun q h1 h2=>hm5.bx.block q (by omega) (by omega))
 have NA5:=LH hN5
 have hnn:(nb=w3.heap.size/\off=1)\/nb≠w3.heap.size:=hnb.imp id fun h=>by have:=h.2;omega
 have hnm:mid<=nb/\nb<=w3.heap.size:=by
  rcases hnb with ⟨h,-⟩ | h
  · omega
  · exact⟨h.1,by have:=h.2;omega⟩
 obtain⟨A3,c3,rfl⟩:=gwN_form hN5.kids
 clear hm5 hN5 hnb Rr4 Rp4 M4 HD4 NA4
 go_wp2_with fail
 refine(drawBelowD M5.out 16 (by omega) (by omega)).mono ?_
 rintro e w6 ⟨x,rfl,hx,hm6⟩
 have hz6:=hm6.size
 have Rr6:=LH (hm6.bx.row Rr5.out (by omega))
 have Rp6:=LH (hm6.bx.row Rp5.out (by omega))
 have M6:=LH (M5.out.trans hm6)
 have HD6:=LH (HD5.out.keep (w':=w6) (Nat.le_refl _) fun q h1 h2=>hm6.bx.block q (by omega) (by omega))
 have NA6:=LH (NA5.out.keep (by omega) (hm6.bx.block nb NA5.out.lt (by omega)) fun b hb=>⟨hb,hm6.bx.block b (by have:=hb.2;omega) (by have:=hb.1;omega)⟩)
 have HCN:=LH (show consN pp.datas<=10000 by have h1:=consN_blk pp.datas;have h2:=GProg.bulk_eq pp;have h3:=litB_bulk HPP.out.1;omega)
 have HSZ:=LH (show pp.datas.length<=200/\consN pp.datas<=30000 from⟨wideP_len HPP.out.2,by have:=HCN.out;omega⟩)
 have hnl6:=NA6.out.lt
 clear hm6 Rr5 Rp5 M5 HD5 NA5
 by_cases x0:x=0
 ·
  have y0:(x ==0)=true:=beq_iff_eq.2 x0
  go_wp2_with fail
  refine(drawBelowD M6.out 22 (by omega) (by omega)).mono ?_
  rintro e w7 ⟨y,rfl,hy,hm7⟩
  have hz7:=hm7.size
  have KB:=LH hm7.bx
  have M7:=LH (M6.out.trans hm7)
  clear hm7
  have NA7:=LH (NA6.out.keep (by omega) (KB.out.block nb hnl6 (by omega)) fun b hb=>⟨hb,KB.out.block b (by have:=hb.2;omega) (by have:=hb.1;omega)⟩)
  have k0:=NA7.out.c0
  have k1:=NA7.out.c1
  have k2:=NA7.out.c2
  have k3:=NA7.out.c3
  have k4:=NA7.out.c4
  have kf:=NA7.out.fr
  have kl:=NA7.out.lt
  go_upto_region 30 with (fail)
  obtain⟨w8,e8⟩:∃ x,x=w7.setCell ⟨nb,off,none⟩ (.int .i64 y):=⟨_,rfl⟩
  rw [<- e8]
  have KN:=LH (show Bx nb w7 w8 by rw [e8];exact(Bx.refl _ _).set (p:=⟨nb,off,none⟩) (.inl rfl) _)
  have hz8:w8.heap.size<=w7.heap.size/\w7.heap.size<=w8.heap.size:=by rw [e8];simp [World.setCell]
  have PB:=LH (show PBox w8 w3.heap.size (.slice AD pp.datas.length cD) by rw [e8];exact PBox.set0 ⟨_,_,_,_,_,_,_,KB.out.row Rp6.out (by omega)⟩ hnn _)
  have MM:=LH (M7.out.chg KN.out (by omega) hgl)
  clear e8 k0 k1 k2 k3 k4 kf NA7
  have RR:=LH (KN.out.row (KB.out.row Rr6.out (by omega)) (by omega))
  have GX:=LH ((HD6.out.keep (w':=w8) (Nat.le_refl _) fun q h1 h2=>(KN.out.block q (by omega) (by omega)).trans (KB.out.block q (by omega) (by omega))).grx (by omega))
  have SZ:=HSZ
  obtain⟨op9,n9,s9,t9,A9,l9,c9,hR9⟩:=PB.out
  have RP9:=LH hR9
  clear hR9
  have hcp9:=fun i=>RP9.out.cell i
  have hlp9:=RP9.out.lt
  have hcr9:=fun i=>RR.out.cell i
  have hfr9:=fun i=>RR.out.frozen i
  have hlr9:=RR.out.lt
  go_wp2_with fail
  obtain⟨wf,ef,RF,hzf,KF⟩:=stored6 RR.out (.slice AD pp.datas.length cD) (.int .i64 op9) (.int .i64 n9) (.string s9) (.string t9) (.slice A9 l9 c9)
  rw [<- ef]
  clear ef hcp9 hcr9 hfr9
  have hcf:=fun i=>RF.out.cell i
  have MF:=LH (MM.out.chg KF.out (Nat.le_refl _) hgl)
  have GF:=LH (show Grx (fun q=>w.heap.size+1<=q) wf (w.heap.size+1) 40 3 (.slice AD pp.datas.length cD) pp.datas.length ((pp.datas).map GData.toD) from(GX.out.keepP (w':=wf) (by omega) fun q hq h=>KF.out.block q hq (by
    rcases h with h | h
    · have:=GX.out.own q h;omega
    · omega)).wide (by omega) fun q hq=>by omega)
  show BP _ _
  rw [HBP.out]
  refine bodyPost_ret (v:=.agg #[.slice AD pp.datas.length cD,.int .i64 op9,.int .i64 n9,.string s9,.string t9,.slice A9 l9 c9]) (by simp [results,Tryz.results18,go_sem,hcf]) rfl ?_
  exact⟨pp.datas,AD,cD,op9,n9,s9,t9,A9,l9,c9,rfl,SZ.out,GF.out,MF.out⟩
 by_cases x1:x=1
 ·
  have y0:(x ==0)=false:=beq_eq_false_iff_ne.2 (by omega)
  have y1:(x ==1)=true:=beq_iff_eq.2 x1
  go_wp2_with fail
  obtain⟨w6b,e6b,Rw6,hz6b,K6b⟩:=boxed w6 9 #[.string ⟨#[]⟩,.string ⟨#[120]⟩,.string ⟨#[110]⟩,.string ⟨#[78,105,108]⟩,.string ⟨#[108,101,116]⟩,.string ⟨#[67,111,110,115]⟩,.string ⟨#[97,98,99,100,101,102,103,104,105]⟩,.string ⟨#[73,110,116]⟩]
  rw [<- e6b]
  clear e6b
  replace hz6b:w6.heap.size+1<=w6b.heap.size/\w6b.heap.size<=w6.heap.size+1:=by omega
  have M6b:=LH (M6.out.chg K6b.out (by omega) hgl)
  refine(drawPickD M6b.out [⟨#[]⟩,⟨#[120]⟩,⟨#[110]⟩,⟨#[78,105,108]⟩,⟨#[108,101,116]⟩,⟨#[67,111,110,115]⟩,⟨#[97,98,99,100,101,102,103,104,105]⟩,⟨#[73,110,116]⟩] w6.heap.size (by omega) 9 Rw6.out (by simp) (by simp) (fun s=>True) (fun _ _=>trivial)).mono ?_
  rintro e w7 ⟨y,rfl,hy,hm7⟩
  have hz7:=hm7.size
  have KB:=LH (show Bx g w6 w7 from⟨hm7.bx.os.trans K6b.out.os,hm7.bx.tape.trans K6b.out.tape,hm7.bx.output.trans K6b.out.output,by omega,fun q hq hne=>(hm7.bx.block q (by omega) hne).trans (K6b.out.block q hq (by omega))⟩)
  have M7:=LH (M6b.out.trans hm7)
  clear hm7 K6b M6b Rw6
  have NA7:=LH (NA6.out.keep (by omega) (KB.out.block nb hnl6 (by omega)) fun b hb=>⟨hb,KB.out.block b (by have:=hb.2;omega) (by have:=hb.1;omega)⟩)
  have k0:=NA7.out.c0
  have k1:=NA7.out.c1
  have k2:=NA7.out.c2
  have k3:=NA7.out.c3
  have k4:=NA7.out.c4
  have kf:=NA7.out.fr
  have kl:=NA7.out.lt
  go_upto_region 30 with (fail)
  obtain⟨w8,e8⟩:∃ x,x=w7.setCell ⟨nb,off+2,none⟩ (.string y):=⟨_,rfl⟩
  rw [<- e8]
  have KN:=LH (show Bx nb w7 w8 by rw [e8];exact(Bx.refl _ _).set (p:=⟨nb,off+2,none⟩) (.inl rfl) _)
  have hz8:w8.heap.size<=w7.heap.size/\w7.heap.size<=w8.heap.size:=by rw [e8];simp [World.setCell]
  have PB:=LH (show PBox w8 w3.heap.size (.slice AD pp.datas.length cD) by rw [e8];exact PBox.set2 ⟨_,_,_,_,_,_,_,KB.out.row Rp6.out (by omega)⟩ hnn _)
  have MM:=LH (M7.out.chg KN.out (by omega) hgl)
  clear e8 k0 k1 k2 k3 k4 kf NA7
  have RR:=LH (KN.out.row (KB.out.row Rr6.out (by omega)) (by omega))
  have GX:=LH ((HD6.out.keep (w':=w8) (Nat.le_refl _) fun q h1 h2=>(KN.out.block q (by omega) (by omega)).trans (KB.out.block q (by omega) (by omega))).grx (by omega))
  have SZ:=HSZ
  obtain⟨op9,n9,s9,t9,A9,l9,c9,hR9⟩:=PB.out
  have RP9:=LH hR9
  clear hR9
  have hcp9:=fun i=>RP9.out.cell i
  have hlp9:=RP9.out.lt
  have hcr9:=fun i=>RR.out.cell i
  have hfr9:=fun i=>RR.out.frozen i
  have hlr9:=RR.out.lt
  go_wp2_with fail
  obtain⟨wf,ef,RF,hzf,KF⟩:=stored6 RR.out (.slice AD pp.datas.length cD) (.int .i64 op9) (.int .i64 n9) (.string s9) (.string t9) (.slice A9 l9 c9)
  rw [<- ef]
  clear ef hcp9 hcr9 hfr9
  have hcf:=fun i=>RF.out.cell i
  have MF:=LH (MM.out.chg KF.out (Nat.le_refl _) hgl)
  have GF:=LH (show Grx (fun q=>w.heap.size+1<=q) wf (w.heap.size+1) 40 3 (.slice AD pp.datas.length cD) pp.datas.length ((pp.datas).map GData.toD) from(GX.out.keepP (w':=wf) (by omega) fun q hq h=>KF.out.block q hq (by
    rcases h with h | h
    · have:=GX.out.own q h;omega
    · omega)).wide (by omega) fun q hq=>by omega)
  show BP _ _
  rw [HBP.out]
  refine bodyPost_ret (v:=.agg #[.slice AD pp.datas.length cD,.int .i64 op9,.int .i64 n9,.string s9,.string t9,.slice A9 l9 c9]) (by simp [results,Tryz.results18,go_sem,hcf]) rfl ?_
  exact⟨pp.datas,AD,cD,op9,n9,s9,t9,A9,l9,c9,rfl,SZ.out,GF.out,MF.out⟩
 by_cases x2:x=2
 ·
  have y0:(x ==0)=false:=beq_eq_false_iff_ne.2 (by omega)
  have y1:(x ==1)=false:=beq_eq_false_iff_ne.2 (by omega)
  have y2:(x ==2)=true:=beq_iff_eq.2 x2
  go_wp2_with fail
  obtain⟨w6b,e6b,Rw6,hz6b,K6b⟩:=boxed w6 3 #[.int .i64 0,.int .i64 3,.int .i64 (-1),.int .i64 1073741824]
  rw [<- e6b]
  clear e6b
  replace hz6b:w6.heap.size+1<=w6b.heap.size/\w6b.heap.size<=w6.heap.size+1:=by omega
  have M6b:=LH (M6.out.chg K6b.out (by omega) hgl)
  refine(drawPickIntD M6b.out [0,3,(-1),1073741824] w6.heap.size (by omega) 3 Rw6.out (by simp) (by simp) (fun n=> -9223372036854775808<=n/\n<=9223372036854775807) (by intro n hn;simp only [List.mem_cons,List.not_mem_nil,or_false] at hn;omega)).mono ?_
  rintro e w7 ⟨y,rfl,hy,hm7⟩
  have hz7:=hm7.size
  have KB:=LH (show Bx g w6 w7 from⟨hm7.bx.os.trans K6b.out.os,hm7.bx.tape.trans K6b.out.tape,hm7.bx.output.trans K6b.out.output,by omega,fun q hq hne=>(hm7.bx.block q (by omega) hne).trans (K6b.out.block q hq (by omega))⟩)
  have M7:=LH (M6b.out.trans hm7)
  clear hm7 K6b M6b Rw6
  have NA7:=LH (NA6.out.keep (by omega) (KB.out.block nb hnl6 (by omega)) fun b hb=>⟨hb,KB.out.block b (by have:=hb.2;omega) (by have:=hb.1;omega)⟩)
  have k0:=NA7.out.c0
  have k1:=NA7.out.c1
  have k2:=NA7.out.c2
  have k3:=NA7.out.c3
  have k4:=NA7.out.c4
  have kf:=NA7.out.fr
  have kl:=NA7.out.lt
  go_upto_region 30 with (fail)
  obtain⟨w8,e8⟩:∃ x,x=w7.setCell ⟨nb,off+1,none⟩ (.int .i64 y):=⟨_,rfl⟩
  rw [<- e8]
  have KN:=LH (show Bx nb w7 w8 by rw [e8];exact(Bx.refl _ _).set (p:=⟨nb,off+1,none⟩) (.inl rfl) _)
  have hz8:w8.heap.size<=w7.heap.size/\w7.heap.size<=w8.heap.size:=by rw [e8];simp [World.setCell]
  have PB:=LH (show PBox w8 w3.heap.size (.slice AD pp.datas.length cD) by rw [e8];exact PBox.set1 ⟨_,_,_,_,_,_,_,KB.out.row Rp6.out (by omega)⟩ hnn _)
  have MM:=LH (M7.out.chg KN.out (by omega) hgl)
  clear e8 k0 k1 k2 k3 k4 kf NA7
  have RR:=LH (KN.out.row (KB.out.row Rr6.out (by omega)) (by omega))
  have GX:=LH ((HD6.out.keep (w':=w8) (Nat.le_refl _) fun q h1 h2=>(KN.out.block q (by omega) (by omega)).trans (KB.out.block q (by omega) (by omega))).grx (by omega))
  have SZ:=HSZ
  obtain⟨op9,n9,s9,t9,A9,l9,c9,hR9⟩:=PB.out
  have RP9:=LH hR9
  clear hR9
  have hcp9:=fun i=>RP9.out.cell i
  have hlp9:=RP9.out.lt
  have hcr9:=fun i=>RR.out.cell i
  have hfr9:=fun i=>RR.out.frozen i
  have hlr9:=RR.out.lt
  go_wp2_with fail
  obtain⟨wf,ef,RF,hzf,KF⟩:=stored6 RR.out (.slice AD pp.datas.length cD) (.int .i64 op9) (.int .i64 n9) (.string s9) (.string t9) (.slice A9 l9 c9)
  rw [<- ef]
  clear ef hcp9 hcr9 hfr9
  have hcf:=fun i=>RF.out.cell i
  have MF:=LH (MM.out.chg KF.out (Nat.le_refl _) hgl)
  have GF:=LH (show Grx (fun q=>w.heap.size+1<=q) wf (w.heap.size+1) 40 3 (.slice AD pp.datas.length cD) pp.datas.length ((pp.datas).map GData.toD) from(GX.out.keepP (w':=wf) (by omega) fun q hq h=>KF.out.block q hq (by
    rcases h with h | h
    · have:=GX.out.own q h;omega
    · omega)).wide (by omega) fun q hq=>by omega)
  show BP _ _
  rw [HBP.out]
  refine bodyPost_ret (v:=.agg #[.slice AD pp.datas.length cD,.int .i64 op9,.int .i64 n9,.string s9,.string t9,.slice A9 l9 c9]) (by simp [results,Tryz.results18,go_sem,hcf]) rfl ?_
  exact⟨pp.datas,AD,cD,op9,n9,s9,t9,A9,l9,c9,rfl,SZ.out,GF.out,MF.out⟩
 by_cases x3:x=3
 ·
  have y0:(x ==0)=false:=beq_eq_false_iff_ne.2 (by omega)
  have y1:(x ==1)=false:=beq_eq_false_iff_ne.2 (by omega)
  have y2:(x ==2)=false:=beq_eq_false_iff_ne.2 (by omega)
  have y3:(x ==3)=true:=beq_iff_eq.2 x3
  go_wp2_with fail
  refine wp_region_T (fun _=>True) 100 (by kernel_rfl) ?_
  obtain⟨w7,e7⟩:∃ x,x=w6.drew:=⟨_,rfl⟩
  rw [<- e7]
  have K7:=LH (show Below w6.heap.size w6 w7 by rw [e7];exact(Below.refl _ _).drew)
  have hz7:w7.heap.size<=w6.heap.size/\w6.heap.size<=w7.heap.size:=by rw [e7];exact⟨Nat.le_refl _,Nat.le_refl _⟩
  clear e7
  have NA7:=LH (NA6.out.keep (by omega) (K7.out.block nb hnl6) fun b hb=>⟨hb,K7.out.block b (by have:=hb.2;omega)⟩)
  have hl250:n.kids.length<=250:=by obtain⟨-,-,-,h,-⟩:=gwN_eq.1 NA7.out.kids;exact h
  refine wpAnyT_tk (i:=0) (oi:=_) (v:=?tv1) rfl (Or.inl ⟨by rfl,?th1⟩) trivial ?_
  case th1=>(intro x hSx;go_simp;(try with_reducible rfl))
  try simp only [nA,nB,nC,Act.put,nD,nE,nF]
  refine wpAnyT_tk (i:=1) (oi:=_) (v:=?tv2) rfl (Or.inl ⟨by rfl,?th2⟩) trivial ?_
  case th2=>(intro x hSx;go_simp;(try with_reducible rfl))
  try simp only [nA,nB,nC,Act.put,nD,nE,nF]
  refine wpAnyT_tk (i:=2) (oi:=_) (v:=?tv3) rfl (Or.inl ⟨by rfl,?th3⟩) trivial ?_
  case th3=>(intro x hSx;go_simp;(try with_reducible rfl))
  try simp only [nA,nB,nC,Act.put,nD,nE,nF]
  refine wpAnyT_tk (i:=4) (oi:=_) (v:=?tv4) rfl (Or.inl ⟨by rfl,?th4⟩) trivial ?_
  case th4=>(intro x hSx;go_simp;(try with_reducible rfl))
  try simp only [nA,nB,nC,Act.put,nD,nE,nF]
  refine wpAnyT_two (i:=3) (j:=6) (by kernel_rfl) rfl rfl (fun K hK=>?ga) (fun K hK=>?gb)
  case' ga=>
   have k4:=NA7.out.c4
   try simp only [nA,nB,nC]
   go_simp
   refine hK.out _ _ trivial (fun _=>?_)
   clear hK K k4
   try simp only [nA,nB,nC,Act.put,nD,nE,nF]
   refine wpAnyT_tk (i:=5) (oi:=_) (v:=?tv5) rfl (Or.inl ⟨by rfl,?th5⟩) trivial ?_
   case th5=>(intro x hSx;go_simp;(try with_reducible rfl))
   try simp only [nA,nB,nC,Act.put,nD,nE,nF]
   refine wpAnyT_step (i:=6) (by kernel_rfl) rfl (fun K hK=>?_)
   try simp only [nA,nB,nC]
   go_simp
   obtain⟨w8,e8,R8,hz8,K8⟩:=boxed w7 45 #[.int .i64 0,.int .i64 0,.string ⟨#[]⟩,.string ⟨#[]⟩,.slice none 0 0]
   rw [<- e8]
   have E8:=LH (show Below w7.heap.size w7 w8 by rw [e8];exact(Below.refl _ _).alloc (Nat.le_refl _) _)
   clear e8 K8
   replace hz8:w7.heap.size+1<=w8.heap.size/\w8.heap.size<=w7.heap.size+1:=by omega
   have NA8:=LH (NA7.out.keep (by omega) (E8.out.block nb NA7.out.lt) fun b hb=>⟨hb,E8.out.block b (by have:=hb.2;omega)⟩)
   clear NA7
   refine hK.out _ _ trivial (fun _=>?_)
   clear hK K
   try simp only [nA,nB,nC,Act.put,nD,nE,nF]
  case' gb=>
   try simp only [nA,nB,nC]
   go_simp
   obtain⟨w8,e8,R8,hz8,K8⟩:=boxed w7 45 #[.int .i64 0,.int .i64 0,.string ⟨#[]⟩,.string ⟨#[]⟩,.slice none 0 0]
   rw [<- e8]
   have E8:=LH (show Below w7.heap.size w7 w8 by rw [e8];exact(Below.refl _ _).alloc (Nat.le_refl _) _)
   clear e8 K8
   replace hz8:w7.heap.size+1<=w8.heap.size/\w8.heap.size<=w7.heap.size+1:=by omega
   have NA8:=LH (NA7.out.keep (by omega) (E8.out.block nb NA7.out.lt) fun b hb=>⟨hb,E8.out.block b (by have:=hb.2;omega)⟩)
   clear NA7
   refine hK.out _ _ trivial (fun _=>?_)
   clear hK K
   try simp only [nA,nB,nC,Act.put,nD,nE,nF]
   refine wpAnyT_step (i:=3) (by kernel_rfl) rfl (fun K hK=>?_)
   have k4:=NA8.out.c4
   try simp only [nA,nB,nC]
   go_simp
   refine hK.out _ _ trivial (fun _=>?_)
   clear hK K k4
   try simp only [nA,nB,nC,Act.put,nD,nE,nF]
   refine wpAnyT_tk (i:=5) (oi:=_) (v:=?tv6) rfl (Or.inl ⟨by rfl,?th6⟩) trivial ?_
   case th6=>(intro x hSx;go_simp;(try with_reducible rfl))
   try simp only [nA,nB,nC,Act.put,nD,nE,nF]
  ·
   obtain⟨cells,ho,hown,-,-⟩:=gwN_eq.1 NA8.out.kids
   have HO:=LH ho
   have hcl:=ho.1
   have hbd:(n.kids.length:Int)<(n.kids.length:Int)+1:=by omega
   have hnl8:=NA8.out.lt
   clear ho
   refine wpAnyT_step (i:=7) (by kernel_rfl) rfl (fun K hK=>?_)
   refine step_append_C w8 rfl (.tmp 42) (.tmp 45) 43 rfl 45 zNd 5 72 Tryz.underlying43 (by kernel_rfl) rfl (by omega) 0 (.slice A3 n.kids.length c3) n.kids.length cells HO.out w7.heap.size 1 1 45 [.int .i64 0,.int .i64 0,.string ⟨#[]⟩,.string ⟨#[]⟩,.slice none 0 0] rfl (nd_one rfl) R8.out (Nat.zero_le _) (by unfold maxLen;omega) (by omega) rfl rfl ?_
   intro A8 c8 w9 hG hGr
   obtain⟨b8,eb8⟩:∃ b8,A8=some ⟨b8,0,none⟩:=by
    rcases hG.2 with ⟨-,h0⟩ | ⟨q,cap,cur,e,-⟩
    · omega
    · simp only [Value.slice.injEq] at e
      exact⟨q,e.1⟩
   subst eb8
   have hz9:=hGr.size
   have HG9:=LH hG
   have GR9:=LH hGr
   have hb8:(b8≠nb/\mid<=b8/\b8<w9.heap.size)/\(b8<w3.heap.size\/w8.heap.size<=b8):=by
    have h9:=(hG.lt b8 rfl).2
    rcases hGr.own with h | ⟨q,h,h'⟩
    · have h1:(Value.slice A3 n.kids.length c3).ownBlock=some b8:=h.symm
      have h2:=hown b8 h1
      exact⟨⟨fun e=>NA8.out.ne (by rw [<- e];exact h1),h2.1,h9⟩,.inl h2.2⟩
    · obtain rfl:b8=q:=by simpa [Value.ownBlock] using h
      omega
   have KQ9:=LH (fun q (h1:q<w6.heap.size) (h2:(Value.slice A3 n.kids.length c3).ownBlock≠some q)=>show w9.heap[q]? =w6.heap[q]? from(hGr.grow.block q (by omega) fun e=>h2 e.symm).trans ((E8.out.block q (by omega)).trans (K7.out.block q h1)))
   have hnb9:w9.heap[nb]? =w8.heap[nb]?:=hGr.grow.block nb hnl8 fun e=>NA8.out.ne e.symm
   have M9:=LH (show Dm l A c g w w9 from by
     obtain⟨q8,hq8,hk8⟩:=hGr.bxe (B:=mid) (fun q hq=>(hown q hq).1) (by omega)
     exact((M6.out.below K7.out).below E8.out).chg hk8 (by omega) hgl)
   clear hG hGr R8
   refine hK.out _ _ trivial (fun _=>?_)
   clear hK K
   try simp only [nA,nB,nC,Act.put,nD,nE,nF]
   refine wpAnyT_tk (i:=8) (oi:=_) (v:=?tv7) rfl (Or.inl ⟨by rfl,?th7⟩) trivial ?_
   case th7=>(intro x hSx;go_simp;(try with_reducible rfl))
   try simp only [nA,nB,nC,Act.put,nD,nE,nF]
   refine wpAnyT_tk (i:=10) (oi:=_) (v:=?tv8) rfl (Or.inl ⟨by rfl,?th8⟩) trivial ?_
   case th8=>(intro x hSx;go_simp;(try with_reducible rfl))
   try simp only [nA,nB,nC,Act.put,nD,nE,nF]
   refine wpAnyT_tk (i:=11) (oi:=_) (v:=?tv9) rfl (Or.inl ⟨by rfl,?th9⟩) trivial ?_
   case th9=>(intro x hSx;go_simp;(try with_reducible rfl))
   try simp only [nA,nB,nC,Act.put,nD,nE,nF]
   have hcell:∀ i,i<5->w9.cell? ⟨b8,n.kids.length*5+i,none⟩= [Value.int .i64 0,.int .i64 0,.string ⟨#[]⟩,.string ⟨#[]⟩,.slice none 0 0][i]?:=fun i hi=>by
    rw [HG9.out.cellAt _ (by omega),List.getElem?_append_right (by omega),hcl]
    congr 1
    omega
   have hf8:=fun o=>HG9.out.frozenAt o
   have hc4:=(show w9.cell? ⟨nb,off+4,none⟩=w8.cell? ⟨nb,off+4,none⟩ from by unfold World.cell?;rw [hnb9]).trans NA8.out.c4
   have hf4:=(show w9.frozen? ⟨nb,off+4,none⟩=w8.frozen? ⟨nb,off+4,none⟩ from by unfold World.frozen?;rw [hnb9]).trans (NA8.out.fr (off+4))
   have hno:∀ q,q<mid\/w3.heap.size<=q->(Value.slice A3 n.kids.length c3).ownBlock≠some q:=fun q hq e=>by have h1:=hown q e;have h2:=h1.1;have h3:=h1.2;omega
   refine wpAnyT_two (i:=9) (j:=12) (by kernel_rfl) rfl rfl (fun K hK=>?_) (fun K hK=>?_)
   ·
    have j0:=hcell 0 (by omega)
    have j1:=hcell 1 (by omega)
    have j2:=hcell 2 (by omega)
    have j3:=hcell 3 (by omega)
    have j4:=hcell 4 (by omega)
    rw [Nat.add_zero] at j0
    have jf:=fun o=>hf8 o
    have jl:=hb8.1.2.2
    try simp only [nA,nB,nC]
    go_simp
    obtain⟨w10,e10⟩:∃ x,x=(((((w9.setCell ⟨b8,n.kids.length*5,none⟩ (.int .i64 1)).setCell ⟨b8,n.kids.length*5+1,none⟩ (.int .i64 4)).setCell ⟨b8,n.kids.length*5+2,none⟩ (.string ⟨#[]⟩)).setCell ⟨b8,n.kids.length*5+3,none⟩ (.string ⟨#[]⟩)).setCell ⟨b8,n.kids.length*5+4,none⟩ (.slice none 0 0)):=⟨_,rfl⟩
    rw [<- e10]
    have K10:=LH (show Bx b8 w9 w10 by rw [e10];exact(((((Bx.refl _ _).set (p:=⟨b8,n.kids.length*5,none⟩) (.inl rfl) _).set (p:=⟨b8,n.kids.length*5+1,none⟩) (.inl rfl) _).set (p:=⟨b8,n.kids.length*5+2,none⟩) (.inl rfl) _).set (p:=⟨b8,n.kids.length*5+3,none⟩) (.inl rfl) _).set (p:=⟨b8,n.kids.length*5+4,none⟩) (.inl rfl) _)
    have hz10:w10.heap.size<=w9.heap.size/\w9.heap.size<=w10.heap.size:=by rw [e10];simp [World.setCell]
    clear e10
    refine hK.out _ _ trivial (fun _=>?_)
    clear hK K j0 j1 j2 j3 j4 jf jl
    try simp only [nA,nB,nC,Act.put,nD,nE,nF]
    have k4:=(show w10.cell? ⟨nb,off+4,none⟩=w9.cell? ⟨nb,off+4,none⟩ from by unfold World.cell?;rw [K10.out.block nb (by omega) (by omega)]).trans hc4
    have kf:=(show w10.frozen? ⟨nb,off+4,none⟩=w9.frozen? ⟨nb,off+4,none⟩ from by unfold World.frozen?;rw [K10.out.block nb (by omega) (by omega)]).trans hf4
    have kl:nb<w10.heap.size:=by omega
    refine wpAnyT_step (i:=12) (by kernel_rfl) rfl (fun K hK=>?_)
    try simp only [nA,nB,nC]
    go_simp
    obtain⟨w11,e11⟩:∃ x,x=w10.setCell ⟨nb,off+4,none⟩ (.slice (some ⟨b8,0,none⟩) (n.kids.length+1) c8):=⟨_,rfl⟩
    rw [<- e11]
    have K11:=LH (show Bx nb w10 w11 by rw [e11];exact(Bx.refl _ _).set (p:=⟨nb,off+4,none⟩) (.inl rfl) _)
    have hz11:w11.heap.size<=w10.heap.size/\w10.heap.size<=w11.heap.size:=by rw [e11];simp [World.setCell]
    refine hK.out _ _ trivial (fun _=>?_)
    clear hK K k4 kf kl
    try simp only [nA,nB,nC,Act.put,nD,nE,nF]
    refine wpAnyT_done (by kernel_rfl) ?_ _
    have PB:=LH (show PBox w11 w3.heap.size (.slice AD pp.datas.length cD) by rw [e11];exact PBox.set4 ⟨_,_,_,_,_,_,_,((K10.out.block _ (by omega) (by omega)).trans (KQ9.out _ Rp6.out.lt (hno _ (by omega)))).trans Rp6.out⟩ hnn _ _ _)
    have MM:=LH ((M9.out.chg K10.out (by omega) hgl).chg K11.out (by omega) hgl)
    clear e11
    have KQ:=LH (fun q (h1:q<w6.heap.size) (h2:q<mid\/w3.heap.size<=q) (h3:q≠nb)=>show w11.heap[q]? =w6.heap[q]? from(K11.out.block q (by omega) (by omega)).trans ((K10.out.block q (by omega) (by omega)).trans (KQ9.out q h1 (hno q h2))))
    have RR:=LH (show Row w11 w.heap.size 47 #[.slice none 0 0,.int .i64 0,.int .i64 0,.string ⟨#[]⟩,.string ⟨#[]⟩,.slice none 0 0] from(KQ.out _ Rr6.out.lt (by omega) (by omega)).trans Rr6.out)
    have GX:=LH ((HD6.out.keep (w':=w11) (Nat.le_refl _) fun q h1 h2=>KQ.out q (by omega) (by omega) (by omega)).grx (by omega))
    have SZ:=HSZ
    clear hcell hf8 hc4 hf4
    obtain⟨op9,n9,s9,t9,A9,l9,c9,hR9⟩:=PB.out
    have RP9:=LH hR9
    clear hR9
    have hcp9:=fun i=>RP9.out.cell i
    have hlp9:=RP9.out.lt
    have hcr9:=fun i=>RR.out.cell i
    have hfr9:=fun i=>RR.out.frozen i
    have hlr9:=RR.out.lt
    go_wp2_with fail
    obtain⟨wf,ef,RF,hzf,KF⟩:=stored6 RR.out (.slice AD pp.datas.length cD) (.int .i64 op9) (.int .i64 n9) (.string s9) (.string t9) (.slice A9 l9 c9)
    rw [<- ef]
    clear ef hcp9 hcr9 hfr9
    have hcf:=fun i=>RF.out.cell i
    have MF:=LH (MM.out.chg KF.out (Nat.le_refl _) hgl)
    have GF:=LH (show Grx (fun q=>w.heap.size+1<=q) wf (w.heap.size+1) 40 3 (.slice AD pp.datas.length cD) pp.datas.length ((pp.datas).map GData.toD) from(GX.out.keepP (w':=wf) (by omega) fun q hq h=>KF.out.block q hq (by
      rcases h with h | h
      · have:=GX.out.own q h;omega
      · omega)).wide (by omega) fun q hq=>by omega)
    show BP _ _
    rw [HBP.out]
    refine bodyPost_ret (v:=.agg #[.slice AD pp.datas.length cD,.int .i64 op9,.int .i64 n9,.string s9,.string t9,.slice A9 l9 c9]) (by simp [results,Tryz.results18,go_sem,hcf]) rfl ?_
    exact⟨pp.datas,AD,cD,op9,n9,s9,t9,A9,l9,c9,rfl,SZ.out,GF.out,MF.out⟩
   ·
    have kl:nb<w9.heap.size:=by omega
    try simp only [nA,nB,nC]
    go_simp
    obtain⟨w10,e11⟩:∃ x,x=w9.setCell ⟨nb,off+4,none⟩ (.slice (some ⟨b8,0,none⟩) (n.kids.length+1) c8):=⟨_,rfl⟩
    rw [<- e11]
    have K10:=LH (show Bx nb w9 w10 by rw [e11];exact(Bx.refl _ _).set (p:=⟨nb,off+4,none⟩) (.inl rfl) _)
    have hz10:w10.heap.size<=w9.heap.size/\w9.heap.size<=w10.heap.size:=by rw [e11];simp [World.setCell]
    refine hK.out _ _ trivial (fun _=>?_)
    clear hK K kl
    try simp only [nA,nB,nC,Act.put,nD,nE,nF]
    have hcell2:∀ i,w10.cell? ⟨b8,i,none⟩=w9.cell? ⟨b8,i,none⟩:=fun i=>by unfold World.cell?;rw [K10.out.block b8 hb8.1.2.2 hb8.1.1]
    have hf82:∀ i,w10.frozen? ⟨b8,i,none⟩=false:=fun i=>(show w10.frozen? ⟨b8,i,none⟩=w9.frozen? ⟨b8,i,none⟩ from by unfold World.frozen?;rw [K10.out.block b8 hb8.1.2.2 hb8.1.1]).trans (hf8 i)
    have PB10:=LH (show PBox w10 w3.heap.size (.slice AD pp.datas.length cD) by rw [e11];exact PBox.set4 ⟨_,_,_,_,_,_,_,(KQ9.out _ Rp6.out.lt (hno _ (by omega))).trans Rp6.out⟩ hnn _ _ _)
    clear e11
    have j0:=hcell 0 (by omega)
    have j1:=hcell 1 (by omega)
    have j2:=hcell 2 (by omega)
    have j3:=hcell 3 (by omega)
    have j4:=hcell 4 (by omega)
    rw [Nat.add_zero] at j0
    have i0:=(hcell2 _).trans j0
    have i1:=(hcell2 _).trans j1
    have i2:=(hcell2 _).trans j2
    have i3:=(hcell2 _).trans j3
    have i4:=(hcell2 _).trans j4
    have jl:b8<w10.heap.size:=by omega
    clear j0 j1 j2 j3 j4 hcell2
    refine wpAnyT_step (i:=9) (by kernel_rfl) rfl (fun K hK=>?_)
    try simp only [nA,nB,nC]
    go_simp
    obtain⟨w11,e10⟩:∃ x,x=(((((w10.setCell ⟨b8,n.kids.length*5,none⟩ (.int .i64 1)).setCell ⟨b8,n.kids.length*5+1,none⟩ (.int .i64 4)).setCell ⟨b8,n.kids.length*5+2,none⟩ (.string ⟨#[]⟩)).setCell ⟨b8,n.kids.length*5+3,none⟩ (.string ⟨#[]⟩)).setCell ⟨b8,n.kids.length*5+4,none⟩ (.slice none 0 0)):=⟨_,rfl⟩
    rw [<- e10]
    have K11:=LH (show Bx b8 w10 w11 by rw [e10];exact(((((Bx.refl _ _).set (p:=⟨b8,n.kids.length*5,none⟩) (.inl rfl) _).set (p:=⟨b8,n.kids.length*5+1,none⟩) (.inl rfl) _).set (p:=⟨b8,n.kids.length*5+2,none⟩) (.inl rfl) _).set (p:=⟨b8,n.kids.length*5+3,none⟩) (.inl rfl) _).set (p:=⟨b8,n.kids.length*5+4,none⟩) (.inl rfl) _)
    have hz11:w11.heap.size<=w10.heap.size/\w10.heap.size<=w11.heap.size:=by rw [e10];simp [World.setCell]
    clear e10
    refine hK.out _ _ trivial (fun _=>?_)
    clear hK K i0 i1 i2 i3 i4 jl hf82
    try simp only [nA,nB,nC,Act.put,nD,nE,nF]
    refine wpAnyT_done (by kernel_rfl) ?_ _
    have PB:=LH (PB10.out.keep (K11.out.block _ (by omega) (by omega)))
    have MM:=LH ((M9.out.chg K10.out (by omega) hgl).chg K11.out (by omega) hgl)
    have KQ:=LH (fun q (h1:q<w6.heap.size) (h2:q<mid\/w3.heap.size<=q) (h3:q≠nb)=>show w11.heap[q]? =w6.heap[q]? from(K11.out.block q (by omega) (by omega)).trans ((K10.out.block q (by omega) (by omega)).trans (KQ9.out q h1 (hno q h2))))
    have RR:=LH (show Row w11 w.heap.size 47 #[.slice none 0 0,.int .i64 0,.int .i64 0,.string ⟨#[]⟩,.string ⟨#[]⟩,.slice none 0 0] from(KQ.out _ Rr6.out.lt (by omega) (by omega)).trans Rr6.out)
    have GX:=LH ((HD6.out.keep (w':=w11) (Nat.le_refl _) fun q h1 h2=>KQ.out q (by omega) (by omega) (by omega)).grx (by omega))
    have SZ:=HSZ
    clear hcell hf8 hc4 hf4
    obtain⟨op9,n9,s9,t9,A9,l9,c9,hR9⟩:=PB.out
    have RP9:=LH hR9
    clear hR9
    have hcp9:=fun i=>RP9.out.cell i
    have hlp9:=RP9.out.lt
    have hcr9:=fun i=>RR.out.cell i
    have hfr9:=fun i=>RR.out.frozen i
    have hlr9:=RR.out.lt
    go_wp2_with fail
    obtain⟨wf,ef,RF,hzf,KF⟩:=stored6 RR.out (.slice AD pp.datas.length cD) (.int .i64 op9) (.int .i64 n9) (.string s9) (.string t9) (.slice A9 l9 c9)
    rw [<- ef]
    clear ef hcp9 hcr9 hfr9
    have hcf:=fun i=>RF.out.cell i
    have MF:=LH (MM.out.chg KF.out (Nat.le_refl _) hgl)
    have GF:=LH (show Grx (fun q=>w.heap.size+1<=q) wf (w.heap.size+1) 40 3 (.slice AD pp.datas.length cD) pp.datas.length ((pp.datas).map GData.toD) from(GX.out.keepP (w':=wf) (by omega) fun q hq h=>KF.out.block q hq (by
      rcases h with h | h
      · have:=GX.out.own q h;omega
      · omega)).wide (by omega) fun q hq=>by omega)
    show BP _ _
    rw [HBP.out]
    refine bodyPost_ret (v:=.agg #[.slice AD pp.datas.length cD,.int .i64 op9,.int .i64 n9,.string s9,.string t9,.slice A9 l9 c9]) (by simp [results,Tryz.results18,go_sem,hcf]) rfl ?_
    exact⟨pp.datas,AD,cD,op9,n9,s9,t9,A9,l9,c9,rfl,SZ.out,GF.out,MF.out⟩
  ·
   obtain⟨cells,ho,hown,-,-⟩:=gwN_eq.1 NA8.out.kids
   have HO:=LH ho
   have hcl:=ho.1
   have hbd:(n.kids.length:Int)<(n.kids.length:Int)+1:=by omega
   have hnl8:=NA8.out.lt
   clear ho
   refine wpAnyT_step (i:=7) (by kernel_rfl) rfl (fun K hK=>?_)
   refine step_append_C w8 rfl (.tmp 42) (.tmp 45) 43 rfl 45 zNd 5 72 Tryz.underlying43 (by kernel_rfl) rfl (by omega) 0 (.slice A3 n.kids.length c3) n.kids.length cells HO.out w7.heap.size 1 1 45 [.int .i64 0,.int .i64 0,.string ⟨#[]⟩,.string ⟨#[]⟩,.slice none 0 0] rfl (nd_one rfl) R8.out (Nat.zero_le _) (by unfold maxLen;omega) (by omega) rfl rfl ?_
   intro A8 c8 w9 hG hGr
   obtain⟨b8,eb8⟩:∃ b8,A8=some ⟨b8,0,none⟩:=by
    rcases hG.2 with ⟨-,h0⟩ | ⟨q,cap,cur,e,-⟩
    · omega
    · simp only [Value.slice.injEq] at e
      exact⟨q,e.1⟩
   subst eb8
   have hz9:=hGr.size
   have HG9:=LH hG
   have GR9:=LH hGr
   have hb8:(b8≠nb/\mid<=b8/\b8<w9.heap.size)/\(b8<w3.heap.size\/w8.heap.size<=b8):=by
    have h9:=(hG.lt b8 rfl).2
    rcases hGr.own with h | ⟨q,h,h'⟩
    · have h1:(Value.slice A3 n.kids.length c3).ownBlock=some b8:=h.symm
      have h2:=hown b8 h1
      exact⟨⟨fun e=>NA8.out.ne (by rw [<- e];exact h1),h2.1,h9⟩,.inl h2.2⟩
    · obtain rfl:b8=q:=by simpa [Value.ownBlock] using h
      omega
   have KQ9:=LH (fun q (h1:q<w6.heap.size) (h2:(Value.slice A3 n.kids.length c3).ownBlock≠some q)=>show w9.heap[q]? =w6.heap[q]? from(hGr.grow.block q (by omega) fun e=>h2 e.symm).trans ((E8.out.block q (by omega)).trans (K7.out.block q h1)))
   have hnb9:w9.heap[nb]? =w8.heap[nb]?:=hGr.grow.block nb hnl8 fun e=>NA8.out.ne e.symm
   have M9:=LH (show Dm l A c g w w9 from by
     obtain⟨q8,hq8,hk8⟩:=hGr.bxe (B:=mid) (fun q hq=>(hown q hq).1) (by omega)
     exact((M6.out.below K7.out).below E8.out).chg hk8 (by omega) hgl)
   clear hG hGr R8
   refine hK.out _ _ trivial (fun _=>?_)
   clear hK K
   try simp only [nA,nB,nC,Act.put,nD,nE,nF]
   refine wpAnyT_tk (i:=8) (oi:=_) (v:=?tv10) rfl (Or.inl ⟨by rfl,?th10⟩) trivial ?_
   case th10=>(intro x hSx;go_simp;(try with_reducible rfl))
   try simp only [nA,nB,nC,Act.put,nD,nE,nF]
   refine wpAnyT_tk (i:=10) (oi:=_) (v:=?tv11) rfl (Or.inl ⟨by rfl,?th11⟩) trivial ?_
   case th11=>(intro x hSx;go_simp;(try with_reducible rfl))
   try simp only [nA,nB,nC,Act.put,nD,nE,nF]
   refine wpAnyT_tk (i:=11) (oi:=_) (v:=?tv12) rfl (Or.inl ⟨by rfl,?th12⟩) trivial ?_
   case th12=>(intro x hSx;go_simp;(try with_reducible rfl))
   try simp only [nA,nB,nC,Act.put,nD,nE,nF]
   have hcell:∀ i,i<5->w9.cell? ⟨b8,n.kids.length*5+i,none⟩= [Value.int .i64 0,.int .i64 0,.string ⟨#[]⟩,.string ⟨#[]⟩,.slice none 0 0][i]?:=fun i hi=>by
    rw [HG9.out.cellAt _ (by omega),List.getElem?_append_right (by omega),hcl]
    congr 1
    omega
   have hf8:=fun o=>HG9.out.frozenAt o
   have hc4:=(show w9.cell? ⟨nb,off+4,none⟩=w8.cell? ⟨nb,off+4,none⟩ from by unfold World.cell?;rw [hnb9]).trans NA8.out.c4
   have hf4:=(show w9.frozen? ⟨nb,off+4,none⟩=w8.frozen? ⟨nb,off+4,none⟩ from by unfold World.frozen?;rw [hnb9]).trans (NA8.out.fr (off+4))
   have hno:∀ q,q<mid\/w3.heap.size<=q->(Value.slice A3 n.kids.length c3).ownBlock≠some q:=fun q hq e=>by have h1:=hown q e;have h2:=h1.1;have h3:=h1.2;omega
   refine wpAnyT_two (i:=9) (j:=12) (by kernel_rfl) rfl rfl (fun K hK=>?_) (fun K hK=>?_)
   ·
    have j0:=hcell 0 (by omega)
    have j1:=hcell 1 (by omega)
    have j2:=hcell 2 (by omega)
    have j3:=hcell 3 (by omega)
    have j4:=hcell 4 (by omega)
    rw [Nat.add_zero] at j0
    have jf:=fun o=>hf8 o
    have jl:=hb8.1.2.2
    try simp only [nA,nB,nC]
    go_simp
    obtain⟨w10,e10⟩:∃ x,x=(((((w9.setCell ⟨b8,n.kids.length*5,none⟩ (.int .i64 1)).setCell ⟨b8,n.kids.length*5+1,none⟩ (.int .i64 4)).setCell ⟨b8,n.kids.length*5+2,none⟩ (.string ⟨#[]⟩)).setCell ⟨b8,n.kids.length*5+3,none⟩ (.string ⟨#[]⟩)).setCell ⟨b8,n.kids.length*5+4,none⟩ (.slice none 0 0)):=⟨_,rfl⟩
    rw [<- e10]
    have K10:=LH (show Bx b8 w9 w10 by rw [e10];exact(((((Bx.refl _ _).set (p:=⟨b8,n.kids.length*5,none⟩) (.inl rfl) _).set (p:=⟨b8,n.kids.length*5+1,none⟩) (.inl rfl) _).set (p:=⟨b8,n.kids.length*5+2,none⟩) (.inl rfl) _).set (p:=⟨b8,n.kids.length*5+3,none⟩) (.inl rfl) _).set (p:=⟨b8,n.kids.length*5+4,none⟩) (.inl rfl) _)
    have hz10:w10.heap.size<=w9.heap.size/\w9.heap.size<=w10.heap.size:=by rw [e10];simp [World.setCell]
    clear e10
    refine hK.out _ _ trivial (fun _=>?_)
    clear hK K j0 j1 j2 j3 j4 jf jl
    try simp only [nA,nB,nC,Act.put,nD,nE,nF]
    have k4:=(show w10.cell? ⟨nb,off+4,none⟩=w9.cell? ⟨nb,off+4,none⟩ from by unfold World.cell?;rw [K10.out.block nb (by omega) (by omega)]).trans hc4
    have kf:=(show w10.frozen? ⟨nb,off+4,none⟩=w9.frozen? ⟨nb,off+4,none⟩ from by unfold World.frozen?;rw [K10.out.block nb (by omega) (by omega)]).trans hf4
    have kl:nb<w10.heap.size:=by omega
    refine wpAnyT_step (i:=12) (by kernel_rfl) rfl (fun K hK=>?_)
    try simp only [nA,nB,nC]
    go_simp
    obtain⟨w11,e11⟩:∃ x,x=w10.setCell ⟨nb,off+4,none⟩ (.slice (some ⟨b8,0,none⟩) (n.kids.length+1) c8):=⟨_,rfl⟩
    rw [<- e11]
    have K11:=LH (show Bx nb w10 w11 by rw [e11];exact(Bx.refl _ _).set (p:=⟨nb,off+4,none⟩) (.inl rfl) _)
    have hz11:w11.heap.size<=w10.heap.size/\w10.heap.size<=w11.heap.size:=by rw [e11];simp [World.setCell]
    refine hK.out _ _ trivial (fun _=>?_)
    clear hK K k4 kf kl
    try simp only [nA,nB,nC,Act.put,nD,nE,nF]
    refine wpAnyT_done (by kernel_rfl) ?_ _
    have PB:=LH (show PBox w11 w3.heap.size (.slice AD pp.datas.length cD) by rw [e11];exact PBox.set4 ⟨_,_,_,_,_,_,_,((K10.out.block _ (by omega) (by omega)).trans (KQ9.out _ Rp6.out.lt (hno _ (by omega)))).trans Rp6.out⟩ hnn _ _ _)
    have MM:=LH ((M9.out.chg K10.out (by omega) hgl).chg K11.out (by omega) hgl)
    clear e11
    have KQ:=LH (fun q (h1:q<w6.heap.size) (h2:q<mid\/w3.heap.size<=q) (h3:q≠nb)=>show w11.heap[q]? =w6.heap[q]? from(K11.out.block q (by omega) (by omega)).trans ((K10.out.block q (by omega) (by omega)).trans (KQ9.out q h1 (hno q h2))))
    have RR:=LH (show Row w11 w.heap.size 47 #[.slice none 0 0,.int .i64 0,.int .i64 0,.string ⟨#[]⟩,.string ⟨#[]⟩,.slice none 0 0] from(KQ.out _ Rr6.out.lt (by omega) (by omega)).trans Rr6.out)
    have GX:=LH ((HD6.out.keep (w':=w11) (Nat.le_refl _) fun q h1 h2=>KQ.out q (by omega) (by omega) (by omega)).grx (by omega))
    have SZ:=HSZ
    clear hcell hf8 hc4 hf4
    obtain⟨op9,n9,s9,t9,A9,l9,c9,hR9⟩:=PB.out
    have RP9:=LH hR9
    clear hR9
    have hcp9:=fun i=>RP9.out.cell i
    have hlp9:=RP9.out.lt
    have hcr9:=fun i=>RR.out.cell i
    have hfr9:=fun i=>RR.out.frozen i
    have hlr9:=RR.out.lt
    go_wp2_with fail
    obtain⟨wf,ef,RF,hzf,KF⟩:=stored6 RR.out (.slice AD pp.datas.length cD) (.int .i64 op9) (.int .i64 n9) (.string s9) (.string t9) (.slice A9 l9 c9)
    rw [<- ef]
    clear ef hcp9 hcr9 hfr9
    have hcf:=fun i=>RF.out.cell i
    have MF:=LH (MM.out.chg KF.out (Nat.le_refl _) hgl)
    have GF:=LH (show Grx (fun q=>w.heap.size+1<=q) wf (w.heap.size+1) 40 3 (.slice AD pp.datas.length cD) pp.datas.length ((pp.datas).map GData.toD) from(GX.out.keepP (w':=wf) (by omega) fun q hq h=>KF.out.block q hq (by
      rcases h with h | h
      · have:=GX.out.own q h;omega
      · omega)).wide (by omega) fun q hq=>by omega)
    show BP _ _
    rw [HBP.out]
    refine bodyPost_ret (v:=.agg #[.slice AD pp.datas.length cD,.int .i64 op9,.int .i64 n9,.string s9,.string t9,.slice A9 l9 c9]) (by simp [results,Tryz.results18,go_sem,hcf]) rfl ?_
    exact⟨pp.datas,AD,cD,op9,n9,s9,t9,A9,l9,c9,rfl,SZ.out,GF.out,MF.out⟩
   ·
    have kl:nb<w9.heap.size:=by omega
    try simp only [nA,nB,nC]
    go_simp
    obtain⟨w10,e11⟩:∃ x,x=w9.setCell ⟨nb,off+4,none⟩ (.slice (some ⟨b8,0,none⟩) (n.kids.length+1) c8):=⟨_,rfl⟩
    rw [<- e11]
    have K10:=LH (show Bx nb w9 w10 by rw [e11];exact(Bx.refl _ _).set (p:=⟨nb,off+4,none⟩) (.inl rfl) _)
    have hz10:w10.heap.size<=w9.heap.size/\w9.heap.size<=w10.heap.size:=by rw [e11];simp [World.setCell]
    refine hK.out _ _ trivial (fun _=>?_)
    clear hK K kl
    try simp only [nA,nB,nC,Act.put,nD,nE,nF]
    have hcell2:∀ i,w10.cell? ⟨b8,i,none⟩=w9.cell? ⟨b8,i,none⟩:=fun i=>by unfold World.cell?;rw [K10.out.block b8 hb8.1.2.2 hb8.1.1]
    have hf82:∀ i,w10.frozen? ⟨b8,i,none⟩=false:=fun i=>(show w10.frozen? ⟨b8,i,none⟩=w9.frozen? ⟨b8,i,none⟩ from by unfold World.frozen?;rw [K10.out.block b8 hb8.1.2.2 hb8.1.1]).trans (hf8 i)
    have PB10:=LH (show PBox w10 w3.heap.size (.slice AD pp.datas.length cD) by rw [e11];exact PBox.set4 ⟨_,_,_,_,_,_,_,(KQ9.out _ Rp6.out.lt (hno _ (by omega))).trans Rp6.out⟩ hnn _ _ _)
    clear e11
    have j0:=hcell 0 (by omega)
    have j1:=hcell 1 (by omega)
    have j2:=hcell 2 (by omega)
    have j3:=hcell 3 (by omega)
    have j4:=hcell 4 (by omega)
    rw [Nat.add_zero] at j0
    have i0:=(hcell2 _).trans j0
    have i1:=(hcell2 _).trans j1
    have i2:=(hcell2 _).trans j2
    have i3:=(hcell2 _).trans j3
    have i4:=(hcell2 _).trans j4
    have jl:b8<w10.heap.size:=by omega
    clear j0 j1 j2 j3 j4 hcell2
    refine wpAnyT_step (i:=9) (by kernel_rfl) rfl (fun K hK=>?_)
    try simp only [nA,nB,nC]
    go_simp
    obtain⟨w11,e10⟩:∃ x,x=(((((w10.setCell ⟨b8,n.kids.length*5,none⟩ (.int .i64 1)).setCell ⟨b8,n.kids.length*5+1,none⟩ (.int .i64 4)).setCell ⟨b8,n.kids.length*5+2,none⟩ (.string ⟨#[]⟩)).setCell ⟨b8,n.kids.length*5+3,none⟩ (.string ⟨#[]⟩)).setCell ⟨b8,n.kids.length*5+4,none⟩ (.slice none 0 0)):=⟨_,rfl⟩
    rw [<- e10]
    have K11:=LH (show Bx b8 w10 w11 by rw [e10];exact(((((Bx.refl _ _).set (p:=⟨b8,n.kids.length*5,none⟩) (.inl rfl) _).set (p:=⟨b8,n.kids.length*5+1,none⟩) (.inl rfl) _).set (p:=⟨b8,n.kids.length*5+2,none⟩) (.inl rfl) _).set (p:=⟨b8,n.kids.length*5+3,none⟩) (.inl rfl) _).set (p:=⟨b8,n.kids.length*5+4,none⟩) (.inl rfl) _)
    have hz11:w11.heap.size<=w10.heap.size/\w10.heap.size<=w11.heap.size:=by rw [e10];simp [World.setCell]
    clear e10
    refine hK.out _ _ trivial (fun _=>?_)
    clear hK K i0 i1 i2 i3 i4 jl hf82
    try simp only [nA,nB,nC,Act.put,nD,nE,nF]
    refine wpAnyT_done (by kernel_rfl) ?_ _
    have PB:=LH (PB10.out.keep (K11.out.block _ (by omega) (by omega)))
    have MM:=LH ((M9.out.chg K10.out (by omega) hgl).chg K11.out (by omega) hgl)
    have KQ:=LH (fun q (h1:q<w6.heap.size) (h2:q<mid\/w3.heap.size<=q) (h3:q≠nb)=>show w11.heap[q]? =w6.heap[q]? from(K11.out.block q (by omega) (by omega)).trans ((K10.out.block q (by omega) (by omega)).trans (KQ9.out q h1 (hno q h2))))
    have RR:=LH (show Row w11 w.heap.size 47 #[.slice none 0 0,.int .i64 0,.int .i64 0,.string ⟨#[]⟩,.string ⟨#[]⟩,.slice none 0 0] from(KQ.out _ Rr6.out.lt (by omega) (by omega)).trans Rr6.out)
    have GX:=LH ((HD6.out.keep (w':=w11) (Nat.le_refl _) fun q h1 h2=>KQ.out q (by omega) (by omega) (by omega)).grx (by omega))
    have SZ:=HSZ
    clear hcell hf8 hc4 hf4
    obtain⟨op9,n9,s9,t9,A9,l9,c9,hR9⟩:=PB.out
    have RP9:=LH hR9
    clear hR9
    have hcp9:=fun i=>RP9.out.cell i
    have hlp9:=RP9.out.lt
    have hcr9:=fun i=>RR.out.cell i
    have hfr9:=fun i=>RR.out.frozen i
    have hlr9:=RR.out.lt
    go_wp2_with fail
    obtain⟨wf,ef,RF,hzf,KF⟩:=stored6 RR.out (.slice AD pp.datas.length cD) (.int .i64 op9) (.int .i64 n9) (.string s9) (.string t9) (.slice A9 l9 c9)
    rw [<- ef]
    clear ef hcp9 hcr9 hfr9
    have hcf:=fun i=>RF.out.cell i
    have MF:=LH (MM.out.chg KF.out (Nat.le_refl _) hgl)
    have GF:=LH (show Grx (fun q=>w.heap.size+1<=q) wf (w.heap.size+1) 40 3 (.slice AD pp.datas.length cD) pp.datas.length ((pp.datas).map GData.toD) from(GX.out.keepP (w':=wf) (by omega) fun q hq h=>KF.out.block q hq (by
      rcases h with h | h
      · have:=GX.out.own q h;omega
      · omega)).wide (by omega) fun q hq=>by omega)
    show BP _ _
    rw [HBP.out]
    refine bodyPost_ret (v:=.agg #[.slice AD pp.datas.length cD,.int .i64 op9,.int .i64 n9,.string s9,.string t9,.slice A9 l9 c9]) (by simp [results,Tryz.results18,go_sem,hcf]) rfl ?_
    exact⟨pp.datas,AD,cD,op9,n9,s9,t9,A9,l9,c9,rfl,SZ.out,GF.out,MF.out⟩
 by_cases x4:x=4
 ·
  have y0:(x ==0)=false:=beq_eq_false_iff_ne.2 (by omega)
  have y1:(x ==1)=false:=beq_eq_false_iff_ne.2 (by omega)
  have y2:(x ==2)=false:=beq_eq_false_iff_ne.2 (by omega)
  have y3:(x ==3)=false:=beq_eq_false_iff_ne.2 (by omega)
  have y4:(x ==4)=true:=beq_iff_eq.2 x4
  go_wp2_with fail
  obtain⟨w6b,e6b,Rw6,hz6b,K6b⟩:=boxed w6 9 #[.string ⟨#[120]⟩,.string ⟨#[113]⟩,.string ⟨#[]⟩]
  rw [<- e6b]
  clear e6b
  replace hz6b:w6.heap.size+1<=w6b.heap.size/\w6b.heap.size<=w6.heap.size+1:=by omega
  have M6b:=LH (M6.out.chg K6b.out (by omega) hgl)
  refine(drawPickD M6b.out [⟨#[120]⟩,⟨#[113]⟩,⟨#[]⟩] w6.heap.size (by omega) 9 Rw6.out (by simp) (by simp) (fun s=>True) (fun _ _=>trivial)).mono ?_
  rintro e w7 ⟨y,rfl,hy,hm7⟩
  have hz7:=hm7.size
  have KB:=LH (show Bx g w6 w7 from⟨hm7.bx.os.trans K6b.out.os,hm7.bx.tape.trans K6b.out.tape,hm7.bx.output.trans K6b.out.output,by omega,fun q hq hne=>(hm7.bx.block q (by omega) hne).trans (K6b.out.block q hq (by omega))⟩)
  have M7:=LH (M6b.out.trans hm7)
  clear hm7 K6b M6b Rw6
  have NA7:=LH (NA6.out.keep (by omega) (KB.out.block nb hnl6 (by omega)) fun b hb=>⟨hb,KB.out.block b (by have:=hb.2;omega) (by have:=hb.1;omega)⟩)
  have k0:=NA7.out.c0
  have k1:=NA7.out.c1
  have k2:=NA7.out.c2
  have k3:=NA7.out.c3
  have k4:=NA7.out.c4
  have kf:=NA7.out.fr
  have kl:=NA7.out.lt
  go_upto_region 30 with (fail)
  obtain⟨w8,e8⟩:∃ x,x=w7.setCell ⟨nb,off+3,none⟩ (.string y):=⟨_,rfl⟩
  rw [<- e8]
  have KN:=LH (show Bx nb w7 w8 by rw [e8];exact(Bx.refl _ _).set (p:=⟨nb,off+3,none⟩) (.inl rfl) _)
  have hz8:w8.heap.size<=w7.heap.size/\w7.heap.size<=w8.heap.size:=by rw [e8];simp [World.setCell]
  have PB:=LH (show PBox w8 w3.heap.size (.slice AD pp.datas.length cD) by rw [e8];exact PBox.set3 ⟨_,_,_,_,_,_,_,KB.out.row Rp6.out (by omega)⟩ hnn _)
  have MM:=LH (M7.out.chg KN.out (by omega) hgl)
  clear e8 k0 k1 k2 k3 k4 kf NA7
  have RR:=LH (KN.out.row (KB.out.row Rr6.out (by omega)) (by omega))
  have GX:=LH ((HD6.out.keep (w':=w8) (Nat.le_refl _) fun q h1 h2=>(KN.out.block q (by omega) (by omega)).trans (KB.out.block q (by omega) (by omega))).grx (by omega))
  have SZ:=HSZ
  obtain⟨op9,n9,s9,t9,A9,l9,c9,hR9⟩:=PB.out
  have RP9:=LH hR9
  clear hR9
  have hcp9:=fun i=>RP9.out.cell i
  have hlp9:=RP9.out.lt
  have hcr9:=fun i=>RR.out.cell i
  have hfr9:=fun i=>RR.out.frozen i
  have hlr9:=RR.out.lt
  go_wp2_with fail
  obtain⟨wf,ef,RF,hzf,KF⟩:=stored6 RR.out (.slice AD pp.datas.length cD) (.int .i64 op9) (.int .i64 n9) (.string s9) (.string t9) (.slice A9 l9 c9)
  rw [<- ef]
  clear ef hcp9 hcr9 hfr9
  have hcf:=fun i=>RF.out.cell i
  have MF:=LH (MM.out.chg KF.out (Nat.le_refl _) hgl)
  have GF:=LH (show Grx (fun q=>w.heap.size+1<=q) wf (w.heap.size+1) 40 3 (.slice AD pp.datas.length cD) pp.datas.length ((pp.datas).map GData.toD) from(GX.out.keepP (w':=wf) (by omega) fun q hq h=>KF.out.block q hq (by
    rcases h with h | h
    · have:=GX.out.own q h;omega
    · omega)).wide (by omega) fun q hq=>by omega)
  show BP _ _
  rw [HBP.out]
  refine bodyPost_ret (v:=.agg #[.slice AD pp.datas.length cD,.int .i64 op9,.int .i64 n9,.string s9,.string t9,.slice A9 l9 c9]) (by simp [results,Tryz.results18,go_sem,hcf]) rfl ?_
  exact⟨pp.datas,AD,cD,op9,n9,s9,t9,A9,l9,c9,rfl,SZ.out,GF.out,MF.out⟩
 by_cases x5:x=5
 ·
  have y0:(x ==0)=false:=beq_eq_false_iff_ne.2 (by omega)
  have y1:(x ==1)=false:=beq_eq_false_iff_ne.2 (by omega)
  have y2:(x ==2)=false:=beq_eq_false_iff_ne.2 (by omega)
  have y3:(x ==3)=false:=beq_eq_false_iff_ne.2 (by omega)
  have y4:(x ==4)=false:=beq_eq_false_iff_ne.2 (by omega)
  have y5:(x ==5)=true:=beq_iff_eq.2 x5
  by_cases hd0:pp.datas.length=0
  ·
   have dn:decide ((0:Int)<(pp.datas.length:Int))=false:=decide_eq_false (by omega)
   have hdn:¬ (0:Int)<(pp.datas.length:Int):=by omega
   have hcq:=fun i=>Rp6.out.cell i
   clear hd0
   go_upto_region 30 with (fail)
   clear hcq
   obtain⟨w7,e7⟩:∃ x,x=w6:=⟨_,rfl⟩
   have KB:=LH (show Bx g w6 w7 by rw [e7];exact Bx.refl _ _)
   have M7:=LH (show Dm l A c g w w7 by rw [e7];exact M6.out)
   have hz7:w6.heap.size<=w7.heap.size:=by rw [e7];exact Nat.le_refl _
   rw [<- e7]
   clear e7
   have KN:=LH (Bx.refl nb w7)
   have PB:=LH (show PBox w7 w3.heap.size (.slice AD pp.datas.length cD) from⟨_,_,_,_,_,_,_,KB.out.row Rp6.out (by omega)⟩)
   have MM:=M7
   have RR:=LH (KN.out.row (KB.out.row Rr6.out (by omega)) (by omega))
   have GX:=LH ((HD6.out.keep (w':=w7) (Nat.le_refl _) fun q h1 h2=>(KN.out.block q (by omega) (by omega)).trans (KB.out.block q (by omega) (by omega))).grx (by omega))
   have SZ:=HSZ
   obtain⟨op9,n9,s9,t9,A9,l9,c9,hR9⟩:=PB.out
   have RP9:=LH hR9
   clear hR9
   have hcp9:=fun i=>RP9.out.cell i
   have hlp9:=RP9.out.lt
   have hcr9:=fun i=>RR.out.cell i
   have hfr9:=fun i=>RR.out.frozen i
   have hlr9:=RR.out.lt
   go_wp2_with fail
   obtain⟨wf,ef,RF,hzf,KF⟩:=stored6 RR.out (.slice AD pp.datas.length cD) (.int .i64 op9) (.int .i64 n9) (.string s9) (.string t9) (.slice A9 l9 c9)
   rw [<- ef]
   clear ef hcp9 hcr9 hfr9
   have hcf:=fun i=>RF.out.cell i
   have MF:=LH (MM.out.chg KF.out (Nat.le_refl _) hgl)
   have GF:=LH (show Grx (fun q=>w.heap.size+1<=q) wf (w.heap.size+1) 40 3 (.slice AD pp.datas.length cD) pp.datas.length ((pp.datas).map GData.toD) from(GX.out.keepP (w':=wf) (by omega) fun q hq h=>KF.out.block q hq (by
     rcases h with h | h
     · have:=GX.out.own q h;omega
     · omega)).wide (by omega) fun q hq=>by omega)
   show BP _ _
   rw [HBP.out]
   refine bodyPost_ret (v:=.agg #[.slice AD pp.datas.length cD,.int .i64 op9,.int .i64 n9,.string s9,.string t9,.slice A9 l9 c9]) (by simp [results,Tryz.results18,go_sem,hcf]) rfl ?_
   exact⟨pp.datas,AD,cD,op9,n9,s9,t9,A9,l9,c9,rfl,SZ.out,GF.out,MF.out⟩
  have dn:decide ((0:Int)<(pp.datas.length:Int))=true:=decide_eq_true (by omega)
  have hdn:(0:Int)<(pp.datas.length:Int):=by omega
  obtain⟨db,-,-,eAD,hdb,-⟩:=HD6.out.put 0 (by omega)
  subst eAD
  have hcq:=fun i=>Rp6.out.cell i
  go_wp2_with fail
  clear hcq
  refine wp_region_T (fun x=>x.cell? ⟨w3.heap.size,0,none⟩=some (.slice (some ⟨db,0,none⟩) pp.datas.length cD)) 100 (by kernel_rfl) ?_
  obtain⟨w7,e7⟩:∃ x,x=w6.drew:=⟨_,rfl⟩
  rw [<- e7]
  have K7:=LH (show Below w6.heap.size w6 w7 by rw [e7];exact(Below.refl _ _).drew)
  have hz7:w7.heap.size<=w6.heap.size/\w6.heap.size<=w7.heap.size:=by rw [e7];exact⟨Nat.le_refl _,Nat.le_refl _⟩
  clear e7
  have M7:=LH (M6.out.below K7.out)
  have Rp7:=LH (Rp6.out.below K7.out Rp6.out.lt)
  have hS1:=Rp7.out.cell 0
  simp only [List.getElem?_toArray,List.getElem?_cons_zero] at hS1
  refine wpAnyT_tk (i:=0) (oi:=_) (v:=?tv13) rfl (Or.inl ⟨by rfl,?th13⟩) hS1 ?_
  case th13=>(intro x hSx;(try dsimp only at hSx);go_simp;(try with_reducible rfl))
  try simp only [nA,nB,nC,Act.put,nD,nE,nF]
  refine wpAnyT_tk (i:=1) (oi:=_) (v:=?tv14) rfl (Or.inl ⟨by rfl,?th14⟩) hS1 ?_
  case th14=>(intro x hSx;(try dsimp only at hSx);go_simp;(try with_reducible rfl))
  try simp only [nA,nB,nC,Act.put,nD,nE,nF]
  refine wpAnyT_tk (i:=2) (oi:=_) (v:=?tv15) rfl (Or.inl ⟨by rfl,?th15⟩) hS1 ?_
  case th15=>(intro x hSx;(try dsimp only at hSx);go_simp;(try with_reducible rfl))
  try simp only [nA,nB,nC,Act.put,nD,nE,nF]
  refine wpAnyT_tk (i:=3) (oi:=_) (v:=?tv16) rfl (Or.inl ⟨by rfl,?th16⟩) hS1 ?_
  case th16=>(intro x hSx;(try dsimp only at hSx);go_simp;(try with_reducible rfl))
  try simp only [nA,nB,nC,Act.put,nD,nE,nF]
  refine wpAnyT_tk (i:=4) (oi:=_) (v:=?tv17) rfl (Or.inl ⟨by rfl,?th17⟩) hS1 ?_
  case th17=>(intro x hSx;(try dsimp only at hSx);go_simp;(try with_reducible rfl))
  try simp only [nA,nB,nC,Act.put,nD,nE,nF]
  refine wpAnyT_tk (i:=5) (oi:=_) (v:=?tv18) rfl (Or.inl ⟨by rfl,?th18⟩) hS1 ?_
  case th18=>(intro x hSx;(try dsimp only at hSx);go_simp;(try with_reducible rfl))
  try simp only [nA,nB,nC,Act.put,nD,nE,nF]
  refine wpAnyT_step (i:=6) (by kernel_rfl) rfl (fun K hK=>?_)
  try simp only [nA,nB,nC]
  go_simp
  refine(drawBelowD M7.out (pp.datas.length:Int) (by omega) (by have:=HSZ.out.1;omega)).mono ?_
  rintro e w8 ⟨z,rfl,hz,hm8⟩
  have hz8:=hm8.size
  have M8:=LH (M7.out.trans hm8)
  have KB8:=LH (show Bx g w6 w8 from⟨hm8.bx.os.trans K7.out.os,hm8.bx.tape.trans K7.out.tape,hm8.bx.output.trans K7.out.output,by omega,fun q hq hne=>(hm8.bx.block q (by omega) hne).trans (K7.out.block q hq)⟩)
  have Rp8:=LH (KB8.out.row Rp6.out (by omega))
  have hS2:=Rp8.out.cell 0
  simp only [List.getElem?_toArray,List.getElem?_cons_zero] at hS2
  obtain⟨m,hm⟩:∃ m:Nat,z=(m:Int):=⟨z.toNat,by omega⟩
  subst hm
  have hml:m<pp.datas.length:=by omega
  clear hm8 Rp7 M7
  try simp only [nA,nB,nC]
  go_simp
  refine hK.out _ _ hS2 (fun hS3=>?_)
  clear hK K hS1 hS2
  try simp only [nA,nB,nC,Act.put,nD,nE,nF]
  refine wpAnyT_step (i:=7) (by kernel_rfl) rfl (fun K hK=>?_)
  try simp only [nA,nB,nC]
  go_simp
  refine hK.out _ _ hS3 (fun hS4=>?_)
  clear hK K hS3
  try simp only [nA,nB,nC,Act.put,nD,nE,nF]
  refine wpAnyT_step (i:=8) (by kernel_rfl) rfl (fun K hK=>?_)
  try simp only [nA,nB,nC]
  go_simp
  refine hK.out _ _ hS4 (fun hS5=>?_)
  clear hK K hS4
  try simp only [nA,nB,nC,Act.put,nD,nE,nF]
  refine wpAnyT_done (by kernel_rfl) ?_ _
  clear hS5 K7
  go_wp2_with fail
  refine(drawBelowD M8.out 4 (by omega) (by omega)).mono ?_
  rintro e wv ⟨r,rfl,hr,hmv⟩
  have hzv:=hmv.size
  have Mv:=LH (M8.out.trans hmv)
  have KBv:=LH (show Bx g w6 wv from⟨hmv.bx.os.trans KB8.out.os,hmv.bx.tape.trans KB8.out.tape,hmv.bx.output.trans KB8.out.output,by omega,fun q hq hne=>(hmv.bx.block q (by omega) hne).trans (KB8.out.block q hq hne)⟩)
  have Rpv:=LH (KBv.out.row Rp6.out (by omega))
  have Rrv:=LH (KBv.out.row Rr6.out (by omega))
  have HDv:=LH (HD6.out.keep (w':=wv) (Nat.le_refl _) fun q h1 h2=>KBv.out.block q (by omega) (by omega))
  obtain⟨db2,vc,S1,e2,hdb2,⟨d0,d1,d2⟩,hfz,hgo,hS1,hput⟩:=HDv.out.put m hml
  obtain rfl:db=db2:=by simpa using e2
  have HGO:=LH hgo
  have HS1:=LH hS1
  have HPUT:=LH hput
  have HC0:=LH (show pp.datas[m].cons.length<=200 from wideP_cons HPP.out.2 _ (List.getElem_mem hml))
  clear hmv M8 KB8 Rp8 hgo hS1 hput e2
  by_cases r0:r=0
  ·
   have z0:(r ==0)=true:=beq_iff_eq.2 r0
   go_wp2_with fail
   obtain⟨wvb,e6b,Rwv,hz6b,K6b⟩:=boxed wv 3 #[.int .i64 (-1),.int .i64 0,.int .i64 1,.int .i64 3,.int .i64 27]
   rw [<- e6b]
   clear e6b
   replace hz6b:wv.heap.size+1<=wvb.heap.size/\wvb.heap.size<=wv.heap.size+1:=by omega
   have Mvb:=LH (Mv.out.chg K6b.out (by omega) hgl)
   refine(drawPickIntD Mvb.out [(-1),0,1,3,27] wv.heap.size (by omega) 3 Rwv.out (by simp) (by simp) (fun n=> -9223372036854775808<=n/\n<=9223372036854775807) (by intro n hn;simp only [List.mem_cons,List.not_mem_nil,or_false] at hn;omega)).mono ?_
   rintro e w7 ⟨y,rfl,hy,hm7⟩
   have hz7:=hm7.size
   have KB:=LH (show Bx g wv w7 from⟨hm7.bx.os.trans K6b.out.os,hm7.bx.tape.trans K6b.out.tape,hm7.bx.output.trans K6b.out.output,by omega,fun q hq hne=>(hm7.bx.block q (by omega) hne).trans (K6b.out.block q hq (by omega))⟩)
   have M7:=LH (Mvb.out.trans hm7)
   clear hm7 K6b Mvb Rwv
   have hdb7:w7.heap[db]? =wv.heap[db]?:=KB.out.block db (by omega) (by omega)
   have k0:=(show w7.cell? ⟨db,m*3,none⟩=wv.cell? ⟨db,m*3,none⟩ from by unfold World.cell?;rw [hdb7]).trans d0
   have k1:=(show w7.cell? ⟨db,m*3+1,none⟩=wv.cell? ⟨db,m*3+1,none⟩ from by unfold World.cell?;rw [hdb7]).trans d1
   have k2:=(show w7.cell? ⟨db,m*3+2,none⟩=wv.cell? ⟨db,m*3+2,none⟩ from by unfold World.cell?;rw [hdb7]).trans d2
   have kf:∀ o,w7.frozen? ⟨db,o,none⟩=false:=fun o=>(show w7.frozen? ⟨db,o,none⟩=wv.frozen? ⟨db,o,none⟩ from by unfold World.frozen?;rw [hdb7]).trans (hfz o)
   have kl:db<w7.heap.size:=by omega
   go_upto_region 30 with (fail)
   obtain⟨w8,e8⟩:∃ x,x=w7.setCell ⟨db,m*3+1,none⟩ (.int .i64 y):=⟨_,rfl⟩
   rw [<- e8]
   have KN:=LH (show Bx db w7 w8 by rw [e8];exact(Bx.refl _ _).set (p:=⟨db,m*3+1,none⟩) (.inl rfl) _)
   have hz8:w8.heap.size<=w7.heap.size/\w7.heap.size<=w8.heap.size:=by rw [e8];simp [World.setCell]
   have PB:=LH (show PBox w8 w3.heap.size (.slice (some ⟨db,0,none⟩) pp.datas.length cD) from⟨_,_,_,_,_,_,_,KN.out.row (KB.out.row Rpv.out (by omega)) (by omega)⟩)
   have MM:=LH (M7.out.chg KN.out (by omega) hgl)
   have RR:=LH (KN.out.row (KB.out.row Rrv.out (by omega)) (by omega))
   have hkk:∀ q,q<wv.heap.size->q≠g->q≠db->w8.heap[q]? =wv.heap[q]?:=fun q h1 h2 h3=>(KN.out.block q (by omega) h3).trans (KB.out.block q h1 h2)
   have GX:=LH (HPUT.out w8 ⟨pp.datas[m].name,y,pp.datas[m].cons⟩ (vc) (.int .i64 y) 1 (by omega) rfl (fun cur hcur=>by rw [e8];exact Row.set (KB.out.row hcur (by omega)) (m*3+1) _) (by omega) (by omega) (fun q h1 h2 h3 _=>hkk q (by omega) (by omega) h3)
     ((gdO.keep (d:=⟨pp.datas[m].name,y,pp.datas[m].cons⟩) ⟨HGO.out.1,wf64R hy,HGO.out.2.2⟩ (fun q hq=>⟨⟨by have:=(HS1.out q hq).2.1;omega,(HS1.out q hq).2.2,(HS1.out q hq).1⟩,hkk q (by have:=(HS1.out q hq).2.1;omega) (by have:=(HS1.out q hq).1;omega) (HS1.out q hq).2.2⟩)).rd))
   have SZ:=LH (show(pp.datas.set m ⟨pp.datas[m].name,y,pp.datas[m].cons⟩).length<=200/\consN (pp.datas.set m ⟨pp.datas[m].name,y,pp.datas[m].cons⟩)<=30000 from⟨by rw [List.length_set];exact HSZ.out.1,by
     have h1:=consN_set pp.datas m ⟨pp.datas[m].name,y,pp.datas[m].cons⟩
     have h2:=HCN.out
     have h3:GCon.length0 ⟨pp.datas[m].name,y,pp.datas[m].cons⟩<=300:=by have:=HC0.out;show pp.datas[m].cons.length<=300;omega
     unfold GCon.length0 at h3
     omega⟩)
   clear e8 k0 k1 k2 kf
   obtain⟨op9,n9,s9,t9,A9,l9,c9,hR9⟩:=PB.out
   have RP9:=LH hR9
   clear hR9
   have hcp9:=fun i=>RP9.out.cell i
   have hlp9:=RP9.out.lt
   have hcr9:=fun i=>RR.out.cell i
   have hfr9:=fun i=>RR.out.frozen i
   have hlr9:=RR.out.lt
   go_wp2_with fail
   obtain⟨wf,ef,RF,hzf,KF⟩:=stored6 RR.out (.slice (some ⟨db,0,none⟩) pp.datas.length cD) (.int .i64 op9) (.int .i64 n9) (.string s9) (.string t9) (.slice A9 l9 c9)
   rw [<- ef]
   clear ef hcp9 hcr9 hfr9
   have hcf:=fun i=>RF.out.cell i
   have MF:=LH (MM.out.chg KF.out (Nat.le_refl _) hgl)
   have GF:=LH (show Grx (fun q=>w.heap.size+1<=q) wf (w.heap.size+1) 40 3 (.slice (some ⟨db,0,none⟩) pp.datas.length cD) pp.datas.length ((pp.datas.set m ⟨pp.datas[m].name,y,pp.datas[m].cons⟩).map GData.toD) from(GX.out.keepP (w':=wf) (by omega) fun q hq h=>KF.out.block q hq (by
     rcases h with h | h
     · have:=GX.out.own q h;omega
     · omega)).wide (by omega) fun q hq=>by omega)
   show BP _ _
   rw [HBP.out]
   refine bodyPost_ret (v:=.agg #[.slice (some ⟨db,0,none⟩) pp.datas.length cD,.int .i64 op9,.int .i64 n9,.string s9,.string t9,.slice A9 l9 c9]) (by simp [results,Tryz.results18,go_sem,hcf]) rfl ?_
   exact⟨pp.datas.set m ⟨pp.datas[m].name,y,pp.datas[m].cons⟩,(some ⟨db,0,none⟩),cD,op9,n9,s9,t9,A9,l9,c9,by rw [List.length_set],SZ.out,(by rw [List.length_set];exact GF.out),MF.out⟩
  by_cases r1:r=1
  ·
   have z0:(r ==0)=false:=beq_eq_false_iff_ne.2 (by omega)
   have z1:(r ==1)=true:=beq_iff_eq.2 r1
   go_wp2_with fail
   obtain⟨wvb,e6b,Rwv,hz6b,K6b⟩:=boxed wv 9 #[.string ⟨#[81]⟩,.string ⟨#[76,105,115,116]⟩,.string ⟨#[120]⟩,.string ⟨#[73,110,116]⟩]
   rw [<- e6b]
   clear e6b
   replace hz6b:wv.heap.size+1<=wvb.heap.size/\wvb.heap.size<=wv.heap.size+1:=by omega
   have Mvb:=LH (Mv.out.chg K6b.out (by omega) hgl)
   refine(drawPickD Mvb.out [⟨#[81]⟩,⟨#[76,105,115,116]⟩,⟨#[120]⟩,⟨#[73,110,116]⟩] wv.heap.size (by omega) 9 Rwv.out (by simp) (by simp) (fun s=>s.size<=8) (by intro s hs;simp at hs;rcases hs with rfl | rfl | rfl | rfl<;>decide)).mono ?_
   rintro e w7 ⟨y,rfl,hy,hm7⟩
   have hz7:=hm7.size
   have KB:=LH (show Bx g wv w7 from⟨hm7.bx.os.trans K6b.out.os,hm7.bx.tape.trans K6b.out.tape,hm7.bx.output.trans K6b.out.output,by omega,fun q hq hne=>(hm7.bx.block q (by omega) hne).trans (K6b.out.block q hq (by omega))⟩)
   have M7:=LH (Mvb.out.trans hm7)
   clear hm7 K6b Mvb Rwv
   have hdb7:w7.heap[db]? =wv.heap[db]?:=KB.out.block db (by omega) (by omega)
   have k0:=(show w7.cell? ⟨db,m*3,none⟩=wv.cell? ⟨db,m*3,none⟩ from by unfold World.cell?;rw [hdb7]).trans d0
   have k1:=(show w7.cell? ⟨db,m*3+1,none⟩=wv.cell? ⟨db,m*3+1,none⟩ from by unfold World.cell?;rw [hdb7]).trans d1
   have k2:=(show w7.cell? ⟨db,m*3+2,none⟩=wv.cell? ⟨db,m*3+2,none⟩ from by unfold World.cell?;rw [hdb7]).trans d2
   have kf:∀ o,w7.frozen? ⟨db,o,none⟩=false:=fun o=>(show w7.frozen? ⟨db,o,none⟩=wv.frozen? ⟨db,o,none⟩ from by unfold World.frozen?;rw [hdb7]).trans (hfz o)
   have kl:db<w7.heap.size:=by omega
   go_upto_region 30 with (fail)
   obtain⟨w8,e8⟩:∃ x,x=w7.setCell ⟨db,m*3,none⟩ (.string y):=⟨_,rfl⟩
   rw [<- e8]
   have KN:=LH (show Bx db w7 w8 by rw [e8];exact(Bx.refl _ _).set (p:=⟨db,m*3,none⟩) (.inl rfl) _)
   have hz8:w8.heap.size<=w7.heap.size/\w7.heap.size<=w8.heap.size:=by rw [e8];simp [World.setCell]
   have PB:=LH (show PBox w8 w3.heap.size (.slice (some ⟨db,0,none⟩) pp.datas.length cD) from⟨_,_,_,_,_,_,_,KN.out.row (KB.out.row Rpv.out (by omega)) (by omega)⟩)
   have MM:=LH (M7.out.chg KN.out (by omega) hgl)
   have RR:=LH (KN.out.row (KB.out.row Rrv.out (by omega)) (by omega))
   have hkk:∀ q,q<wv.heap.size->q≠g->q≠db->w8.heap[q]? =wv.heap[q]?:=fun q h1 h2 h3=>(KN.out.block q (by omega) h3).trans (KB.out.block q h1 h2)
   have GX:=LH (HPUT.out w8 ⟨y,pp.datas[m].vars,pp.datas[m].cons⟩ (vc) (.string y) 0 (by omega) rfl (fun cur hcur=>by rw [e8];exact Row.set (KB.out.row hcur (by omega)) (m*3+0) _) (by omega) (by omega) (fun q h1 h2 h3 _=>hkk q (by omega) (by omega) h3)
     ((gdO.keep (d:=⟨y,pp.datas[m].vars,pp.datas[m].cons⟩) ⟨short_le hy,HGO.out.2⟩ (fun q hq=>⟨⟨by have:=(HS1.out q hq).2.1;omega,(HS1.out q hq).2.2,(HS1.out q hq).1⟩,hkk q (by have:=(HS1.out q hq).2.1;omega) (by have:=(HS1.out q hq).1;omega) (HS1.out q hq).2.2⟩)).rd))
   have SZ:=LH (show(pp.datas.set m ⟨y,pp.datas[m].vars,pp.datas[m].cons⟩).length<=200/\consN (pp.datas.set m ⟨y,pp.datas[m].vars,pp.datas[m].cons⟩)<=30000 from⟨by rw [List.length_set];exact HSZ.out.1,by
     have h1:=consN_set pp.datas m ⟨y,pp.datas[m].vars,pp.datas[m].cons⟩
     have h2:=HCN.out
     have h3:GCon.length0 ⟨y,pp.datas[m].vars,pp.datas[m].cons⟩<=300:=by have:=HC0.out;show pp.datas[m].cons.length<=300;omega
     unfold GCon.length0 at h3
     omega⟩)
   clear e8 k0 k1 k2 kf
   obtain⟨op9,n9,s9,t9,A9,l9,c9,hR9⟩:=PB.out
   have RP9:=LH hR9
   clear hR9
   have hcp9:=fun i=>RP9.out.cell i
   have hlp9:=RP9.out.lt
   have hcr9:=fun i=>RR.out.cell i
   have hfr9:=fun i=>RR.out.frozen i
   have hlr9:=RR.out.lt
   go_wp2_with fail
   obtain⟨wf,ef,RF,hzf,KF⟩:=stored6 RR.out (.slice (some ⟨db,0,none⟩) pp.datas.length cD) (.int .i64 op9) (.int .i64 n9) (.string s9) (.string t9) (.slice A9 l9 c9)
   rw [<- ef]
   clear ef hcp9 hcr9 hfr9
   have hcf:=fun i=>RF.out.cell i
   have MF:=LH (MM.out.chg KF.out (Nat.le_refl _) hgl)
   have GF:=LH (show Grx (fun q=>w.heap.size+1<=q) wf (w.heap.size+1) 40 3 (.slice (some ⟨db,0,none⟩) pp.datas.length cD) pp.datas.length ((pp.datas.set m ⟨y,pp.datas[m].vars,pp.datas[m].cons⟩).map GData.toD) from(GX.out.keepP (w':=wf) (by omega) fun q hq h=>KF.out.block q hq (by
     rcases h with h | h
     · have:=GX.out.own q h;omega
     · omega)).wide (by omega) fun q hq=>by omega)
   show BP _ _
   rw [HBP.out]
   refine bodyPost_ret (v:=.agg #[.slice (some ⟨db,0,none⟩) pp.datas.length cD,.int .i64 op9,.int .i64 n9,.string s9,.string t9,.slice A9 l9 c9]) (by simp [results,Tryz.results18,go_sem,hcf]) rfl ?_
   exact⟨pp.datas.set m ⟨y,pp.datas[m].vars,pp.datas[m].cons⟩,(some ⟨db,0,none⟩),cD,op9,n9,s9,t9,A9,l9,c9,by rw [List.length_set],SZ.out,(by rw [List.length_set];exact GF.out),MF.out⟩
  by_cases r2:r=2
  ·
   have z0:(r ==0)=false:=beq_eq_false_iff_ne.2 (by omega)
   have z1:(r ==1)=false:=beq_eq_false_iff_ne.2 (by omega)
   have z2:(r ==2)=true:=beq_iff_eq.2 r2
   obtain⟨Av,cv,rfl,hatd⟩:=HGO.out.at
   obtain⟨-,-,-,cells,hoc,hos,hrc⟩:=HGO.out
   have HOC:=LH hoc
   have HOS:=LH hos
   have HRC:=LH hrc
   have hcn:=HC0.out
   clear hatd hoc hos hrc
   go_wp2_with fail
   refine wp_region_T (fun x=>x.cell? ⟨db,m*3+2,none⟩=some (.slice Av pp.datas[m].cons.length cv)) 22 (by kernel_rfl) ?_
   obtain⟨u0,e0⟩:∃ x,x=wv.drew:=⟨_,rfl⟩
   rw [<- e0]
   have K0:=LH (show Below wv.heap.size wv u0 by rw [e0];exact(Below.refl _ _).drew)
   have hzu0:u0.heap.size<=wv.heap.size/\wv.heap.size<=u0.heap.size:=by rw [e0];exact⟨Nat.le_refl _,Nat.le_refl _⟩
   clear e0
   have KU0:=LH (Bx.of_below (g:=g) K0.out (Nat.le_refl _))
   have MU0:=LH (Mv.out.below K0.out)
   have hcelld:∀ {x:World},x.heap[db]? =wv.heap[db]?->x.cell? ⟨db,m*3+2,none⟩=some (.slice Av pp.datas[m].cons.length cv):=fun h=>(show _=wv.cell? ⟨db,m*3+2,none⟩ from by unfold World.cell?;rw [h]).trans d2
   have hSu0:=hcelld (KU0.out.block db (by omega) (by omega))
   refine wpAnyT_tk (i:=0) (oi:=_) (v:=?tv19) rfl (Or.inl ⟨by rfl,?th19⟩) hSu0 ?_
   case th19=>(intro x hSx;(try dsimp only at hSx);go_simp;(try with_reducible rfl))
   try simp only [nA,nB,nC,Act.put,nD,nE,nF]
   refine wpAnyT_tk (i:=1) (oi:=_) (v:=?tv20) rfl (Or.inl ⟨by rfl,?th20⟩) hSu0 ?_
   case th20=>(intro x hSx;(try dsimp only at hSx);go_simp;(try with_reducible rfl))
   try simp only [nA,nB,nC,Act.put,nD,nE,nF]
   refine wpAnyT_tk (i:=2) (oi:=_) (v:=?tv21) rfl (Or.inl ⟨by rfl,?th21⟩) hSu0 ?_
   case th21=>(intro x hSx;(try dsimp only at hSx);go_simp;(try with_reducible rfl))
   try simp only [nA,nB,nC,Act.put,nD,nE,nF]
   refine wpAnyT_tk (i:=3) (oi:=_) (v:=?tv22) rfl (Or.inl ⟨by rfl,?th22⟩) hSu0 ?_
   case th22=>(intro x hSx;(try dsimp only at hSx);go_simp;(try with_reducible rfl))
   try simp only [nA,nB,nC,Act.put,nD,nE,nF]
   refine wpAnyT_tk (i:=4) (oi:=_) (v:=?tv23) rfl (Or.inl ⟨by rfl,?th23⟩) hSu0 ?_
   case th23=>(intro x hSx;(try dsimp only at hSx);go_simp;(try with_reducible rfl))
   try simp only [nA,nB,nC,Act.put,nD,nE,nF]
   refine wpAnyT_tk (i:=5) (oi:=_) (v:=?tv24) rfl (Or.inl ⟨by rfl,?th24⟩) hSu0 ?_
   case th24=>(intro x hSx;(try dsimp only at hSx);go_simp;(try with_reducible rfl))
   try simp only [nA,nB,nC,Act.put,nD,nE,nF]
   refine wpAnyT_tk (i:=8) (oi:=_) (v:=?tv25) rfl (Or.inl ⟨by rfl,?th25⟩) hSu0 ?_
   case th25=>(intro x hSx;(try dsimp only at hSx);go_simp;(try with_reducible rfl))
   try simp only [nA,nB,nC,Act.put,nD,nE,nF]
   refine wpAnyT_tk (i:=10) (oi:=_) (v:=?tv26) rfl (Or.inl ⟨by rfl,?th26⟩) hSu0 ?_
   case th26=>(intro x hSx;(try dsimp only at hSx);go_simp;(try with_reducible rfl))
   try simp only [nA,nB,nC,Act.put,nD,nE,nF]
   refine wpAnyT_tk (i:=12) (oi:=_) (v:=?tv27) rfl (Or.inl ⟨by rfl,?th27⟩) hSu0 ?_
   case th27=>(intro x hSx;(try dsimp only at hSx);go_simp;(try with_reducible rfl))
   try simp only [nA,nB,nC,Act.put,nD,nE,nF]
   refine wpAnyT_two (i:=6) (j:=13) (by kernel_rfl) rfl rfl (fun K hK=>?_) (fun K hK=>?_)
   ·
    try simp only [nA,nB,nC]
    go_simp
    obtain⟨u1,eu1,RNu1,hzu1,Ku1⟩:=boxed u0 9 #[.string ⟨#[81]⟩,.string ⟨#[78,105,108]⟩,.string ⟨#[120]⟩]
    rw [<- eu1]
    clear eu1
    replace hzu1:u0.heap.size+1<=u1.heap.size/\u1.heap.size<=u0.heap.size+1:=by omega
    have KUu1:=LH (show Bx g wv u1 from⟨Ku1.out.os.trans KU0.out.os,Ku1.out.tape.trans KU0.out.tape,Ku1.out.output.trans KU0.out.output,by omega,fun q hq hne=>(Ku1.out.block q (by omega) (by omega)).trans (KU0.out.block q hq hne)⟩)
    have MUu1:=LH (MU0.out.chg Ku1.out (by omega) hgl)
    have hSu1:=hcelld (KUu1.out.block db (by omega) (by omega))
    refine hK.out _ _ hSu1 (fun _=>?_)
    clear hK K
    try simp only [nA,nB,nC,Act.put,nD,nE,nF]
    refine wpAnyT_two (i:=7) (j:=13) (by kernel_rfl) rfl rfl (fun K hK=>?_) (fun K hK=>?_)
    ·
     try simp only [nA,nB,nC]
     go_simp
     refine(drawPickD MUu1.out [⟨#[81]⟩,⟨#[78,105,108]⟩,⟨#[120]⟩] u0.heap.size (by omega) 9 RNu1.out (by simp) (by simp) (fun s=>s.size<=8) (by intro s hs;simp at hs;rcases hs with rfl | rfl | rfl<;>decide)).mono ?_
     rintro e u2 ⟨y7,rfl,hy7,hmu2⟩
     have hzu2:=hmu2.size
     have KUu2:=LH (KUu1.out.trans hmu2.bx)
     have MUu2:=LH (MUu1.out.trans hmu2)
     have hSu2:=hcelld (KUu2.out.block db (by omega) (by omega))
     try simp only [nA,nB,nC]
     go_simp
     refine hK.out _ _ hSu2 (fun _=>?_)
     clear hK K
     try simp only [nA,nB,nC,Act.put,nD,nE,nF]
     refine wpAnyT_two (i:=9) (j:=13) (by kernel_rfl) rfl rfl (fun K hK=>?_) (fun K hK=>?_)
     ·
      try simp only [nA,nB,nC]
      go_simp
      refine(drawBelowD MUu2.out 6 (by omega) (by omega)).mono ?_
      rintro e u3 ⟨a9,rfl,ha9,hmu3⟩
      have hzu3:=hmu3.size
      have KUu3:=LH (KUu2.out.trans hmu3.bx)
      have MUu3:=LH (MUu2.out.trans hmu3)
      have hSu3:=hcelld (KUu3.out.block db (by omega) (by omega))
      try simp only [nA,nB,nC]
      go_simp
      refine hK.out _ _ hSu3 (fun _=>?_)
      clear hK K
      try simp only [nA,nB,nC,Act.put,nD,nE,nF]
      refine wpAnyT_two (i:=11) (j:=13) (by kernel_rfl) rfl rfl (fun K hK=>?_) (fun K hK=>?_)
      ·
       try simp only [nA,nB,nC]
       go_simp
       refine(drawBelowD MUu3.out 3 (by omega) (by omega)).mono ?_
       rintro e u4 ⟨a11,rfl,ha11,hmu4⟩
       have hzu4:=hmu4.size
       have KUu4:=LH (KUu3.out.trans hmu4.bx)
       have MUu4:=LH (MUu3.out.trans hmu4)
       have hSu4:=hcelld (KUu4.out.block db (by omega) (by omega))
       try simp only [nA,nB,nC]
       go_simp
       refine hK.out _ _ hSu4 (fun _=>?_)
       clear hK K
       try simp only [nA,nB,nC,Act.put,nD,nE,nF]
       refine wpAnyT_step (i:=13) (by kernel_rfl) rfl (fun K hK=>?_)
       try simp only [nA,nB,nC]
       go_simp
       obtain⟨u5,eu5,RNu5,hzu5,Ku5⟩:=boxed u4 9 #[.string ⟨#[]⟩,.string ⟨#[76,105,115,116]⟩,.string ⟨#[81]⟩]
       rw [<- eu5]
       clear eu5
       replace hzu5:u4.heap.size+1<=u5.heap.size/\u5.heap.size<=u4.heap.size+1:=by omega
       have KUu5:=LH (show Bx g wv u5 from⟨Ku5.out.os.trans KUu4.out.os,Ku5.out.tape.trans KUu4.out.tape,Ku5.out.output.trans KUu4.out.output,by omega,fun q hq hne=>(Ku5.out.block q (by omega) (by omega)).trans (KUu4.out.block q hq hne)⟩)
       have MUu5:=LH (MUu4.out.chg Ku5.out (by omega) hgl)
       have hSu5:=hcelld (KUu5.out.block db (by omega) (by omega))
       refine hK.out _ _ hSu5 (fun _=>?_)
       clear hK K
       try simp only [nA,nB,nC,Act.put,nD,nE,nF]
       refine wpAnyT_step (i:=14) (by kernel_rfl) rfl (fun K hK=>?_)
       try simp only [nA,nB,nC]
       go_simp
       refine(drawPickD MUu5.out [⟨#[]⟩,⟨#[76,105,115,116]⟩,⟨#[81]⟩] u4.heap.size (by omega) 9 RNu5.out (by simp) (by simp) (fun s=>s.size<=8) (by intro s hs;simp at hs;rcases hs with rfl | rfl | rfl<;>decide)).mono ?_
       rintro e u6 ⟨y14,rfl,hy14,hmu6⟩
       have hzu6:=hmu6.size
       have KUu6:=LH (KUu5.out.trans hmu6.bx)
       have MUu6:=LH (MUu5.out.trans hmu6)
       have hSu6:=hcelld (KUu6.out.block db (by omega) (by omega))
       try simp only [nA,nB,nC]
       go_simp
       refine hK.out _ _ hSu6 (fun _=>?_)
       clear hK K
       try simp only [nA,nB,nC,Act.put,nD,nE,nF]
       refine wpAnyT_tk (i:=15) (oi:=_) (v:=?tv28) rfl (Or.inl ⟨by rfl,?th28⟩) hSu6 ?_
       case th28=>(intro x hSx;(try dsimp only at hSx);go_simp;(try with_reducible rfl))
       try simp only [nA,nB,nC,Act.put,nD,nE,nF]
       refine wpAnyT_step (i:=16) (by kernel_rfl) rfl (fun K hK=>?_)
       try simp only [nA,nB,nC]
       go_simp
       obtain⟨x1,ex1,RT1,hx1,KX1⟩:=boxed u6 59 #[.int .i64 a9,.int .i64 a11,.string y14,.slice none 0 0]
       rw [<- ex1]
       clear ex1
       replace hx1:u6.heap.size+1<=x1.heap.size/\x1.heap.size<=u6.heap.size+1:=by omega
       have hSx1:=hcelld ((KX1.out.block db (by omega) (by omega)).trans (KUu6.out.block db (by omega) (by omega)))
       refine hK.out _ _ hSx1 (fun _=>?_)
       clear hK K
       try simp only [nA,nB,nC,Act.put,nD,nE,nF]
       refine wpAnyT_tk (i:=17) (oi:=_) (v:=?tv29) rfl (Or.inl ⟨by rfl,?th29⟩) hSx1 ?_
       case th29=>(intro x hSx;(try dsimp only at hSx);go_simp;(try with_reducible rfl))
       try simp only [nA,nB,nC,Act.put,nD,nE,nF]
       refine wpAnyT_step (i:=18) (by kernel_rfl) rfl (fun K hK=>?_)
       try simp only [nA,nB,nC]
       go_simp
       obtain⟨x2,ex2,RC2,hx2,KX2⟩:=boxed x1 37 #[.string y7,.slice (some ⟨u6.heap.size,0,none⟩) 1 1]
       rw [<- ex2]
       clear ex2
       replace hx2:x1.heap.size+1<=x2.heap.size/\x2.heap.size<=x1.heap.size+1:=by omega
       have KX:=LH (fun q (h1:q<wv.heap.size) (h2:q≠g)=>show x2.heap[q]? =wv.heap[q]? from(KX2.out.block q (by omega) (by omega)).trans ((KX1.out.block q (by omega) (by omega)).trans (KUu6.out.block q h1 h2)))
       have MX2:=LH ((MUu6.out.chg KX1.out (by omega) hgl).chg KX2.out (by omega) hgl)
       have RT2:=LH (KX2.out.row RT1.out (by omega))
       have hSx2:=hcelld (KX.out db (by omega) (by omega))
       have hos1:∀ q,(Value.slice Av pp.datas[m].cons.length cv).ownBlock=some q->lo<=q/\q<mid/\q≠db:=fun q hq=>HS1.out q (HOS.out q hq)
       have HO2:=LH (own_kp HOC.out fun q hq _ _=>KX.out q (by have:=hos1 q hq;omega) (by have:=hos1 q hq;omega))
       refine hK.out _ _ hSx2 (fun _=>?_)
       clear hK K
       try simp only [nA,nB,nC,Act.put,nD,nE,nF]
       refine wpAnyT_step (i:=19) (by kernel_rfl) rfl (fun K hK=>?_)
       refine step_append_C x2 rfl (.tmp 96) (.tmp 110) 38 rfl 37 zCo 2 40 Tryz.underlying38 (by kernel_rfl) rfl (by omega) 0 (.slice Av pp.datas[m].cons.length cv) pp.datas[m].cons.length cells HO2.out x1.heap.size 1 1 37 [.string y7,.slice (some ⟨u6.heap.size,0,none⟩) 1 1] rfl (by simp [Value.oneCell']) RC2.out (Nat.zero_le _) (by unfold maxLen;omega) (by omega) rfl rfl ?_
       intro A8 c8 x3 hG hGr
       have hx3:=hGr.size
       have HG3:=LH hG
       have GR3:=LH hGr
       have K3:=LH (fun q (h1:q<wv.heap.size) (h2:q≠g) (h3:(Value.slice Av pp.datas[m].cons.length cv).ownBlock≠some q)=>show x3.heap[q]? =wv.heap[q]? from(hGr.grow.block q (by omega) fun e=>h3 e.symm).trans (KX.out q h1 h2))
       have hndb:(Value.slice Av pp.datas[m].cons.length cv).ownBlock≠some db:=fun e=>(hos1 db e).2.2 rfl
       have hSx3:=hcelld (K3.out db (by omega) (by omega) hndb)
       have MX3:=LH (show Dm l A c g w x3 from by
         obtain⟨q8,hq8,hk8⟩:=hGr.bxe (B:=lo) (fun q hq=>(hos1 q hq).1) (by omega)
         exact MX2.out.chg hk8 (by omega) hgl)
       clear hG hGr
       refine hK.out _ _ hSx3 (fun _=>?_)
       clear hK K
       try simp only [nA,nB,nC,Act.put,nD,nE,nF]
       refine wpAnyT_step (i:=20) (by kernel_rfl) rfl (fun K hK=>?_)
       try simp only [nA,nB,nC]
       go_simp
       refine hK.out _ _ hSx3 (fun _=>?_)
       clear hK K
       try simp only [nA,nB,nC,Act.put,nD,nE,nF]
       refine wpAnyT_step (i:=21) (by kernel_rfl) rfl (fun K hK=>?_)
       try simp only [nA,nB,nC]
       go_simp
       refine hK.out _ _ hSx3 (fun _=>?_)
       clear hK K
       try simp only [nA,nB,nC,Act.put,nD,nE,nF]
       have kf:∀ o,x3.frozen? ⟨db,o,none⟩=false:=fun o=>(show x3.frozen? ⟨db,o,none⟩=wv.frozen? ⟨db,o,none⟩ from by unfold World.frozen?;rw [K3.out db (by omega) (by omega) hndb]).trans (hfz o)
       have kl:db<x3.heap.size:=by omega
       refine wpAnyT_last (by kernel_rfl) (by kernel_rfl) rfl (fun K hK=>?_)
       try simp only [nA,nB,nC]
       go_simp
       refine hK.out _ _ ?_
       clear hK K
       try simp only [nA,nB,nC,Act.put,nD,nE,nF]
       obtain⟨w8,e8⟩:∃ x,x=x3.setCell ⟨db,m*3+2,none⟩ (.slice A8 (pp.datas[m].cons.length+1) c8):=⟨_,rfl⟩
       rw [<- e8]
       have KN:=LH (show Bx db x3 w8 by rw [e8];exact(Bx.refl _ _).set (p:=⟨db,m*3+2,none⟩) (.inl rfl) _)
       have hz8:w8.heap.size<=x3.heap.size/\x3.heap.size<=w8.heap.size:=by rw [e8];simp [World.setCell]
       have hnor:∀ q,q<lo\/mid<=q->(Value.slice Av pp.datas[m].cons.length cv).ownBlock≠some q:=fun q hq e=>by have h1:=hos1 q e;omega
       have PB:=LH (show PBox w8 w3.heap.size (.slice (some ⟨db,0,none⟩) pp.datas.length cD) from⟨_,_,_,_,_,_,_,KN.out.row (show Row x3 w3.heap.size 47 #[.slice (some ⟨db,0,none⟩) pp.datas.length cD,.int .i64 pp.main.op,.int .i64 pp.main.n,.string pp.main.s,.string pp.main.t,.slice AM pp.main.kids.length cM] from(K3.out _ (by omega) (by omega) (hnor _ (by omega))).trans Rpv.out) (by omega)⟩)
       have MM:=LH (MX3.out.chg KN.out (by omega) hgl)
       have RR:=LH (KN.out.row (show Row x3 w.heap.size 47 #[.slice none 0 0,.int .i64 0,.int .i64 0,.string ⟨#[]⟩,.string ⟨#[]⟩,.slice none 0 0] from(K3.out _ (by omega) (by omega) (hnor _ (by omega))).trans Rrv.out) (by omega))
       have hown8:∀ q,(Value.slice A8 (pp.datas[m].cons.length+1) c8).ownBlock=some q->lo<=q/\q≠db/\q<x3.heap.size:=fun q hq=>by
        have h9:=(HG3.out.lt q hq).2
        rcases GR3.out.own with h | ⟨q',h,h'⟩
        · have h1:=hos1 q (h.symm.trans hq);omega
        · rw [h] at hq
          obtain rfl:q'=q:=by simpa using hq
          omega
       have hsl:=own_sl (own_kp (w':=w8) HG3.out fun q hq _ hl=>KN.out.block q hl (hown8 q hq).2.1) (xs:=(pp.datas[m].cons++[GCon.mk y7 [GTy.mk a9 a11 y14 []]]).map GCon.toD) (by simp) (S:=fun q=>q<w8.heap.size/\q≠db/\lo<=q) (fun q hq=>by have:=hown8 q hq;omega) (by
           rw [List.map_append]
           refine rdC_append (rdC_one1 (GCon.rd_mk (t:=GCon.mk y7 [GTy.mk a9 a11 y14 []]) (A1:=some ⟨u6.heap.size,0,none⟩) (c1:=1) ⟨short_le hy7,?_⟩) rfl) _ _ ?_
           · refine Sl.ofRow (KN.out.row ((GR3.out.row RT2.out (fun e=>by have:=hos1 _ e;omega))) (by omega)) (rdC_one1 (GTy.rd_mk (t:=GTy.mk a9 a11 y14 []) (A1:=none) (c1:=0) ⟨show(Lit.int .i64 a9).wf=true from int_wfS (by omega),show(Lit.int .i64 a11).wf=true from int_wfS (by omega),short_le hy14,Sl.nil (by unfold maxLen;omega)⟩) rfl) ⟨by omega,by omega,by omega⟩ (by simp) (by unfold maxLen;omega)
           · exact rdC_keep (fun q hq=>by
               have h1:=HS1.out q hq.1
               exact⟨⟨by omega,h1.2.2,h1.1⟩,(KN.out.block q (by omega) h1.2.2).trans (K3.out q (by omega) (by omega) hq.2)⟩) _ _ HRC.out)
       obtain⟨A9,c9,e9,h9⟩:=hsl
       obtain⟨rfl,rfl⟩:A8=A9/\c8=c9:=by simpa using e9
       have hrd:GData.toD ⟨pp.datas[m].name,pp.datas[m].vars,pp.datas[m].cons++[GCon.mk y7 [GTy.mk a9 a11 y14 []]]⟩ |>.rd w8 (fun q=>q<w8.heap.size/\q≠db/\lo<=q) [.string pp.datas[m].name,.int .i64 pp.datas[m].vars,.slice A8 (pp.datas[m].cons.length+1) c8]:=by
        have h:=GData.rd_mk (A1:=A8) (c1:=c8) (t:=⟨pp.datas[m].name,pp.datas[m].vars,pp.datas[m].cons++[GCon.mk y7 [GTy.mk a9 a11 y14 []]]⟩) ⟨HGO.out.1,HGO.out.2.1,h9⟩
        rw [show(GData.cons ⟨pp.datas[m].name,pp.datas[m].vars,pp.datas[m].cons++[GCon.mk y7 [GTy.mk a9 a11 y14 []]]⟩).length=pp.datas[m].cons.length+1 by simp] at h
        exact h
       have GX:=LH (HPUT.out w8 ⟨pp.datas[m].name,pp.datas[m].vars,pp.datas[m].cons++[GCon.mk y7 [GTy.mk a9 a11 y14 []]]⟩ (.slice A8 (pp.datas[m].cons.length+1) c8) (.slice A8 (pp.datas[m].cons.length+1) c8) 2 (by omega) rfl (fun cur hcur=>by rw [e8];exact Row.set ((K3.out db (by omega) (by omega) hndb).trans hcur) (m*3+2) _) (by omega) (by omega) (fun q h1 h2 h3 h4=>(KN.out.block q (by omega) h3).trans (K3.out q (by omega) (by omega) fun e=>h4 (HOS.out q e))) hrd)
       have SZ:=LH (show(pp.datas.set m ⟨pp.datas[m].name,pp.datas[m].vars,pp.datas[m].cons++[GCon.mk y7 [GTy.mk a9 a11 y14 []]]⟩).length<=200/\consN (pp.datas.set m ⟨pp.datas[m].name,pp.datas[m].vars,pp.datas[m].cons++[GCon.mk y7 [GTy.mk a9 a11 y14 []]]⟩)<=30000 from⟨by rw [List.length_set];exact HSZ.out.1,by
         have h1:=consN_set pp.datas m ⟨pp.datas[m].name,pp.datas[m].vars,pp.datas[m].cons++[GCon.mk y7 [GTy.mk a9 a11 y14 []]]⟩
         have h2:=HCN.out
         have h3:GCon.length0 ⟨pp.datas[m].name,pp.datas[m].vars,pp.datas[m].cons++[GCon.mk y7 [GTy.mk a9 a11 y14 []]]⟩<=300:=by
           show(pp.datas[m].cons++[_]).length<=300
           rw [List.length_append]
           simp
           omega
         unfold GCon.length0 at h3
         omega⟩)
       clear e8 kf
       obtain⟨op9,n9,s9,t9,A9,l9,c9,hR9⟩:=PB.out
       have RP9:=LH hR9
       clear hR9
       have hcp9:=fun i=>RP9.out.cell i
       have hlp9:=RP9.out.lt
       have hcr9:=fun i=>RR.out.cell i
       have hfr9:=fun i=>RR.out.frozen i
       have hlr9:=RR.out.lt
       go_wp2_with fail
       obtain⟨wf,ef,RF,hzf,KF⟩:=stored6 RR.out (.slice (some ⟨db,0,none⟩) pp.datas.length cD) (.int .i64 op9) (.int .i64 n9) (.string s9) (.string t9) (.slice A9 l9 c9)
       rw [<- ef]
       clear ef hcp9 hcr9 hfr9
       have hcf:=fun i=>RF.out.cell i
       have MF:=LH (MM.out.chg KF.out (Nat.le_refl _) hgl)
       have GF:=LH (show Grx (fun q=>w.heap.size+1<=q) wf (w.heap.size+1) 40 3 (.slice (some ⟨db,0,none⟩) pp.datas.length cD) pp.datas.length ((pp.datas.set m ⟨pp.datas[m].name,pp.datas[m].vars,pp.datas[m].cons++[GCon.mk y7 [GTy.mk a9 a11 y14 []]]⟩).map GData.toD) from(GX.out.keepP (w':=wf) (by omega) fun q hq h=>KF.out.block q hq (by
         rcases h with h | h
         · have:=GX.out.own q h;omega
         · omega)).wide (by omega) fun q hq=>by omega)
       show BP _ _
       rw [HBP.out]
       refine bodyPost_ret (v:=.agg #[.slice (some ⟨db,0,none⟩) pp.datas.length cD,.int .i64 op9,.int .i64 n9,.string s9,.string t9,.slice A9 l9 c9]) (by simp [results,Tryz.results18,go_sem,hcf]) rfl ?_
       exact⟨pp.datas.set m ⟨pp.datas[m].name,pp.datas[m].vars,pp.datas[m].cons++[GCon.mk y7 [GTy.mk a9 a11 y14 []]]⟩,(some ⟨db,0,none⟩),cD,op9,n9,s9,t9,A9,l9,c9,by rw [List.length_set],SZ.out,(by rw [List.length_set];exact GF.out),MF.out⟩
      ·
       try simp only [nA,nB,nC]
       go_simp
       obtain⟨u7,eu7,RNu7,hzu7,Ku7⟩:=boxed u3 9 #[.string ⟨#[]⟩,.string ⟨#[76,105,115,116]⟩,.string ⟨#[81]⟩]
       rw [<- eu7]
       clear eu7
       replace hzu7:u3.heap.size+1<=u7.heap.size/\u7.heap.size<=u3.heap.size+1:=by omega
       have KUu7:=LH (show Bx g wv u7 from⟨Ku7.out.os.trans KUu3.out.os,Ku7.out.tape.trans KUu3.out.tape,Ku7.out.output.trans KUu3.out.output,by omega,fun q hq hne=>(Ku7.out.block q (by omega) (by omega)).trans (KUu3.out.block q hq hne)⟩)
       have MUu7:=LH (MUu3.out.chg Ku7.out (by omega) hgl)
       have hSu7:=hcelld (KUu7.out.block db (by omega) (by omega))
       refine hK.out _ _ hSu7 (fun _=>?_)
       clear hK K
       try simp only [nA,nB,nC,Act.put,nD,nE,nF]
       refine wpAnyT_step (i:=11) (by kernel_rfl) rfl (fun K hK=>?_)
       try simp only [nA,nB,nC]
       go_simp
       refine(drawBelowD MUu7.out 3 (by omega) (by omega)).mono ?_
       rintro e u8 ⟨a11,rfl,ha11,hmu8⟩
       have hzu8:=hmu8.size
       have KUu8:=LH (KUu7.out.trans hmu8.bx)
       have MUu8:=LH (MUu7.out.trans hmu8)
       have RW13u8:=LH (hmu8.bx.row RNu7.out (by omega))
       have hSu8:=hcelld (KUu8.out.block db (by omega) (by omega))
       try simp only [nA,nB,nC]
       go_simp
       refine hK.out _ _ hSu8 (fun _=>?_)
       clear hK K
       try simp only [nA,nB,nC,Act.put,nD,nE,nF]
       refine wpAnyT_step (i:=14) (by kernel_rfl) rfl (fun K hK=>?_)
       try simp only [nA,nB,nC]
       go_simp
       refine(drawPickD MUu8.out [⟨#[]⟩,⟨#[76,105,115,116]⟩,⟨#[81]⟩] u3.heap.size (by omega) 9 RW13u8.out (by simp) (by simp) (fun s=>s.size<=8) (by intro s hs;simp at hs;rcases hs with rfl | rfl | rfl<;>decide)).mono ?_
       rintro e u9 ⟨y14,rfl,hy14,hmu9⟩
       have hzu9:=hmu9.size
       have KUu9:=LH (KUu8.out.trans hmu9.bx)
       have MUu9:=LH (MUu8.out.trans hmu9)
       have hSu9:=hcelld (KUu9.out.block db (by omega) (by omega))
       try simp only [nA,nB,nC]
       go_simp
       refine hK.out _ _ hSu9 (fun _=>?_)
       clear hK K
       try simp only [nA,nB,nC,Act.put,nD,nE,nF]
       refine wpAnyT_tk (i:=15) (oi:=_) (v:=?tv30) rfl (Or.inl ⟨by rfl,?th30⟩) hSu9 ?_
       case th30=>(intro x hSx;(try dsimp only at hSx);go_simp;(try with_reducible rfl))
       try simp only [nA,nB,nC,Act.put,nD,nE,nF]
       refine wpAnyT_step (i:=16) (by kernel_rfl) rfl (fun K hK=>?_)
       try simp only [nA,nB,nC]
       go_simp
       obtain⟨x1,ex1,RT1,hx1,KX1⟩:=boxed u9 59 #[.int .i64 a9,.int .i64 a11,.string y14,.slice none 0 0]
       rw [<- ex1]
       clear ex1
       replace hx1:u9.heap.size+1<=x1.heap.size/\x1.heap.size<=u9.heap.size+1:=by omega
       have hSx1:=hcelld ((KX1.out.block db (by omega) (by omega)).trans (KUu9.out.block db (by omega) (by omega)))
       refine hK.out _ _ hSx1 (fun _=>?_)
       clear hK K
       try simp only [nA,nB,nC,Act.put,nD,nE,nF]
       refine wpAnyT_tk (i:=17) (oi:=_) (v:=?tv31) rfl (Or.inl ⟨by rfl,?th31⟩) hSx1 ?_
       case th31=>(intro x hSx;(try dsimp only at hSx);go_simp;(try with_reducible rfl))
       try simp only [nA,nB,nC,Act.put,nD,nE,nF]
       refine wpAnyT_step (i:=18) (by kernel_rfl) rfl (fun K hK=>?_)
       try simp only [nA,nB,nC]
       go_simp
       obtain⟨x2,ex2,RC2,hx2,KX2⟩:=boxed x1 37 #[.string y7,.slice (some ⟨u9.heap.size,0,none⟩) 1 1]
       rw [<- ex2]
       clear ex2
       replace hx2:x1.heap.size+1<=x2.heap.size/\x2.heap.size<=x1.heap.size+1:=by omega
       have KX:=LH (fun q (h1:q<wv.heap.size) (h2:q≠g)=>show x2.heap[q]? =wv.heap[q]? from(KX2.out.block q (by omega) (by omega)).trans ((KX1.out.block q (by omega) (by omega)).trans (KUu9.out.block q h1 h2)))
       have MX2:=LH ((MUu9.out.chg KX1.out (by omega) hgl).chg KX2.out (by omega) hgl)
       have RT2:=LH (KX2.out.row RT1.out (by omega))
       have hSx2:=hcelld (KX.out db (by omega) (by omega))
       have hos1:∀ q,(Value.slice Av pp.datas[m].cons.length cv).ownBlock=some q->lo<=q/\q<mid/\q≠db:=fun q hq=>HS1.out q (HOS.out q hq)
       have HO2:=LH (own_kp HOC.out fun q hq _ _=>KX.out q (by have:=hos1 q hq;omega) (by have:=hos1 q hq;omega))
       refine hK.out _ _ hSx2 (fun _=>?_)
       clear hK K
       try simp only [nA,nB,nC,Act.put,nD,nE,nF]
       refine wpAnyT_step (i:=19) (by kernel_rfl) rfl (fun K hK=>?_)
       refine step_append_C x2 rfl (.tmp 96) (.tmp 110) 38 rfl 37 zCo 2 40 Tryz.underlying38 (by kernel_rfl) rfl (by omega) 0 (.slice Av pp.datas[m].cons.length cv) pp.datas[m].cons.length cells HO2.out x1.heap.size 1 1 37 [.string y7,.slice (some ⟨u9.heap.size,0,none⟩) 1 1] rfl (by simp [Value.oneCell']) RC2.out (Nat.zero_le _) (by unfold maxLen;omega) (by omega) rfl rfl ?_
       intro A8 c8 x3 hG hGr
       have hx3:=hGr.size
       have HG3:=LH hG
       have GR3:=LH hGr
       have K3:=LH (fun q (h1:q<wv.heap.size) (h2:q≠g) (h3:(Value.slice Av pp.datas[m].cons.length cv).ownBlock≠some q)=>show x3.heap[q]? =wv.heap[q]? from(hGr.grow.block q (by omega) fun e=>h3 e.symm).trans (KX.out q h1 h2))
       have hndb:(Value.slice Av pp.datas[m].cons.length cv).ownBlock≠some db:=fun e=>(hos1 db e).2.2 rfl
       have hSx3:=hcelld (K3.out db (by omega) (by omega) hndb)
       have MX3:=LH (show Dm l A c g w x3 from by
         obtain⟨q8,hq8,hk8⟩:=hGr.bxe (B:=lo) (fun q hq=>(hos1 q hq).1) (by omega)
         exact MX2.out.chg hk8 (by omega) hgl)
       clear hG hGr
       refine hK.out _ _ hSx3 (fun _=>?_)
       clear hK K
       try simp only [nA,nB,nC,Act.put,nD,nE,nF]
       refine wpAnyT_step (i:=20) (by kernel_rfl) rfl (fun K hK=>?_)
       try simp only [nA,nB,nC]
       go_simp
       refine hK.out _ _ hSx3 (fun _=>?_)
       clear hK K
       try simp only [nA,nB,nC,Act.put,nD,nE,nF]
       refine wpAnyT_step (i:=21) (by kernel_rfl) rfl (fun K hK=>?_)
       try simp only [nA,nB,nC]
       go_simp
       refine hK.out _ _ hSx3 (fun _=>?_)
       clear hK K
       try simp only [nA,nB,nC,Act.put,nD,nE,nF]
       have kf:∀ o,x3.frozen? ⟨db,o,none⟩=false:=fun o=>(show x3.frozen? ⟨db,o,none⟩=wv.frozen? ⟨db,o,none⟩ from by unfold World.frozen?;rw [K3.out db (by omega) (by omega) hndb]).trans (hfz o)
       have kl:db<x3.heap.size:=by omega
       refine wpAnyT_last (by kernel_rfl) (by kernel_rfl) rfl (fun K hK=>?_)
       try simp only [nA,nB,nC]
       go_simp
       refine hK.out _ _ ?_
       clear hK K
       try simp only [nA,nB,nC,Act.put,nD,nE,nF]
       obtain⟨w8,e8⟩:∃ x,x=x3.setCell ⟨db,m*3+2,none⟩ (.slice A8 (pp.datas[m].cons.length+1) c8):=⟨_,rfl⟩
       rw [<- e8]
       have KN:=LH (show Bx db x3 w8 by rw [e8];exact(Bx.refl _ _).set (p:=⟨db,m*3+2,none⟩) (.inl rfl) _)
       have hz8:w8.heap.size<=x3.heap.size/\x3.heap.size<=w8.heap.size:=by rw [e8];simp [World.setCell]
       have hnor:∀ q,q<lo\/mid<=q->(Value.slice Av pp.datas[m].cons.length cv).ownBlock≠some q:=fun q hq e=>by have h1:=hos1 q e;omega
       have PB:=LH (show PBox w8 w3.heap.size (.slice (some ⟨db,0,none⟩) pp.datas.length cD) from⟨_,_,_,_,_,_,_,KN.out.row (show Row x3 w3.heap.size 47 #[.slice (some ⟨db,0,none⟩) pp.datas.length cD,.int .i64 pp.main.op,.int .i64 pp.main.n,.string pp.main.s,.string pp.main.t,.slice AM pp.main.kids.length cM] from(K3.out _ (by omega) (by omega) (hnor _ (by omega))).trans Rpv.out) (by omega)⟩)
       have MM:=LH (MX3.out.chg KN.out (by omega) hgl)
       have RR:=LH (KN.out.row (show Row x3 w.heap.size 47 #[.slice none 0 0,.int .i64 0,.int .i64 0,.string ⟨#[]⟩,.string ⟨#[]⟩,.slice none 0 0] from(K3.out _ (by omega) (by omega) (hnor _ (by omega))).trans Rrv.out) (by omega))
       have hown8:∀ q,(Value.slice A8 (pp.datas[m].cons.length+1) c8).ownBlock=some q->lo<=q/\q≠db/\q<x3.heap.size:=fun q hq=>by
        have h9:=(HG3.out.lt q hq).2
        rcases GR3.out.own with h | ⟨q',h,h'⟩
        · have h1:=hos1 q (h.symm.trans hq);omega
        · rw [h] at hq
          obtain rfl:q'=q:=by simpa using hq
          omega
       have hsl:=own_sl (own_kp (w':=w8) HG3.out fun q hq _ hl=>KN.out.block q hl (hown8 q hq).2.1) (xs:=(pp.datas[m].cons++[GCon.mk y7 [GTy.mk a9 a11 y14 []]]).map GCon.toD) (by simp) (S:=fun q=>q<w8.heap.size/\q≠db/\lo<=q) (fun q hq=>by have:=hown8 q hq;omega) (by
           rw [List.map_append]
           refine rdC_append (rdC_one1 (GCon.rd_mk (t:=GCon.mk y7 [GTy.mk a9 a11 y14 []]) (A1:=some ⟨u9.heap.size,0,none⟩) (c1:=1) ⟨short_le hy7,?_⟩) rfl) _ _ ?_
           · refine Sl.ofRow (KN.out.row ((GR3.out.row RT2.out (fun e=>by have:=hos1 _ e;omega))) (by omega)) (rdC_one1 (GTy.rd_mk (t:=GTy.mk a9 a11 y14 []) (A1:=none) (c1:=0) ⟨show(Lit.int .i64 a9).wf=true from int_wfS (by omega),show(Lit.int .i64 a11).wf=true from int_wfS (by omega),short_le hy14,Sl.nil (by unfold maxLen;omega)⟩) rfl) ⟨by omega,by omega,by omega⟩ (by simp) (by unfold maxLen;omega)
           · exact rdC_keep (fun q hq=>by
               have h1:=HS1.out q hq.1
               exact⟨⟨by omega,h1.2.2,h1.1⟩,(KN.out.block q (by omega) h1.2.2).trans (K3.out q (by omega) (by omega) hq.2)⟩) _ _ HRC.out)
       obtain⟨A9,c9,e9,h9⟩:=hsl
       obtain⟨rfl,rfl⟩:A8=A9/\c8=c9:=by simpa using e9
       have hrd:GData.toD ⟨pp.datas[m].name,pp.datas[m].vars,pp.datas[m].cons++[GCon.mk y7 [GTy.mk a9 a11 y14 []]]⟩ |>.rd w8 (fun q=>q<w8.heap.size/\q≠db/\lo<=q) [.string pp.datas[m].name,.int .i64 pp.datas[m].vars,.slice A8 (pp.datas[m].cons.length+1) c8]:=by
        have h:=GData.rd_mk (A1:=A8) (c1:=c8) (t:=⟨pp.datas[m].name,pp.datas[m].vars,pp.datas[m].cons++[GCon.mk y7 [GTy.mk a9 a11 y14 []]]⟩) ⟨HGO.out.1,HGO.out.2.1,h9⟩
        rw [show(GData.cons ⟨pp.datas[m].name,pp.datas[m].vars,pp.datas[m].cons++[GCon.mk y7 [GTy.mk a9 a11 y14 []]]⟩).length=pp.datas[m].cons.length+1 by simp] at h
        exact h
       have GX:=LH (HPUT.out w8 ⟨pp.datas[m].name,pp.datas[m].vars,pp.datas[m].cons++[GCon.mk y7 [GTy.mk a9 a11 y14 []]]⟩ (.slice A8 (pp.datas[m].cons.length+1) c8) (.slice A8 (pp.datas[m].cons.length+1) c8) 2 (by omega) rfl (fun cur hcur=>by rw [e8];exact Row.set ((K3.out db (by omega) (by omega) hndb).trans hcur) (m*3+2) _) (by omega) (by omega) (fun q h1 h2 h3 h4=>(KN.out.block q (by omega) h3).trans (K3.out q (by omega) (by omega) fun e=>h4 (HOS.out q e))) hrd)
       have SZ:=LH (show(pp.datas.set m ⟨pp.datas[m].name,pp.datas[m].vars,pp.datas[m].cons++[GCon.mk y7 [GTy.mk a9 a11 y14 []]]⟩).length<=200/\consN (pp.datas.set m ⟨pp.datas[m].name,pp.datas[m].vars,pp.datas[m].cons++[GCon.mk y7 [GTy.mk a9 a11 y14 []]]⟩)<=30000 from⟨by rw [List.length_set];exact HSZ.out.1,by
         have h1:=consN_set pp.datas m ⟨pp.datas[m].name,pp.datas[m].vars,pp.datas[m].cons++[GCon.mk y7 [GTy.mk a9 a11 y14 []]]⟩
         have h2:=HCN.out
         have h3:GCon.length0 ⟨pp.datas[m].name,pp.datas[m].vars,pp.datas[m].cons++[GCon.mk y7 [GTy.mk a9 a11 y14 []]]⟩<=300:=by
           show(pp.datas[m].cons++[_]).length<=300
           rw [List.length_append]
           simp
           omega
         unfold GCon.length0 at h3
         omega⟩)
       clear e8 kf
       obtain⟨op9,n9,s9,t9,A9,l9,c9,hR9⟩:=PB.out
       have RP9:=LH hR9
       clear hR9
       have hcp9:=fun i=>RP9.out.cell i
       have hlp9:=RP9.out.lt
       have hcr9:=fun i=>RR.out.cell i
       have hfr9:=fun i=>RR.out.frozen i
       have hlr9:=RR.out.lt
       go_wp2_with fail
       obtain⟨wf,ef,RF,hzf,KF⟩:=stored6 RR.out (.slice (some ⟨db,0,none⟩) pp.datas.length cD) (.int .i64 op9) (.int .i64 n9) (.string s9) (.string t9) (.slice A9 l9 c9)
       rw [<- ef]
       clear ef hcp9 hcr9 hfr9
       have hcf:=fun i=>RF.out.cell i
       have MF:=LH (MM.out.chg KF.out (Nat.le_refl _) hgl)
       have GF:=LH (show Grx (fun q=>w.heap.size+1<=q) wf (w.heap.size+1) 40 3 (.slice (some ⟨db,0,none⟩) pp.datas.length cD) pp.datas.length ((pp.datas.set m ⟨pp.datas[m].name,pp.datas[m].vars,pp.datas[m].cons++[GCon.mk y7 [GTy.mk a9 a11 y14 []]]⟩).map GData.toD) from(GX.out.keepP (w':=wf) (by omega) fun q hq h=>KF.out.block q hq (by
         rcases h with h | h
         · have:=GX.out.own q h;omega
         · omega)).wide (by omega) fun q hq=>by omega)
       show BP _ _
       rw [HBP.out]
       refine bodyPost_ret (v:=.agg #[.slice (some ⟨db,0,none⟩) pp.datas.length cD,.int .i64 op9,.int .i64 n9,.string s9,.string t9,.slice A9 l9 c9]) (by simp [results,Tryz.results18,go_sem,hcf]) rfl ?_
       exact⟨pp.datas.set m ⟨pp.datas[m].name,pp.datas[m].vars,pp.datas[m].cons++[GCon.mk y7 [GTy.mk a9 a11 y14 []]]⟩,(some ⟨db,0,none⟩),cD,op9,n9,s9,t9,A9,l9,c9,by rw [List.length_set],SZ.out,(by rw [List.length_set];exact GF.out),MF.out⟩
     ·
      try simp only [nA,nB,nC]
      go_simp
      obtain⟨u10,eu10,RNu10,hzu10,Ku10⟩:=boxed u2 9 #[.string ⟨#[]⟩,.string ⟨#[76,105,115,116]⟩,.string ⟨#[81]⟩]
      rw [<- eu10]
      clear eu10
      replace hzu10:u2.heap.size+1<=u10.heap.size/\u10.heap.size<=u2.heap.size+1:=by omega
      have KUu10:=LH (show Bx g wv u10 from⟨Ku10.out.os.trans KUu2.out.os,Ku10.out.tape.trans KUu2.out.tape,Ku10.out.output.trans KUu2.out.output,by omega,fun q hq hne=>(Ku10.out.block q (by omega) (by omega)).trans (KUu2.out.block q hq hne)⟩)
      have MUu10:=LH (MUu2.out.chg Ku10.out (by omega) hgl)
      have hSu10:=hcelld (KUu10.out.block db (by omega) (by omega))
      refine hK.out _ _ hSu10 (fun _=>?_)
      clear hK K
      try simp only [nA,nB,nC,Act.put,nD,nE,nF]
      refine wpAnyT_step (i:=9) (by kernel_rfl) rfl (fun K hK=>?_)
      try simp only [nA,nB,nC]
      go_simp
      refine(drawBelowD MUu10.out 6 (by omega) (by omega)).mono ?_
      rintro e u11 ⟨a9,rfl,ha9,hmu11⟩
      have hzu11:=hmu11.size
      have KUu11:=LH (KUu10.out.trans hmu11.bx)
      have MUu11:=LH (MUu10.out.trans hmu11)
      have RW13u11:=LH (hmu11.bx.row RNu10.out (by omega))
      have hSu11:=hcelld (KUu11.out.block db (by omega) (by omega))
      try simp only [nA,nB,nC]
      go_simp
      refine hK.out _ _ hSu11 (fun _=>?_)
      clear hK K
      try simp only [nA,nB,nC,Act.put,nD,nE,nF]
      refine wpAnyT_step (i:=11) (by kernel_rfl) rfl (fun K hK=>?_)
      try simp only [nA,nB,nC]
      go_simp
      refine(drawBelowD MUu11.out 3 (by omega) (by omega)).mono ?_
      rintro e u12 ⟨a11,rfl,ha11,hmu12⟩
      have hzu12:=hmu12.size
      have KUu12:=LH (KUu11.out.trans hmu12.bx)
      have MUu12:=LH (MUu11.out.trans hmu12)
      have RW13u12:=LH (hmu12.bx.row RW13u11.out (by omega))
      have hSu12:=hcelld (KUu12.out.block db (by omega) (by omega))
      try simp only [nA,nB,nC]
      go_simp
      refine hK.out _ _ hSu12 (fun _=>?_)
      clear hK K
      try simp only [nA,nB,nC,Act.put,nD,nE,nF]
      refine wpAnyT_step (i:=14) (by kernel_rfl) rfl (fun K hK=>?_)
      try simp only [nA,nB,nC]
      go_simp
      refine(drawPickD MUu12.out [⟨#[]⟩,⟨#[76,105,115,116]⟩,⟨#[81]⟩] u2.heap.size (by omega) 9 RW13u12.out (by simp) (by simp) (fun s=>s.size<=8) (by intro s hs;simp at hs;rcases hs with rfl | rfl | rfl<;>decide)).mono ?_
      rintro e u13 ⟨y14,rfl,hy14,hmu13⟩
      have hzu13:=hmu13.size
      have KUu13:=LH (KUu12.out.trans hmu13.bx)
      have MUu13:=LH (MUu12.out.trans hmu13)
      have hSu13:=hcelld (KUu13.out.block db (by omega) (by omega))
      try simp only [nA,nB,nC]
      go_simp
      refine hK.out _ _ hSu13 (fun _=>?_)
      clear hK K
      try simp only [nA,nB,nC,Act.put,nD,nE,nF]
      refine wpAnyT_tk (i:=15) (oi:=_) (v:=?tv32) rfl (Or.inl ⟨by rfl,?th32⟩) hSu13 ?_
      case th32=>(intro x hSx;(try dsimp only at hSx);go_simp;(try with_reducible rfl))
      try simp only [nA,nB,nC,Act.put,nD,nE,nF]
      refine wpAnyT_step (i:=16) (by kernel_rfl) rfl (fun K hK=>?_)
      try simp only [nA,nB,nC]
      go_simp
      obtain⟨x1,ex1,RT1,hx1,KX1⟩:=boxed u13 59 #[.int .i64 a9,.int .i64 a11,.string y14,.slice none 0 0]
      rw [<- ex1]
      clear ex1
      replace hx1:u13.heap.size+1<=x1.heap.size/\x1.heap.size<=u13.heap.size+1:=by omega
      have hSx1:=hcelld ((KX1.out.block db (by omega) (by omega)).trans (KUu13.out.block db (by omega) (by omega)))
      refine hK.out _ _ hSx1 (fun _=>?_)
      clear hK K
      try simp only [nA,nB,nC,Act.put,nD,nE,nF]
      refine wpAnyT_tk (i:=17) (oi:=_) (v:=?tv33) rfl (Or.inl ⟨by rfl,?th33⟩) hSx1 ?_
      case th33=>(intro x hSx;(try dsimp only at hSx);go_simp;(try with_reducible rfl))
      try simp only [nA,nB,nC,Act.put,nD,nE,nF]
      refine wpAnyT_step (i:=18) (by kernel_rfl) rfl (fun K hK=>?_)
      try simp only [nA,nB,nC]
      go_simp
      obtain⟨x2,ex2,RC2,hx2,KX2⟩:=boxed x1 37 #[.string y7,.slice (some ⟨u13.heap.size,0,none⟩) 1 1]
      rw [<- ex2]
      clear ex2
      replace hx2:x1.heap.size+1<=x2.heap.size/\x2.heap.size<=x1.heap.size+1:=by omega
      have KX:=LH (fun q (h1:q<wv.heap.size) (h2:q≠g)=>show x2.heap[q]? =wv.heap[q]? from(KX2.out.block q (by omega) (by omega)).trans ((KX1.out.block q (by omega) (by omega)).trans (KUu13.out.block q h1 h2)))
      have MX2:=LH ((MUu13.out.chg KX1.out (by omega) hgl).chg KX2.out (by omega) hgl)
      have RT2:=LH (KX2.out.row RT1.out (by omega))
      have hSx2:=hcelld (KX.out db (by omega) (by omega))
      have hos1:∀ q,(Value.slice Av pp.datas[m].cons.length cv).ownBlock=some q->lo<=q/\q<mid/\q≠db:=fun q hq=>HS1.out q (HOS.out q hq)
      have HO2:=LH (own_kp HOC.out fun q hq _ _=>KX.out q (by have:=hos1 q hq;omega) (by have:=hos1 q hq;omega))
      refine hK.out _ _ hSx2 (fun _=>?_)
      clear hK K
      try simp only [nA,nB,nC,Act.put,nD,nE,nF]
      refine wpAnyT_step (i:=19) (by kernel_rfl) rfl (fun K hK=>?_)
      refine step_append_C x2 rfl (.tmp 96) (.tmp 110) 38 rfl 37 zCo 2 40 Tryz.underlying38 (by kernel_rfl) rfl (by omega) 0 (.slice Av pp.datas[m].cons.length cv) pp.datas[m].cons.length cells HO2.out x1.heap.size 1 1 37 [.string y7,.slice (some ⟨u13.heap.size,0,none⟩) 1 1] rfl (by simp [Value.oneCell']) RC2.out (Nat.zero_le _) (by unfold maxLen;omega) (by omega) rfl rfl ?_
      intro A8 c8 x3 hG hGr
      have hx3:=hGr.size
      have HG3:=LH hG
      have GR3:=LH hGr
      have K3:=LH (fun q (h1:q<wv.heap.size) (h2:q≠g) (h3:(Value.slice Av pp.datas[m].cons.length cv).ownBlock≠some q)=>show x3.heap[q]? =wv.heap[q]? from(hGr.grow.block q (by omega) fun e=>h3 e.symm).trans (KX.out q h1 h2))
      have hndb:(Value.slice Av pp.datas[m].cons.length cv).ownBlock≠some db:=fun e=>(hos1 db e).2.2 rfl
      have hSx3:=hcelld (K3.out db (by omega) (by omega) hndb)
      have MX3:=LH (show Dm l A c g w x3 from by
        obtain⟨q8,hq8,hk8⟩:=hGr.bxe (B:=lo) (fun q hq=>(hos1 q hq).1) (by omega)
        exact MX2.out.chg hk8 (by omega) hgl)
      clear hG hGr
      refine hK.out _ _ hSx3 (fun _=>?_)
      clear hK K
      try simp only [nA,nB,nC,Act.put,nD,nE,nF]
      refine wpAnyT_step (i:=20) (by kernel_rfl) rfl (fun K hK=>?_)
      try simp only [nA,nB,nC]
      go_simp
      refine hK.out _ _ hSx3 (fun _=>?_)
      clear hK K
      try simp only [nA,nB,nC,Act.put,nD,nE,nF]
      refine wpAnyT_step (i:=21) (by kernel_rfl) rfl (fun K hK=>?_)
      try simp only [nA,nB,nC]
      go_simp
      refine hK.out _ _ hSx3 (fun _=>?_)
      clear hK K
      try simp only [nA,nB,nC,Act.put,nD,nE,nF]
      have kf:∀ o,x3.frozen? ⟨db,o,none⟩=false:=fun o=>(show x3.frozen? ⟨db,o,none⟩=wv.frozen? ⟨db,o,none⟩ from by unfold World.frozen?;rw [K3.out db (by omega) (by omega) hndb]).trans (hfz o)
      have kl:db<x3.heap.size:=by omega
      refine wpAnyT_last (by kernel_rfl) (by kernel_rfl) rfl (fun K hK=>?_)
      try simp only [nA,nB,nC]
      go_simp
      refine hK.out _ _ ?_
      clear hK K
      try simp only [nA,nB,nC,Act.put,nD,nE,nF]
      obtain⟨w8,e8⟩:∃ x,x=x3.setCell ⟨db,m*3+2,none⟩ (.slice A8 (pp.datas[m].cons.length+1) c8):=⟨_,rfl⟩
      rw [<- e8]
      have KN:=LH (show Bx db x3 w8 by rw [e8];exact(Bx.refl _ _).set (p:=⟨db,m*3+2,none⟩) (.inl rfl) _)
      have hz8:w8.heap.size<=x3.heap.size/\x3.heap.size<=w8.heap.size:=by rw [e8];simp [World.setCell]
      have hnor:∀ q,q<lo\/mid<=q->(Value.slice Av pp.datas[m].cons.length cv).ownBlock≠some q:=fun q hq e=>by have h1:=hos1 q e;omega
      have PB:=LH (show PBox w8 w3.heap.size (.slice (some ⟨db,0,none⟩) pp.datas.length cD) from⟨_,_,_,_,_,_,_,KN.out.row (show Row x3 w3.heap.size 47 #[.slice (some ⟨db,0,none⟩) pp.datas.length cD,.int .i64 pp.main.op,.int .i64 pp.main.n,.string pp.main.s,.string pp.main.t,.slice AM pp.main.kids.length cM] from(K3.out _ (by omega) (by omega) (hnor _ (by omega))).trans Rpv.out) (by omega)⟩)
      have MM:=LH (MX3.out.chg KN.out (by omega) hgl)
      have RR:=LH (KN.out.row (show Row x3 w.heap.size 47 #[.slice none 0 0,.int .i64 0,.int .i64 0,.string ⟨#[]⟩,.string ⟨#[]⟩,.slice none 0 0] from(K3.out _ (by omega) (by omega) (hnor _ (by omega))).trans Rrv.out) (by omega))
      have hown8:∀ q,(Value.slice A8 (pp.datas[m].cons.length+1) c8).ownBlock=some q->lo<=q/\q≠db/\q<x3.heap.size:=fun q hq=>by
       have h9:=(HG3.out.lt q hq).2
       rcases GR3.out.own with h | ⟨q',h,h'⟩
       · have h1:=hos1 q (h.symm.trans hq);omega
       · rw [h] at hq
         obtain rfl:q'=q:=by simpa using hq
         omega
      have hsl:=own_sl (own_kp (w':=w8) HG3.out fun q hq _ hl=>KN.out.block q hl (hown8 q hq).2.1) (xs:=(pp.datas[m].cons++[GCon.mk y7 [GTy.mk a9 a11 y14 []]]).map GCon.toD) (by simp) (S:=fun q=>q<w8.heap.size/\q≠db/\lo<=q) (fun q hq=>by have:=hown8 q hq;omega) (by
          rw [List.map_append]
          refine rdC_append (rdC_one1 (GCon.rd_mk (t:=GCon.mk y7 [GTy.mk a9 a11 y14 []]) (A1:=some ⟨u13.heap.size,0,none⟩) (c1:=1) ⟨short_le hy7,?_⟩) rfl) _ _ ?_
          · refine Sl.ofRow (KN.out.row ((GR3.out.row RT2.out (fun e=>by have:=hos1 _ e;omega))) (by omega)) (rdC_one1 (GTy.rd_mk (t:=GTy.mk a9 a11 y14 []) (A1:=none) (c1:=0) ⟨show(Lit.int .i64 a9).wf=true from int_wfS (by omega),show(Lit.int .i64 a11).wf=true from int_wfS (by omega),short_le hy14,Sl.nil (by unfold maxLen;omega)⟩) rfl) ⟨by omega,by omega,by omega⟩ (by simp) (by unfold maxLen;omega)
          · exact rdC_keep (fun q hq=>by
              have h1:=HS1.out q hq.1
              exact⟨⟨by omega,h1.2.2,h1.1⟩,(KN.out.block q (by omega) h1.2.2).trans (K3.out q (by omega) (by omega) hq.2)⟩) _ _ HRC.out)
      obtain⟨A9,c9,e9,h9⟩:=hsl
      obtain⟨rfl,rfl⟩:A8=A9/\c8=c9:=by simpa using e9
      have hrd:GData.toD ⟨pp.datas[m].name,pp.datas[m].vars,pp.datas[m].cons++[GCon.mk y7 [GTy.mk a9 a11 y14 []]]⟩ |>.rd w8 (fun q=>q<w8.heap.size/\q≠db/\lo<=q) [.string pp.datas[m].name,.int .i64 pp.datas[m].vars,.slice A8 (pp.datas[m].cons.length+1) c8]:=by
       have h:=GData.rd_mk (A1:=A8) (c1:=c8) (t:=⟨pp.datas[m].name,pp.datas[m].vars,pp.datas[m].cons++[GCon.mk y7 [GTy.mk a9 a11 y14 []]]⟩) ⟨HGO.out.1,HGO.out.2.1,h9⟩
       rw [show(GData.cons ⟨pp.datas[m].name,pp.datas[m].vars,pp.datas[m].cons++[GCon.mk y7 [GTy.mk a9 a11 y14 []]]⟩).length=pp.datas[m].cons.length+1 by simp] at h
       exact h
      have GX:=LH (HPUT.out w8 ⟨pp.datas[m].name,pp.datas[m].vars,pp.datas[m].cons++[GCon.mk y7 [GTy.mk a9 a11 y14 []]]⟩ (.slice A8 (pp.datas[m].cons.length+1) c8) (.slice A8 (pp.datas[m].cons.length+1) c8) 2 (by omega) rfl (fun cur hcur=>by rw [e8];exact Row.set ((K3.out db (by omega) (by omega) hndb).trans hcur) (m*3+2) _) (by omega) (by omega) (fun q h1 h2 h3 h4=>(KN.out.block q (by omega) h3).trans (K3.out q (by omega) (by omega) fun e=>h4 (HOS.out q e))) hrd)
      have SZ:=LH (show(pp.datas.set m ⟨pp.datas[m].name,pp.datas[m].vars,pp.datas[m].cons++[GCon.mk y7 [GTy.mk a9 a11 y14 []]]⟩).length<=200/\consN (pp.datas.set m ⟨pp.datas[m].name,pp.datas[m].vars,pp.datas[m].cons++[GCon.mk y7 [GTy.mk a9 a11 y14 []]]⟩)<=30000 from⟨by rw [List.length_set];exact HSZ.out.1,by
        have h1:=consN_set pp.datas m ⟨pp.datas[m].name,pp.datas[m].vars,pp.datas[m].cons++[GCon.mk y7 [GTy.mk a9 a11 y14 []]]⟩
        have h2:=HCN.out
        have h3:GCon.length0 ⟨pp.datas[m].name,pp.datas[m].vars,pp.datas[m].cons++[GCon.mk y7 [GTy.mk a9 a11 y14 []]]⟩<=300:=by
          show(pp.datas[m].cons++[_]).length<=300
          rw [List.length_append]
          simp
          omega
        unfold GCon.length0 at h3
        omega⟩)
      clear e8 kf
      obtain⟨op9,n9,s9,t9,A9,l9,c9,hR9⟩:=PB.out
      have RP9:=LH hR9
      clear hR9
      have hcp9:=fun i=>RP9.out.cell i
      have hlp9:=RP9.out.lt
      have hcr9:=fun i=>RR.out.cell i
      have hfr9:=fun i=>RR.out.frozen i
      have hlr9:=RR.out.lt
      go_wp2_with fail
      obtain⟨wf,ef,RF,hzf,KF⟩:=stored6 RR.out (.slice (some ⟨db,0,none⟩) pp.datas.length cD) (.int .i64 op9) (.int .i64 n9) (.string s9) (.string t9) (.slice A9 l9 c9)
      rw [<- ef]
      clear ef hcp9 hcr9 hfr9
      have hcf:=fun i=>RF.out.cell i
      have MF:=LH (MM.out.chg KF.out (Nat.le_refl _) hgl)
      have GF:=LH (show Grx (fun q=>w.heap.size+1<=q) wf (w.heap.size+1) 40 3 (.slice (some ⟨db,0,none⟩) pp.datas.length cD) pp.datas.length ((pp.datas.set m ⟨pp.datas[m].name,pp.datas[m].vars,pp.datas[m].cons++[GCon.mk y7 [GTy.mk a9 a11 y14 []]]⟩).map GData.toD) from(GX.out.keepP (w':=wf) (by omega) fun q hq h=>KF.out.block q hq (by
        rcases h with h | h
        · have:=GX.out.own q h;omega
        · omega)).wide (by omega) fun q hq=>by omega)
      show BP _ _
      rw [HBP.out]
      refine bodyPost_ret (v:=.agg #[.slice (some ⟨db,0,none⟩) pp.datas.length cD,.int .i64 op9,.int .i64 n9,.string s9,.string t9,.slice A9 l9 c9]) (by simp [results,Tryz.results18,go_sem,hcf]) rfl ?_
      exact⟨pp.datas.set m ⟨pp.datas[m].name,pp.datas[m].vars,pp.datas[m].cons++[GCon.mk y7 [GTy.mk a9 a11 y14 []]]⟩,(some ⟨db,0,none⟩),cD,op9,n9,s9,t9,A9,l9,c9,by rw [List.length_set],SZ.out,(by rw [List.length_set];exact GF.out),MF.out⟩
    ·
     try simp only [nA,nB,nC]
     go_simp
     obtain⟨u14,eu14,RNu14,hzu14,Ku14⟩:=boxed u1 9 #[.string ⟨#[]⟩,.string ⟨#[76,105,115,116]⟩,.string ⟨#[81]⟩]
     rw [<- eu14]
     clear eu14
     replace hzu14:u1.heap.size+1<=u14.heap.size/\u14.heap.size<=u1.heap.size+1:=by omega
     have KUu14:=LH (show Bx g wv u14 from⟨Ku14.out.os.trans KUu1.out.os,Ku14.out.tape.trans KUu1.out.tape,Ku14.out.output.trans KUu1.out.output,by omega,fun q hq hne=>(Ku14.out.block q (by omega) (by omega)).trans (KUu1.out.block q hq hne)⟩)
     have MUu14:=LH (MUu1.out.chg Ku14.out (by omega) hgl)
     have RW6u14:=LH (Ku14.out.row RNu1.out (by omega))
     have hSu14:=hcelld (KUu14.out.block db (by omega) (by omega))
     refine hK.out _ _ hSu14 (fun _=>?_)
     clear hK K
     try simp only [nA,nB,nC,Act.put,nD,nE,nF]
     refine wpAnyT_step (i:=7) (by kernel_rfl) rfl (fun K hK=>?_)
     try simp only [nA,nB,nC]
     go_simp
     refine(drawPickD MUu14.out [⟨#[81]⟩,⟨#[78,105,108]⟩,⟨#[120]⟩] u0.heap.size (by omega) 9 RW6u14.out (by simp) (by simp) (fun s=>s.size<=8) (by intro s hs;simp at hs;rcases hs with rfl | rfl | rfl<;>decide)).mono ?_
     rintro e u15 ⟨y7,rfl,hy7,hmu15⟩
     have hzu15:=hmu15.size
     have KUu15:=LH (KUu14.out.trans hmu15.bx)
     have MUu15:=LH (MUu14.out.trans hmu15)
     have RW13u15:=LH (hmu15.bx.row RNu14.out (by omega))
     have hSu15:=hcelld (KUu15.out.block db (by omega) (by omega))
     try simp only [nA,nB,nC]
     go_simp
     refine hK.out _ _ hSu15 (fun _=>?_)
     clear hK K
     try simp only [nA,nB,nC,Act.put,nD,nE,nF]
     refine wpAnyT_step (i:=9) (by kernel_rfl) rfl (fun K hK=>?_)
     try simp only [nA,nB,nC]
     go_simp
     refine(drawBelowD MUu15.out 6 (by omega) (by omega)).mono ?_
     rintro e u16 ⟨a9,rfl,ha9,hmu16⟩
     have hzu16:=hmu16.size
     have KUu16:=LH (KUu15.out.trans hmu16.bx)
     have MUu16:=LH (MUu15.out.trans hmu16)
     have RW13u16:=LH (hmu16.bx.row RW13u15.out (by omega))
     have hSu16:=hcelld (KUu16.out.block db (by omega) (by omega))
     try simp only [nA,nB,nC]
     go_simp
     refine hK.out _ _ hSu16 (fun _=>?_)
     clear hK K
     try simp only [nA,nB,nC,Act.put,nD,nE,nF]
     refine wpAnyT_step (i:=11) (by kernel_rfl) rfl (fun K hK=>?_)
     try simp only [nA,nB,nC]
     go_simp
     refine(drawBelowD MUu16.out 3 (by omega) (by omega)).mono ?_
     rintro e u17 ⟨a11,rfl,ha11,hmu17⟩
     have hzu17:=hmu17.size
     have KUu17:=LH (KUu16.out.trans hmu17.bx)
     have MUu17:=LH (MUu16.out.trans hmu17)
     have RW13u17:=LH (hmu17.bx.row RW13u16.out (by omega))
     have hSu17:=hcelld (KUu17.out.block db (by omega) (by omega))
     try simp only [nA,nB,nC]
     go_simp
     refine hK.out _ _ hSu17 (fun _=>?_)
     clear hK K
     try simp only [nA,nB,nC,Act.put,nD,nE,nF]
     refine wpAnyT_step (i:=14) (by kernel_rfl) rfl (fun K hK=>?_)
     try simp only [nA,nB,nC]
     go_simp
     refine(drawPickD MUu17.out [⟨#[]⟩,⟨#[76,105,115,116]⟩,⟨#[81]⟩] u1.heap.size (by omega) 9 RW13u17.out (by simp) (by simp) (fun s=>s.size<=8) (by intro s hs;simp at hs;rcases hs with rfl | rfl | rfl<;>decide)).mono ?_
     rintro e u18 ⟨y14,rfl,hy14,hmu18⟩
     have hzu18:=hmu18.size
     have KUu18:=LH (KUu17.out.trans hmu18.bx)
     have MUu18:=LH (MUu17.out.trans hmu18)
     have hSu18:=hcelld (KUu18.out.block db (by omega) (by omega))
     try simp only [nA,nB,nC]
     go_simp
     refine hK.out _ _ hSu18 (fun _=>?_)
     clear hK K
     try simp only [nA,nB,nC,Act.put,nD,nE,nF]
     refine wpAnyT_tk (i:=15) (oi:=_) (v:=?tv34) rfl (Or.inl ⟨by rfl,?th34⟩) hSu18 ?_
     case th34=>(intro x hSx;(try dsimp only at hSx);go_simp;(try with_reducible rfl))
     try simp only [nA,nB,nC,Act.put,nD,nE,nF]
     refine wpAnyT_step (i:=16) (by kernel_rfl) rfl (fun K hK=>?_)
     try simp only [nA,nB,nC]
     go_simp
     obtain⟨x1,ex1,RT1,hx1,KX1⟩:=boxed u18 59 #[.int .i64 a9,.int .i64 a11,.string y14,.slice none 0 0]
     rw [<- ex1]
     clear ex1
     replace hx1:u18.heap.size+1<=x1.heap.size/\x1.heap.size<=u18.heap.size+1:=by omega
     have hSx1:=hcelld ((KX1.out.block db (by omega) (by omega)).trans (KUu18.out.block db (by omega) (by omega)))
     refine hK.out _ _ hSx1 (fun _=>?_)
     clear hK K
     try simp only [nA,nB,nC,Act.put,nD,nE,nF]
     refine wpAnyT_tk (i:=17) (oi:=_) (v:=?tv35) rfl (Or.inl ⟨by rfl,?th35⟩) hSx1 ?_
     case th35=>(intro x hSx;(try dsimp only at hSx);go_simp;(try with_reducible rfl))
     try simp only [nA,nB,nC,Act.put,nD,nE,nF]
     refine wpAnyT_step (i:=18) (by kernel_rfl) rfl (fun K hK=>?_)
     try simp only [nA,nB,nC]
     go_simp
     obtain⟨x2,ex2,RC2,hx2,KX2⟩:=boxed x1 37 #[.string y7,.slice (some ⟨u18.heap.size,0,none⟩) 1 1]
     rw [<- ex2]
     clear ex2
     replace hx2:x1.heap.size+1<=x2.heap.size/\x2.heap.size<=x1.heap.size+1:=by omega
     have KX:=LH (fun q (h1:q<wv.heap.size) (h2:q≠g)=>show x2.heap[q]? =wv.heap[q]? from(KX2.out.block q (by omega) (by omega)).trans ((KX1.out.block q (by omega) (by omega)).trans (KUu18.out.block q h1 h2)))
     have MX2:=LH ((MUu18.out.chg KX1.out (by omega) hgl).chg KX2.out (by omega) hgl)
     have RT2:=LH (KX2.out.row RT1.out (by omega))
     have hSx2:=hcelld (KX.out db (by omega) (by omega))
     have hos1:∀ q,(Value.slice Av pp.datas[m].cons.length cv).ownBlock=some q->lo<=q/\q<mid/\q≠db:=fun q hq=>HS1.out q (HOS.out q hq)
     have HO2:=LH (own_kp HOC.out fun q hq _ _=>KX.out q (by have:=hos1 q hq;omega) (by have:=hos1 q hq;omega))
     refine hK.out _ _ hSx2 (fun _=>?_)
     clear hK K
     try simp only [nA,nB,nC,Act.put,nD,nE,nF]
     refine wpAnyT_step (i:=19) (by kernel_rfl) rfl (fun K hK=>?_)
     refine step_append_C x2 rfl (.tmp 96) (.tmp 110) 38 rfl 37 zCo 2 40 Tryz.underlying38 (by kernel_rfl) rfl (by omega) 0 (.slice Av pp.datas[m].cons.length cv) pp.datas[m].cons.length cells HO2.out x1.heap.size 1 1 37 [.string y7,.slice (some ⟨u18.heap.size,0,none⟩) 1 1] rfl (by simp [Value.oneCell']) RC2.out (Nat.zero_le _) (by unfold maxLen;omega) (by omega) rfl rfl ?_
     intro A8 c8 x3 hG hGr
     have hx3:=hGr.size
     have HG3:=LH hG
     have GR3:=LH hGr
     have K3:=LH (fun q (h1:q<wv.heap.size) (h2:q≠g) (h3:(Value.slice Av pp.datas[m].cons.length cv).ownBlock≠some q)=>show x3.heap[q]? =wv.heap[q]? from(hGr.grow.block q (by omega) fun e=>h3 e.symm).trans (KX.out q h1 h2))
     have hndb:(Value.slice Av pp.datas[m].cons.length cv).ownBlock≠some db:=fun e=>(hos1 db e).2.2 rfl
     have hSx3:=hcelld (K3.out db (by omega) (by omega) hndb)
     have MX3:=LH (show Dm l A c g w x3 from by
       obtain⟨q8,hq8,hk8⟩:=hGr.bxe (B:=lo) (fun q hq=>(hos1 q hq).1) (by omega)
       exact MX2.out.chg hk8 (by omega) hgl)
     clear hG hGr
     refine hK.out _ _ hSx3 (fun _=>?_)
     clear hK K
     try simp only [nA,nB,nC,Act.put,nD,nE,nF]
     refine wpAnyT_step (i:=20) (by kernel_rfl) rfl (fun K hK=>?_)
     try simp only [nA,nB,nC]
     go_simp
     refine hK.out _ _ hSx3 (fun _=>?_)
     clear hK K
     try simp only [nA,nB,nC,Act.put,nD,nE,nF]
     refine wpAnyT_step (i:=21) (by kernel_rfl) rfl (fun K hK=>?_)
     try simp only [nA,nB,nC]
     go_simp
     refine hK.out _ _ hSx3 (fun _=>?_)
     clear hK K
     try simp only [nA,nB,nC,Act.put,nD,nE,nF]
     have kf:∀ o,x3.frozen? ⟨db,o,none⟩=false:=fun o=>(show x3.frozen? ⟨db,o,none⟩=wv.frozen? ⟨db,o,none⟩ from by unfold World.frozen?;rw [K3.out db (by omega) (by omega) hndb]).trans (hfz o)
     have kl:db<x3.heap.size:=by omega
     refine wpAnyT_last (by kernel_rfl) (by kernel_rfl) rfl (fun K hK=>?_)
     try simp only [nA,nB,nC]
     go_simp
     refine hK.out _ _ ?_
     clear hK K
     try simp only [nA,nB,nC,Act.put,nD,nE,nF]
     obtain⟨w8,e8⟩:∃ x,x=x3.setCell ⟨db,m*3+2,none⟩ (.slice A8 (pp.datas[m].cons.length+1) c8):=⟨_,rfl⟩
     rw [<- e8]
     have KN:=LH (show Bx db x3 w8 by rw [e8];exact(Bx.refl _ _).set (p:=⟨db,m*3+2,none⟩) (.inl rfl) _)
     have hz8:w8.heap.size<=x3.heap.size/\x3.heap.size<=w8.heap.size:=by rw [e8];simp [World.setCell]
     have hnor:∀ q,q<lo\/mid<=q->(Value.slice Av pp.datas[m].cons.length cv).ownBlock≠some q:=fun q hq e=>by have h1:=hos1 q e;omega
     have PB:=LH (show PBox w8 w3.heap.size (.slice (some ⟨db,0,none⟩) pp.datas.length cD) from⟨_,_,_,_,_,_,_,KN.out.row (show Row x3 w3.heap.size 47 #[.slice (some ⟨db,0,none⟩) pp.datas.length cD,.int .i64 pp.main.op,.int .i64 pp.main.n,.string pp.main.s,.string pp.main.t,.slice AM pp.main.kids.length cM] from(K3.out _ (by omega) (by omega) (hnor _ (by omega))).trans Rpv.out) (by omega)⟩)
     have MM:=LH (MX3.out.chg KN.out (by omega) hgl)
     have RR:=LH (KN.out.row (show Row x3 w.heap.size 47 #[.slice none 0 0,.int .i64 0,.int .i64 0,.string ⟨#[]⟩,.string ⟨#[]⟩,.slice none 0 0] from(K3.out _ (by omega) (by omega) (hnor _ (by omega))).trans Rrv.out) (by omega))
     have hown8:∀ q,(Value.slice A8 (pp.datas[m].cons.length+1) c8).ownBlock=some q->lo<=q/\q≠db/\q<x3.heap.size:=fun q hq=>by
      have h9:=(HG3.out.lt q hq).2
      rcases GR3.out.own with h | ⟨q',h,h'⟩
      · have h1:=hos1 q (h.symm.trans hq);omega
      · rw [h] at hq
        obtain rfl:q'=q:=by simpa using hq
        omega
     have hsl:=own_sl (own_kp (w':=w8) HG3.out fun q hq _ hl=>KN.out.block q hl (hown8 q hq).2.1) (xs:=(pp.datas[m].cons++[GCon.mk y7 [GTy.mk a9 a11 y14 []]]).map GCon.toD) (by simp) (S:=fun q=>q<w8.heap.size/\q≠db/\lo<=q) (fun q hq=>by have:=hown8 q hq;omega) (by
         rw [List.map_append]
         refine rdC_append (rdC_one1 (GCon.rd_mk (t:=GCon.mk y7 [GTy.mk a9 a11 y14 []]) (A1:=some ⟨u18.heap.size,0,none⟩) (c1:=1) ⟨short_le hy7,?_⟩) rfl) _ _ ?_
         · refine Sl.ofRow (KN.out.row ((GR3.out.row RT2.out (fun e=>by have:=hos1 _ e;omega))) (by omega)) (rdC_one1 (GTy.rd_mk (t:=GTy.mk a9 a11 y14 []) (A1:=none) (c1:=0) ⟨show(Lit.int .i64 a9).wf=true from int_wfS (by omega),show(Lit.int .i64 a11).wf=true from int_wfS (by omega),short_le hy14,Sl.nil (by unfold maxLen;omega)⟩) rfl) ⟨by omega,by omega,by omega⟩ (by simp) (by unfold maxLen;omega)
         · exact rdC_keep (fun q hq=>by
             have h1:=HS1.out q hq.1
             exact⟨⟨by omega,h1.2.2,h1.1⟩,(KN.out.block q (by omega) h1.2.2).trans (K3.out q (by omega) (by omega) hq.2)⟩) _ _ HRC.out)
     obtain⟨A9,c9,e9,h9⟩:=hsl
     obtain⟨rfl,rfl⟩:A8=A9/\c8=c9:=by simpa using e9
     have hrd:GData.toD ⟨pp.datas[m].name,pp.datas[m].vars,pp.datas[m].cons++[GCon.mk y7 [GTy.mk a9 a11 y14 []]]⟩ |>.rd w8 (fun q=>q<w8.heap.size/\q≠db/\lo<=q) [.string pp.datas[m].name,.int .i64 pp.datas[m].vars,.slice A8 (pp.datas[m].cons.length+1) c8]:=by
      have h:=GData.rd_mk (A1:=A8) (c1:=c8) (t:=⟨pp.datas[m].name,pp.datas[m].vars,pp.datas[m].cons++[GCon.mk y7 [GTy.mk a9 a11 y14 []]]⟩) ⟨HGO.out.1,HGO.out.2.1,h9⟩
      rw [show(GData.cons ⟨pp.datas[m].name,pp.datas[m].vars,pp.datas[m].cons++[GCon.mk y7 [GTy.mk a9 a11 y14 []]]⟩).length=pp.datas[m].cons.length+1 by simp] at h
      exact h
     have GX:=LH (HPUT.out w8 ⟨pp.datas[m].name,pp.datas[m].vars,pp.datas[m].cons++[GCon.mk y7 [GTy.mk a9 a11 y14 []]]⟩ (.slice A8 (pp.datas[m].cons.length+1) c8) (.slice A8 (pp.datas[m].cons.length+1) c8) 2 (by omega) rfl (fun cur hcur=>by rw [e8];exact Row.set ((K3.out db (by omega) (by omega) hndb).trans hcur) (m*3+2) _) (by omega) (by omega) (fun q h1 h2 h3 h4=>(KN.out.block q (by omega) h3).trans (K3.out q (by omega) (by omega) fun e=>h4 (HOS.out q e))) hrd)
     have SZ:=LH (show(pp.datas.set m ⟨pp.datas[m].name,pp.datas[m].vars,pp.datas[m].cons++[GCon.mk y7 [GTy.mk a9 a11 y14 []]]⟩).length<=200/\consN (pp.datas.set m ⟨pp.datas[m].name,pp.datas[m].vars,pp.datas[m].cons++[GCon.mk y7 [GTy.mk a9 a11 y14 []]]⟩)<=30000 from⟨by rw [List.length_set];exact HSZ.out.1,by
       have h1:=consN_set pp.datas m ⟨pp.datas[m].name,pp.datas[m].vars,pp.datas[m].cons++[GCon.mk y7 [GTy.mk a9 a11 y14 []]]⟩
       have h2:=HCN.out
       have h3:GCon.length0 ⟨pp.datas[m].name,pp.datas[m].vars,pp.datas[m].cons++[GCon.mk y7 [GTy.mk a9 a11 y14 []]]⟩<=300:=by
         show(pp.datas[m].cons++[_]).length<=300
         rw [List.length_append]
         simp
         omega
       unfold GCon.length0 at h3
       omega⟩)
     clear e8 kf
     obtain⟨op9,n9,s9,t9,A9,l9,c9,hR9⟩:=PB.out
     have RP9:=LH hR9
     clear hR9
     have hcp9:=fun i=>RP9.out.cell i
     have hlp9:=RP9.out.lt
     have hcr9:=fun i=>RR.out.cell i
     have hfr9:=fun i=>RR.out.frozen i
     have hlr9:=RR.out.lt
     go_wp2_with fail
     obtain⟨wf,ef,RF,hzf,KF⟩:=stored6 RR.out (.slice (some ⟨db,0,none⟩) pp.datas.length cD) (.int .i64 op9) (.int .i64 n9) (.string s9) (.string t9) (.slice A9 l9 c9)
     rw [<- ef]
     clear ef hcp9 hcr9 hfr9
     have hcf:=fun i=>RF.out.cell i
     have MF:=LH (MM.out.chg KF.out (Nat.le_refl _) hgl)
     have GF:=LH (show Grx (fun q=>w.heap.size+1<=q) wf (w.heap.size+1) 40 3 (.slice (some ⟨db,0,none⟩) pp.datas.length cD) pp.datas.length ((pp.datas.set m ⟨pp.datas[m].name,pp.datas[m].vars,pp.datas[m].cons++[GCon.mk y7 [GTy.mk a9 a11 y14 []]]⟩).map GData.toD) from(GX.out.keepP (w':=wf) (by omega) fun q hq h=>KF.out.block q hq (by
       rcases h with h | h
       · have:=GX.out.own q h;omega
       · omega)).wide (by omega) fun q hq=>by omega)
     show BP _ _
     rw [HBP.out]
     refine bodyPost_ret (v:=.agg #[.slice (some ⟨db,0,none⟩) pp.datas.length cD,.int .i64 op9,.int .i64 n9,.string s9,.string t9,.slice A9 l9 c9]) (by simp [results,Tryz.results18,go_sem,hcf]) rfl ?_
     exact⟨pp.datas.set m ⟨pp.datas[m].name,pp.datas[m].vars,pp.datas[m].cons++[GCon.mk y7 [GTy.mk a9 a11 y14 []]]⟩,(some ⟨db,0,none⟩),cD,op9,n9,s9,t9,A9,l9,c9,by rw [List.length_set],SZ.out,(by rw [List.length_set];exact GF.out),MF.out⟩
   ·
    try simp only [nA,nB,nC]
    go_simp
    obtain⟨u19,eu19,RNu19,hzu19,Ku19⟩:=boxed u0 9 #[.string ⟨#[]⟩,.string ⟨#[76,105,115,116]⟩,.string ⟨#[81]⟩]
    rw [<- eu19]
    clear eu19
    replace hzu19:u0.heap.size+1<=u19.heap.size/\u19.heap.size<=u0.heap.size+1:=by omega
    have KUu19:=LH (show Bx g wv u19 from⟨Ku19.out.os.trans KU0.out.os,Ku19.out.tape.trans KU0.out.tape,Ku19.out.output.trans KU0.out.output,by omega,fun q hq hne=>(Ku19.out.block q (by omega) (by omega)).trans (KU0.out.block q hq hne)⟩)
    have MUu19:=LH (MU0.out.chg Ku19.out (by omega) hgl)
    have hSu19:=hcelld (KUu19.out.block db (by omega) (by omega))
    refine hK.out _ _ hSu19 (fun _=>?_)
    clear hK K
    try simp only [nA,nB,nC,Act.put,nD,nE,nF]
    refine wpAnyT_step (i:=6) (by kernel_rfl) rfl (fun K hK=>?_)
    try simp only [nA,nB,nC]
    go_simp
    obtain⟨u20,eu20,RNu20,hzu20,Ku20⟩:=boxed u19 9 #[.string ⟨#[81]⟩,.string ⟨#[78,105,108]⟩,.string ⟨#[120]⟩]
    rw [<- eu20]
    clear eu20
    replace hzu20:u19.heap.size+1<=u20.heap.size/\u20.heap.size<=u19.heap.size+1:=by omega
    have KUu20:=LH (show Bx g wv u20 from⟨Ku20.out.os.trans KUu19.out.os,Ku20.out.tape.trans KUu19.out.tape,Ku20.out.output.trans KUu19.out.output,by omega,fun q hq hne=>(Ku20.out.block q (by omega) (by omega)).trans (KUu19.out.block q hq hne)⟩)
    have MUu20:=LH (MUu19.out.chg Ku20.out (by omega) hgl)
    have RW13u20:=LH (Ku20.out.row RNu19.out (by omega))
    have hSu20:=hcelld (KUu20.out.block db (by omega) (by omega))
    refine hK.out _ _ hSu20 (fun _=>?_)
    clear hK K
    try simp only [nA,nB,nC,Act.put,nD,nE,nF]
    refine wpAnyT_step (i:=7) (by kernel_rfl) rfl (fun K hK=>?_)
    try simp only [nA,nB,nC]
    go_simp
    refine(drawPickD MUu20.out [⟨#[81]⟩,⟨#[78,105,108]⟩,⟨#[120]⟩] u19.heap.size (by omega) 9 RNu20.out (by simp) (by simp) (fun s=>s.size<=8) (by intro s hs;simp at hs;rcases hs with rfl | rfl | rfl<;>decide)).mono ?_
    rintro e u21 ⟨y7,rfl,hy7,hmu21⟩
    have hzu21:=hmu21.size
    have KUu21:=LH (KUu20.out.trans hmu21.bx)
    have MUu21:=LH (MUu20.out.trans hmu21)
    have RW13u21:=LH (hmu21.bx.row RW13u20.out (by omega))
    have hSu21:=hcelld (KUu21.out.block db (by omega) (by omega))
    try simp only [nA,nB,nC]
    go_simp
    refine hK.out _ _ hSu21 (fun _=>?_)
    clear hK K
    try simp only [nA,nB,nC,Act.put,nD,nE,nF]
    refine wpAnyT_step (i:=9) (by kernel_rfl) rfl (fun K hK=>?_)
    try simp only [nA,nB,nC]
    go_simp
    refine(drawBelowD MUu21.out 6 (by omega) (by omega)).mono ?_
    rintro e u22 ⟨a9,rfl,ha9,hmu22⟩
    have hzu22:=hmu22.size
    have KUu22:=LH (KUu21.out.trans hmu22.bx)
    have MUu22:=LH (MUu21.out.trans hmu22)
    have RW13u22:=LH (hmu22.bx.row RW13u21.out (by omega))
    have hSu22:=hcelld (KUu22.out.block db (by omega) (by omega))
    try simp only [nA,nB,nC]
    go_simp
    refine hK.out _ _ hSu22 (fun _=>?_)
    clear hK K
    try simp only [nA,nB,nC,Act.put,nD,nE,nF]
    refine wpAnyT_step (i:=11) (by kernel_rfl) rfl (fun K hK=>?_)
    try simp only [nA,nB,nC]
    go_simp
    refine(drawBelowD MUu22.out 3 (by omega) (by omega)).mono ?_
    rintro e u23 ⟨a11,rfl,ha11,hmu23⟩
    have hzu23:=hmu23.size
    have KUu23:=LH (KUu22.out.trans hmu23.bx)
    have MUu23:=LH (MUu22.out.trans hmu23)
    have RW13u23:=LH (hmu23.bx.row RW13u22.out (by omega))
    have hSu23:=hcelld (KUu23.out.block db (by omega) (by omega))
    try simp only [nA,nB,nC]
    go_simp
    refine hK.out _ _ hSu23 (fun _=>?_)
    clear hK K
    try simp only [nA,nB,nC,Act.put,nD,nE,nF]
    refine wpAnyT_step (i:=14) (by kernel_rfl) rfl (fun K hK=>?_)
    try simp only [nA,nB,nC]
    go_simp
    refine(drawPickD MUu23.out [⟨#[]⟩,⟨#[76,105,115,116]⟩,⟨#[81]⟩] u0.heap.size (by omega) 9 RW13u23.out (by simp) (by simp) (fun s=>s.size<=8) (by intro s hs;simp at hs;rcases hs with rfl | rfl | rfl<;>decide)).mono ?_
    rintro e u24 ⟨y14,rfl,hy14,hmu24⟩
    have hzu24:=hmu24.size
    have KUu24:=LH (KUu23.out.trans hmu24.bx)
    have MUu24:=LH (MUu23.out.trans hmu24)
    have hSu24:=hcelld (KUu24.out.block db (by omega) (by omega))
    try simp only [nA,nB,nC]
    go_simp
    refine hK.out _ _ hSu24 (fun _=>?_)
    clear hK K
    try simp only [nA,nB,nC,Act.put,nD,nE,nF]
    refine wpAnyT_tk (i:=15) (oi:=_) (v:=?tv36) rfl (Or.inl ⟨by rfl,?th36⟩) hSu24 ?_
    case th36=>(intro x hSx;(try dsimp only at hSx);go_simp;(try with_reducible rfl))
    try simp only [nA,nB,nC,Act.put,nD,nE,nF]
    refine wpAnyT_step (i:=16) (by kernel_rfl) rfl (fun K hK=>?_)
    try simp only [nA,nB,nC]
    go_simp
    obtain⟨x1,ex1,RT1,hx1,KX1⟩:=boxed u24 59 #[.int .i64 a9,.int .i64 a11,.string y14,.slice none 0 0]
    rw [<- ex1]
    clear ex1
    replace hx1:u24.heap.size+1<=x1.heap.size/\x1.heap.size<=u24.heap.size+1:=by omega
    have hSx1:=hcelld ((KX1.out.block db (by omega) (by omega)).trans (KUu24.out.block db (by omega) (by omega)))
    refine hK.out _ _ hSx1 (fun _=>?_)
    clear hK K
    try simp only [nA,nB,nC,Act.put,nD,nE,nF]
    refine wpAnyT_tk (i:=17) (oi:=_) (v:=?tv37) rfl (Or.inl ⟨by rfl,?th37⟩) hSx1 ?_
    case th37=>(intro x hSx;(try dsimp only at hSx);go_simp;(try with_reducible rfl))
    try simp only [nA,nB,nC,Act.put,nD,nE,nF]
    refine wpAnyT_step (i:=18) (by kernel_rfl) rfl (fun K hK=>?_)
    try simp only [nA,nB,nC]
    go_simp
    obtain⟨x2,ex2,RC2,hx2,KX2⟩:=boxed x1 37 #[.string y7,.slice (some ⟨u24.heap.size,0,none⟩) 1 1]
    rw [<- ex2]
    clear ex2
    replace hx2:x1.heap.size+1<=x2.heap.size/\x2.heap.size<=x1.heap.size+1:=by omega
    have KX:=LH (fun q (h1:q<wv.heap.size) (h2:q≠g)=>show x2.heap[q]? =wv.heap[q]? from(KX2.out.block q (by omega) (by omega)).trans ((KX1.out.block q (by omega) (by omega)).trans (KUu24.out.block q h1 h2)))
    have MX2:=LH ((MUu24.out.chg KX1.out (by omega) hgl).chg KX2.out (by omega) hgl)
    have RT2:=LH (KX2.out.row RT1.out (by omega))
    have hSx2:=hcelld (KX.out db (by omega) (by omega))
    have hos1:∀ q,(Value.slice Av pp.datas[m].cons.length cv).ownBlock=some q->lo<=q/\q<mid/\q≠db:=fun q hq=>HS1.out q (HOS.out q hq)
    have HO2:=LH (own_kp HOC.out fun q hq _ _=>KX.out q (by have:=hos1 q hq;omega) (by have:=hos1 q hq;omega))
    refine hK.out _ _ hSx2 (fun _=>?_)
    clear hK K
    try simp only [nA,nB,nC,Act.put,nD,nE,nF]
    refine wpAnyT_step (i:=19) (by kernel_rfl) rfl (fun K hK=>?_)
    refine step_append_C x2 rfl (.tmp 96) (.tmp 110) 38 rfl 37 zCo 2 40 Tryz.underlying38 (by kernel_rfl) rfl (by omega) 0 (.slice Av pp.datas[m].cons.length cv) pp.datas[m].cons.length cells HO2.out x1.heap.size 1 1 37 [.string y7,.slice (some ⟨u24.heap.size,0,none⟩) 1 1] rfl (by simp [Value.oneCell']) RC2.out (Nat.zero_le _) (by unfold maxLen;omega) (by omega) rfl rfl ?_
    intro A8 c8 x3 hG hGr
    have hx3:=hGr.size
    have HG3:=LH hG
    have GR3:=LH hGr
    have K3:=LH (fun q (h1:q<wv.heap.size) (h2:q≠g) (h3:(Value.slice Av pp.datas[m].cons.length cv).ownBlock≠some q)=>show x3.heap[q]? =wv.heap[q]? from(hGr.grow.block q (by omega) fun e=>h3 e.symm).trans (KX.out q h1 h2))
    have hndb:(Value.slice Av pp.datas[m].cons.length cv).ownBlock≠some db:=fun e=>(hos1 db e).2.2 rfl
    have hSx3:=hcelld (K3.out db (by omega) (by omega) hndb)
    have MX3:=LH (show Dm l A c g w x3 from by
      obtain⟨q8,hq8,hk8⟩:=hGr.bxe (B:=lo) (fun q hq=>(hos1 q hq).1) (by omega)
      exact MX2.out.chg hk8 (by omega) hgl)
    clear hG hGr
    refine hK.out _ _ hSx3 (fun _=>?_)
    clear hK K
    try simp only [nA,nB,nC,Act.put,nD,nE,nF]
    refine wpAnyT_step (i:=20) (by kernel_rfl) rfl (fun K hK=>?_)
    try simp only [nA,nB,nC]
    go_simp
    refine hK.out _ _ hSx3 (fun _=>?_)
    clear hK K
    try simp only [nA,nB,nC,Act.put,nD,nE,nF]
    refine wpAnyT_step (i:=21) (by kernel_rfl) rfl (fun K hK=>?_)
    try simp only [nA,nB,nC]
    go_simp
    refine hK.out _ _ hSx3 (fun _=>?_)
    clear hK K
    try simp only [nA,nB,nC,Act.put,nD,nE,nF]
    have kf:∀ o,x3.frozen? ⟨db,o,none⟩=false:=fun o=>(show x3.frozen? ⟨db,o,none⟩=wv.frozen? ⟨db,o,none⟩ from by unfold World.frozen?;rw [K3.out db (by omega) (by omega) hndb]).trans (hfz o)
    have kl:db<x3.heap.size:=by omega
    refine wpAnyT_last (by kernel_rfl) (by kernel_rfl) rfl (fun K hK=>?_)
    try simp only [nA,nB,nC]
    go_simp
    refine hK.out _ _ ?_
    clear hK K
    try simp only [nA,nB,nC,Act.put,nD,nE,nF]
    obtain⟨w8,e8⟩:∃ x,x=x3.setCell ⟨db,m*3+2,none⟩ (.slice A8 (pp.datas[m].cons.length+1) c8):=⟨_,rfl⟩
    rw [<- e8]
    have KN:=LH (show Bx db x3 w8 by rw [e8];exact(Bx.refl _ _).set (p:=⟨db,m*3+2,none⟩) (.inl rfl) _)
    have hz8:w8.heap.size<=x3.heap.size/\x3.heap.size<=w8.heap.size:=by rw [e8];simp [World.setCell]
    have hnor:∀ q,q<lo\/mid<=q->(Value.slice Av pp.datas[m].cons.length cv).ownBlock≠some q:=fun q hq e=>by have h1:=hos1 q e;omega
    have PB:=LH (show PBox w8 w3.heap.size (.slice (some ⟨db,0,none⟩) pp.datas.length cD) from⟨_,_,_,_,_,_,_,KN.out.row (show Row x3 w3.heap.size 47 #[.slice (some ⟨db,0,none⟩) pp.datas.length cD,.int .i64 pp.main.op,.int .i64 pp.main.n,.string pp.main.s,.string pp.main.t,.slice AM pp.main.kids.length cM] from(K3.out _ (by omega) (by omega) (hnor _ (by omega))).trans Rpv.out) (by omega)⟩)
    have MM:=LH (MX3.out.chg KN.out (by omega) hgl)
    have RR:=LH (KN.out.row (show Row x3 w.heap.size 47 #[.slice none 0 0,.int .i64 0,.int .i64 0,.string ⟨#[]⟩,.string ⟨#[]⟩,.slice none 0 0] from(K3.out _ (by omega) (by omega) (hnor _ (by omega))).trans Rrv.out) (by omega))
    have hown8:∀ q,(Value.slice A8 (pp.datas[m].cons.length+1) c8).ownBlock=some q->lo<=q/\q≠db/\q<x3.heap.size:=fun q hq=>by
     have h9:=(HG3.out.lt q hq).2
     rcases GR3.out.own with h | ⟨q',h,h'⟩
     · have h1:=hos1 q (h.symm.trans hq);omega
     · rw [h] at hq
       obtain rfl:q'=q:=by simpa using hq
       omega
    have hsl:=own_sl (own_kp (w':=w8) HG3.out fun q hq _ hl=>KN.out.block q hl (hown8 q hq).2.1) (xs:=(pp.datas[m].cons++[GCon.mk y7 [GTy.mk a9 a11 y14 []]]).map GCon.toD) (by simp) (S:=fun q=>q<w8.heap.size/\q≠db/\lo<=q) (fun q hq=>by have:=hown8 q hq;omega) (by
        rw [List.map_append]
        refine rdC_append (rdC_one1 (GCon.rd_mk (t:=GCon.mk y7 [GTy.mk a9 a11 y14 []]) (A1:=some ⟨u24.heap.size,0,none⟩) (c1:=1) ⟨short_le hy7,?_⟩) rfl) _ _ ?_
        · refine Sl.ofRow (KN.out.row ((GR3.out.row RT2.out (fun e=>by have:=hos1 _ e;omega))) (by omega)) (rdC_one1 (GTy.rd_mk (t:=GTy.mk a9 a11 y14 []) (A1:=none) (c1:=0) ⟨show(Lit.int .i64 a9).wf=true from int_wfS (by omega),show(Lit.int .i64 a11).wf=true from int_wfS (by omega),short_le hy14,Sl.nil (by unfold maxLen;omega)⟩) rfl) ⟨by omega,by omega,by omega⟩ (by simp) (by unfold maxLen;omega)
        · exact rdC_keep (fun q hq=>by
            have h1:=HS1.out q hq.1
            exact⟨⟨by omega,h1.2.2,h1.1⟩,(KN.out.block q (by omega) h1.2.2).trans (K3.out q (by omega) (by omega) hq.2)⟩) _ _ HRC.out)
    obtain⟨A9,c9,e9,h9⟩:=hsl
    obtain⟨rfl,rfl⟩:A8=A9/\c8=c9:=by simpa using e9
    have hrd:GData.toD ⟨pp.datas[m].name,pp.datas[m].vars,pp.datas[m].cons++[GCon.mk y7 [GTy.mk a9 a11 y14 []]]⟩ |>.rd w8 (fun q=>q<w8.heap.size/\q≠db/\lo<=q) [.string pp.datas[m].name,.int .i64 pp.datas[m].vars,.slice A8 (pp.datas[m].cons.length+1) c8]:=by
     have h:=GData.rd_mk (A1:=A8) (c1:=c8) (t:=⟨pp.datas[m].name,pp.datas[m].vars,pp.datas[m].cons++[GCon.mk y7 [GTy.mk a9 a11 y14 []]]⟩) ⟨HGO.out.1,HGO.out.2.1,h9⟩
     rw [show(GData.cons ⟨pp.datas[m].name,pp.datas[m].vars,pp.datas[m].cons++[GCon.mk y7 [GTy.mk a9 a11 y14 []]]⟩).length=pp.datas[m].cons.length+1 by simp] at h
     exact h
    have GX:=LH (HPUT.out w8 ⟨pp.datas[m].name,pp.datas[m].vars,pp.datas[m].cons++[GCon.mk y7 [GTy.mk a9 a11 y14 []]]⟩ (.slice A8 (pp.datas[m].cons.length+1) c8) (.slice A8 (pp.datas[m].cons.length+1) c8) 2 (by omega) rfl (fun cur hcur=>by rw [e8];exact Row.set ((K3.out db (by omega) (by omega) hndb).trans hcur) (m*3+2) _) (by omega) (by omega) (fun q h1 h2 h3 h4=>(KN.out.block q (by omega) h3).trans (K3.out q (by omega) (by omega) fun e=>h4 (HOS.out q e))) hrd)
    have SZ:=LH (show(pp.datas.set m ⟨pp.datas[m].name,pp.datas[m].vars,pp.datas[m].cons++[GCon.mk y7 [GTy.mk a9 a11 y14 []]]⟩).length<=200/\consN (pp.datas.set m ⟨pp.datas[m].name,pp.datas[m].vars,pp.datas[m].cons++[GCon.mk y7 [GTy.mk a9 a11 y14 []]]⟩)<=30000 from⟨by rw [List.length_set];exact HSZ.out.1,by
      have h1:=consN_set pp.datas m ⟨pp.datas[m].name,pp.datas[m].vars,pp.datas[m].cons++[GCon.mk y7 [GTy.mk a9 a11 y14 []]]⟩
      have h2:=HCN.out
      have h3:GCon.length0 ⟨pp.datas[m].name,pp.datas[m].vars,pp.datas[m].cons++[GCon.mk y7 [GTy.mk a9 a11 y14 []]]⟩<=300:=by
        show(pp.datas[m].cons++[_]).length<=300
        rw [List.length_append]
        simp
        omega
      unfold GCon.length0 at h3
      omega⟩)
    clear e8 kf
    obtain⟨op9,n9,s9,t9,A9,l9,c9,hR9⟩:=PB.out
    have RP9:=LH hR9
    clear hR9
    have hcp9:=fun i=>RP9.out.cell i
    have hlp9:=RP9.out.lt
    have hcr9:=fun i=>RR.out.cell i
    have hfr9:=fun i=>RR.out.frozen i
    have hlr9:=RR.out.lt
    go_wp2_with fail
    obtain⟨wf,ef,RF,hzf,KF⟩:=stored6 RR.out (.slice (some ⟨db,0,none⟩) pp.datas.length cD) (.int .i64 op9) (.int .i64 n9) (.string s9) (.string t9) (.slice A9 l9 c9)
    rw [<- ef]
    clear ef hcp9 hcr9 hfr9
    have hcf:=fun i=>RF.out.cell i
    have MF:=LH (MM.out.chg KF.out (Nat.le_refl _) hgl)
    have GF:=LH (show Grx (fun q=>w.heap.size+1<=q) wf (w.heap.size+1) 40 3 (.slice (some ⟨db,0,none⟩) pp.datas.length cD) pp.datas.length ((pp.datas.set m ⟨pp.datas[m].name,pp.datas[m].vars,pp.datas[m].cons++[GCon.mk y7 [GTy.mk a9 a11 y14 []]]⟩).map GData.toD) from(GX.out.keepP (w':=wf) (by omega) fun q hq h=>KF.out.block q hq (by
      rcases h with h | h
      · have:=GX.out.own q h;omega
      · omega)).wide (by omega) fun q hq=>by omega)
    show BP _ _
    rw [HBP.out]
    refine bodyPost_ret (v:=.agg #[.slice (some ⟨db,0,none⟩) pp.datas.length cD,.int .i64 op9,.int .i64 n9,.string s9,.string t9,.slice A9 l9 c9]) (by simp [results,Tryz.results18,go_sem,hcf]) rfl ?_
    exact⟨pp.datas.set m ⟨pp.datas[m].name,pp.datas[m].vars,pp.datas[m].cons++[GCon.mk y7 [GTy.mk a9 a11 y14 []]]⟩,(some ⟨db,0,none⟩),cD,op9,n9,s9,t9,A9,l9,c9,by rw [List.length_set],SZ.out,(by rw [List.length_set];exact GF.out),MF.out⟩
  have r3:r=3:=by omega
  have z0:(r ==0)=false:=beq_eq_false_iff_ne.2 (by omega)
  have z1:(r ==1)=false:=beq_eq_false_iff_ne.2 (by omega)
  have z2:(r ==2)=false:=beq_eq_false_iff_ne.2 (by omega)
  have z3:(r ==3)=true:=beq_iff_eq.2 r3
  obtain⟨w7,e7⟩:∃ x,x=wv:=⟨_,rfl⟩
  have KB:=LH (show Bx g wv w7 by rw [e7];exact Bx.refl _ _)
  have M7:=LH (show Dm l A c g w w7 by rw [e7];exact Mv.out)
  have hz7:wv.heap.size<=w7.heap.size:=by rw [e7];exact Nat.le_refl _
  rw [<- e7]
  clear e7
  have hdb7:w7.heap[db]? =wv.heap[db]?:=KB.out.block db (by omega) (by omega)
  have k0:=(show w7.cell? ⟨db,m*3,none⟩=wv.cell? ⟨db,m*3,none⟩ from by unfold World.cell?;rw [hdb7]).trans d0
  have k1:=(show w7.cell? ⟨db,m*3+1,none⟩=wv.cell? ⟨db,m*3+1,none⟩ from by unfold World.cell?;rw [hdb7]).trans d1
  have k2:=(show w7.cell? ⟨db,m*3+2,none⟩=wv.cell? ⟨db,m*3+2,none⟩ from by unfold World.cell?;rw [hdb7]).trans d2
  have kf:∀ o,w7.frozen? ⟨db,o,none⟩=false:=fun o=>(show w7.frozen? ⟨db,o,none⟩=wv.frozen? ⟨db,o,none⟩ from by unfold World.frozen?;rw [hdb7]).trans (hfz o)
  have kl:db<w7.heap.size:=by omega
  go_upto_region 30 with (fail)
  obtain⟨w8,e8⟩:∃ x,x=w7.setCell ⟨db,m*3+2,none⟩ (.slice none 0 0):=⟨_,rfl⟩
  rw [<- e8]
  have KN:=LH (show Bx db w7 w8 by rw [e8];exact(Bx.refl _ _).set (p:=⟨db,m*3+2,none⟩) (.inl rfl) _)
  have hz8:w8.heap.size<=w7.heap.size/\w7.heap.size<=w8.heap.size:=by rw [e8];simp [World.setCell]
  have PB:=LH (show PBox w8 w3.heap.size (.slice (some ⟨db,0,none⟩) pp.datas.length cD) from⟨_,_,_,_,_,_,_,KN.out.row (KB.out.row Rpv.out (by omega)) (by omega)⟩)
  have MM:=LH (M7.out.chg KN.out (by omega) hgl)
  have RR:=LH (KN.out.row (KB.out.row Rrv.out (by omega)) (by omega))
  have hkk:∀ q,q<wv.heap.size->q≠g->q≠db->w8.heap[q]? =wv.heap[q]?:=fun q h1 h2 h3=>(KN.out.block q (by omega) h3).trans (KB.out.block q h1 h2)
  have GX:=LH (HPUT.out w8 ⟨pp.datas[m].name,pp.datas[m].vars,[]⟩ (.slice none 0 0) (.slice none 0 0) 2 (by omega) rfl (fun cur hcur=>by rw [e8];exact Row.set (KB.out.row hcur (by omega)) (m*3+2) _) (by omega) (by omega) (fun q h1 h2 h3 _=>hkk q (by omega) (by omega) h3)
    (GData.rd_mk (A1:=none) (c1:=0) ⟨HGO.out.1,HGO.out.2.1,Sl.nil (by unfold maxLen;omega)⟩))
  have SZ:=LH (show(pp.datas.set m ⟨pp.datas[m].name,pp.datas[m].vars,[]⟩).length<=200/\consN (pp.datas.set m ⟨pp.datas[m].name,pp.datas[m].vars,[]⟩)<=30000 from⟨by rw [List.length_set];exact HSZ.out.1,by
    have h1:=consN_set pp.datas m ⟨pp.datas[m].name,pp.datas[m].vars,[]⟩
    have h2:=HCN.out
    have h3:GCon.length0 ⟨pp.datas[m].name,pp.datas[m].vars,[]⟩<=300:=by show(0:Nat)<=300;omega
    unfold GCon.length0 at h3
    omega⟩)
  clear e8 k0 k1 k2 kf
  obtain⟨op9,n9,s9,t9,A9,l9,c9,hR9⟩:=PB.out
  have RP9:=LH hR9
  clear hR9
  have hcp9:=fun i=>RP9.out.cell i
  have hlp9:=RP9.out.lt
  have hcr9:=fun i=>RR.out.cell i
  have hfr9:=fun i=>RR.out.frozen i
  have hlr9:=RR.out.lt
  go_wp2_with fail
  obtain⟨wf,ef,RF,hzf,KF⟩:=stored6 RR.out (.slice (some ⟨db,0,none⟩) pp.datas.length cD) (.int .i64 op9) (.int .i64 n9) (.string s9) (.string t9) (.slice A9 l9 c9)
  rw [<- ef]
  clear ef hcp9 hcr9 hfr9
  have hcf:=fun i=>RF.out.cell i
  have MF:=LH (MM.out.chg KF.out (Nat.le_refl _) hgl)
  have GF:=LH (show Grx (fun q=>w.heap.size+1<=q) wf (w.heap.size+1) 40 3 (.slice (some ⟨db,0,none⟩) pp.datas.length cD) pp.datas.length ((pp.datas.set m ⟨pp.datas[m].name,pp.datas[m].vars,[]⟩).map GData.toD) from(GX.out.keepP (w':=wf) (by omega) fun q hq h=>KF.out.block q hq (by
    rcases h with h | h
    · have:=GX.out.own q h;omega
    · omega)).wide (by omega) fun q hq=>by omega)
  show BP _ _
  rw [HBP.out]
  refine bodyPost_ret (v:=.agg #[.slice (some ⟨db,0,none⟩) pp.datas.length cD,.int .i64 op9,.int .i64 n9,.string s9,.string t9,.slice A9 l9 c9]) (by simp [results,Tryz.results18,go_sem,hcf]) rfl ?_
  exact⟨pp.datas.set m ⟨pp.datas[m].name,pp.datas[m].vars,[]⟩,(some ⟨db,0,none⟩),cD,op9,n9,s9,t9,A9,l9,c9,by rw [List.length_set],SZ.out,(by rw [List.length_set];exact GF.out),MF.out⟩
 by_cases x6:x=6
 ·
  have y0:(x ==0)=false:=beq_eq_false_iff_ne.2 (by omega)
  have y1:(x ==1)=false:=beq_eq_false_iff_ne.2 (by omega)
  have y2:(x ==2)=false:=beq_eq_false_iff_ne.2 (by omega)
  have y3:(x ==3)=false:=beq_eq_false_iff_ne.2 (by omega)
  have y4:(x ==4)=false:=beq_eq_false_iff_ne.2 (by omega)
  have y5:(x ==5)=false:=beq_eq_false_iff_ne.2 (by omega)
  have y6:(x ==6)=true:=beq_iff_eq.2 x6
  go_wp2_with fail
  obtain⟨w6b,e6b,Rw6,hz6b,K6b⟩:=boxed w6 9 #[.string ⟨#[120]⟩,.string ⟨#[102]⟩,.string ⟨#[116]⟩,.string ⟨#[110,111,112,101]⟩]
  rw [<- e6b]
  clear e6b
  replace hz6b:w6.heap.size+1<=w6b.heap.size/\w6b.heap.size<=w6.heap.size+1:=by omega
  have M6b:=LH (M6.out.chg K6b.out (by omega) hgl)
  refine(drawPickD M6b.out [⟨#[120]⟩,⟨#[102]⟩,⟨#[116]⟩,⟨#[110,111,112,101]⟩] w6.heap.size (by omega) 9 Rw6.out (by simp) (by simp) (fun s=>True) (fun _ _=>trivial)).mono ?_
  rintro e w7 ⟨y,rfl,hy,hm7⟩
  have hz7:=hm7.size
  have KB:=LH (show Bx g w6 w7 from⟨hm7.bx.os.trans K6b.out.os,hm7.bx.tape.trans K6b.out.tape,hm7.bx.output.trans K6b.out.output,by omega,fun q hq hne=>(hm7.bx.block q (by omega) hne).trans (K6b.out.block q hq (by omega))⟩)
  have M7:=LH (M6b.out.trans hm7)
  clear hm7 K6b M6b Rw6
  have NA7:=LH (NA6.out.keep (by omega) (KB.out.block nb hnl6 (by omega)) fun b hb=>⟨hb,KB.out.block b (by have:=hb.2;omega) (by have:=hb.1;omega)⟩)
  have k0:=NA7.out.c0
  have k1:=NA7.out.c1
  have k2:=NA7.out.c2
  have k3:=NA7.out.c3
  have k4:=NA7.out.c4
  have kf:=NA7.out.fr
  have kl:=NA7.out.lt
  go_upto_region 30 with (fail)
  obtain⟨w8,e8⟩:∃ x,x=(((((w7.setCell ⟨nb,off,none⟩ (.int .i64 2)).setCell ⟨nb,off+1,none⟩ (.int .i64 0)).setCell ⟨nb,off+2,none⟩ (.string y)).setCell ⟨nb,off+3,none⟩ (.string ⟨#[]⟩)).setCell ⟨nb,off+4,none⟩ (.slice none 0 0)):=⟨_,rfl⟩
  rw [<- e8]
  have KN:=LH (show Bx nb w7 w8 by rw [e8];exact(((((Bx.refl _ _).set (p:=⟨nb,off,none⟩) (.inl rfl) _).set (p:=⟨nb,off+1,none⟩) (.inl rfl) _).set (p:=⟨nb,off+2,none⟩) (.inl rfl) _).set (p:=⟨nb,off+3,none⟩) (.inl rfl) _).set (p:=⟨nb,off+4,none⟩) (.inl rfl) _)
  have hz8:w8.heap.size<=w7.heap.size/\w7.heap.size<=w8.heap.size:=by rw [e8];simp [World.setCell]
  have PB:=LH (show PBox w8 w3.heap.size (.slice AD pp.datas.length cD) by rw [e8];exact(PBox.set4 (PBox.set3 (PBox.set2 (PBox.set1 (PBox.set0 ⟨_,_,_,_,_,_,_,KB.out.row Rp6.out (by omega)⟩ hnn _) hnn _) hnn _) hnn _) hnn _ _ _))
  have MM:=LH (M7.out.chg KN.out (by omega) hgl)
  clear e8 k0 k1 k2 k3 k4 kf NA7
  have RR:=LH (KN.out.row (KB.out.row Rr6.out (by omega)) (by omega))
  have GX:=LH ((HD6.out.keep (w':=w8) (Nat.le_refl _) fun q h1 h2=>(KN.out.block q (by omega) (by omega)).trans (KB.out.block q (by omega) (by omega))).grx (by omega))
  have SZ:=HSZ
  obtain⟨op9,n9,s9,t9,A9,l9,c9,hR9⟩:=PB.out
  have RP9:=LH hR9
  clear hR9
  have hcp9:=fun i=>RP9.out.cell i
  have hlp9:=RP9.out.lt
  have hcr9:=fun i=>RR.out.cell i
  have hfr9:=fun i=>RR.out.frozen i
  have hlr9:=RR.out.lt
  go_wp2_with fail
  obtain⟨wf,ef,RF,hzf,KF⟩:=stored6 RR.out (.slice AD pp.datas.length cD) (.int .i64 op9) (.int .i64 n9) (.string s9) (.string t9) (.slice A9 l9 c9)
  rw [<- ef]
  clear ef hcp9 hcr9 hfr9
  have hcf:=fun i=>RF.out.cell i
  have MF:=LH (MM.out.chg KF.out (Nat.le_refl _) hgl)
  have GF:=LH (show Grx (fun q=>w.heap.size+1<=q) wf (w.heap.size+1) 40 3 (.slice AD pp.datas.length cD) pp.datas.length ((pp.datas).map GData.toD) from(GX.out.keepP (w':=wf) (by omega) fun q hq h=>KF.out.block q hq (by
    rcases h with h | h
    · have:=GX.out.own q h;omega
    · omega)).wide (by omega) fun q hq=>by omega)
  show BP _ _
  rw [HBP.out]
  refine bodyPost_ret (v:=.agg #[.slice AD pp.datas.length cD,.int .i64 op9,.int .i64 n9,.string s9,.string t9,.slice A9 l9 c9]) (by simp [results,Tryz.results18,go_sem,hcf]) rfl ?_
  exact⟨pp.datas,AD,cD,op9,n9,s9,t9,A9,l9,c9,rfl,SZ.out,GF.out,MF.out⟩
 by_cases x7:x=7
 ·
  have y0:(x ==0)=false:=beq_eq_false_iff_ne.2 (by omega)
  have y1:(x ==1)=false:=beq_eq_false_iff_ne.2 (by omega)
  have y2:(x ==2)=false:=beq_eq_false_iff_ne.2 (by omega)
  have y3:(x ==3)=false:=beq_eq_false_iff_ne.2 (by omega)
  have y4:(x ==4)=false:=beq_eq_false_iff_ne.2 (by omega)
  have y5:(x ==5)=false:=beq_eq_false_iff_ne.2 (by omega)
  have y6:(x ==6)=false:=beq_eq_false_iff_ne.2 (by omega)
  have y7:(x ==7)=true:=beq_iff_eq.2 x7
  obtain⟨w7,e7⟩:∃ x,x=w6:=⟨_,rfl⟩
  have KB:=LH (show Bx g w6 w7 by rw [e7];exact Bx.refl _ _)
  have M7:=LH (show Dm l A c g w w7 by rw [e7];exact M6.out)
  have hz7:w6.heap.size<=w7.heap.size:=by rw [e7];exact Nat.le_refl _
  rw [<- e7]
  clear e7
  have NA7:=LH (NA6.out.keep (by omega) (KB.out.block nb hnl6 (by omega)) fun b hb=>⟨hb,KB.out.block b (by have:=hb.2;omega) (by have:=hb.1;omega)⟩)
  have k0:=NA7.out.c0
  have k1:=NA7.out.c1
  have k2:=NA7.out.c2
  have k3:=NA7.out.c3
  have k4:=NA7.out.c4
  have kf:=NA7.out.fr
  have kl:=NA7.out.lt
  go_upto_region 30 with (fail)
  obtain⟨w8,e8⟩:∃ x,x=(((((w7.setCell ⟨nb,off,none⟩ (.int .i64 1)).setCell ⟨nb,off+1,none⟩ (.int .i64 2)).setCell ⟨nb,off+2,none⟩ (.string ⟨#[]⟩)).setCell ⟨nb,off+3,none⟩ (.string ⟨#[]⟩)).setCell ⟨nb,off+4,none⟩ (.slice none 0 0)):=⟨_,rfl⟩
  rw [<- e8]
  have KN:=LH (show Bx nb w7 w8 by rw [e8];exact(((((Bx.refl _ _).set (p:=⟨nb,off,none⟩) (.inl rfl) _).set (p:=⟨nb,off+1,none⟩) (.inl rfl) _).set (p:=⟨nb,off+2,none⟩) (.inl rfl) _).set (p:=⟨nb,off+3,none⟩) (.inl rfl) _).set (p:=⟨nb,off+4,none⟩) (.inl rfl) _)
  have hz8:w8.heap.size<=w7.heap.size/\w7.heap.size<=w8.heap.size:=by rw [e8];simp [World.setCell]
  have PB:=LH (show PBox w8 w3.heap.size (.slice AD pp.datas.length cD) by rw [e8];exact(PBox.set4 (PBox.set3 (PBox.set2 (PBox.set1 (PBox.set0 ⟨_,_,_,_,_,_,_,KB.out.row Rp6.out (by omega)⟩ hnn _) hnn _) hnn _) hnn _) hnn _ _ _))
  have MM:=LH (M7.out.chg KN.out (by omega) hgl)
  clear e8 k0 k1 k2 k3 k4 kf NA7
  have RR:=LH (KN.out.row (KB.out.row Rr6.out (by omega)) (by omega))
  have GX:=LH ((HD6.out.keep (w':=w8) (Nat.le_refl _) fun q h1 h2=>(KN.out.block q (by omega) (by omega)).trans (KB.out.block q (by omega) (by omega))).grx (by omega))
  have SZ:=HSZ
  obtain⟨op9,n9,s9,t9,A9,l9,c9,hR9⟩:=PB.out
  have RP9:=LH hR9
  clear hR9
  have hcp9:=fun i=>RP9.out.cell i
  have hlp9:=RP9.out.lt
  have hcr9:=fun i=>RR.out.cell i
  have hfr9:=fun i=>RR.out.frozen i
  have hlr9:=RR.out.lt
  go_wp2_with fail
  obtain⟨wf,ef,RF,hzf,KF⟩:=stored6 RR.out (.slice AD pp.datas.length cD) (.int .i64 op9) (.int .i64 n9) (.string s9) (.string t9) (.slice A9 l9 c9)
  rw [<- ef]
  clear ef hcp9 hcr9 hfr9
  have hcf:=fun i=>RF.out.cell i
  have MF:=LH (MM.out.chg KF.out (Nat.le_refl _) hgl)
  have GF:=LH (show Grx (fun q=>w.heap.size+1<=q) wf (w.heap.size+1) 40 3 (.slice AD pp.datas.length cD) pp.datas.length ((pp.datas).map GData.toD) from(GX.out.keepP (w':=wf) (by omega) fun q hq h=>KF.out.block q hq (by
    rcases h with h | h
    · have:=GX.out.own q h;omega
    · omega)).wide (by omega) fun q hq=>by omega)
  show BP _ _
  rw [HBP.out]
  refine bodyPost_ret (v:=.agg #[.slice AD pp.datas.length cD,.int .i64 op9,.int .i64 n9,.string s9,.string t9,.slice A9 l9 c9]) (by simp [results,Tryz.results18,go_sem,hcf]) rfl ?_
  exact⟨pp.datas,AD,cD,op9,n9,s9,t9,A9,l9,c9,rfl,SZ.out,GF.out,MF.out⟩
 have y0:(x ==0)=false:=beq_eq_false_iff_ne.2 (by omega)
 have y1:(x ==1)=false:=beq_eq_false_iff_ne.2 (by omega)
 have y2:(x ==2)=false:=beq_eq_false_iff_ne.2 (by omega)
 have y3:(x ==3)=false:=beq_eq_false_iff_ne.2 (by omega)
 have y4:(x ==4)=false:=beq_eq_false_iff_ne.2 (by omega)
 have y5:(x ==5)=false:=beq_eq_false_iff_ne.2 (by omega)
 have y6:(x ==6)=false:=beq_eq_false_iff_ne.2 (by omega)
 have y7:(x ==7)=false:=beq_eq_false_iff_ne.2 (by omega)
 go_upto_region 30 with (fail)
 obtain⟨w7,e7⟩:∃ x,x=w6:=⟨_,rfl⟩
 have KB:=LH (show Bx g w6 w7 by rw [e7];exact Bx.refl _ _)
 have M7:=LH (show Dm l A c g w w7 by rw [e7];exact M6.out)
 have hz7:w6.heap.size<=w7.heap.size:=by rw [e7];exact Nat.le_refl _
 rw [<- e7]
 clear e7
 have KN:=LH (Bx.refl nb w7)
 have PB:=LH (show PBox w7 w3.heap.size (.slice AD pp.datas.length cD) from⟨_,_,_,_,_,_,_,KB.out.row Rp6.out (by omega)⟩)
 have MM:=M7
 have RR:=LH (KN.out.row (KB.out.row Rr6.out (by omega)) (by omega))
 have GX:=LH ((HD6.out.keep (w':=w7) (Nat.le_refl _) fun q h1 h2=>(KN.out.block q (by omega) (by omega)).trans (KB.out.block q (by omega) (by omega))).grx (by omega))
 have SZ:=HSZ
 obtain⟨op9,n9,s9,t9,A9,l9,c9,hR9⟩:=PB.out
 have RP9:=LH hR9
 clear hR9
 have hcp9:=fun i=>RP9.out.cell i
 have hlp9:=RP9.out.lt
 have hcr9:=fun i=>RR.out.cell i
 have hfr9:=fun i=>RR.out.frozen i
 have hlr9:=RR.out.lt
 go_wp2_with fail
 obtain⟨wf,ef,RF,hzf,KF⟩:=stored6 RR.out (.slice AD pp.datas.length cD) (.int .i64 op9) (.int .i64 n9) (.string s9) (.string t9) (.slice A9 l9 c9)
 rw [<- ef]
 clear ef hcp9 hcr9 hfr9
 have hcf:=fun i=>RF.out.cell i
 have MF:=LH (MM.out.chg KF.out (Nat.le_refl _) hgl)
 have GF:=LH (show Grx (fun q=>w.heap.size+1<=q) wf (w.heap.size+1) 40 3 (.slice AD pp.datas.length cD) pp.datas.length ((pp.datas).map GData.toD) from(GX.out.keepP (w':=wf) (by omega) fun q hq h=>KF.out.block q hq (by
   rcases h with h | h
   · have:=GX.out.own q h;omega
   · omega)).wide (by omega) fun q hq=>by omega)
 show BP _ _
 rw [HBP.out]
 refine bodyPost_ret (v:=.agg #[.slice AD pp.datas.length cD,.int .i64 op9,.int .i64 n9,.string s9,.string t9,.slice A9 l9 c9]) (by simp [results,Tryz.results18,go_sem,hcf]) rfl ?_
 exact⟨pp.datas,AD,cD,op9,n9,s9,t9,A9,l9,c9,rfl,SZ.out,GF.out,MF.out⟩
end Go.Proofs.YtgbjdhfaklmjcaaGreat
