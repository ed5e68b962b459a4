/- Texts of the claim LTags in one: Ni FCon ConOf TagCon TagsP FData Strs. Conditions: none but bounds on sizes. -/
import Derived.Test.YtgbjdhfaklmjcaaGreatZLTags22
import Derived.Test.YtgbjdhfaklmjcaaGreatRows
import Derived.Test.YtgbjdhfaklmjcaaGreatZLTags0
import Derived.Test.YtgbjdhfaklmjcaaGreatZLTags12
import Derived.Lib.Hide
import Derived.Test.YtgbjdhfaklmjcaaGreatZLTags21
import Derived.Test.YtgbjdhfaklmjcaaGreatZLTags1
namespace Go.Proofs.YtgbjdhfaklmjcaaGreat
set_option maxRecDepth 20000
set_option linter.unusedVariables false
set_option linter.unusedSimpArgs false
open Go.RowKit
set_option maxHeartbeats 2000000
theorem drawName {l:List Int} {A:Option Addr} {c:Nat} {g:Nat} {w0 w:World} (hm0:Dm l A c g w0 w):Calls Tryz.prog 19 #[.pointer (some ⟨g,0,none⟩)] w fun e w'=>∃ s,e= .returned (.string s)/\Dm l A c g w w':=by
 have hm:=hm0.again
 clear hm0
 have hgl:=hm.lt
 have M0:=LH hm
 clear hm
 go_enter Tryz.func19,Tryz.ntmps19
 go_wp2_with fail
 obtain⟨w1,e1,R1,hz1,K1⟩:=boxed w 9 #[.string ⟨#[78,105,108]⟩,.string ⟨#[67,111,110,115]⟩,.string ⟨#[80,97,105,114]⟩,.string ⟨#[84,114,117,101]⟩,.string ⟨#[76,101,97,102]⟩,.string ⟨#[78,111,100,101]⟩,.string ⟨#[78,111,110,101]⟩,.string ⟨#[83,111,109,101]⟩,.string ⟨#[90]⟩,.string ⟨#[83]⟩,.string ⟨#[81]⟩,.string ⟨#[]⟩]
 rw [<- e1]
 clear e1
 replace hz1:w.heap.size+1<=w1.heap.size/\w1.heap.size<=w.heap.size+1:=by omega
 have M1:=LH (M0.out.chg K1.out (Nat.le_refl _) hgl)
 refine(drawPickD M1.out [⟨#[78,105,108]⟩,⟨#[67,111,110,115]⟩,⟨#[80,97,105,114]⟩,⟨#[84,114,117,101]⟩,⟨#[76,101,97,102]⟩,⟨#[78,111,100,101]⟩,⟨#[78,111,110,101]⟩,⟨#[83,111,109,101]⟩,⟨#[90]⟩,⟨#[83]⟩,⟨#[81]⟩,⟨#[]⟩] w.heap.size (by omega) 9 R1.out (by simp) (by simp) (fun s=>True) (fun _ _=>trivial)).mono ?_
 rintro e w2 ⟨s,rfl,-,hm⟩
 have M2:=LH (M1.out.trans hm)
 clear hm
 go_wp2_with fail
 go_ret
 exact⟨s,rfl,M2.out⟩
theorem grx_elem0 {X:Nat->Prop} {w:World} {B:Nat} {A:Option Addr} {c:Nat} {l:List GData} (h:Grx X w B 40 3 (.slice A l.length c) l.length (l.map GData.toD)) (hl:0<l.length):∃ db A1 c1,A=some ⟨db,0,none⟩/\(B<=db/\db<w.heap.size)/\w.cell? ⟨db,0,none⟩=some (.string l[0].name)/\w.cell? ⟨db,1,none⟩=some (.int .i64 l[0].vars)/\w.cell? ⟨db,2,none⟩=some (.slice A1 l[0].cons.length c1)/\GData.At w (fun b=>b<w.heap.size/\(Value.slice A l.length c).ownBlock≠some b/\X b) A1 c1 l[0]:=by
 cases l with
 | nil=>simp at hl
 | cons d r=>
  obtain⟨-,cs,h1,h2⟩:=h
  obtain⟨c1,c2,rfl,h3,h4,-⟩:=h2
  obtain⟨A1,k1,rfl,hat⟩:=GData.rd h4
  have hlt:=h1.lt
  rcases h1.2 with ⟨e,h0⟩ | ⟨g,cap,cur,e,a1,a2⟩
  · simp at h0
  cases e
  exact⟨g,A1,k1,rfl,hlt g rfl,h1.cellAt 0 (by simp),h1.cellAt 1 (by simp;omega),h1.cellAt 2 (by simp;omega),hat⟩
theorem drawConTag (l:List Int) (A:Option Addr) (c:Nat) (w:World) (hs:Sl w (Lt w.heap.size) 1 A c (l.map (D.num .u8))) (hl:l.length<=1048576):
 Calls Tryz.prog 5 #[.slice A l.length c] w fun e w'=>∃ ds AD cD x,e= .returned (.tuple #[.slice AD (List.length ds) cD,.string x])/\consN ds<=30000/\Sl w' (Lt w'.heap.size) 3 AD cD (ds.map GData.toD)/\Below w.heap.size w w':=by
 have HN:=LH (newCur l A c w hs hl)
 clear hs
 go_enter Tryz.func5,Tryz.ntmps5
 refine wp_hide (fun BP hBP=>?_)
 have HBP:=LH hBP
 clear hBP
 go_wp2_with fail
 refine HN.out.mono ?_
 rintro e w2 ⟨h0,rfl,hc,hb⟩
 have hgl:=hc.row.lt
 obtain⟨g,hg⟩:∃ g,w.heap.size=g:=⟨_,rfl⟩
 rw [hg] at hc hgl ⊢
 have B2:=LH hb
 have M2:=LH (Dm.start hc)
 clear hc hb HN
 go_wp2_with fail
 refine(drawProg M2.out).mono ?_
 rintro e w3 ⟨ds,AD,cD,op,n,s,t,AM,lm,cM,rfl,⟨hds,hcn⟩,hG,hm3⟩
 have hz3:=hm3.size
 have M3:=LH (M2.out.trans hm3)
 have G3:=LH hG
 have HOW3:=LH (fun q (hq:(Value.slice AD ds.length cD).ownBlock=some q)=>(G3.out.own q hq).2)
 clear hm3 hG
 go_upto_region 3 with (fail)
 obtain⟨w4,e4,Rp4,hz4,K4⟩:=boxed w3 47 #[.slice AD ds.length cD,.int .i64 op,.int .i64 n,.string s,.string t,.slice AM lm cM]
 rw [<- e4]
 clear e4
 replace hz4:w3.heap.size+1<=w4.heap.size/\w4.heap.size<=w3.heap.size+1:=by omega
 have M4:=LH (M3.out.chg K4.out (by omega) hgl)
 have E4:=LH (Below.mk K4.out.os K4.out.tape K4.out.output K4.out.size fun b hb=>K4.out.block b hb (by omega):Below w3.heap.size w3 w4)
 have G4:=LH (G3.out.below E4.out)
 clear K4 G3 M3
 refine wp_region_T (fun x=>x.cell? ⟨w3.heap.size,0,none⟩=some (.slice AD ds.length cD)) 100 (by kernel_rfl) ?_
 obtain⟨w5,e5⟩:∃ x,x=w4.drew:=⟨_,rfl⟩
 rw [<- e5]
 have K5:=LH (show Below w4.heap.size w4 w5 by rw [e5];exact(Below.refl _ _).drew)
 have hz5:w5.heap.size<=w4.heap.size/\w4.heap.size<=w5.heap.size:=by rw [e5];exact⟨Nat.le_refl _,Nat.le_refl _⟩
 clear e5
 have Rp5:=LH (Rp4.out.below K5.out Rp4.out.lt)
 have M5:=LH (M4.out.below K5.out)
 have G5:=LH (G4.out.below K5.out)
 have hS1:w5.cell? ⟨w3.heap.size,0,none⟩=some (.slice AD ds.length cD):=Rp5.out.cell 0
 clear Rp4 M4 G4 E4
 refine wpAnyT_tk (i:=0) (oi:=_) (v:=?tv1) rfl (Or.inl ⟨by rfl,?th1⟩) hS1 ?_
 case th1=>(intro x hSx;(try dsimp only at hSx);go_simp;(try with_reducible rfl))
 try simp only [nA,nB,nC,Act.put,nD,nE,nF]
 refine wpAnyT_tk (i:=1) (oi:=_) (v:=?tv2) rfl (Or.inl ⟨by rfl,?th2⟩) hS1 ?_
 case th2=>(intro x hSx;(try dsimp only at hSx);go_simp;(try with_reducible rfl))
 try simp only [nA,nB,nC,Act.put,nD,nE,nF]
 refine wpAnyT_tk (i:=2) (oi:=_) (v:=?tv3) rfl (Or.inl ⟨by rfl,?th3⟩) hS1 ?_
 case th3=>(intro x hSx;(try dsimp only at hSx);go_simp;(try with_reducible rfl))
 try simp only [nA,nB,nC,Act.put,nD,nE,nF]
 refine wpAnyT_step (i:=3) (by kernel_rfl) rfl (fun K hK=>?_)
 try simp only [nA,nB,nC]
 go_simp
 refine(drawName M5.out).mono ?_
 rintro e w6 ⟨x,rfl,hm6⟩
 have M6:=LH (M5.out.trans hm6)
 have K6:=LH hm6.bx
 have hz6:=K6.out.size
 have Rp6:=LH (K6.out.row Rp5.out (by omega))
 have hS2:w6.cell? ⟨w3.heap.size,0,none⟩=some (.slice AD ds.length cD):=Rp6.out.cell 0
 have G6:=LH (G5.out.keepP (w':=w6) (by omega) fun q hq h=>K6.out.block q hq (by
   rcases h with h | h
   · have:=G5.out.own q h;omega
   · omega))
 clear hm6
 try simp only [nA,nB,nC]
 go_simp
 refine hK.out _ _ hS2 (fun hS3=>?_)
 clear hK K hS2
 try simp only [nA,nB,nC,Act.put,nD,nE,nF]
 refine wpAnyT_step (i:=4) (by kernel_rfl) rfl (fun K hK=>?_)
 try simp only [nA,nB,nC]
 go_simp
 refine hK.out _ _ hS3 (fun hS4=>?_)
 clear hK K hS3
 try simp only [nA,nB,nC,Act.put,nD,nE,nF]
 refine wpAnyT_step (i:=5) (by kernel_rfl) rfl (fun K hK=>?_)
 try simp only [nA,nB,nC]
 go_simp
 refine hK.out _ _ hS4 (fun hS5=>?_)
 clear hK K hS4
 try simp only [nA,nB,nC,Act.put,nD,nE,nF]
 refine wpAnyT_done (by kernel_rfl) ?_ _
 clear hS5
 obtain⟨A9,c9,e9,h9⟩:=G6.out.sl fun b h=>h
 obtain⟨rfl,rfl⟩:AD=A9/\cD=c9:=by simpa using e9
 have S9:=LH (h9.keep (w':=w6) (S':=Lt w6.heap.size) fun b hb=>⟨hb.1,rfl⟩)
 have B9:=LH (B2.out.trans (M6.out.bx.below (B:=w.heap.size) (by have:=B2.out.size;omega) (by omega)))
 clear h9 e9
 go_wp2_with fail
 show BP _ _
 rw [HBP.out]
 refine bodyPost_ret (v:=.tuple #[.slice AD ds.length cD,.string x]) (by simp [results,Tryz.results5,go_sem]) rfl ?_
 exact⟨ds,AD,cD,x,rfl,hcn,S9.out,B9.out⟩
theorem drawConOf (l:List Int) (A:Option Addr) (c:Nat) (w:World) (hs:Sl w (Lt w.heap.size) 1 A c (l.map (D.num .u8))) (hl:l.length<=1048576):
 Calls Tryz.prog 10 #[.slice A l.length c] w fun e w'=>∃ ds AD cD x,e= .returned (.tuple #[.slice AD (List.length ds) cD,.string x])/\consN ds<=30000/\Sl w' (Lt w'.heap.size) 3 AD cD (ds.map GData.toD)/\Below w.heap.size w w':=by
 have HN:=LH (newCur l A c w hs hl)
 clear hs
 go_enter Tryz.func10,Tryz.ntmps10
 refine wp_hide (fun BP hBP=>?_)
 have HBP:=LH hBP
 clear hBP
 go_wp2_with fail
 refine HN.out.mono ?_
 rintro e w2 ⟨h0,rfl,hc,hb⟩
 have hgl:=hc.row.lt
 obtain⟨g,hg⟩:∃ g,w.heap.size=g:=⟨_,rfl⟩
 rw [hg] at hc hgl ⊢
 have B2:=LH hb
 have M2:=LH (Dm.start hc)
 clear hc hb HN
 go_wp2_with fail
 refine(drawProg M2.out).mono ?_
 rintro e w3 ⟨ds,AD,cD,op,n,s,t,AM,lm,cM,rfl,⟨hds,hcn⟩,hG,hm3⟩
 have hz3:=hm3.size
 have M3:=LH (M2.out.trans hm3)
 have G3:=LH hG
 have HOW3:=LH (fun q (hq:(Value.slice AD ds.length cD).ownBlock=some q)=>(G3.out.own q hq).2)
 clear hm3 hG
 go_upto_region 3 with (fail)
 obtain⟨w4,e4,Rp4,hz4,K4⟩:=boxed w3 47 #[.slice AD ds.length cD,.int .i64 op,.int .i64 n,.string s,.string t,.slice AM lm cM]
 rw [<- e4]
 clear e4
 replace hz4:w3.heap.size+1<=w4.heap.size/\w4.heap.size<=w3.heap.size+1:=by omega
 have M4:=LH (M3.out.chg K4.out (by omega) hgl)
 have E4:=LH (Below.mk K4.out.os K4.out.tape K4.out.output K4.out.size fun b hb=>K4.out.block b hb (by omega):Below w3.heap.size w3 w4)
 have G4:=LH (G3.out.below E4.out)
 clear K4 G3 M3
 refine wp_region_T (fun x=>x.cell? ⟨w3.heap.size,0,none⟩=some (.slice AD ds.length cD)) 100 (by kernel_rfl) ?_
 obtain⟨w5,e5⟩:∃ x,x=w4.drew:=⟨_,rfl⟩
 rw [<- e5]
 have K5:=LH (show Below w4.heap.size w4 w5 by rw [e5];exact(Below.refl _ _).drew)
 have hz5:w5.heap.size<=w4.heap.size/\w4.heap.size<=w5.heap.size:=by rw [e5];exact⟨Nat.le_refl _,Nat.le_refl _⟩
 clear e5
 have Rp5:=LH (Rp4.out.below K5.out Rp4.out.lt)
 have M5:=LH (M4.out.below K5.out)
 have G5:=LH (G4.out.below K5.out)
 have hS1:w5.cell? ⟨w3.heap.size,0,none⟩=some (.slice AD ds.length cD):=Rp5.out.cell 0
 clear Rp4 M4 G4 E4
 refine wpAnyT_tk (i:=0) (oi:=_) (v:=?tv4) rfl (Or.inl ⟨by rfl,?th4⟩) hS1 ?_
 case th4=>(intro x hSx;(try dsimp only at hSx);go_simp;(try with_reducible rfl))
 try simp only [nA,nB,nC,Act.put,nD,nE,nF]
 refine wpAnyT_tk (i:=1) (oi:=_) (v:=?tv5) rfl (Or.inl ⟨by rfl,?th5⟩) hS1 ?_
 case th5=>(intro x hSx;(try dsimp only at hSx);go_simp;(try with_reducible rfl))
 try simp only [nA,nB,nC,Act.put,nD,nE,nF]
 refine wpAnyT_tk (i:=2) (oi:=_) (v:=?tv6) rfl (Or.inl ⟨by rfl,?th6⟩) hS1 ?_
 case th6=>(intro x hSx;(try dsimp only at hSx);go_simp;(try with_reducible rfl))
 try simp only [nA,nB,nC,Act.put,nD,nE,nF]
 refine wpAnyT_step (i:=3) (by kernel_rfl) rfl (fun K hK=>?_)
 try simp only [nA,nB,nC]
 go_simp
 refine(drawName M5.out).mono ?_
 rintro e w6 ⟨x,rfl,hm6⟩
 have M6:=LH (M5.out.trans hm6)
 have K6:=LH hm6.bx
 have hz6:=K6.out.size
 have Rp6:=LH (K6.out.row Rp5.out (by omega))
 have hS2:w6.cell? ⟨w3.heap.size,0,none⟩=some (.slice AD ds.length cD):=Rp6.out.cell 0
 have G6:=LH (G5.out.keepP (w':=w6) (by omega) fun q hq h=>K6.out.block q hq (by
   rcases h with h | h
   · have:=G5.out.own q h;omega
   · omega))
 clear hm6
 try simp only [nA,nB,nC]
 go_simp
 refine hK.out _ _ hS2 (fun hS3=>?_)
 clear hK K hS2
 try simp only [nA,nB,nC,Act.put,nD,nE,nF]
 refine wpAnyT_step (i:=4) (by kernel_rfl) rfl (fun K hK=>?_)
 try simp only [nA,nB,nC]
 go_simp
 refine hK.out _ _ hS3 (fun hS4=>?_)
 clear hK K hS3
 try simp only [nA,nB,nC,Act.put,nD,nE,nF]
 refine wpAnyT_step (i:=5) (by kernel_rfl) rfl (fun K hK=>?_)
 try simp only [nA,nB,nC]
 go_simp
 refine hK.out _ _ hS4 (fun hS5=>?_)
 clear hK K hS4
 try simp only [nA,nB,nC,Act.put,nD,nE,nF]
 refine wpAnyT_done (by kernel_rfl) ?_ _
 clear hS5
 obtain⟨A9,c9,e9,h9⟩:=G6.out.sl fun b h=>h
 obtain⟨rfl,rfl⟩:AD=A9/\cD=c9:=by simpa using e9
 have S9:=LH (h9.keep (w':=w6) (S':=Lt w6.heap.size) fun b hb=>⟨hb.1,rfl⟩)
 have B9:=LH (B2.out.trans (M6.out.bx.below (B:=w.heap.size) (by have:=B2.out.size;omega) (by omega)))
 clear h9 e9
 go_wp2_with fail
 show BP _ _
 rw [HBP.out]
 refine bodyPost_ret (v:=.tuple #[.slice AD ds.length cD,.string x]) (by simp [results,Tryz.results10,go_sem]) rfl ?_
 exact⟨ds,AD,cD,x,rfl,hcn,S9.out,B9.out⟩
theorem drawTagCon (l:List Int) (A:Option Addr) (c:Nat) (w:World) (hs:Sl w (Lt w.heap.size) 1 A c (l.map (D.num .u8))) (hl:l.length<=1048576):
 Calls Tryz.prog 7 #[.slice A l.length c] w fun e w'=>∃ ds AD cD x,e= .returned (.tuple #[.slice AD (List.length ds) cD,.int .i64 x])/\consN ds<=30000/\(-9223372036854775808<=x/\x<=9223372036854775807)/\Sl w' (Lt w'.heap.size) 3 AD cD (ds.map GData.toD)/\Below w.heap.size w w':=by
 have HN:=LH (newCur l A c w hs hl)
 clear hs
 go_enter Tryz.func7,Tryz.ntmps7
 refine wp_hide (fun BP hBP=>?_)
 have HBP:=LH hBP
 clear hBP
 go_wp2_with fail
 refine HN.out.mono ?_
 rintro e w2 ⟨h0,rfl,hc,hb⟩
 have hgl:=hc.row.lt
 obtain⟨g,hg⟩:∃ g,w.heap.size=g:=⟨_,rfl⟩
 rw [hg] at hc hgl ⊢
 have B2:=LH hb
 have M2:=LH (Dm.start hc)
 clear hc hb HN
 go_wp2_with fail
 refine(drawProg M2.out).mono ?_
 rintro e w3 ⟨ds,AD,cD,op,n,s,t,AM,lm,cM,rfl,⟨hds,hcn⟩,hG,hm3⟩
 have hz3:=hm3.size
 have M3:=LH (M2.out.trans hm3)
 have G3:=LH hG
 have HOW3:=LH (fun q (hq:(Value.slice AD ds.length cD).ownBlock=some q)=>(G3.out.own q hq).2)
 clear hm3 hG
 go_upto_region 3 with (fail)
 obtain⟨w4,e4,Rp4,hz4,K4⟩:=boxed w3 47 #[.slice AD ds.length cD,.int .i64 op,.int .i64 n,.string s,.string t,.slice AM lm cM]
 rw [<- e4]
 clear e4
 replace hz4:w3.heap.size+1<=w4.heap.size/\w4.heap.size<=w3.heap.size+1:=by omega
 have M4:=LH (M3.out.chg K4.out (by omega) hgl)
 have E4:=LH (Below.mk K4.out.os K4.out.tape K4.out.output K4.out.size fun b hb=>K4.out.block b hb (by omega):Below w3.heap.size w3 w4)
 have G4:=LH (G3.out.below E4.out)
 clear K4 G3 M3
 refine wp_region_T (fun x=>x.cell? ⟨w3.heap.size,0,none⟩=some (.slice AD ds.length cD)) 100 (by kernel_rfl) ?_
 obtain⟨w5,e5⟩:∃ x,x=w4.drew:=⟨_,rfl⟩
 rw [<- e5]
 have K5:=LH (show Below w4.heap.size w4 w5 by rw [e5];exact(Below.refl _ _).drew)
 have hz5:w5.heap.size<=w4.heap.size/\w4.heap.size<=w5.heap.size:=by rw [e5];exact⟨Nat.le_refl _,Nat.le_refl _⟩
 clear e5
 have Rp5:=LH (Rp4.out.below K5.out Rp4.out.lt)
 have M5:=LH (M4.out.below K5.out)
 have G5:=LH (G4.out.below K5.out)
 have hS1:w5.cell? ⟨w3.heap.size,0,none⟩=some (.slice AD ds.length cD):=Rp5.out.cell 0
 clear Rp4 M4 G4 E4
 refine wpAnyT_tk (i:=0) (oi:=_) (v:=?tv7) rfl (Or.inl ⟨by rfl,?th7⟩) hS1 ?_
 case th7=>(intro x hSx;(try dsimp only at hSx);go_simp;(try with_reducible rfl))
 try simp only [nA,nB,nC,Act.put,nD,nE,nF]
 refine wpAnyT_tk (i:=1) (oi:=_) (v:=?tv8) rfl (Or.inl ⟨by rfl,?th8⟩) hS1 ?_
 case th8=>(intro x hSx;(try dsimp only at hSx);go_simp;(try with_reducible rfl))
 try simp only [nA,nB,nC,Act.put,nD,nE,nF]
 refine wpAnyT_tk (i:=2) (oi:=_) (v:=?tv9) rfl (Or.inl ⟨by rfl,?th9⟩) hS1 ?_
 case th9=>(intro x hSx;(try dsimp only at hSx);go_simp;(try with_reducible rfl))
 try simp only [nA,nB,nC,Act.put,nD,nE,nF]
 refine wpAnyT_step (i:=3) (by kernel_rfl) rfl (fun K hK=>?_)
 try simp only [nA,nB,nC]
 go_simp
 obtain⟨w5b,e5b,Rw,hz5b,K5b⟩:=boxed w5 3 #[.int .i64 0,.int .i64 1,.int .i64 2,.int .i64 3,.int .i64 4,.int .i64 (-1),.int .i64 9223372036854775807,.int .i64 (-9223372036854775808)]
 rw [<- e5b]
 clear e5b
 replace hz5b:w5.heap.size+1<=w5b.heap.size/\w5b.heap.size<=w5.heap.size+1:=by omega
 have M5b:=LH (M5.out.chg K5b.out (by omega) hgl)
 have hS1b:w5b.cell? ⟨w3.heap.size,0,none⟩=some (.slice AD ds.length cD):=(K5b.out.row Rp5.out (by omega)).cell 0
 refine hK.out _ _ hS1b (fun hS1c=>?_)
 clear hK K hS1 hS1b
 try simp only [nA,nB,nC,Act.put,nD,nE,nF]
 refine wpAnyT_step (i:=4) (by kernel_rfl) rfl (fun K hK=>?_)
 try simp only [nA,nB,nC]
 go_simp
 refine(drawPickIntD M5b.out [0,1,2,3,4,(-1),9223372036854775807,(-9223372036854775808)] w5.heap.size (by omega) 3 Rw.out (by simp) (by simp) (fun n=> -9223372036854775808<=n/\n<=9223372036854775807) (by intro n hn;simp only [List.mem_cons,List.not_mem_nil,or_false] at hn;omega)).mono ?_
 rintro e w6 ⟨x,rfl,hxx,hm6⟩
 have M6:=LH (M5b.out.trans hm6)
 have K6:=LH (show Bx g w5 w6 from⟨hm6.bx.os.trans K5b.out.os,hm6.bx.tape.trans K5b.out.tape,hm6.bx.output.trans K5b.out.output,by have:=hm6.size;omega,fun q hq hne=>(hm6.bx.block q (by omega) hne).trans (K5b.out.block q hq (by omega))⟩)
 clear hS1c
 have hz6:=K6.out.size
 have Rp6:=LH (K6.out.row Rp5.out (by omega))
 have hS2:w6.cell? ⟨w3.heap.size,0,none⟩=some (.slice AD ds.length cD):=Rp6.out.cell 0
 have G6:=LH (G5.out.keepP (w':=w6) (by omega) fun q hq h=>K6.out.block q hq (by
   rcases h with h | h
   · have:=G5.out.own q h;omega
   · omega))
 clear hm6
 try simp only [nA,nB,nC]
 go_simp
 refine hK.out _ _ hS2 (fun hS3=>?_)
 clear hK K hS2
 try simp only [nA,nB,nC,Act.put,nD,nE,nF]
 refine wpAnyT_step (i:=5) (by kernel_rfl) rfl (fun K hK=>?_)
 try simp only [nA,nB,nC]
 go_simp
 refine hK.out _ _ hS3 (fun hS4=>?_)
 clear hK K hS3
 try simp only [nA,nB,nC,Act.put,nD,nE,nF]
 refine wpAnyT_step (i:=6) (by kernel_rfl) rfl (fun K hK=>?_)
 try simp only [nA,nB,nC]
 go_simp
 refine hK.out _ _ hS4 (fun hS5=>?_)
 clear hK K hS4
 try simp only [nA,nB,nC,Act.put,nD,nE,nF]
 refine wpAnyT_done (by kernel_rfl) ?_ _
 clear hS5
 obtain⟨A9,c9,e9,h9⟩:=G6.out.sl fun b h=>h
 obtain⟨rfl,rfl⟩:AD=A9/\cD=c9:=by simpa using e9
 have S9:=LH (h9.keep (w':=w6) (S':=Lt w6.heap.size) fun b hb=>⟨hb.1,rfl⟩)
 have B9:=LH (B2.out.trans (M6.out.bx.below (B:=w.heap.size) (by have:=B2.out.size;omega) (by omega)))
 clear h9 e9
 go_wp2_with fail
 show BP _ _
 rw [HBP.out]
 refine bodyPost_ret (v:=.tuple #[.slice AD ds.length cD,.int .i64 x]) (by simp [results,Tryz.results7,go_sem]) rfl ?_
 exact⟨ds,AD,cD,x,rfl,hcn,hxx,S9.out,B9.out⟩
theorem consN_apd:∀ (a b:List GData),consN (a++b)=consN a+consN b
 | [],b=>by simp [consN]
 | d::r,b=>by simp only [List.cons_append,consN,consN_apd r b];omega
theorem consN_get:∀ (l:List GData) (h:0<l.length),consN [l[0]]<=consN l
 | [],h=>by simp at h
 | d::r,h=>by simp only [consN,List.getElem_cons_zero];omega
theorem drawCheckDatas (l:List Int) (A:Option Addr) (c:Nat) (w:World) (hs:Sl w (Lt w.heap.size) 1 A c (l.map (D.num .u8))) (hl:l.length<=1048576):
 Calls Tryz.prog 13 #[.slice A l.length c] w fun e w'=>∃ ds AD cD,e= .returned (.slice AD (List.length ds) cD)/\consN ds<=60000/\Sl w' (Lt w'.heap.size) 3 AD cD (ds.map GData.toD)/\Below w.heap.size w w':=by
 have HN:=LH (newCur l A c w hs hl)
 clear hs
 go_enter Tryz.func13,Tryz.ntmps13
 refine wp_hide (fun BP hBP=>?_)
 have HBP:=LH hBP
 clear hBP
 go_wp2_with fail
 refine HN.out.mono ?_
 rintro e w2 ⟨h0,rfl,hc,hb⟩
 have hgl:=hc.row.lt
 obtain⟨g,hg⟩:∃ g,w.heap.size=g:=⟨_,rfl⟩
 rw [hg] at hc hgl ⊢
 have B2:=LH hb
 have M2:=LH (Dm.start hc)
 clear hc hb HN
 go_wp2_with fail
 refine(drawProg M2.out).mono ?_
 rintro e w3 ⟨ds,AD,cD,op,n,s,t,AM,lm,cM,rfl,⟨hds,hcn⟩,hG,hm3⟩
 have hz3:=hm3.size
 have M3:=LH (M2.out.trans hm3)
 have G3:=LH hG
 have HOW3:=LH (fun q (hq:(Value.slice AD ds.length cD).ownBlock=some q)=>(G3.out.own q hq).2)
 clear hm3 hG
 go_upto_region 3 with (fail)
 obtain⟨w4,e4,Rp4,hz4,K4⟩:=boxed w3 47 #[.slice AD ds.length cD,.int .i64 op,.int .i64 n,.string s,.string t,.slice AM lm cM]
 rw [<- e4]
 clear e4
 replace hz4:w3.heap.size+1<=w4.heap.size/\w4.heap.size<=w3.heap.size+1:=by omega
 have M4:=LH (M3.out.chg K4.out (by omega) hgl)
 have E4:=LH (Below.mk K4.out.os K4.out.tape K4.out.output K4.out.size fun b hb=>K4.out.block b hb (by omega):Below w3.heap.size w3 w4)
 have G4:=LH (G3.out.below E4.out)
 clear K4 G3 M3
 go_wp2_with fail
 refine(drawOnceD M4.out 9 (by omega) (by omega)).mono ?_
 rintro e w5 ⟨b1,rfl,hm5⟩
 have hz5:=hm5.size
 have M5:=LH (M4.out.trans hm5)
 have Rp5:=LH (hm5.bx.row Rp4.out (by omega))
 have G5:=LH (G4.out.keepP (w':=w5) (by omega) fun q hq h=>hm5.bx.block q hq (by
   rcases h with h | h
   · have:=G4.out.own q h;omega
   · omega))
 clear hm5 M4 Rp4 G4 E4
 cases b1
 ·
  obtain⟨A9,c9,e9,h9⟩:=G5.out.sl fun b h=>h
  obtain⟨rfl,rfl⟩:AD=A9/\cD=c9:=by simpa using e9
  have S9:=LH (h9.keep (w':=w5) (S':=Lt w5.heap.size) fun b hb=>⟨hb.1,rfl⟩)
  have B9:=LH (B2.out.trans (M5.out.bx.below (B:=w.heap.size) (by have:=B2.out.size;omega) (by omega)))
  clear h9 e9
  have hcp:=fun i=>Rp5.out.cell i
  go_wp2_with fail
  show BP _ _
  rw [HBP.out]
  refine bodyPost_ret (v:=.slice AD ds.length cD) (by simp [results,Tryz.results13,go_sem]) rfl ?_
  exact⟨ds,AD,cD,rfl,by omega,S9.out,B9.out⟩
 ·
  by_cases h0:0<ds.length
  ·
   have hd0:(0:Int)<(ds.length:Int):=by omega
   have dd0:decide ((0:Int)<(ds.length:Int))=true:=decide_eq_true hd0
   obtain⟨db,A1,c1,eAD,hdb,d0,d1,d2,hat⟩:=grx_elem0 G5.out h0
   subst eAD
   have hdb3:=HOW3.out db rfl
   have HAT:=LH hat
   have hcp:=fun i=>Rp5.out.cell i
   clear hat
   go_wp2_with fail
   clear hcp
   refine wp_region_T (fun x=>x.cell? ⟨w3.heap.size,0,none⟩=some (.slice (some ⟨db,0,none⟩) ds.length cD)) 100 (by kernel_rfl) ?_
   obtain⟨w6,e6⟩:∃ x,x=w5.drew:=⟨_,rfl⟩
   rw [<- e6]
   have K6:=LH (show Below w5.heap.size w5 w6 by rw [e6];exact(Below.refl _ _).drew)
   have hz6:w6.heap.size<=w5.heap.size/\w5.heap.size<=w6.heap.size:=by rw [e6];exact⟨Nat.le_refl _,Nat.le_refl _⟩
   clear e6
   have Rp6:=LH (Rp5.out.below K6.out Rp5.out.lt)
   have M6:=LH (M5.out.below K6.out)
   have G6:=LH (G5.out.below K6.out)
   have hb6:=K6.out.block db hdb.2
   have j0:=(show w6.cell? ⟨db,0,none⟩=w5.cell? ⟨db,0,none⟩ from by unfold World.cell?;rw [hb6]).trans d0
   have j1:=(show w6.cell? ⟨db,1,none⟩=w5.cell? ⟨db,1,none⟩ from by unfold World.cell?;rw [hb6]).trans d1
   have j2:=(show w6.cell? ⟨db,2,none⟩=w5.cell? ⟨db,2,none⟩ from by unfold World.cell?;rw [hb6]).trans d2
   have hS1:w6.cell? ⟨w3.heap.size,0,none⟩=some (.slice (some ⟨db,0,none⟩) ds.length cD):=Rp6.out.cell 0
   refine wpAnyT_tk (i:=0) (oi:=_) (v:=?tv10) rfl (Or.inl ⟨by rfl,?th10⟩) hS1 ?_
   case th10=>(intro x hSx;(try dsimp only at hSx);go_simp;(try with_reducible rfl))
   try simp only [nA,nB,nC,Act.put,nD,nE,nF]
   refine wpAnyT_tk (i:=1) (oi:=_) (v:=?tv11) rfl (Or.inl ⟨by rfl,?th11⟩) hS1 ?_
   case th11=>(intro x hSx;(try dsimp only at hSx);go_simp;(try with_reducible rfl))
   try simp only [nA,nB,nC,Act.put,nD,nE,nF]
   refine wpAnyT_tk (i:=2) (oi:=_) (v:=?tv12) rfl (Or.inl ⟨by rfl,?th12⟩) hS1 ?_
   case th12=>(intro x hSx;(try dsimp only at hSx);go_simp;(try with_reducible rfl))
   try simp only [nA,nB,nC,Act.put,nD,nE,nF]
   refine wpAnyT_tk (i:=3) (oi:=_) (v:=?tv13) rfl (Or.inl ⟨by rfl,?th13⟩) hS1 ?_
   case th13=>(intro x hSx;(try dsimp only at hSx);go_simp;(try with_reducible rfl))
   try simp only [nA,nB,nC,Act.put,nD,nE,nF]
   refine wpAnyT_tk (i:=4) (oi:=_) (v:=?tv14) rfl (Or.inl ⟨by rfl,?th14⟩) hS1 ?_
   case th14=>(intro x hSx;(try dsimp only at hSx);go_simp;(try with_reducible rfl))
   try simp only [nA,nB,nC,Act.put,nD,nE,nF]
   refine wpAnyT_step (i:=5) (by kernel_rfl) rfl (fun K hK=>?_)
   try simp only [nA,nB,nC]
   go_simp
   refine hK.out _ _ hS1 (fun hS1b=>?_)
   clear hK K hS1 j0 j1 j2
   try simp only [nA,nB,nC,Act.put,nD,nE,nF]
   refine wpAnyT_step (i:=6) (by kernel_rfl) rfl (fun K hK=>?_)
   try simp only [nA,nB,nC]
   go_simp
   obtain⟨w7,e7,R7,hz7,K7⟩:=boxed w6 40 #[.string ds[0].name,.int .i64 ds[0].vars,.slice A1 ds[0].cons.length c1]
   rw [<- e7]
   have E7:=LH (show Below w6.heap.size w6 w7 by rw [e7];exact(Below.refl _ _).alloc (Nat.le_refl _) _)
   clear e7 K7
   replace hz7:w6.heap.size+1<=w7.heap.size/\w7.heap.size<=w6.heap.size+1:=by omega
   have G7:=LH (G6.out.below E7.out)
   have M7:=LH (M6.out.below E7.out)
   have Rp7:=LH (Rp6.out.below E7.out Rp6.out.lt)
   have hS2:w7.cell? ⟨w3.heap.size,0,none⟩=some (.slice (some ⟨db,0,none⟩) ds.length cD):=Rp7.out.cell 0
   have hne6:(Value.slice (some ⟨db,0,none⟩) ds.length cD).ownBlock≠some w6.heap.size:=fun e=>by
    obtain rfl:db=w6.heap.size:=by simpa [Value.ownBlock] using e
    omega
   have SL:=LH (show Sl w7 (fun q=>q<w7.heap.size/\(Value.slice (some ⟨db,0,none⟩) ds.length cD).ownBlock≠some q/\w2.heap.size+1<=q) 3 (some ⟨w6.heap.size,0,none⟩) 1 ([ds[0]].map GData.toD) from
     Sl.ofRow R7.out (rdC_one1 (GData.rd_mk (HAT.out.keep fun q hq=>⟨⟨by have:=hq.1;omega,hq.2⟩,(E7.out.block q (by have:=hq.1;omega)).trans (K6.out.block q hq.1)⟩)) rfl) ⟨by omega,hne6,by omega⟩ (by simp) (by unfold maxLen;omega))
   refine hK.out _ _ hS2 (fun hS3=>?_)
   clear hK K hS1b hS2
   try simp only [nA,nB,nC,Act.put,nD,nE,nF]
   refine wpAnyT_step (i:=7) (by kernel_rfl) rfl (fun K hK=>?_)
   refine step_append_X w7 rfl (.tmp 18) (.tmp 23) 24 rfl 40 zDat 3 48 Tryz.underlying24 (by kernel_rfl) rfl (by omega) (w2.heap.size+1) (.slice (some ⟨db,0,none⟩) ds.length cD) ds.length _ G7.out (some ⟨w6.heap.size,0,none⟩) 1 1 _ rfl SL.out (by omega) (by unfold maxLen;omega) (by omega) rfl rfl ?_
   intro A8 c8 w8 hG8 hGr
   have hz8:=hGr.size
   have hod:∀ q,(Value.slice (some ⟨db,0,none⟩) ds.length cD).ownBlock=some q->db=q:=fun q hq=>by simpa [Value.ownBlock] using hq
   have GG8:=LH hG8
   have hS4:w8.cell? ⟨w3.heap.size,0,none⟩=some (.slice (some ⟨db,0,none⟩) ds.length cD):=(hGr.row Rp7.out (fun e=>by have:=hod _ e;omega)).cell 0
   have B8:=LH (B2.out.trans ((M7.out.bx.below (B:=w.heap.size) (by have:=B2.out.size;omega) (by omega)).trans (hGr.below (B:=w.heap.size) (by have:=B2.out.size;omega) (fun q hq=>by have:=hod q hq;have:=B2.out.size;omega))))
   clear hG8 hGr
   refine hK.out _ _ hS4 (fun hS5=>?_)
   clear hK K hS3 hS4
   try simp only [nA,nB,nC,Act.put,nD,nE,nF]
   refine wpAnyT_step (i:=8) (by kernel_rfl) rfl (fun K hK=>?_)
   try simp only [nA,nB,nC]
   go_simp
   refine hK.out _ _ hS5 (fun hS6=>?_)
   clear hK K hS5
   try simp only [nA,nB,nC,Act.put,nD,nE,nF]
   refine wpAnyT_done (by kernel_rfl) ?_ _
   clear hS6
   obtain⟨A9,c9,e9,h9⟩:=GG8.out.sl fun b h=>h
   obtain⟨rfl,rfl⟩:A8=A9/\c8=c9:=by simpa using e9
   have S9:=LH (h9.keep (w':=w8) (S':=Lt w8.heap.size) fun b hb=>⟨hb.1,rfl⟩)
   clear h9 e9
   go_wp2_with fail
   show BP _ _
   rw [HBP.out]
   refine bodyPost_ret (v:=.slice A8 (ds.length+1) c8) (by simp [results,Tryz.results13,go_sem]) rfl ?_
   exact⟨ds++[ds[0]],A8,c8,by simp,(by have h3:=consN_get ds h0;have h4:=consN_apd ds [ds[0]];omega),by rw [List.map_append];exact S9.out,B8.out⟩
  ·
   have hd0:¬ (0:Int)<(ds.length:Int):=by omega
   have dd0:decide ((0:Int)<(ds.length:Int))=false:=decide_eq_false hd0
   obtain⟨A9,c9,e9,h9⟩:=G5.out.sl fun b h=>h
   obtain⟨rfl,rfl⟩:AD=A9/\cD=c9:=by simpa using e9
   have S9:=LH (h9.keep (w':=w5) (S':=Lt w5.heap.size) fun b hb=>⟨hb.1,rfl⟩)
   have B9:=LH (B2.out.trans (M5.out.bx.below (B:=w.heap.size) (by have:=B2.out.size;omega) (by omega)))
   clear h9 e9
   have hcp:=fun i=>Rp5.out.cell i
   go_wp2_with fail
   show BP _ _
   rw [HBP.out]
   refine bodyPost_ret (v:=.slice AD ds.length cD) (by simp [results,Tryz.results13,go_sem]) rfl ?_
   exact⟨ds,AD,cD,rfl,by omega,S9.out,B9.out⟩
set_option maxHeartbeats 400000
theorem indexFuncCon (K:Nat) (hK:∀ (args:Array Value) (w:World),(callFunc K args).run Tryz.prog w= .ok (.enter K args) w) (caps:Array Value) (p:GCon->Bool) (l:List GCon) (A:Option Addr) (c:Nat) (w:World) (hs:Sl w (Lt w.heap.size) 2 A c (l.map GCon.toD))
 (H:∀ x,x∈l->∀ (A1:Option Addr) (c1:Nat) (w2:World),Below w.heap.size w w2->GCon.At w2 (Lt w2.heap.size) A1 c1 x->
   Calls Tryz.prog K (#[.agg #[.string x.name,.slice A1 x.args.length c1]]++caps) w2 fun e w'=>e= .returned (.bool (p x))/\Below w2.heap.size w2 w'):
 Calls Tryz.prog 22 #[.slice A l.length c,.func (.func K) #[] caps] w fun e w'=>e= .returned (.int .i64 (idxI p l))/\Below w.heap.size w w':=by
 have hlen:l.length<=9223372036854775807:=by simpa using hs.len
 have HH:=LH H
 clear H
 go_enter Tryz.func22,Tryz.ntmps22
 go_wp2_with fail
 go_loopw [8] (fun i wr=>∃ j:Nat,j<=l.length/\i= .int .i64 j/\noneTo p l j/\Below w.heap.size w wr) (fun i _=>l.length - (intOf i).toNat)
 case atStart=>exact⟨0,by omega,by go_num,noneTo_zero p l,Below.refl _ _⟩
 case round=>
  obtain⟨j,hj,rfl,hno,hbl⟩:=hrel
  have Hno:=LH hno
  clear hno
  have hsz:=hbl.size
  by_cases hlt:j<l.length
  ·
   have htr:=GCon.elem (hs.below hbl (Nat.le_refl _)) j hlt
   obtain⟨b,off,A1,c1,rfl,hSb,g0,g1,hat⟩:=htr
   have hmem:l[j]∈l:=List.getElem_mem hlt
   go_wp2_with fail
   refine(HH.out _ hmem _ _ _ hbl (hat.below (Below.refl _ _) hsz)).mono ?_
   rintro e w1 ⟨rfl,hb1⟩
   cases he:p l[j]
   · have hn:=LH (noneTo_succ Hno.out hlt he)
     go_wp2_with fail
     go_roundw
     case rel=>exact⟨j+1,by omega,by go_num,hn.out,hbl.trans (hb1.mono hsz)⟩
     case measure=>simp [intOf];omega
   · have hn:=LH (idxI_at Hno.out hlt he)
     go_wp2_with fail
     go_ret
     exact⟨ret_int hn.out.symm,hbl.trans (hb1.mono hsz)⟩
  ·
   have hjl:j=l.length:=by omega
   have Hj:=LH hjl
   clear hjl
   go_wp2_with fail
   go_ret
   exact⟨ret_int (idxI_none (by have:=Hno.out;rw [Hj.out] at this;exact this)).symm,hbl⟩
set_option maxHeartbeats 1000000
theorem ret_ii {a b c d:Int} (h:a=b) (h2:c=d):Ending.returned (.tuple #[.int .i64 a,.int .i64 c])= .returned (.tuple #[.int .i64 b,.int .i64 d]):=by rw [h,h2]
def conOf (s:ByteArray):List GData->Nat->Option (Nat × Nat)
 | [],_=>none
 | d::r,j=>match tagIn s d.cons 0 with
  | some k=>some (j,k)
  | none=>conOf s r (j+1)
def conI:Option (Nat × Nat)->Int × Int
 | some (j,k)=>(j,k)
 | none=>(-1,-1)
theorem conOf_hit {s:ByteArray} {l:List GData} {j n m:Nat} (h:j<l.length) (e:tagIn s l[j].cons 0=some m):conOf s (l.drop j) n=some (n,m):=by
 rw [List.drop_eq_getElem_cons h,conOf,e]
theorem conOf_miss {s:ByteArray} {l:List GData} {j n:Nat} (h:j<l.length) (e:tagIn s l[j].cons 0=none):conOf s (l.drop j) n=conOf s (l.drop (j+1)) (n+1):=by
 rw [List.drop_eq_getElem_cons h,conOf,e]
theorem specConOf (l:List GData) (A:Option Addr) (c:Nat) (s:ByteArray) (w:World) (hs:Sl w (Lt w.heap.size) 3 A c (l.map GData.toD)):
 Calls Tryz.prog 12 #[.slice A l.length c,.string s] w fun e w'=>e= .returned (.tuple #[.int .i64 (conI (conOf s l 0)).1,.int .i64 (conI (conOf s l 0)).2])/\Below w.heap.size w w':=by
 have hlen:l.length<=9223372036854775807:=by simpa using hs.len
 have S0:=LH hs
 clear hs
 go_enter Tryz.func12,Tryz.ntmps12
 go_wp2_with fail
 go_loopw [6] (fun i wr=>∃ (j:Nat),j<=l.length/\i= .int .i64 j/\Hid (conOf s l 0=conOf s (l.drop j) j)/\Below w.heap.size w wr) (fun i _=>l.length - (intOf i).toNat)
 case atStart=>exact⟨0,by omega,by go_num,LH rfl,Below.refl _ _⟩
 case round=>
  obtain⟨j,hj,rfl,HT,hbl⟩:=hrel
  have hsz:=hbl.size
  by_cases hlt:j<l.length
  ·
   obtain⟨b,off,A1,c1,rfl,hSb,g0,g1,g2,hat⟩:=GData.elem (S0.out.below hbl (Nat.le_refl _)) j hlt
   have hcl:(l[j]).cons.length<=9223372036854775807:=by simpa using hat.2.2.len
   clear hat
   go_wp2_with fail
   go_loopw [7] (fun i wr2=>∃ (k:Nat),k<=(l[j]).cons.length/\i= .int .i64 k/\Hid (tagIn s (l[j]).cons 0=tagIn s ((l[j]).cons.drop k) k)/\Below w.heap.size w wr2) (fun i _=>(l[j]).cons.length - (intOf i).toNat)
   case atStart=>exact⟨0,by omega,by go_num,LH rfl,hbl⟩
   case round=>
    obtain⟨k,hk,rfl,HI,hbk⟩:=hrel
    obtain⟨b',off',A1',c1',eA,hSb',q0,q1,q2,hat'⟩:=GData.elem (S0.out.below hbk (Nat.le_refl _)) j hlt
    obtain⟨rfl,rfl⟩:b=b'/\off=off':=by simpa using eA
    by_cases hkt:k<(l[j]).cons.length
    ·
     obtain⟨b2,off2,A2,c2,rfl,hSb2,p0,p1,hat2⟩:=GCon.elem hat'.2.2 k hkt
     by_cases he:((l[j]).cons[k]).name=s
     · have HV:=LH (show conOf s l 0=some (j,k) from HT.out.trans (conOf_hit hlt (HI.out.trans (tagIn_hit hkt he))))
       have hbe:(((l[j]).cons[k]).name.toList ==s.toList)=true:=by rw [he];simp
       clear he
       go_wp2_with fail
       go_ret2
       exact⟨ret_ii (by rw [HV.out];rfl) (by rw [HV.out];rfl),hbk⟩
     · have HI2:=LH (HI.out.trans (tagIn_miss hkt he))
       have hbe:(((l[j]).cons[k]).name.toList ==s.toList)=false:=name_ne he
       clear he
       go_wp2_with fail
       go_roundw
       case rel=>exact⟨k+1,by omega,by go_num,HI2,hbk⟩
       case measure=>simp [intOf];omega
    · have hkl:k=(l[j]).cons.length:=by omega
      have HO:=LH (conOf_miss (s:=s) (n:=j) hlt (HI.out.trans (by rw [hkl,List.drop_length];rfl)))
      go_wp2_with fail
      go_roundw
      case rel=>exact⟨j+1,by omega,by go_num,LH (HT.out.trans HO.out),hbk⟩
      case measure=>simp [intOf];omega
  ·
   have hjl:j=l.length:=by omega
   have Hj:=LH hjl
   clear hjl
   go_wp2_with fail
   go_ret2
   exact⟨ret_ii (by rw [HT.out,Hj.out,List.drop_length];rfl) (by rw [HT.out,Hj.out,List.drop_length];rfl),hbl⟩
theorem idxI_tagIn (s:ByteArray) (l:List GCon) (n:Nat):(match tagIn s l n with | some k=>idxI (fun x:GCon=>x.name.toList ==s.toList) l=(k:Int) - n/\n<=k | none=>idxI (fun x:GCon=>x.name.toList ==s.toList) l= -1):=by
 induction l generalizing n with
 | nil=>simp [tagIn,idxI]
 | cons x r ih=>
  by_cases h:x.name=s
  · have e:(x.name.toList ==s.toList)=true:=by rw [h];simp
    simp [tagIn,idxI,h]
  ·
   have e:=name_ne h
   have:=ih (n+1)
   simp only [tagIn,idxI,if_neg h,e]
   cases hc:tagIn s r (n+1)<;>rw [hc] at this<;>simp only at this ⊢
   · rw [this];rfl
   · rw [if_neg (by simp),if_neg (by omega)];omega
theorem implConOf1 (s:ByteArray) (b:Nat) (x:GCon) (A1:Option Addr) (c1:Nat) (w:World) (hc:w.cell? ⟨b,0,none⟩=some (.string s)) (hb:b<w.heap.size):
 Calls Tryz.prog 23 #[.agg #[.string x.name,.slice A1 x.args.length c1],.pointer (some ⟨b,0,none⟩)] w fun e w'=>e= .returned (.bool (x.name.toList ==s.toList))/\Below w.heap.size w w':=by
 have E:Below w.heap.size w (w.alloc (.cells #[.string x.name,.slice A1 x.args.length c1] 37)):=(Below.refl _ _).alloc (Nat.le_refl _) _
 have hc2:=(E.cell (p:=⟨b,0,none⟩) hb).trans hc
 go_enter Tryz.func23,Tryz.ntmps23
 go_wp2_with fail
 go_ret
 exact⟨rfl,E⟩
theorem implConOf (l:List GData) (A:Option Addr) (c:Nat) (s:ByteArray) (w:World) (hs:Sl w (Lt w.heap.size) 3 A c (l.map GData.toD)):
 Calls Tryz.prog 11 #[.slice A l.length c,.string s] w fun e w'=>e= .returned (.tuple #[.int .i64 (conI (conOf s l 0)).1,.int .i64 (conI (conOf s l 0)).2])/\Below w.heap.size w w':=by
 have hlen:l.length<=9223372036854775807:=by simpa using hs.len
 have S0:=LH hs
 clear hs
 have E0:=LH (show Below w.heap.size w (w.alloc (.cells #[.string s] 9)) from(Below.refl _ _).alloc (Nat.le_refl _) _)
 have R0:=LH (Row.new w 9 #[.string s])
 go_enter Tryz.func11,Tryz.ntmps11
 go_wp2_with fail
 go_loopw [11] (fun i wr=>∃ (j:Nat),j<=l.length/\i= .int .i64 j/\Hid (conOf s l 0=conOf s (l.drop j) j)/\Hid (Row wr w.heap.size 9 #[.string s])/\Below w.heap.size w wr) (fun i _=>l.length - (intOf i).toNat)
 case atStart=>exact⟨0,by omega,by go_num,LH rfl,R0,E0.out⟩
 case round=>
  obtain⟨j,hj,rfl,HT,HR,hbl⟩:=hrel
  have hsz:=hbl.size
  by_cases hlt:j<l.length
  ·
   obtain⟨b,off,A1,c1,rfl,hSb,g0,g1,g2,hat⟩:=GData.elem (S0.out.below hbl (Nat.le_refl _)) j hlt
   have S1:=LH hat.2.2
   have hcl:(l[j]).cons.length<=9223372036854775807:=by simpa using hat.2.2.len
   clear hat
   have HX:=LH (idxI_tagIn s (l[j]).cons 0)
   go_wp2_with fail
   refine(indexFuncCon 23 (enters Tryz.func23 (by kernel_rfl) (by kernel_rfl)) #[.pointer (some ⟨w.heap.size,0,none⟩)] (fun x=>x.name.toList ==s.toList) (l[j]).cons A1 c1 _ (S1.out.keep (fun k hk=>⟨Nat.lt_of_lt_of_le (Nat.lt_of_lt_of_le hk hsz) (by simp),Below.heap_alloc _ _ _ (Nat.lt_of_lt_of_le hk hsz)⟩))
     (fun x hx A2 c2 w2 hb2 hat2=>by
       have R2:=(HR.out.alloc _).below hb2 (HR.out.alloc _).lt
       exact implConOf1 s w.heap.size x A2 c2 w2 (R2.cell 0) R2.lt)).mono ?_
   rintro e w2 ⟨rfl,hb2⟩
   have B2:=LH ((hbl.alloc hsz _).trans (hb2.mono (hbl.alloc hsz _).size))
   have R3:=LH ((HR.out.alloc _).below hb2 (HR.out.alloc _).lt)
   clear hb2
   have hx:=HX.out
   cases hct:tagIn s (l[j]).cons 0 with
   | some k=>
    rw [hct] at hx
    obtain⟨hx1,_⟩:=hx
    have hx2:idxI (fun x:GCon=>x.name.toList ==s.toList) (l[j]).cons=(k:Int):=by simpa using hx1
    have HV:=LH (HT.out.trans (conOf_hit (n:=j) hlt hct))
    rw [hx2]
    clear hx1 hx2 hct
    go_wp2_with fail
    go_ret2
    exact⟨ret_ii (by rw [HV.out];rfl) (by rw [HV.out];rfl),B2.out⟩
   | none=>
    rw [hct] at hx
    have hx2:idxI (fun x:GCon=>x.name.toList ==s.toList) (l[j]).cons= -1:=hx
    have HV:=LH (HT.out.trans (conOf_miss (n:=j) hlt hct))
    rw [hx2]
    clear hx hx2 hct
    go_wp2_with fail
    go_roundw
    case rel=>exact⟨j+1,by omega,by go_num,HV,R3,B2.out⟩
    case measure=>simp [intOf];omega
  ·
   have hjl:j=l.length:=by omega
   have Hj:=LH hjl
   clear hjl
   go_wp2_with fail
   go_ret2
   exact⟨ret_ii (by rw [HT.out,Hj.out,List.drop_length];rfl) (by rw [HT.out,Hj.out,List.drop_length];rfl),hbl⟩
def tagCon (t:Int):List GData->Nat->Nat->Int × Int
 | [],_,_=>(-1,-1)
 | d::r,n,j=>if(n:Int)<=t/\t - n<d.cons.length then((j:Int),t - n) else tagCon t r (n+d.cons.length) (j+1)
theorem tagCon_hit {t:Int} {l:List GData} {j n:Nat} (h:j<l.length) (e:(n:Int)<=t/\t - n<(l[j].cons.length:Int)):tagCon t (l.drop j) n j=((j:Int),t - n):=by
 rw [List.drop_eq_getElem_cons h,tagCon,if_pos e]
theorem tagCon_miss {t:Int} {l:List GData} {j n:Nat} (h:j<l.length) (e:¬ ((n:Int)<=t/\t - n<(l[j].cons.length:Int))):tagCon t (l.drop j) n j=tagCon t (l.drop (j+1)) (n+l[j].cons.length) (j+1):=by
 rw [List.drop_eq_getElem_cons h,tagCon,if_neg e]
theorem tagCon_lt {t:Int} {l:List GData} {n j:Nat} (h:t<n):tagCon t l n j=(-1,-1):=by
 induction l generalizing n j with
 | nil=>rfl
 | cons d r ih=>rw [tagCon,if_neg (by omega),ih (by omega)]
theorem specTagCon (l:List GData) (A:Option Addr) (c:Nat) (t:Int) (w:World) (ht1: -9223372036854775808<=t) (ht2:t<=9223372036854775807) (hm:consN l<=1048576) (hs:Sl w (Lt w.heap.size) 3 A c (l.map GData.toD)):
 Calls Tryz.prog 9 #[.slice A l.length c,.int .i64 t] w fun e w'=>e= .returned (.tuple #[.int .i64 (tagCon t l 0 0).1,.int .i64 (tagCon t l 0 0).2])/\Below w.heap.size w w':=by
 have hlen:l.length<=9223372036854775807:=by simpa using hs.len
 have S0:=LH hs
 clear hs
 go_enter Tryz.func9,Tryz.ntmps9
 go_wp2_with fail
 go_loopw [6,7] (fun n i wr=>∃ (j m:Nat),j<=l.length/\i= .int .i64 j/\n= .int .i64 m/\Hid (tagCon t l 0 0=tagCon t (l.drop j) m j)/\m+consN (l.drop j)<=1048576/\Below w.heap.size w wr) (fun _ i _=>l.length - (intOf i).toNat)
 case atStart=>exact⟨0,0,by omega,by go_num,by go_num,LH rfl,by simpa using hm,Below.refl _ _⟩
 case round=>
  obtain⟨j,m,hj,rfl,rfl,HT,hbd,hbl⟩:=hrel
  have hsz:=hbl.size
  by_cases hlt:j<l.length
  ·
   obtain⟨b,off,A1,c1,rfl,hSb,g0,g1,g2,hat⟩:=GData.elem (S0.out.below hbl (Nat.le_refl _)) j hlt
   have hcl:(l[j]).cons.length<=9223372036854775807:=by simpa using hat.2.2.len
   have hcd:=consN_drop hlt
   have hbd1:m+(l[j]).cons.length<=1048576:=by omega
   have hbd2:(m+(l[j]).cons.length)+consN (l.drop (j+1))<=1048576:=by omega
   clear hcd hat
   by_cases h1:(m:Int)<=t
   ·
    by_cases h2:t - m<((l[j]).cons.length:Int)
    · have HV:=LH (HT.out.trans (tagCon_hit hlt ⟨h1,h2⟩))
      go_wp2_with fail
      go_ret2
      exact⟨ret_ii (by rw [HV.out]) (by rw [HV.out]),hbl⟩
    · have HV:=LH (HT.out.trans (tagCon_miss hlt (fun e=>h2 e.2)))
      have h3:decide (t - m<((l[j]).cons.length:Int))=false:=by simpa using h2
      go_wp2_with fail
      go_roundw
      case rel=>exact⟨j+1,m+(l[j]).cons.length,by omega,by go_num,by go_num,HV,hbd2,hbl⟩
      case measure=>simp [intOf];omega
   · have HV:=LH (HT.out.trans (tagCon_miss hlt (fun e=>h1 e.1)))
     have h3:decide ((m:Int)<=t)=false:=by simpa using h1
     go_wp2_with fail
     go_roundw
     case rel=>exact⟨j+1,m+(l[j]).cons.length,by omega,by go_num,by go_num,HV,hbd2,hbl⟩
     case measure=>simp [intOf];omega
  ·
   have hjl:j=l.length:=by omega
   have Hj:=LH hjl
   clear hjl
   go_wp2_with fail
   go_ret2
   exact⟨ret_ii (by rw [HT.out,Hj.out,List.drop_length];rfl) (by rw [HT.out,Hj.out,List.drop_length];rfl),hbl⟩
theorem implTagConNeg (l:List GData) (A:Option Addr) (c:Nat) (t:Int) (w:World) (ht1: -9223372036854775808<=t) (ht2:t<0) (hm:consN l<=1048576) (hs:Sl w (Lt w.heap.size) 3 A c (l.map GData.toD)):
 Calls Tryz.prog 8 #[.slice A l.length c,.int .i64 t] w fun e w'=>e= .returned (.tuple #[.int .i64 (-1),.int .i64 (-1)])/\Below w.heap.size w w':=by
 have hlen:l.length<=9223372036854775807:=by simpa using hs.len
 have S0:=LH hs
 clear hs
 go_enter Tryz.func8,Tryz.ntmps8
 go_wp2_with fail
 go_loopw [1,10] (fun n i wr=>∃ (j:Nat) (x:Int),j<=l.length/\i= .int .i64 j/\n= .int .i64 x/\consN (l.drop j)<=1048576/\(-9223372036854775808<=x/\x<0\/4611686018427387904+(consN (l.drop j):Int)<=x/\x<=9223372036854775807)/\Below w.heap.size w wr) (fun _ i _=>l.length - (intOf i).toNat)
 case atStart=>exact⟨0,t,by omega,by go_num,by go_num,by simpa using hm,.inl ⟨ht1,ht2⟩,Below.refl _ _⟩
 case round=>
  obtain⟨j,x,hj,rfl,rfl,hbd,hx,hbl⟩:=hrel
  have hsz:=hbl.size
  by_cases hlt:j<l.length
  ·
   obtain⟨b,off,A1,c1,rfl,hSb,g0,g1,g2,hat⟩:=GData.elem (S0.out.below hbl (Nat.le_refl _)) j hlt
   have hcl:(l[j]).cons.length<=9223372036854775807:=by simpa using hat.2.2.len
   have hcd:=consN_drop hlt
   have hbd1:(l[j]).cons.length<=1048576:=by omega
   have hbd2:consN (l.drop (j+1))<=1048576:=by omega
   have hI:inB x 0 (((l[j]).cons.length:Int) - 1)=false:=inB_false (by omega)
   clear hat
   go_wp2_with fail
   refine(implWithin _ _ _ _).mono ?_
   rintro e w2 ⟨rfl,rfl⟩
   rw [hI]
   rcases hx with ⟨hx1,hx2⟩ | ⟨hx1,hx2⟩
   ·
    by_cases hx3: -9223372036854775808<=x - ((l[j]).cons.length:Int)
    · have hx4:x - ((l[j]).cons.length:Int)<0:=by omega
      go_wp2_with fail
      go_ret2
      exact⟨rfl,hbl.alloc hsz _⟩
    · have hw:wrap64 (x - ((l[j]).cons.length:Int))=x - ((l[j]).cons.length:Int)+18446744073709551616:=by unfold wrap64;omega
      have hx4:decide (wrap64 (x - ((l[j]).cons.length:Int))<0)=false:=by rw [hw];simp;omega
      go_wp2_with fail
      go_roundw
      case rel=>exact⟨j+1,x - ((l[j]).cons.length:Int)+18446744073709551616,by omega,by go_num,by rw [hw],hbd2,.inr ⟨by omega,by omega⟩,hbl.alloc hsz _⟩
      case measure=>simp [intOf];omega
   · have hx4:decide (x - ((l[j]).cons.length:Int)<0)=false:=by simp;omega
     go_wp2_with fail
     go_roundw
     case rel=>exact⟨j+1,x - ((l[j]).cons.length:Int),by omega,by go_num,by go_num,hbd2,.inr ⟨by omega,by omega⟩,hbl.alloc hsz _⟩
     case measure=>simp [intOf];omega
  · go_wp2_with fail
    go_ret2
    exact⟨rfl,hbl⟩
theorem implTagConPos (l:List GData) (A:Option Addr) (c:Nat) (t:Int) (w:World) (ht1:0<=t) (ht2:t<=9223372036854775807) (hm:consN l<=1048576) (hs:Sl w (Lt w.heap.size) 3 A c (l.map GData.toD)):
 Calls Tryz.prog 8 #[.slice A l.length c,.int .i64 t] w fun e w'=>e= .returned (.tuple #[.int .i64 (tagCon t l 0 0).1,.int .i64 (tagCon t l 0 0).2])/\Below w.heap.size w w':=by
 have hlen:l.length<=9223372036854775807:=by simpa using hs.len
 have S0:=LH hs
 clear hs
 go_enter Tryz.func8,Tryz.ntmps8
 go_wp2_with fail
 go_loopw [1,10] (fun n i wr=>∃ (j m:Nat),j<=l.length/\i= .int .i64 j/\n= .int .i64 (t - m)/\Hid (tagCon t l 0 0=tagCon t (l.drop j) m j)/\(m:Int)<=t/\m+consN (l.drop j)<=1048576/\Below w.heap.size w wr) (fun _ i _=>l.length - (intOf i).toNat)
 case atStart=>exact⟨0,0,by omega,by go_num,by go_num,LH rfl,by omega,by simpa using hm,Below.refl _ _⟩
 case round=>
  obtain⟨j,m,hj,rfl,rfl,HT,hmt,hbd,hbl⟩:=hrel
  have hsz:=hbl.size
  by_cases hlt:j<l.length
  ·
   obtain⟨b,off,A1,c1,rfl,hSb,g0,g1,g2,hat⟩:=GData.elem (S0.out.below hbl (Nat.le_refl _)) j hlt
   have hcl:(l[j]).cons.length<=9223372036854775807:=by simpa using hat.2.2.len
   have hcd:=consN_drop hlt
   have hbd1:m+(l[j]).cons.length<=1048576:=by omega
   have hbd2:(m+(l[j]).cons.length)+consN (l.drop (j+1))<=1048576:=by omega
   clear hat hcd
   go_wp2_with fail
   refine(implWithin _ _ _ _).mono ?_
   rintro e w2 ⟨rfl,rfl⟩
   by_cases h2:t - m<((l[j]).cons.length:Int)
   · have HV:=LH (HT.out.trans (tagCon_hit hlt ⟨hmt,h2⟩))
     rw [inB_true ⟨by omega,by omega⟩]
     go_wp2_with fail
     go_ret2
     exact⟨ret_ii (by rw [HV.out]) (by rw [HV.out]),hbl.alloc hsz _⟩
   ·
    have HV:=LH (HT.out.trans (tagCon_miss hlt (fun e=>h2 e.2)))
    rw [inB_false (by omega)]
    by_cases h3:t - m - ((l[j]).cons.length:Int)<0
    · omega
    · have h4:decide (t - m - ((l[j]).cons.length:Int)<0)=false:=by simpa using h3
      go_wp2_with fail
      go_roundw
      case rel=>exact⟨j+1,m+(l[j]).cons.length,by omega,by go_num,by go_num,HV,by omega,hbd2,hbl.alloc hsz _⟩
      case measure=>simp [intOf];omega
  ·
   have hjl:j=l.length:=by omega
   have Hj:=LH hjl
   clear hjl
   go_wp2_with fail
   go_ret2
   exact⟨ret_ii (by rw [HT.out,Hj.out,List.drop_length];rfl) (by rw [HT.out,Hj.out,List.drop_length];rfl),hbl⟩
theorem implTagCon (l:List GData) (A:Option Addr) (c:Nat) (t:Int) (w:World) (ht1: -9223372036854775808<=t) (ht2:t<=9223372036854775807) (hm:consN l<=1048576) (hs:Sl w (Lt w.heap.size) 3 A c (l.map GData.toD)):
 Calls Tryz.prog 8 #[.slice A l.length c,.int .i64 t] w fun e w'=>e= .returned (.tuple #[.int .i64 (tagCon t l 0 0).1,.int .i64 (tagCon t l 0 0).2])/\Below w.heap.size w w':=by
 rcases Int.lt_or_le t 0 with h | h
 · have e:tagCon t l 0 0=(-1,-1):=tagCon_lt (by simpa using h)
   rw [e]
   exact implTagConNeg l A c t w ht1 h hm hs
 · exact implTagConPos l A c t w h ht2 hm hs
theorem tagIn_noneT {s:ByteArray}:∀ (l:List GCon) (n m:Nat),tagIn s l n=none->tagIn s l m=none
 | [],n,m,h=>rfl
 | c::r,n,m,h=>by
  rw [tagIn] at h ⊢
  split at h
  · cases h
  · rename_i hc
    rw [if_neg hc]
    exact tagIn_noneT r (n+1) (m+1) h
theorem tagIn_atT {s:ByteArray}:∀ (l:List GCon) (n t:Nat),tagIn s l n=some t->n<=t/\∃ h:t - n<l.length,l[t - n].name=s
 | [],n,t,h=>by cases h
 | c::r,n,t,h=>by
  rw [tagIn] at h
  split at h
  · rename_i hc
    obtain rfl:n=t:=by simpa using h
    exact⟨Nat.le_refl _,by simp,by simpa using hc⟩
  · obtain⟨h1,h2,h3⟩:=tagIn_atT r (n+1) t h
    refine⟨by omega,by simp;omega,?_⟩
    have e:t - n=(t - (n+1))+1:=by omega
    simp only [e,List.getElem_cons_succ]
    exact h3
theorem tags_none {s:ByteArray}:∀ (l:List GData) (n j:Nat),tagOf s l n=none->conOf s l j=none
 | [],n,j,h=>rfl
 | d::r,n,j,h=>by
  rw [tagOf] at h
  rw [conOf]
  split at h
  · cases h
  · rename_i ht
    rw [tagIn_noneT d.cons n 0 ht]
    exact tags_none r _ (j+1) h
theorem tags_some {s:ByteArray}:∀ (l:List GData) (n j t:Nat),tagOf s l n=some t->n<=t/\∃ (i k:Nat) (hi:i<l.length) (hk:k<l[i].cons.length),tagCon (t:Int) l n j=(((j+i:Nat):Int),(k:Int))/\l[i].cons[k].name=s
 | [],n,j,t,h=>by cases h
 | d::r,n,j,t,h=>by
  rw [tagOf] at h
  split at h
  · rename_i x hx
    obtain rfl:x=t:=by simpa using h
    obtain⟨h1,h2,h3⟩:=tagIn_atT d.cons n x hx
    refine⟨h1,0,x - n,by simp,h2,?_,h3⟩
    rw [tagCon,if_pos ⟨by omega,by omega⟩]
    simp;omega
  · obtain⟨h1,i,k,hi,hk,h2,h3⟩:=tags_some r (n+d.cons.length) (j+1) t h
    refine⟨by omega,i+1,k,by simpa using hi,by simpa using hk,?_,by simpa using h3⟩
    rw [tagCon,if_neg (by omega),h2]
    congr 2;omega
theorem tagOf_lt {s:ByteArray}:∀ (l:List GData) (n t:Nat),tagOf s l n=some t->t<n+consN l
 | [],n,t,h=>by cases h
 | d::r,n,t,h=>by
  rw [tagOf] at h
  split at h
  · rename_i x hx
    obtain rfl:x=t:=by simpa using h
    obtain⟨h1,h2,h3⟩:=tagIn_atT d.cons n x hx
    simp only [consN];omega
  · have:=tagOf_lt r _ t h
    simp only [consN];omega
set_option maxHeartbeats 400000
theorem indexFuncData (K:Nat) (hK:∀ (args:Array Value) (w:World),(callFunc K args).run Tryz.prog w= .ok (.enter K args) w) (caps:Array Value) (p:GData->Bool) (l:List GData) (A:Option Addr) (c:Nat) (w:World) (hs:Sl w (Lt w.heap.size) 3 A c (l.map GData.toD))
 (H:∀ x,x∈l->∀ (A1:Option Addr) (c1:Nat) (w2:World),Below w.heap.size w w2->GData.At w2 (Lt w2.heap.size) A1 c1 x->
   Calls Tryz.prog K (#[.agg #[.string x.name,.int .i64 x.vars,.slice A1 x.cons.length c1]]++caps) w2 fun e w'=>e= .returned (.bool (p x))/\Below w2.heap.size w2 w'):
 Calls Tryz.prog 41 #[.slice A l.length c,.func (.func K) #[] caps] w fun e w'=>e= .returned (.int .i64 (idxI p l))/\Below w.heap.size w w':=by
 have hlen:l.length<=9223372036854775807:=by simpa using hs.len
 have HH:=LH H
 clear H
 go_enter Tryz.func41,Tryz.ntmps41
 go_wp2_with fail
 go_loopw [8] (fun i wr=>∃ j:Nat,j<=l.length/\i= .int .i64 j/\noneTo p l j/\Below w.heap.size w wr) (fun i _=>l.length - (intOf i).toNat)
 case atStart=>exact⟨0,by omega,by go_num,noneTo_zero p l,Below.refl _ _⟩
 case round=>
  obtain⟨j,hj,rfl,hno,hbl⟩:=hrel
  have Hno:=LH hno
  clear hno
  have hsz:=hbl.size
  by_cases hlt:j<l.length
  ·
   have htr:=GData.elem (hs.below hbl (Nat.le_refl _)) j hlt
   obtain⟨b,off,A1,c1,rfl,hSb,g0,g1,g2,hat⟩:=htr
   have hmem:l[j]∈l:=List.getElem_mem hlt
   go_wp2_with fail
   refine(HH.out _ hmem _ _ _ hbl (hat.below (Below.refl _ _) hsz)).mono ?_
   rintro e w1 ⟨rfl,hb1⟩
   cases he:p l[j]
   · have hn:=LH (noneTo_succ Hno.out hlt he)
     go_wp2_with fail
     go_roundw
     case rel=>exact⟨j+1,by omega,by go_num,hn.out,hbl.trans (hb1.mono hsz)⟩
     case measure=>simp [intOf];omega
   · have hn:=LH (idxI_at Hno.out hlt he)
     go_wp2_with fail
     go_ret
     exact⟨ret_int hn.out.symm,hbl.trans (hb1.mono hsz)⟩
  ·
   have hjl:j=l.length:=by omega
   have Hj:=LH hjl
   clear hjl
   go_wp2_with fail
   go_ret
   exact⟨ret_int (idxI_none (by have:=Hno.out;rw [Hj.out] at this;exact this)).symm,hbl⟩
end Go.Proofs.YtgbjdhfaklmjcaaGreat
namespace Go.Proofs.YtgbjdhfaklmjcaaGreat
set_option maxRecDepth 20000
set_option linter.unusedVariables false
set_option linter.unusedSimpArgs false
end Go.Proofs.YtgbjdhfaklmjcaaGreat
