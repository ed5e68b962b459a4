/- Texts of the claim LTreesRight in one: DnK DnL ValueText. Conditions: none but bounds on sizes. -/
import Derived.Test.YtamfolaicncblaaGreatZLTreesRight31
import Derived.Test.YtamfolaicncblaaGreatZLTreesRight6
import Derived.Test.YtamfolaicncblaaGreatZLTreesRight5
import Derived.Test.YtamfolaicncblaaGreatZLTreesRight2
namespace Go.Proofs.YtamfolaicncblaaGreat
set_option maxRecDepth 20000
set_option linter.unusedVariables false
set_option linter.unusedSimpArgs false
open Go.RowKit
set_option maxHeartbeats 2000000
theorem drawRunTree (l:List Int) (A:Option Addr) (c:Nat) (w:World) (hs:Sl w (Lt w.heap.size) 1 A c (l.map (D.num .u8))) (hl:l.length<=1048576):
 Calls Tryz.prog 8 #[.slice A l.length c] w fun e w'=>∃ t T1 p1 T2 p2 v Av cv,e= .returned (.tuple #[.agg #[.int .i64 (GTree.op t),.int .i64 (GTree.n t),.slice T1 (GTree.path t).length p1,.string (GTree.s t),.slice T2 (GTree.kids t).length p2],.agg #[.int .i64 (GValue.kind v),.int .i64 (GValue.n v),.string (GValue.s v),.slice Av (GValue.kids v).length cv]])/\GTree.bulk t<=1262486504/\valB v/\GTree.At w' (fun b=>w.heap.size<=b/\b<w'.heap.size) T1 p1 T2 p2 t/\GValue.At w' (fun b=>w.heap.size<=b/\b<w'.heap.size) Av cv v/\Below w.heap.size w w':=by
 have S0:=LH hs
 clear hs
 obtain⟨w1,e1,Rr1,hz1,K1⟩:=boxed w 31 #[.int .i64 0,.int .i64 0,.slice none 0 0,.string ⟨#[]⟩,.slice none 0 0]
 have B1:=LH (show Below w.heap.size w w1 by rw [e1];exact(Below.refl _ _).alloc (Nat.le_refl _) _)
 obtain⟨w2,e2,Rv2,hz2,K2⟩:=boxed w1 36 #[.int .i64 0,.int .i64 0,.string ⟨#[]⟩,.slice none 0 0]
 have hy2:w1.heap.size=w.heap.size+1:=by omega
 rw [hy2] at Rv2 K2
 have Rr2:=LH (K2.out.row Rr1.out (by omega))
 clear Rr1
 have B2:=LH (B1.out.trans (K2.out.below (B:=w.heap.size) (by omega) (by omega)))
 clear B1
 have hzz:w.heap.size+2<=w2.heap.size/\w2.heap.size<=w.heap.size+2:=by omega
 clear hy2
 have HN:=LH (newCur l A c w2 (S0.out.below B2.out B2.out.size) hl)
 clear hz1 K1 hz2 K2 S0
 go_enter Tryz.func8,Tryz.ntmps8
 refine wp_hide (fun BP hBP=>?_)
 have HBP:=LH hBP
 clear hBP
 go_wp2_with fail
 rw [<- e1,<- e2]
 clear e1 e2
 refine HN.out.mono ?_
 rintro e w3 ⟨h0,rfl,hc,hb3⟩
 have hgl:=hc.row.lt
 obtain⟨g,hg⟩:∃ g,w2.heap.size=g:=⟨_,rfl⟩
 rw [hg] at hc hgl ⊢
 have K3:=LH (Bx.of_below (g:=g) hb3 (Nat.le_refl _))
 have M3:=LH (Dm.start hc)
 have Rr3:=LH (K3.out.row Rr2.out (by omega))
 have Rv3:=LH (K3.out.row Rv2.out (by omega))
 clear Rr2 Rv2
 have B3:=LH (B2.out.trans (K3.out.below (B:=w.heap.size) (by have:=B2.out.size;omega) (by omega)))
 clear B2
 clear hc hb3 HN
 go_wp2_with fail
 refine(drawTree M3.out).mono ?_
 rintro e w4 ⟨t,T1,p1,T2,p2,rfl,htb,ha4,hm4⟩
 have DN4:=LH ha4
 have HTB:=LH htb
 have hz4:=hm4.size
 have K4:=LH hm4.bx
 have Rr4:=LH (K4.out.row Rr3.out (by omega))
 have Rv4:=LH (K4.out.row Rv3.out (by omega))
 have M4:=LH (M3.out.trans hm4)
 clear Rr3 Rv3 M3
 have B4:=LH (B3.out.trans (K4.out.below (B:=w.heap.size) (by have:=B3.out.size;omega) (by omega)))
 clear B3
 clear hm4 ha4 htb
 go_upto_region 3 with (fail)
 obtain⟨w5,e5,Rt5,hz5,K5⟩:=boxed w4 31 #[.int .i64 t.op,.int .i64 t.n,.slice T1 t.path.length p1,.string t.s,.slice T2 t.kids.length p2]
 have Rr5:=LH (K5.out.row Rr4.out (by omega))
 have Rv5:=LH (K5.out.row Rv4.out (by omega))
 have Dt5:=LH (DN4.out.keep fun b hb=>⟨hb,K5.out.block b (by have:=hb.1;have:=hb.2;omega) (by have:=hb.1;have:=hb.2;omega)⟩)
 have M5:=LH (M4.out.chg K5.out (by omega) (by omega))
 clear Rr4 Rv4 DN4 M4
 have B5:=LH (B4.out.trans (K5.out.below (B:=w.heap.size) (by have:=B4.out.size;omega) (by omega)))
 clear B4
 replace hz5:w4.heap.size+1<=w5.heap.size/\w5.heap.size<=w4.heap.size+1:=by omega
 rw [<- e5]
 clear e5
 refine wp_region_T (fun x=>Row x w4.heap.size 31 #[.int .i64 t.op,.int .i64 t.n,.slice T1 t.path.length p1,.string t.s,.slice T2 t.kids.length p2]) 100 (by kernel_rfl) ?_
 obtain⟨w6,e6⟩:∃ x,x=w5.drew:=⟨_,rfl⟩
 rw [<- e6]
 have hz6:w6.heap.size<=w5.heap.size/\w5.heap.size<=w6.heap.size:=by rw [e6];exact⟨Nat.le_refl _,Nat.le_refl _⟩
 have K6:=LH (show Bx w5.heap.size w5 w6 by rw [e6];exact Bx.of_below ((Below.refl _ _).drew) (Nat.le_refl _))
 clear e6
 have Rr6:=LH (K6.out.row Rr5.out (by omega))
 have Rv6:=LH (K6.out.row Rv5.out (by omega))
 have Rt6:=LH (K6.out.row Rt5.out (by omega))
 have Dt6:=LH (Dt5.out.keep fun b hb=>⟨hb,K6.out.block b (by have:=hb.1;have:=hb.2;omega) (by have:=hb.1;have:=hb.2;omega)⟩)
 have M6:=LH (M5.out.chg K6.out (by omega) (by omega))
 clear Rr5 Rv5 Rt5 Dt5 M5
 have B6:=LH (B5.out.trans (K6.out.below (B:=w.heap.size) (by have:=B5.out.size;omega) (by omega)))
 clear B5
 refine wpAnyT_tk (i:=0) (oi:=_) (v:=?tv1) rfl (Or.inl ⟨by rfl,?th1⟩) Rt6.out ?_
 case th1=>(intro x hSx;have hcS:=fun i=>(show Row x w4.heap.size 31 #[.int .i64 t.op,.int .i64 t.n,.slice T1 t.path.length p1,.string t.s,.slice T2 t.kids.length p2] from hSx).cell i;clear hSx;go_simp;(try with_reducible rfl))
 try simp only [nA,nB,nC,Act.put,nD,nE,nF]
 refine wpAnyT_tk (i:=1) (oi:=_) (v:=?tv2) rfl (Or.inl ⟨by rfl,?th2⟩) Rt6.out ?_
 case th2=>(intro x hSx;clear hSx;go_simp;(try with_reducible rfl))
 try simp only [nA,nB,nC,Act.put,nD,nE,nF]
 refine wpAnyT_step (i:=2) (by kernel_rfl) rfl (fun K hK=>?_)
 try simp only [nA,nB,nC]
 go_simp
 refine(drawVal10 M6.out).mono ?_
 rintro e w7 ⟨v,Av,cv,rfl,pv,ha7,hm7⟩
 have DN7:=LH ha7
 have hz7:=hm7.size
 have K7:=LH hm7.bx
 have Rr7:=LH (K7.out.row Rr6.out (by omega))
 have Rv7:=LH (K7.out.row Rv6.out (by omega))
 have Rt7:=LH (K7.out.row Rt6.out (by omega))
 have Dt7:=LH (Dt6.out.keep fun b hb=>⟨hb,K7.out.block b (by have:=hb.1;have:=hb.2;omega) (by have:=hb.1;have:=hb.2;omega)⟩)
 clear Rr6 Rv6 Rt6 Dt6 M6
 have B7:=LH (B6.out.trans (K7.out.below (B:=w.heap.size) (by have:=B6.out.size;omega) (by omega)))
 clear B6
 clear hm7 ha7
 have HVB:=LH pv
 clear pv
 try simp only [nA,nB,nC]
 go_simp
 refine hK.out _ _ Rt7.out (fun hS1=>?_)
 clear hK K
 try simp only [nA,nB,nC,Act.put,nD,nE,nF]
 have hcr7:=fun i=>Rr7.out.cell i
 have hfr7:=fun i=>Rr7.out.frozen i
 refine wpAnyT_step (i:=3) (by kernel_rfl) rfl (fun K hK=>?_)
 try simp only [nA,nB,nC]
 go_simp
 clear hcr7 hfr7
 obtain⟨w8,e8,RN8,hz8,K8⟩:=stored5 Rr7.out (.int .i64 t.op) (.int .i64 t.n) (.slice T1 t.path.length p1) (.string t.s) (.slice T2 t.kids.length p2)
 have Rv8:=LH (K8.out.row Rv7.out (by omega))
 have Rt8:=LH (K8.out.row Rt7.out (by omega))
 have Dt8:=LH (Dt7.out.keep fun b hb=>⟨hb,K8.out.block b (by have:=hb.1;have:=hb.2;omega) (by have:=hb.1;have:=hb.2;omega)⟩)
 have Dv8:=LH (DN7.out.keep fun b hb=>⟨hb,K8.out.block b (by have:=hb.1;have:=hb.2;omega) (by have:=hb.1;have:=hb.2;omega)⟩)
 clear Rv7 Rt7 Dt7 DN7
 have B8:=LH (B7.out.trans (K8.out.below (B:=w.heap.size) (by have:=B7.out.size;omega) (by omega)))
 clear B7
 clear Rr7
 replace hz8:w7.heap.size<=w8.heap.size/\w8.heap.size<=w7.heap.size:=by omega
 rw [<- e8]
 clear e8
 have hcv8:=fun i=>Rv8.out.cell i
 have hfv8:=fun i=>Rv8.out.frozen i
 refine hK.out _ _ Rt8.out (fun hS2=>?_)
 clear hK K hS1
 try simp only [nA,nB,nC,Act.put,nD,nE,nF]
 refine wpAnyT_step (i:=4) (by kernel_rfl) rfl (fun K hK=>?_)
 try simp only [nA,nB,nC]
 go_simp
 clear hcv8 hfv8
 obtain⟨w9,e9,RN9,hz9,K9⟩:=stored4 Rv8.out (.int .i64 v.kind) (.int .i64 v.n) (.string v.s) (.slice Av v.kids.length cv)
 have Rt9:=LH (K9.out.row Rt8.out (by omega))
 have Rr9:=LH (K9.out.row RN8.out (by omega))
 have Dt9:=LH (Dt8.out.keep fun b hb=>⟨hb,K9.out.block b (by have:=hb.1;have:=hb.2;omega) (by have:=hb.1;have:=hb.2;omega)⟩)
 have Dv9:=LH (Dv8.out.keep fun b hb=>⟨hb,K9.out.block b (by have:=hb.1;have:=hb.2;omega) (by have:=hb.1;have:=hb.2;omega)⟩)
 clear Rt8 RN8 Dt8 Dv8
 have B9:=LH (B8.out.trans (K9.out.below (B:=w.heap.size) (by have:=B8.out.size;omega) (by omega)))
 clear B8
 clear Rv8
 replace hz9:w8.heap.size<=w9.heap.size/\w9.heap.size<=w8.heap.size:=by omega
 rw [<- e9]
 clear e9
 have hcr9:=fun i=>Rr9.out.cell i
 have hcv9:=fun i=>RN9.out.cell i
 refine hK.out _ _ Rt9.out (fun hS3=>?_)
 clear hK K hS2
 try simp only [nA,nB,nC,Act.put,nD,nE,nF]
 refine wpAnyT_done (by kernel_rfl) ?_ _
 clear hS3
 go_wp2_with fail
 show BP _ _
 rw [HBP.out]
 refine bodyPost_ret (v:=.tuple #[.agg #[.int .i64 t.op,.int .i64 t.n,.slice T1 t.path.length p1,.string t.s,.slice T2 t.kids.length p2],.agg #[.int .i64 v.kind,.int .i64 v.n,.string v.s,.slice Av v.kids.length cv]]) (by simp [results,Tryz.results8,go_sem,hcr9,hcv9]) rfl ?_
 exact⟨t,T1,p1,T2,p2,v,Av,cv,rfl,HTB.out,HVB.out,Dt9.out.keep (fun b hb=>⟨⟨by omega,by omega⟩,rfl⟩),Dv9.out.keep (fun b hb=>⟨⟨by omega,by omega⟩,rfl⟩),B9.out⟩
theorem drawTreeOk (l:List Int) (A:Option Addr) (c:Nat) (w:World) (hs:Sl w (Lt w.heap.size) 1 A c (l.map (D.num .u8))) (hl:l.length<=1048576):
 Calls Tryz.prog 9 #[.slice A l.length c] w fun e w'=>∃ ds Ad cd t T1 p1 T2 p2,e= .returned (.tuple #[.slice Ad (List.length ds) cd,.agg #[.int .i64 (GTree.op t),.int .i64 (GTree.n t),.slice T1 (GTree.path t).length p1,.string (GTree.s t),.slice T2 (GTree.kids t).length p2]])/\Datas9 ds/\GTree.bulk t<=1262486504/\Sl w' (Lt w'.heap.size) 3 Ad cd (ds.map GData.toD)/\GTree.At w' (fun b=>w.heap.size<=b/\b<w'.heap.size) T1 p1 T2 p2 t/\Below w.heap.size w w':=by
 have S0:=LH hs
 clear hs
 obtain⟨w1,e1,Rr1,hz1,K1⟩:=boxed w 31 #[.int .i64 0,.int .i64 0,.slice none 0 0,.string ⟨#[]⟩,.slice none 0 0]
 have B1:=LH (show Below w.heap.size w w1 by rw [e1];exact(Below.refl _ _).alloc (Nat.le_refl _) _)
 have hzz:w.heap.size+1<=w1.heap.size/\w1.heap.size<=w.heap.size+1:=by omega
 clear hz1 K1
 go_enter Tryz.func9,Tryz.ntmps9
 refine wp_hide (fun BP hBP=>?_)
 have HBP:=LH hBP
 clear hBP
 go_wp2_with fail
 rw [<- e1]
 clear e1
 refine(drawDatas9 w1).mono ?_
 rintro e w2 ⟨ds,Ad,cd,rfl,hd,ha2,hb2⟩
 have hz2:=hb2.size
 have HD:=LH hd
 have DN2:=LH ha2
 have K2:=LH (Bx.of_below (g:=w2.heap.size) hb2 (Nat.le_refl _))
 have Rr2:=LH (K2.out.row Rr1.out (by omega))
 clear Rr1
 have B2:=LH (B1.out.trans (K2.out.below (B:=w.heap.size) (by have:=B1.out.size;omega) (by omega)))
 clear B1
 clear hb2 ha2 hd
 have HN:=LH (newCur l A c w2 (S0.out.below B2.out B2.out.size) hl)
 clear S0
 go_wp2_with fail
 refine HN.out.mono ?_
 rintro e w3 ⟨h0,rfl,hc,hb3⟩
 have hgl:=hc.row.lt
 obtain⟨g,hg⟩:∃ g,w2.heap.size=g:=⟨_,rfl⟩
 rw [hg] at hc hgl ⊢
 have K3:=LH (Bx.of_below (g:=g) hb3 (Nat.le_refl _))
 have M3:=LH (Dm.start hc)
 have Rr3:=LH (K3.out.row Rr2.out (by omega))
 have Dd3:=LH (DN2.out.keep fun b hb=>⟨hb,K3.out.block b (by have:=hb.1;have:=hb.2;omega) (by have:=hb.1;have:=hb.2;omega)⟩)
 clear Rr2 DN2
 have B3:=LH (B2.out.trans (K3.out.below (B:=w.heap.size) (by have:=B2.out.size;omega) (by omega)))
 clear B2
 clear hc hb3 HN
 go_wp2_with fail
 refine(drawTree M3.out).mono ?_
 rintro e w4 ⟨t,T1,p1,T2,p2,rfl,htb,ha4,hm4⟩
 have DN4:=LH ha4
 have HTB:=LH htb
 have hz4:=hm4.size
 have K4:=LH hm4.bx
 have Rr4:=LH (K4.out.row Rr3.out (by omega))
 have Dd4:=LH (Dd3.out.keep fun b hb=>⟨hb,K4.out.block b (by have:=hb.1;have:=hb.2;omega) (by have:=hb.1;have:=hb.2;omega)⟩)
 clear Rr3 Dd3 M3
 have B4:=LH (B3.out.trans (K4.out.below (B:=w.heap.size) (by have:=B3.out.size;omega) (by omega)))
 clear B3
 clear hm4 ha4 htb
 have hcr4:=fun i=>Rr4.out.cell i
 have hfr4:=fun i=>Rr4.out.frozen i
 go_wp2_with fail
 clear hcr4 hfr4
 obtain⟨w5,e5,RN5,hz5,K5⟩:=stored5 Rr4.out (.int .i64 t.op) (.int .i64 t.n) (.slice T1 t.path.length p1) (.string t.s) (.slice T2 t.kids.length p2)
 have Dd5:=LH (Dd4.out.keep fun b hb=>⟨hb,K5.out.block b (by have:=hb.1;have:=hb.2;omega) (by have:=hb.1;have:=hb.2;omega)⟩)
 have Dt5:=LH (DN4.out.keep fun b hb=>⟨hb,K5.out.block b (by have:=hb.1;have:=hb.2;omega) (by have:=hb.1;have:=hb.2;omega)⟩)
 clear Dd4 DN4
 have B5:=LH (B4.out.trans (K5.out.below (B:=w.heap.size) (by have:=B4.out.size;omega) (by omega)))
 clear B4
 clear Rr4
 replace hz5:w4.heap.size<=w5.heap.size/\w5.heap.size<=w4.heap.size:=by omega
 rw [<- e5]
 clear e5
 have hcr5:=fun i=>RN5.out.cell i
 show BP _ _
 rw [HBP.out]
 refine bodyPost_ret (v:=.tuple #[.slice Ad ds.length cd,.agg #[.int .i64 t.op,.int .i64 t.n,.slice T1 t.path.length p1,.string t.s,.slice T2 t.kids.length p2]]) (by simp [results,Tryz.results9,go_sem,hcr5]) rfl ?_
 exact⟨ds,Ad,cd,t,T1,p1,T2,p2,rfl,HD.out,HTB.out,Dd5.out.keep (fun b hb=>⟨by show b<_;omega,rfl⟩),Dt5.out.keep (fun b hb=>⟨⟨by omega,by omega⟩,rfl⟩),B5.out⟩
theorem drawFits (l:List Int) (A:Option Addr) (c:Nat) (w:World) (hs:Sl w (Lt w.heap.size) 1 A c (l.map (D.num .u8))) (hl:l.length<=1048576):
 Calls Tryz.prog 18 #[.slice A l.length c] w fun e w'=>∃ p Ap cp v Av cv,e= .returned (.tuple #[.agg #[.int .i64 (GNode.op p),.int .i64 (GNode.n p),.string (GNode.s p),.string (GNode.t p),.slice Ap (GNode.kids p).length cp],.agg #[.int .i64 (GValue.kind v),.int .i64 (GValue.n v),.string (GValue.s v),.slice Av (GValue.kids v).length cv]])/\patQ p/\valB v/\GNode.At w' (fun b=>w.heap.size<=b/\b<w'.heap.size) Ap cp p/\GValue.At w' (fun b=>w.heap.size<=b/\b<w'.heap.size) Av cv v/\Below w.heap.size w w':=by
 have S0:=LH hs
 clear hs
 obtain⟨w1,e1,Rr1,hz1,K1⟩:=boxed w 49 #[.int .i64 0,.int .i64 0,.string ⟨#[]⟩,.string ⟨#[]⟩,.slice none 0 0]
 have B1:=LH (show Below w.heap.size w w1 by rw [e1];exact(Below.refl _ _).alloc (Nat.le_refl _) _)
 obtain⟨w2,e2,Rv2,hz2,K2⟩:=boxed w1 36 #[.int .i64 0,.int .i64 0,.string ⟨#[]⟩,.slice none 0 0]
 have hy2:w1.heap.size=w.heap.size+1:=by omega
 rw [hy2] at Rv2 K2
 have Rr2:=LH (K2.out.row Rr1.out (by omega))
 clear Rr1
 have B2:=LH (B1.out.trans (K2.out.below (B:=w.heap.size) (by omega) (by omega)))
 clear B1
 have hzz:w.heap.size+2<=w2.heap.size/\w2.heap.size<=w.heap.size+2:=by omega
 clear hy2
 have HN:=LH (newCur l A c w2 (S0.out.below B2.out B2.out.size) hl)
 clear hz1 K1 hz2 K2 S0
 go_enter Tryz.func18,Tryz.ntmps18
 refine wp_hide (fun BP hBP=>?_)
 have HBP:=LH hBP
 clear hBP
 go_wp2_with fail
 rw [<- e1,<- e2]
 clear e1 e2
 refine HN.out.mono ?_
 rintro e w3 ⟨h0,rfl,hc,hb3⟩
 have hgl:=hc.row.lt
 obtain⟨g,hg⟩:∃ g,w2.heap.size=g:=⟨_,rfl⟩
 rw [hg] at hc hgl ⊢
 have K3:=LH (Bx.of_below (g:=g) hb3 (Nat.le_refl _))
 have M3:=LH (Dm.start hc)
 have Rr3:=LH (K3.out.row Rr2.out (by omega))
 have Rv3:=LH (K3.out.row Rv2.out (by omega))
 clear Rr2 Rv2
 have B3:=LH (B2.out.trans (K3.out.below (B:=w.heap.size) (by have:=B2.out.size;omega) (by omega)))
 clear B2
 clear hc hb3 HN
 go_wp2_with fail
 refine(drawOf 3 3 0 rfl (by omega) (by omega) M3.out).mono ?_
 rintro e w4 ⟨p,Ap,cp,rfl,pp,ha4,hm4⟩
 have DN4:=LH ha4
 have hz4:=hm4.size
 have K4:=LH hm4.bx
 have Rr4:=LH (K4.out.row Rr3.out (by omega))
 have Rv4:=LH (K4.out.row Rv3.out (by omega))
 have M4:=LH (M3.out.trans hm4)
 clear Rr3 Rv3 M3
 have B4:=LH (B3.out.trans (K4.out.below (B:=w.heap.size) (by have:=B3.out.size;omega) (by omega)))
 clear B3
 clear hm4 ha4
 have HP:=LH (patQ_D pp)
 clear pp
 go_upto_region 3 with (fail)
 obtain⟨w5,e5,Rp5,hz5,K5⟩:=boxed w4 49 #[.int .i64 p.op,.int .i64 p.n,.string p.s,.string p.t,.slice Ap p.kids.length cp]
 have Rr5:=LH (K5.out.row Rr4.out (by omega))
 have Rv5:=LH (K5.out.row Rv4.out (by omega))
 have Dp5:=LH (DN4.out.keep fun b hb=>⟨hb,K5.out.block b (by have:=hb.1;have:=hb.2;omega) (by have:=hb.1;have:=hb.2;omega)⟩)
 have M5:=LH (M4.out.chg K5.out (by omega) (by omega))
 clear Rr4 Rv4 DN4 M4
 have B5:=LH (B4.out.trans (K5.out.below (B:=w.heap.size) (by have:=B4.out.size;omega) (by omega)))
 clear B4
 replace hz5:w4.heap.size+1<=w5.heap.size/\w5.heap.size<=w4.heap.size+1:=by omega
 rw [<- e5]
 clear e5
 go_wp2_with fail
 refine(drawOnceD M5.out 6 (by omega) (by omega)).mono ?_
 rintro e w6 ⟨b1,rfl,hm6⟩
 have hz6:=hm6.size
 have K6:=LH hm6.bx
 have Rr6:=LH (K6.out.row Rr5.out (by omega))
 have Rv6:=LH (K6.out.row Rv5.out (by omega))
 have Rp6:=LH (K6.out.row Rp5.out (by omega))
 have Dp6:=LH (Dp5.out.keep fun b hb=>⟨hb,K6.out.block b (by have:=hb.1;have:=hb.2;omega) (by have:=hb.1;have:=hb.2;omega)⟩)
 have M6:=LH (M5.out.trans hm6)
 clear Rr5 Rv5 Rp5 Dp5 M5
 have B6:=LH (B5.out.trans (K6.out.below (B:=w.heap.size) (by have:=B5.out.size;omega) (by omega)))
 clear B5
 clear hm6
 cases b1
 ·
  go_upto_region 5 with (fail)
  refine wp_region_T (fun x=>Row x w4.heap.size 49 #[.int .i64 p.op,.int .i64 p.n,.string p.s,.string p.t,.slice Ap p.kids.length cp]) 100 (by kernel_rfl) ?_
  obtain⟨w7,e7⟩:∃ x,x=w6.drew:=⟨_,rfl⟩
  rw [<- e7]
  have hz7:w7.heap.size<=w6.heap.size/\w6.heap.size<=w7.heap.size:=by rw [e7];exact⟨Nat.le_refl _,Nat.le_refl _⟩
  have K7:=LH (show Bx w6.heap.size w6 w7 by rw [e7];exact Bx.of_below ((Below.refl _ _).drew) (Nat.le_refl _))
  clear e7
  have Rr7:=LH (K7.out.row Rr6.out (by omega))
  have Rv7:=LH (K7.out.row Rv6.out (by omega))
  have Rp7:=LH (K7.out.row Rp6.out (by omega))
  have Dp7:=LH (Dp6.out.keep fun b hb=>⟨hb,K7.out.block b (by have:=hb.1;have:=hb.2;omega) (by have:=hb.1;have:=hb.2;omega)⟩)
  have M7:=LH (M6.out.chg K7.out (by omega) (by omega))
  clear Rr6 Rv6 Rp6 Dp6 M6
  have B7:=LH (B6.out.trans (K7.out.below (B:=w.heap.size) (by have:=B6.out.size;omega) (by omega)))
  clear B6
  refine wpAnyT_tk (i:=0) (oi:=_) (v:=?tv3) rfl (Or.inl ⟨by rfl,?th3⟩) Rp7.out ?_
  case th3=>(intro x hSx;have hcS:=fun i=>(show Row x w4.heap.size 49 #[.int .i64 p.op,.int .i64 p.n,.string p.s,.string p.t,.slice Ap p.kids.length cp] from hSx).cell i;clear hSx;go_simp;(try with_reducible rfl))
  try simp only [nA,nB,nC,Act.put,nD,nE,nF]
  refine wpAnyT_tk (i:=1) (oi:=_) (v:=?tv4) rfl (Or.inl ⟨by rfl,?th4⟩) Rp7.out ?_
  case th4=>(intro x hSx;clear hSx;go_simp;(try with_reducible rfl))
  try simp only [nA,nB,nC,Act.put,nD,nE,nF]
  refine wpAnyT_step (i:=2) (by kernel_rfl) rfl (fun K hK=>?_)
  try simp only [nA,nB,nC]
  go_simp
  refine(drawVal10 M7.out).mono ?_
  rintro e w8 ⟨v,Av,cv,rfl,pv,ha8,hm8⟩
  have DN8:=LH ha8
  have hz8:=hm8.size
  have K8:=LH hm8.bx
  have Rr8:=LH (K8.out.row Rr7.out (by omega))
  have Rv8:=LH (K8.out.row Rv7.out (by omega))
  have Rp8:=LH (K8.out.row Rp7.out (by omega))
  have Dp8:=LH (Dp7.out.keep fun b hb=>⟨hb,K8.out.block b (by have:=hb.1;have:=hb.2;omega) (by have:=hb.1;have:=hb.2;omega)⟩)
  clear Rr7 Rv7 Rp7 Dp7 M7
  have B8:=LH (B7.out.trans (K8.out.below (B:=w.heap.size) (by have:=B7.out.size;omega) (by omega)))
  clear B7
  clear hm8 ha8
  have HVB:=LH pv
  clear pv
  try simp only [nA,nB,nC]
  go_simp
  refine hK.out _ _ Rp8.out (fun hS1=>?_)
  clear hK K
  try simp only [nA,nB,nC,Act.put,nD,nE,nF]
  have hcr8:=fun i=>Rr8.out.cell i
  have hfr8:=fun i=>Rr8.out.frozen i
  refine wpAnyT_step (i:=3) (by kernel_rfl) rfl (fun K hK=>?_)
  try simp only [nA,nB,nC]
  go_simp
  clear hcr8 hfr8
  obtain⟨w9,e9,RN9,hz9,K9⟩:=stored5 Rr8.out (.int .i64 p.op) (.int .i64 p.n) (.string p.s) (.string p.t) (.slice Ap p.kids.length cp)
  have Rv9:=LH (K9.out.row Rv8.out (by omega))
  have Rp9:=LH (K9.out.row Rp8.out (by omega))
  have Dp9:=LH (Dp8.out.keep fun b hb=>⟨hb,K9.out.block b (by have:=hb.1;have:=hb.2;omega) (by have:=hb.1;have:=hb.2;omega)⟩)
  have Dv9:=LH (DN8.out.keep fun b hb=>⟨hb,K9.out.block b (by have:=hb.1;have:=hb.2;omega) (by have:=hb.1;have:=hb.2;omega)⟩)
  clear Rv8 Rp8 Dp8 DN8
  have B9:=LH (B8.out.trans (K9.out.below (B:=w.heap.size) (by have:=B8.out.size;omega) (by omega)))
  clear B8
  clear Rr8
  replace hz9:w8.heap.size<=w9.heap.size/\w9.heap.size<=w8.heap.size:=by omega
  rw [<- e9]
  clear e9
  have hcv9:=fun i=>Rv9.out.cell i
  have hfv9:=fun i=>Rv9.out.frozen i
  refine hK.out _ _ Rp9.out (fun hS2=>?_)
  clear hK K hS1
  try simp only [nA,nB,nC,Act.put,nD,nE,nF]
  refine wpAnyT_step (i:=4) (by kernel_rfl) rfl (fun K hK=>?_)
  try simp only [nA,nB,nC]
  go_simp
  clear hcv9 hfv9
  obtain⟨w10,e10,RN10,hz10,K10⟩:=stored4 Rv9.out (.int .i64 v.kind) (.int .i64 v.n) (.string v.s) (.slice Av v.kids.length cv)
  have Rp10:=LH (K10.out.row Rp9.out (by omega))
  have Rr10:=LH (K10.out.row RN9.out (by omega))
  have Dp10:=LH (Dp9.out.keep fun b hb=>⟨hb,K10.out.block b (by have:=hb.1;have:=hb.2;omega) (by have:=hb.1;have:=hb.2;omega)⟩)
  have Dv10:=LH (Dv9.out.keep fun b hb=>⟨hb,K10.out.block b (by have:=hb.1;have:=hb.2;omega) (by have:=hb.1;have:=hb.2;omega)⟩)
  clear Rp9 RN9 Dp9 Dv9
  have B10:=LH (B9.out.trans (K10.out.below (B:=w.heap.size) (by have:=B9.out.size;omega) (by omega)))
  clear B9
  clear Rv9
  replace hz10:w9.heap.size<=w10.heap.size/\w10.heap.size<=w9.heap.size:=by omega
  rw [<- e10]
  clear e10
  have hlp10:=Rp10.out.lt
  have hcr10:=fun i=>Rr10.out.cell i
  have hcv10:=fun i=>RN10.out.cell i
  refine hK.out _ _ Rp10.out (fun hS3=>?_)
  clear hK K hS2
  try simp only [nA,nB,nC,Act.put,nD,nE,nF]
  refine wpAnyT_done (by kernel_rfl) ?_ _
  clear hS3
  go_wp2_with fail
  show BP _ _
  rw [HBP.out]
  refine bodyPost_ret (v:=.tuple #[.agg #[.int .i64 p.op,.int .i64 p.n,.string p.s,.string p.t,.slice Ap p.kids.length cp],.agg #[.int .i64 v.kind,.int .i64 v.n,.string v.s,.slice Av v.kids.length cv]]) (by simp [results,Tryz.results18,go_sem,hcr10,hcv10]) rfl ?_
  exact⟨p,Ap,cp,v,Av,cv,rfl,HP.out,HVB.out,Dp10.out.keep (fun b hb=>⟨⟨by omega,by omega⟩,rfl⟩),Dv10.out.keep (fun b hb=>⟨⟨by omega,by omega⟩,rfl⟩),B10.out⟩
 ·
  go_wp2_with fail
  refine(drawPat 3 3 rfl (by omega) M6.out).mono ?_
  rintro e w7 ⟨n,An,cn,rfl,pn,ha7,hm7⟩
  have DN7:=LH ha7
  have hz7:=hm7.size
  have K7:=LH hm7.bx
  have Rr7:=LH (K7.out.row Rr6.out (by omega))
  have Rv7:=LH (K7.out.row Rv6.out (by omega))
  have Rp7:=LH (K7.out.row Rp6.out (by omega))
  have M7:=LH (M6.out.trans hm7)
  clear Rr6 Rv6 Rp6 Dp6 M6
  have B7:=LH (B6.out.trans (K7.out.below (B:=w.heap.size) (by have:=B6.out.size;omega) (by omega)))
  clear B6
  clear hm7 ha7
  have hcp7:=fun i=>Rp7.out.cell i
  have hfp7:=fun i=>Rp7.out.frozen i
  have HPn:=LH (patQ_R pn)
  clear pn
  go_upto_region 5 with (fail)
  clear hcp7 hfp7
  obtain⟨w8,e8,RN8,hz8,K8⟩:=stored5 Rp7.out (.int .i64 n.op) (.int .i64 n.n) (.string n.s) (.string n.t) (.slice An n.kids.length cn)
  have Rr8:=LH (K8.out.row Rr7.out (by omega))
  have Rv8:=LH (K8.out.row Rv7.out (by omega))
  have Dn8:=LH (DN7.out.keep fun b hb=>⟨hb,K8.out.block b (by have:=hb.1;have:=hb.2;omega) (by have:=hb.1;have:=hb.2;omega)⟩)
  have M8:=LH (M7.out.chg K8.out (by omega) (by omega))
  clear Rr7 Rv7 DN7 M7
  have B8:=LH (B7.out.trans (K8.out.below (B:=w.heap.size) (by have:=B7.out.size;omega) (by omega)))
  clear B7
  clear Rp7
  replace hz8:w7.heap.size<=w8.heap.size/\w8.heap.size<=w7.heap.size:=by omega
  rw [<- e8]
  clear e8
  refine wp_region_T (fun x=>Row x w4.heap.size 49 #[.int .i64 n.op,.int .i64 n.n,.string n.s,.string n.t,.slice An n.kids.length cn]) 100 (by kernel_rfl) ?_
  obtain⟨w9,e9⟩:∃ x,x=w8.drew:=⟨_,rfl⟩
  rw [<- e9]
  have hz9:w9.heap.size<=w8.heap.size/\w8.heap.size<=w9.heap.size:=by rw [e9];exact⟨Nat.le_refl _,Nat.le_refl _⟩
  have K9:=LH (show Bx w8.heap.size w8 w9 by rw [e9];exact Bx.of_below ((Below.refl _ _).drew) (Nat.le_refl _))
  clear e9
  have Rr9:=LH (K9.out.row Rr8.out (by omega))
  have Rv9:=LH (K9.out.row Rv8.out (by omega))
  have Rp9:=LH (K9.out.row RN8.out (by omega))
  have Dn9:=LH (Dn8.out.keep fun b hb=>⟨hb,K9.out.block b (by have:=hb.1;have:=hb.2;omega) (by have:=hb.1;have:=hb.2;omega)⟩)
  have M9:=LH (M8.out.chg K9.out (by omega) (by omega))
  clear Rr8 Rv8 RN8 Dn8 M8
  have B9:=LH (B8.out.trans (K9.out.below (B:=w.heap.size) (by have:=B8.out.size;omega) (by omega)))
  clear B8
  refine wpAnyT_tk (i:=0) (oi:=_) (v:=?tv5) rfl (Or.inl ⟨by rfl,?th5⟩) Rp9.out ?_
  case th5=>(intro x hSx;have hcS:=fun i=>(show Row x w4.heap.size 49 #[.int .i64 n.op,.int .i64 n.n,.string n.s,.string n.t,.slice An n.kids.length cn] from hSx).cell i;clear hSx;go_simp;(try with_reducible rfl))
  try simp only [nA,nB,nC,Act.put,nD,nE,nF]
  refine wpAnyT_tk (i:=1) (oi:=_) (v:=?tv6) rfl (Or.inl ⟨by rfl,?th6⟩) Rp9.out ?_
  case th6=>(intro x hSx;clear hSx;go_simp;(try with_reducible rfl))
  try simp only [nA,nB,nC,Act.put,nD,nE,nF]
  refine wpAnyT_step (i:=2) (by kernel_rfl) rfl (fun K hK=>?_)
  try simp only [nA,nB,nC]
  go_simp
  refine(drawVal10 M9.out).mono ?_
  rintro e w10 ⟨v,Av,cv,rfl,pv,ha10,hm10⟩
  have DN10:=LH ha10
  have hz10:=hm10.size
  have K10:=LH hm10.bx
  have Rr10:=LH (K10.out.row Rr9.out (by omega))
  have Rv10:=LH (K10.out.row Rv9.out (by omega))
  have Rp10:=LH (K10.out.row Rp9.out (by omega))
  have Dn10:=LH (Dn9.out.keep fun b hb=>⟨hb,K10.out.block b (by have:=hb.1;have:=hb.2;omega) (by have:=hb.1;have:=hb.2;omega)⟩)
  clear Rr9 Rv9 Rp9 Dn9 M9
  have B10:=LH (B9.out.trans (K10.out.below (B:=w.heap.size) (by have:=B9.out.size;omega) (by omega)))
  clear B9
  clear hm10 ha10
  have HVB:=LH pv
  clear pv
  try simp only [nA,nB,nC]
  go_simp
  refine hK.out _ _ Rp10.out (fun hS1=>?_)
  clear hK K
  try simp only [nA,nB,nC,Act.put,nD,nE,nF]
  have hcr10:=fun i=>Rr10.out.cell i
  have hfr10:=fun i=>Rr10.out.frozen i
  refine wpAnyT_step (i:=3) (by kernel_rfl) rfl (fun K hK=>?_)
  try simp only [nA,nB,nC]
  go_simp
  clear hcr10 hfr10
  obtain⟨w11,e11,RN11,hz11,K11⟩:=stored5 Rr10.out (.int .i64 n.op) (.int .i64 n.n) (.string n.s) (.string n.t) (.slice An n.kids.length cn)
  have Rv11:=LH (K11.out.row Rv10.out (by omega))
  have Rp11:=LH (K11.out.row Rp10.out (by omega))
  have Dn11:=LH (Dn10.out.keep fun b hb=>⟨hb,K11.out.block b (by have:=hb.1;have:=hb.2;omega) (by have:=hb.1;have:=hb.2;omega)⟩)
  have Dv11:=LH (DN10.out.keep fun b hb=>⟨hb,K11.out.block b (by have:=hb.1;have:=hb.2;omega) (by have:=hb.1;have:=hb.2;omega)⟩)
  clear Rv10 Rp10 Dn10 DN10
  have B11:=LH (B10.out.trans (K11.out.below (B:=w.heap.size) (by have:=B10.out.size;omega) (by omega)))
  clear B10
  clear Rr10
  replace hz11:w10.heap.size<=w11.heap.size/\w11.heap.size<=w10.heap.size:=by omega
  rw [<- e11]
  clear e11
  have hcv11:=fun i=>Rv11.out.cell i
  have hfv11:=fun i=>Rv11.out.frozen i
  refine hK.out _ _ Rp11.out (fun hS2=>?_)
  clear hK K hS1
  try simp only [nA,nB,nC,Act.put,nD,nE,nF]
  refine wpAnyT_step (i:=4) (by kernel_rfl) rfl (fun K hK=>?_)
  try simp only [nA,nB,nC]
  go_simp
  clear hcv11 hfv11
  obtain⟨w12,e12,RN12,hz12,K12⟩:=stored4 Rv11.out (.int .i64 v.kind) (.int .i64 v.n) (.string v.s) (.slice Av v.kids.length cv)
  have Rp12:=LH (K12.out.row Rp11.out (by omega))
  have Rr12:=LH (K12.out.row RN11.out (by omega))
  have Dn12:=LH (Dn11.out.keep fun b hb=>⟨hb,K12.out.block b (by have:=hb.1;have:=hb.2;omega) (by have:=hb.1;have:=hb.2;omega)⟩)
  have Dv12:=LH (Dv11.out.keep fun b hb=>⟨hb,K12.out.block b (by have:=hb.1;have:=hb.2;omega) (by have:=hb.1;have:=hb.2;omega)⟩)
  clear Rp11 RN11 Dn11 Dv11
  have B12:=LH (B11.out.trans (K12.out.below (B:=w.heap.size) (by have:=B11.out.size;omega) (by omega)))
  clear B11
  clear Rv11
  replace hz12:w11.heap.size<=w12.heap.size/\w12.heap.size<=w11.heap.size:=by omega
  rw [<- e12]
  clear e12
  have hcr12:=fun i=>Rr12.out.cell i
  have hcv12:=fun i=>RN12.out.cell i
  refine hK.out _ _ Rp12.out (fun hS3=>?_)
  clear hK K hS2
  try simp only [nA,nB,nC,Act.put,nD,nE,nF]
  refine wpAnyT_done (by kernel_rfl) ?_ _
  clear hS3
  go_wp2_with fail
  show BP _ _
  rw [HBP.out]
  refine bodyPost_ret (v:=.tuple #[.agg #[.int .i64 n.op,.int .i64 n.n,.string n.s,.string n.t,.slice An n.kids.length cn],.agg #[.int .i64 v.kind,.int .i64 v.n,.string v.s,.slice Av v.kids.length cv]]) (by simp [results,Tryz.results18,go_sem,hcr12,hcv12]) rfl ?_
  exact⟨n,An,cn,v,Av,cv,rfl,HPn.out,HVB.out,Dn12.out.keep (fun b hb=>⟨⟨by omega,by omega⟩,rfl⟩),Dv12.out.keep (fun b hb=>⟨⟨by omega,by omega⟩,rfl⟩),B12.out⟩
theorem grx_ints {X Y:Nat->Prop} {w w':World} {B:Nat} {e:TypeId} {v:Value} {n:Nat} {l:List Int} (h:Grx X w B e 1 v n (l.map (D.num .i64))) (hk:∀ b,v.ownBlock=some b->B<=b->b<w.heap.size->w'.heap[b]? =w.heap[b]?):Grx Y w' B e 1 v n (l.map (D.num .i64)):=by
 have hlt:=h.own
 obtain⟨h1,cs,h2,h4⟩:=h
 refine⟨h1,cs,⟨h2.1,?_⟩,rdC_ints l cs h4⟩
 rcases h2.2 with h | ⟨g,cap,cur,e,a1,a2,a3⟩
 · exact .inl h
 · exact .inr ⟨g,cap,cur,e,a1,(hk g (by rw [e];rfl) a1 (hlt g (by rw [e];rfl)).2).trans a2,a3⟩
theorem drawAt (l:List Int) (A:Option Addr) (c:Nat) (w:World) (hs:Sl w (Lt w.heap.size) 1 A c (l.map (D.num .u8))) (hl:l.length<=1048576):
 Calls Tryz.prog 10 #[.slice A l.length c] w fun e w'=>∃ v Av cv pa Ap cp,e= .returned (.tuple #[.agg #[.int .i64 (GValue.kind v),.int .i64 (GValue.n v),.string (GValue.s v),.slice Av (GValue.kids v).length cv],.slice Ap (List.length pa) cp])/\valB v/\GValue.At w' (fun b=>w.heap.size<=b/\b<w'.heap.size) Av cv v/\Sl w' (Lt w'.heap.size) 1 Ap cp (pa.map (D.num .i64))/\Below w.heap.size w w':=by
 have S0:=LH hs
 clear hs
 obtain⟨w1,e1,Rr1,hz1,K1⟩:=boxed w 36 #[.int .i64 0,.int .i64 0,.string ⟨#[]⟩,.slice none 0 0]
 have B1:=LH (show Below w.heap.size w w1 by rw [e1];exact(Below.refl _ _).alloc (Nat.le_refl _) _)
 have hzz:w.heap.size+1<=w1.heap.size/\w1.heap.size<=w.heap.size+1:=by omega
 have HN:=LH (newCur l A c w1 (S0.out.below B1.out B1.out.size) hl)
 clear hz1 K1 S0
 go_enter Tryz.func10,Tryz.ntmps10
 refine wp_hide (fun BP hBP=>?_)
 have HBP:=LH hBP
 clear hBP
 go_wp2_with fail
 rw [<- e1]
 clear e1
 refine HN.out.mono ?_
 rintro e w2 ⟨h0,rfl,hc,hb2⟩
 have hgl:=hc.row.lt
 obtain⟨g,hg⟩:∃ g,w1.heap.size=g:=⟨_,rfl⟩
 rw [hg] at hc hgl ⊢
 have K2:=LH (Bx.of_below (g:=g) hb2 (Nat.le_refl _))
 have M2:=LH (Dm.start hc)
 have Rr2:=LH (K2.out.row Rr1.out (by omega))
 clear Rr1
 have B2:=LH (B1.out.trans (K2.out.below (B:=w.heap.size) (by have:=B1.out.size;omega) (by omega)))
 clear B1
 clear hc hb2 HN
 go_wp2_with fail
 refine(drawVal10 M2.out).mono ?_
 rintro e w3 ⟨v,Av,cv,rfl,pv,ha3,hm3⟩
 have DN3:=LH ha3
 have hz3:=hm3.size
 have K3:=LH hm3.bx
 have Rr3:=LH (K3.out.row Rr2.out (by omega))
 have M3:=LH (M2.out.trans hm3)
 clear Rr2 M2
 have B3:=LH (B2.out.trans (K3.out.below (B:=w.heap.size) (by have:=B2.out.size;omega) (by omega)))
 clear B2
 clear hm3 ha3
 have HVB:=LH pv
 clear pv
 go_upto_region 3 with (fail)
 obtain⟨w4,e4,Rb4,hz4,K4⟩:=boxed w3 36 #[.int .i64 v.kind,.int .i64 v.n,.string v.s,.slice Av v.kids.length cv]
 have Rr4:=LH (K4.out.row Rr3.out (by omega))
 have Dv4:=LH (DN3.out.keep fun b hb=>⟨hb,K4.out.block b (by have:=hb.1;have:=hb.2;omega) (by have:=hb.1;have:=hb.2;omega)⟩)
 have M4:=LH (M3.out.chg K4.out (by omega) (by omega))
 clear Rr3 DN3 M3
 have B4:=LH (B3.out.trans (K4.out.below (B:=w.heap.size) (by have:=B3.out.size;omega) (by omega)))
 clear B3
 replace hz4:w3.heap.size+1<=w4.heap.size/\w4.heap.size<=w3.heap.size+1:=by omega
 rw [<- e4]
 clear e4
 go_wp2_with fail
 obtain⟨w5,e5,Re5,hz5,K5⟩:=boxed w4 3 #[]
 have Rr5:=LH (K5.out.row Rr4.out (by omega))
 have Rb5:=LH (K5.out.row Rb4.out (by omega))
 have Dv5:=LH (Dv4.out.keep fun b hb=>⟨hb,K5.out.block b (by have:=hb.1;have:=hb.2;omega) (by have:=hb.1;have:=hb.2;omega)⟩)
 have M5:=LH (M4.out.chg K5.out (by omega) (by omega))
 clear Rr4 Rb4 Dv4 M4
 have B5:=LH (B4.out.trans (K5.out.below (B:=w.heap.size) (by have:=B4.out.size;omega) (by omega)))
 clear B4
 replace hz5:w4.heap.size+1<=w5.heap.size/\w5.heap.size<=w4.heap.size+1:=by omega
 rw [<- e5]
 clear e5
 have G0:=LH (show Grx AnyB w5 w4.heap.size 3 1 (.slice (some ⟨w4.heap.size,0,none⟩) 0 0) 0 [] from Grx.made Re5.out (Nat.le_refl _))
 clear Re5
 skip
 go_loopw [6,7] (fun x i wr=>∃ (j:Nat) (pa:List Int) (A':Option Addr) (c':Nat),i= .int .i64 j/\x= .slice A' pa.length c'/\pa.length=j/\j<=4/\Hid (Row wr w.heap.size 36 #[.int .i64 0,.int .i64 0,.string ⟨#[]⟩,.slice none 0 0])/\Hid (Row wr w3.heap.size 36 #[.int .i64 v.kind,.int .i64 v.n,.string v.s,.slice Av v.kids.length cv])/\Hid (GValue.At wr (fun b=>w2.heap.size<=b/\b<w3.heap.size) Av cv v)/\Hid (Grx AnyB wr w4.heap.size 3 1 (.slice A' pa.length c') pa.length (pa.map (D.num .i64)))/\Hid (Dm l A c g w2 wr)/\Hid (Below w.heap.size w wr)/\w5.heap.size<=wr.heap.size) (fun _ i _=>4 - (intOf i).toNat)
 case atStart=>exact⟨0,[],_,_,by go_num,rfl,rfl,by omega,Rr5,Rb5,Dv5,G0,M5,B5,Nat.le_refl _⟩
 case round=>
  clear Rr5 Rb5 Dv5 M5 B5 G0
  obtain⟨j,pa,A',c',rfl,rfl,hpl,hj,RR0,RB0,DV0,GG0,MM0,BB0,hzr⟩:=hrel
  have HJL:=LH hpl
  clear hpl
  have HOW:=LH (fun q (hq:(Value.slice A' pa.length c').ownBlock=some q)=>GG0.out.own q hq)
  have hw2:IntKind.i64.wrap ((j:Int)+1)=(j:Int)+1:=(IntWalk.i64_left _).trans (IntWalk.wrap64_in ((j:Int)+1) (by omega))
  go_wp2_with fail
  refine(drawBelowD MM0.out 4 (by omega) (by omega)).mono ?_
  rintro e w6 ⟨x,rfl,hx,hm6⟩
  have hz6:=hm6.size
  have K6:=LH hm6.bx
  have Rr6:=LH (K6.out.row RR0.out (by omega))
  have Rb6:=LH (K6.out.row RB0.out (by omega))
  have Dv6:=LH (DV0.out.keep fun b hb=>⟨hb,K6.out.block b (by have:=hb.1;have:=hb.2;omega) (by have:=hb.1;have:=hb.2;omega)⟩)
  have M6:=LH (MM0.out.trans hm6)
  clear RR0 RB0 DV0 MM0
  have B6:=LH (BB0.out.trans (K6.out.below (B:=w.heap.size) (by have:=BB0.out.size;omega) (by omega)))
  clear BB0
  have GI6:=LH (grx_ints (Y:=AnyB) (w':=w6) GG0.out fun b h0 h1 h2=>K6.out.block b (by omega) (by omega))
  clear GG0
  clear hm6
  have hcr6:=fun i=>Rr6.out.cell i
  have hfr6:=fun i=>Rr6.out.frozen i
  have hcb6:=fun i=>Rb6.out.cell i
  by_cases hlt:(j:Int)<x
  ·
   go_wp2_with fail
   refine(drawBelowD M6.out 3 (by omega) (by omega)).mono ?_
   clear hcr6 hfr6 hcb6
   rintro e w7 ⟨y,rfl,hy,hm7⟩
   have hz7:=hm7.size
   have K7:=LH hm7.bx
   have Rr7:=LH (K7.out.row Rr6.out (by omega))
   have Rb7:=LH (K7.out.row Rb6.out (by omega))
   have Dv7:=LH (Dv6.out.keep fun b hb=>⟨hb,K7.out.block b (by have:=hb.1;have:=hb.2;omega) (by have:=hb.1;have:=hb.2;omega)⟩)
   have M7:=LH (M6.out.trans hm7)
   clear Rr6 Rb6 Dv6 M6
   have B7:=LH (B6.out.trans (K7.out.below (B:=w.heap.size) (by have:=B6.out.size;omega) (by omega)))
   clear B6
   have GI7:=LH (grx_ints (Y:=AnyB) (w':=w7) GI6.out fun b h0 h1 h2=>K7.out.block b (by omega) (by omega))
   clear GI6
   clear hm7
   go_wp2_with fail
   refine(drawBelowD M7.out 12 (by omega) (by omega)).mono ?_
   rintro e w8 ⟨z,rfl,hzz2,hm8⟩
   have hz8:=hm8.size
   have K8:=LH hm8.bx
   have Rr8:=LH (K8.out.row Rr7.out (by omega))
   have Rb8:=LH (K8.out.row Rb7.out (by omega))
   have Dv8:=LH (Dv7.out.keep fun b hb=>⟨hb,K8.out.block b (by have:=hb.1;have:=hb.2;omega) (by have:=hb.1;have:=hb.2;omega)⟩)
   have M8:=LH (M7.out.trans hm8)
   clear Rr7 Rb7 Dv7 M7
   have B8:=LH (B7.out.trans (K8.out.below (B:=w.heap.size) (by have:=B7.out.size;omega) (by omega)))
   clear B7
   have GI8:=LH (grx_ints (Y:=AnyB) (w':=w8) GI7.out fun b h0 h1 h2=>K8.out.block b (by omega) (by omega))
   clear GI7
   clear hm8
   obtain⟨u,hu⟩:∃ u:Int,Int.tdiv z 11=u:=⟨_,rfl⟩
   have hu01:0<=u/\u<=1:=by
    rw [<- hu,Int.tdiv_eq_ediv_of_nonneg (by omega)]
    omega
   have hwu:IntKind.i64.wrap u=u:=(IntWalk.i64_left _).trans (IntWalk.wrap64_in u (by omega))
   have hwy:IntKind.i64.wrap (y - u)=y - u:=(IntWalk.i64_left _).trans (IntWalk.wrap64_in (y - u) (by omega))
   obtain⟨w9,e9,Rrow9,hz9,K9⟩:=boxed w8 3 #[.int .i64 (y - u)]
   have Rr9:=LH (K9.out.row Rr8.out (by omega))
   have Rb9:=LH (K9.out.row Rb8.out (by omega))
   have Dv9:=LH (Dv8.out.keep fun b hb=>⟨hb,K9.out.block b (by have:=hb.1;have:=hb.2;omega) (by have:=hb.1;have:=hb.2;omega)⟩)
   have M9:=LH (M8.out.chg K9.out (by omega) (by omega))
   clear Rr8 Rb8 Dv8 M8
   have B9:=LH (B8.out.trans (K9.out.below (B:=w.heap.size) (by have:=B8.out.size;omega) (by omega)))
   clear B8
   have GI9:=LH (grx_ints (Y:=AnyB) (w':=w9) GI8.out fun b h0 h1 h2=>K9.out.block b (by omega) (by omega))
   clear GI8
   replace hz9:w8.heap.size+1<=w9.heap.size/\w9.heap.size<=w8.heap.size+1:=by omega
   have SL:=LH (show Sl w9 (fun b=>b<w9.heap.size/\(Value.slice A' pa.length c').ownBlock≠some b/\AnyB b) 1 (some ⟨w8.heap.size,0,none⟩) 1 ([y - u].map (D.num .i64)) from Sl.ofRow Rrow9.out (rdC_one1 (D.rd_num.2 ⟨rfl,int_wfS (by omega)⟩) rfl) ⟨by omega,fun e=>by have h3:=(HOW.out _ e).2;omega,trivial⟩ (by simp) (by unfold maxLen;omega))
   have hpl:pa.length<=4:=by have:=HJL.out;omega
   go_wp2_with (first | (at_builtin;rw [<- e9];refine wpList_append_X w9 rfl (.tmp 19) (.tmp 26) 28 rfl 3 (.int .i64 0) 1 8 Tryz.underlying28 (by kernel_rfl) rfl (by omega) (w4.heap.size) (Value.slice A' pa.length c') pa.length _ GI9.out (some ⟨w8.heap.size,0,none⟩) 1 1 _ rfl SL.out (by omega) (by unfold maxLen;omega) (by omega) rfl rfl ?_;intro A8 c8 w9 hG hGr;have GN:=LH hG;have GR:=LH hGr;clear hG hGr))
   obtain⟨q8,hq8,hk8⟩:=GR.out.bxe (B:=w2.heap.size) (fun b hb=>by have:=(HOW.out b hb).1;omega) (by omega)
   have hz9:=GR.out.size
   have M9:=LH (M9.out.chg (q:=q8) hk8 (by omega) hgl)
   have R9:=LH (GR.out.row Rr9.out (fun e=>by have:=(HOW.out _ e).1;omega))
   have Rb9:=LH (GR.out.row Rb9.out (fun e=>by have:=(HOW.out _ e).1;omega))
   have D9:=LH (Dv9.out.keep fun b hb=>⟨hb,GR.out.grow.block b (by have:=hb.2;omega) (fun e=>by have:=(HOW.out b e.symm).1;have:=hb.2;omega)⟩)
   have B9:=LH (B9.out.trans (GR.out.below (B:=w.heap.size) (by omega) (fun b hb=>by have:=(HOW.out b hb).1;omega)))
   obtain⟨pa2,hp2⟩:∃ p,p=pa++[y - u]:=⟨_,rfl⟩
   have hl2:pa2.length=pa.length+1:=by rw [hp2];simp
   have G9:=LH (show Grx AnyB w9 (w4.heap.size) 3 1 (.slice A8 pa2.length c8) pa2.length (pa2.map (D.num .i64)) by rw [hl2,hp2,List.map_append];exact GN.out)
   go_roundw
   case rel=>exact⟨j+1,pa2,A8,c8,by go_num,by rw [hl2],by rw [hl2,HJL.out],by omega,R9,Rb9,D9,G9,M9,B9,by omega⟩
   case measure=>simp [intOf];omega
  ·
   have dl:decide ((j:Int)<x)=false:=decide_eq_false hlt
   go_wp2_with fail
   clear hcr6 hfr6 hcb6
   clear M6
   obtain⟨w7,e7,RN7,hz7,K7⟩:=stored4 Rr6.out (.int .i64 v.kind) (.int .i64 v.n) (.string v.s) (.slice Av v.kids.length cv)
   have Dv7:=LH (Dv6.out.keep fun b hb=>⟨hb,K7.out.block b (by have:=hb.1;have:=hb.2;omega) (by have:=hb.1;have:=hb.2;omega)⟩)
   clear Rb6 Dv6
   have B7:=LH (B6.out.trans (K7.out.below (B:=w.heap.size) (by have:=B6.out.size;omega) (by omega)))
   clear B6
   have GI7:=LH (grx_ints (Y:=AnyB) (w':=w7) GI6.out fun b h0 h1 h2=>K7.out.block b (by omega) (by omega))
   clear GI6
   clear Rr6
   replace hz7:w6.heap.size<=w7.heap.size/\w7.heap.size<=w6.heap.size:=by omega
   rw [<- e7]
   clear e7
   have hcr7:=fun i=>RN7.out.cell i
   show BP _ _
   rw [HBP.out]
   refine bodyPost_ret (v:=.tuple #[.agg #[.int .i64 v.kind,.int .i64 v.n,.string v.s,.slice Av v.kids.length cv],.slice A' pa.length c']) (by simp [results,Tryz.results10,go_sem,hcr7]) rfl ?_
   obtain⟨A9,c9,e9,h9⟩:=GI7.out.sl (fun b hb=>trivial)
   obtain⟨rfl,rfl⟩:A'=A9/\c'=c9:=by simpa using e9
   exact⟨v,Av,cv,pa,A',c',rfl,HVB.out,Dv7.out.keep (fun b hb=>⟨⟨by omega,by omega⟩,rfl⟩),h9.keep (fun b hb=>⟨hb.1,rfl⟩),B7.out⟩
set_option maxHeartbeats 800000
mutual
def GValue.text:GValue->ByteArray
 | .mk kind n s kids=>if kind=1 then digI n else if kind=2 then(if kids.length=0 then s else⟨#[40]⟩++(s++GValue.textL kids)++⟨#[41]⟩) else⟨#[102,117,110]⟩
def GValue.textL:List GValue->ByteArray
 | []=>⟨#[]⟩
 | v::r=>(⟨#[32]⟩++v.text)++GValue.textL r
end
theorem GValue.text_eq (v:GValue):v.text=if v.kind=1 then digI v.n else if v.kind=2 then(if v.kids.length=0 then v.s else⟨#[40]⟩++(v.s++GValue.textL v.kids)++⟨#[41]⟩) else⟨#[102,117,110]⟩:=by
 cases v;simp only [GValue.text,GValue.kind,GValue.n,GValue.s,GValue.kids];rfl
theorem ba_nil (a:ByteArray):a++⟨#[]⟩=a:=by apply ByteArray.ext;simp [ByteArray.data_append]
theorem ba_nil' (a:ByteArray):⟨#[]⟩++a=a:=by apply ByteArray.ext;simp [ByteArray.data_append]
theorem GValue.textL_take (l:List GValue) (i:Nat) (h:i<l.length):GValue.textL (l.take (i+1))=GValue.textL (l.take i)++(⟨#[32]⟩++(l[i]).text):=by
 induction l generalizing i with
 | nil=>simp at h
 | cons t r ih=>
  match i with
  | 0=>simp [GValue.textL,ba_nil,ba_nil']
  | i+1=>simp only [List.take_succ_cons,GValue.textL,List.getElem_cons_succ];rw [ih i (by simpa using h),ba_assoc,ba_assoc,ba_assoc]
theorem GValue.textL_le (l:List GValue) (i:Nat):(GValue.textL (l.take i)).size<=(GValue.textL l).size:=by
 induction l generalizing i with
 | nil=>simp
 | cons t r ih=>
  match i with
  | 0=>simp only [List.take_zero,GValue.textL];exact Nat.zero_le _
  | i+1=>simp only [List.take_succ_cons,GValue.textL,ByteArray.size_append'];have:=ih i;omega
theorem digI_size_any (n:Int) (h:(Lit.int .i64 n).wf=true):(digI n).size<=20:=digI_size n (wf64 h).1 (wf64 h).2
mutual
def GValue.fit:GValue->Prop
 | .mk kind n s kids=>(Lit.int .i64 n).wf=true/\GValue.fitL kids
def GValue.fitL:List GValue->Prop
 | []=>True
 | v::r=>v.fit/\GValue.fitL r
end
mutual
theorem GValue.text_size:∀ v:GValue,v.fit->v.text.size+1<=25*(v.bulk+1)
 | .mk kind n s kids,h=>by
  simp only [GValue.fit] at h
  have h1:=GValue.textL_size kids h.2
  have h2:=digI_size_any n h.1
  simp only [GValue.text,GValue.bulk]
  split
  · omega
  ·
   split
   · split
     · omega
     · simp only [ByteArray.size_append']
       have e1:(ByteArray.mk #[40]).size=1:=rfl
       have e2:(ByteArray.mk #[41]).size=1:=rfl
       omega
   · have e1:(ByteArray.mk #[102,117,110]).size=3:=rfl
     omega
theorem GValue.textL_size:∀ l:List GValue,GValue.fitL l->(GValue.textL l).size<=25*GValue.bulks l
 | [],_=>by simp only [GValue.textL];exact Nat.zero_le _
 | v::r,h=>by
  simp only [GValue.fitL] at h
  have h1:=GValue.text_size v h.1
  have h2:=GValue.textL_size r h.2
  have e1:(ByteArray.mk #[32]).size=1:=rfl
  simp only [GValue.textL,GValue.bulks,ByteArray.size_append']
  omega
end
theorem GValue.rd_fit {w:World} {S:Nat->Prop} (k:Nat):∀ (v:GValue) (cs:List Value),v.bulk<k->v.toD.rd w S cs->v.fit:=by
 induction k with
 | zero=>intro v cs h;omega
 | succ k ih=>
  intro v cs hk h
  obtain⟨A,c,_,h0,h1,h2,h3⟩:=GValue.rd h
  have hb:=v.bulk_eq
  have hall:∀ l:List GValue,(∀ u∈l,u.fit)->GValue.fitL l:=by
   intro l
   induction l with
   | nil=>intro _;simp only [GValue.fitL]
   | cons t r ihl=>intro hu;simp only [GValue.fitL];exact⟨hu t (by simp),ihl fun u hm=>hu u (by simp [hm])⟩
  have hk2:GValue.fitL v.kids:=hall _ fun u hu=>by
   obtain⟨i,hi,rfl⟩:=List.mem_iff_getElem.1 hu
   obtain⟨b,off,cs',_,_,_,_,hr⟩:=Sl.get h3 i (by simpa using hi)
   rw [List.getElem_map] at hr
   exact ih _ cs' (by have:=bulkL_mem GValue.bulk v.kids _ hu;omega) hr
  cases v
  exact⟨h1,hk2⟩
theorem GValue.At.fit {w:World} {S:Nat->Prop} {A1:Option Addr} {c1:Nat} {v:GValue} (h:GValue.At w S A1 c1 v):v.fit:=
 GValue.rd_fit (v.bulk+1) v _ (by omega) (GValue.rd_mk h)
theorem GValue.fitL_mem:∀ {l:List GValue} {u:GValue},GValue.fitL l->u∈l->u.fit
 | t::r,u,h,hm=>by
  simp only [GValue.fitL] at h
  cases hm with
  | head=>exact h.1
  | tail _ hm=>exact GValue.fitL_mem h.2 hm
theorem GValue.fit_kids {v:GValue} (h:v.fit):GValue.fitL v.kids:=by cases v;exact h.2
theorem implValueText (k:Nat):∀ (t:GValue) (A1:Option Addr) (c1:Nat) (w:World),t.bulk<k->t.bulk<=1048576->GValue.At w (Lt w.heap.size) A1 c1 t->
 Calls Tryz.prog 17 #[.agg #[.int .i64 t.kind,.int .i64 t.n,.string t.s,.slice A1 t.kids.length c1]] w fun e w'=>e= .returned (.string t.text)/\Below w.heap.size w w':=by
 induction k with
 | zero=>intro t A1 c1 w h;omega
 | succ k ih=>
  intro t A1 c1 w hk hb ht
  have hfit:=ht.fit
  obtain⟨h0,h1,h2,hs⟩:=id ht
  have hn:=wf64 h1
  have hte:=LH t.text_eq
  have E:Below w.heap.size w (w.alloc (.cells #[.int .i64 t.kind,.int .i64 t.n,.string t.s,.slice A1 t.kids.length c1] 36)):=(Below.refl _ _).alloc (Nat.le_refl _) _
  by_cases hk1:t.kind=1
  ·
   have q1:(t.kind ==1)=true:=by simpa using hk1
   have Hk1:=LH hk1
   clear hk1
   go_enter Tryz.func17,Tryz.ntmps17
   go_wp2_with fail
   refine(implDigits' t.n _ hn.1 hn.2).mono ?_
   rintro e w1 ⟨rfl,rfl⟩
   go_wp2_with fail
   go_ret
   exact⟨ret_str (by rw [hte.out,if_pos Hk1.out]),E⟩
  have q1:(t.kind ==1)=false:=by simpa using hk1
  by_cases hk2:t.kind=2
  rotate_left
  ·
   have q2:(t.kind ==2)=false:=by simpa using hk2
   have Hk1:=LH hk1
   have Hk2:=LH hk2
   clear hk1 hk2
   go_enter Tryz.func17,Tryz.ntmps17
   go_wp2_with fail
   go_ret
   exact⟨ret_str (by rw [hte.out,if_neg Hk1.out,if_neg Hk2.out]),E⟩
  have q2:(t.kind ==2)=true:=by simpa using hk2
  have Hk1:=LH hk1
  have Hk2:=LH hk2
  clear hk1 hk2
  have hlen:t.kids.length<=9223372036854775807:=by simpa using hs.len
  have hbe:=t.bulk_eq
  have hzs:t.s.size<=1048576:=by omega
  have hzL:=GValue.textL_size t.kids (GValue.fit_kids hfit)
  rw [GValue.bulks_eq] at hzL
  have hzL2:(GValue.textL t.kids).size<=26214500:=by omega
  clear hzL h2
  go_enter Tryz.func17,Tryz.ntmps17
  go_wp2_with fail
  go_loopw [3,20] (fun n i wr=>∃ j:Nat,j<=t.kids.length/\i= .int .i64 j/\n= .string (t.s++GValue.textL (t.kids.take j))/\Below w.heap.size w wr/\Row wr w.heap.size 36 #[.int .i64 t.kind,.int .i64 t.n,.string t.s,.slice A1 t.kids.length c1]) (fun _ i _=>t.kids.length - (intOf i).toNat)
  case atStart=>exact⟨0,by omega,by go_num,by simp [GValue.textL,ba_nil],E,Row.new _ _ _⟩
  case round=>
   clear E
   obtain⟨j,hj,rfl,rfl,hbl,hrow⟩:=hrel
   have hsz:=hbl.size
   have hgl:=hrow.lt
   have hc:=fun i=>hrow.cell i
   have hzt:=GValue.textL_le t.kids j
   by_cases hlt:j<t.kids.length
   ·
    have htr:=GValue.elem (hs.below hbl (Nat.le_refl _)) j hlt
    obtain⟨b,off,A',c',rfl,hSb,g0,g1,g2,g3,hat⟩:=htr
    have hmem:t.kids[j]∈t.kids:=List.getElem_mem hlt
    have Hs:=LH (GValue.textL_take t.kids j hlt)
    have hs5:(t.kids[j]).bulk<k/\(t.kids[j]).bulk<=1048576:=by have:=bulkL_mem GValue.bulk t.kids _ hmem;omega
    have hs6:=GValue.text_size t.kids[j] (GValue.fitL_mem (GValue.fit_kids hfit) hmem)
    have hs7:(t.kids[j]).text.size<=26214500:=by omega
    clear hs6
    go_wp2_with fail
    refine(ih _ _ _ _ hs5.1 hs5.2 (hat.below ((Below.refl _ _).alloc (by omega) _) (by simp;omega))).mono ?_
    rintro e w1 ⟨rfl,hb1⟩
    go_wp2_with fail
    go_roundw
    case rel=>exact⟨j+1,by omega,by go_num,by rw [Hs.out,ba_assoc],hbl.trans (((Below.refl _ _).alloc hsz _).trans (hb1.mono (by simp;omega))),(hrow.alloc _).below hb1 (by simp;omega)⟩
    case measure=>simp [intOf];omega
   ·
    have hjl:j=t.kids.length:=by omega
    have Hj:=LH hjl
    clear hjl
    by_cases hk0:t.kids.length=0
    · have hk0':¬ 0<t.kids.length:=by omega
      have Hk0:=LH hk0
      clear hk0
      go_wp2_with fail
      go_ret
      exact⟨ret_str (by rw [hte.out,if_neg Hk1.out,if_pos Hk2.out,if_pos Hk0.out,Hj.out,List.take_length,List.eq_nil_of_length_eq_zero Hk0.out];simp [GValue.textL,ba_nil]),hbl⟩
    · have hk0':0<t.kids.length:=by omega
      go_wp2_with fail
      go_ret
      exact⟨ret_str (by rw [hte.out,if_neg Hk1.out,if_pos Hk2.out,if_neg hk0,Hj.out,List.take_length]),hbl⟩
end Go.Proofs.YtamfolaicncblaaGreat
