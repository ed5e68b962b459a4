/- Texts of the claim LTreesRight in one: DnH DnI DnJ. Conditions: none but bounds on sizes. -/
import Derived.Test.YtamfolaicncblaaGreatZLTreesRight30
import Derived.Test.YtamfolaicncblaaGreatZLTreesRight17
import Derived.Test.YtamfolaicncblaaGreatZLTreesRight3
import Derived.Test.YtamfolaicncblaaGreatZLTreesRight6
import Derived.Test.YtamfolaicncblaaGreatZLTreesRight26
import Derived.Test.YtamfolaicncblaaGreatZLTreesRight2
namespace Go.Proofs.YtamfolaicncblaaGreat
set_option maxRecDepth 20000
set_option linter.unusedVariables false
set_option linter.unusedSimpArgs false
open Go.RowKit
set_option maxHeartbeats 2000000
theorem ownsRow_kp {w w':World} {B:Nat} {e:TypeId} {size:Nat} {v:Value} {n:Nat} {cs:List Value} (h:w.ownsRow B e size v n cs) (hk:∀ b,v.ownBlock=some b->B<=b->b<w.heap.size->w'.heap[b]? =w.heap[b]?):w'.ownsRow B e size v n cs:=by
 have hlt:=h.lt
 refine⟨h.1,?_⟩
 rcases h.2 with h | ⟨g,cap,cur,rfl,a1,a2,a3⟩
 · exact .inl h
 · exact .inr ⟨g,cap,cur,rfl,a1,(hk g rfl a1 (hlt g rfl).2).trans a2,a3⟩
def DrawnAltsR (l:List Int) (A:Option Addr) (c:Nat) (g:Nat) (w:World) (e:Ending) (w':World):Prop:=
 ∃ (alts:List GNode) (A2:Option Addr) (c2:Nat),e= .returned (.slice A2 alts.length c2)/\AltsD patQ alts/\1<=alts.length/\AltsAt w' 49 w.heap.size A2 c2 alts/\Dm l A c g w w'
theorem drawAlts {l:List Int} {A:Option Addr} {c:Nat} {g:Nat} {w0 w:World} (hm0:Dm l A c g w0 w):
 Calls Tryz.prog 22 #[.pointer (some ⟨g,0,none⟩)] w (DrawnAltsR l A c g w):=by
 have hm:=hm0.again
 clear hm0
 have hgl:=hm.lt
 obtain⟨w1,e1,R1,hz1,K1⟩:=boxed w 49 #[]
 have M1:=LH (hm.chg K1.out (by omega) hgl)
 have O1:=LH (show w1.ownsRow w.heap.size 49 5 (.slice (some ⟨w.heap.size,0,none⟩) 0 0) 0 [] from
   ⟨by simp,.inr ⟨w.heap.size,0,#[],rfl,Nat.le_refl _,R1.out,Nat.le_refl _,by unfold maxLen;omega,by simp,by simp⟩⟩)
 clear hm
 go_enter Tryz.func22,Tryz.ntmps22
 refine wp_hide (fun BP hBP=>?_)
 have HBP:=LH hBP
 clear hBP
 go_wp2_with fail
 rw [<- e1]
 clear e1
 refine(drawOnceD M1.out 6 (by omega) (by omega)).mono ?_
 rintro e w2 ⟨mx,rfl,hm2⟩
 have M2:=LH (M1.out.trans hm2)
 have O2:=LH (ownsRow_kp O1.out fun b h0 h1 h2=>hm2.bx.block b h2 (by omega))
 have I2:=LH (show AltI w2 49 (.slice (some ⟨w.heap.size,0,none⟩) 0 0) w.heap.size w2.heap.size [] [] from .inl ⟨rfl,rfl⟩)
 clear hm2 K1 M1 R1 O1
 go_wp2_with fail
 go_loopw [3,5] (fun v i wr=>∃ (j:Nat) (alts:List GNode) (A':Option Addr) (c':Nat) (cells:List Value),i= .int .i64 j/\v= .slice A' alts.length c'/\alts.length=j/\Hid (AltsD patQ alts)/\Hid (wr.ownsRow w.heap.size 49 5 (.slice A' alts.length c') alts.length cells)/\Hid (AltI wr 49 (.slice A' alts.length c') w.heap.size wr.heap.size alts cells)/\Hid (Dm l A c g w wr)) (fun _ i _=>5 - (intOf i).toNat)
 case atStart=>exact⟨0,[],_,_,[],by go_num,rfl,rfl,LH ⟨by simp,fun j h=>by simp at h⟩,O2,I2,M2⟩
 case round=>
  clear O2 I2 M2 hz1
  obtain⟨j,alts,A',c',cells,rfl,rfl,hjl,HA,HO,HI,HM⟩:=hrel
  have hz3:=HM.out.size
  have hj5:j<=5:=by have:=HA.out.1;omega
  have HJL:=LH hjl
  clear hjl
  have HOW:=LH (fun q (hq:(Value.slice A' alts.length c').ownBlock=some q)=>HO.out.lt q hq)
  go_wp2_with fail
  refine(drawBelowD HM.out 5 (by omega) (by omega)).mono ?_
  rintro e w4 ⟨x,rfl,hx,hm⟩
  have hz4:=hm.size
  have M4:=LH (HM.out.trans hm)
  have O4:=LH (ownsRow_kp HO.out fun b h0 h1 h2=>hm.bx.block b h2 (by omega))
  have I4:=LH (HI.out.move (w':=w4) (v':=(Value.slice A' alts.length c')) (hi':=w4.heap.size) hz4 (Nat.le_refl _) fun b h1 h2 h3=>⟨hm.bx.block b h1 (by omega),h3⟩)
  have hw1:IntKind.i64.wrap (1+x)=1+x:=(IntWalk.i64_left _).trans (IntWalk.wrap64_in (1+x) (by omega))
  have hw2:IntKind.i64.wrap ((j:Int)+1)=(j:Int)+1:=(IntWalk.i64_left _).trans (IntWalk.wrap64_in ((j:Int)+1) (by omega))
  clear hm HM HO HI
  by_cases hlt:(j:Int)<1+x
  ·
   go_wp2_with fail
   refine(drawOf 3 3 0 rfl (by omega) (by omega) M4.out).mono ?_
   rintro e w5 ⟨p,A1,c1,rfl,hp,hat,hm⟩
   have hz5:=hm.size
   have M5:=LH (M4.out.trans hm)
   have O5:=LH (ownsRow_kp O4.out fun b h0 h1 h2=>hm.bx.block b h2 (by omega))
   have I5:=LH (I4.out.move (w':=w5) (v':=(Value.slice A' alts.length c')) (hi':=w4.heap.size) (Nat.le_refl _) hz5 fun b h1 h2 h3=>⟨hm.bx.block b h1 (by omega),h3⟩)
   have HP:=LH (patQ_D hp)
   have AT5:=LH hat
   clear hm hat hp M4 O4 I4
   obtain⟨w6,e6,R6,hz6,K6⟩:=boxed w5 49 #[.int .i64 p.op,.int .i64 p.n,.string p.s,.string p.t,.slice A1 p.kids.length c1]
   replace hz6:w5.heap.size+1<=w6.heap.size/\w6.heap.size<=w5.heap.size+1:=by omega
   have M6:=LH (M5.out.chg K6.out (by omega) hgl)
   have O6:=LH (ownsRow_kp O5.out fun b h0 h1 h2=>K6.out.block b h2 (by omega))
   have I6:=LH (I5.out.move (w':=w6) (v':=(Value.slice A' alts.length c')) (hi':=w4.heap.size) (Nat.le_refl _) (by omega) fun b h1 h2 h3=>⟨K6.out.block b (by omega) (by omega),h3⟩)
   have AT6:=LH (AT5.out.keep (w':=w6) (S':=fun b=>w4.heap.size<=b/\b<w6.heap.size) fun b hb=>⟨⟨hb.1,by have:=hb.2;omega⟩,K6.out.block b hb.2 (by have:=hb.2;omega)⟩)
   clear M5 O5 I5 AT5 K6
   go_upto_region 7 with (fail)
   rw [<- e6]
   clear e6
   cases mx
   ·
    -- not mixed
    have hcr:=fun i=>R6.out.cell i
    obtain⟨w8,e8,R8,hz8,K8⟩:=boxed w6 49 #[.int .i64 p.op,.int .i64 p.n,.string p.s,.string p.t,.slice A1 p.kids.length c1,.int .i64 1,.int .i64 j,.string ⟨#[]⟩,.string ⟨#[]⟩,.slice none 0 0]
    obtain⟨w9,e9,R9,hz9,K9⟩:=boxed w8 49 #[.int .i64 8,.int .i64 0,.string ⟨#[]⟩,.string ⟨#[]⟩,.slice (some ⟨w6.heap.size,0,none⟩) 2 2]
    rw [hz8] at R9
    have R89:=LH (K9.out.row R8.out (by omega))
    have E9:=LH (show Below w6.heap.size w6 w9 by rw [e9,e8];exact((Below.refl _ _).alloc (Nat.le_refl _) _).alloc (by simp) _)
    have M9:=LH (M6.out.below E9.out)
    have O9:=LH (ownsRow_kp O6.out fun b h0 h1 h2=>E9.out.block b h2)
    have I9:=LH (I6.out.move (w':=w9) (v':=(Value.slice A' alts.length c')) (hi':=w4.heap.size) (Nat.le_refl _) (by omega) fun b h1 h2 h3=>⟨E9.out.block b (by omega),h3⟩)
    have hgn:(Value.slice A' alts.length c').ownBlock≠some w6.heap.size:=fun e=>by have:=(HOW.out _ e).2;omega
    have hal:alts.length<=5:=HA.out.1
    have AT9:=LH (AT6.out.keep (w':=w9) (S':=fun b=>w4.heap.size<=b/\b<w6.heap.size/\(Value.slice A' alts.length c').ownBlock≠some b) fun b hb=>⟨⟨hb.1,hb.2,fun e=>by have:=(HOW.out _ e).2;have:=hb.1;omega⟩,E9.out.block b hb.2⟩)
    have N9:=LH (I9.out.snoc (p:=p) (A:=A1) (c:=c1) (g:=w6.heap.size) (by omega) (by omega) (by omega) (by omega) hgn (by rw [HJL.out];exact R89.out) AT9.out)
    have AA:=LH (altC_rd (w:=w9) (S:=AnyB) (p:=p) (j:=j) (by omega) (show Row w9 w6.heap.size 49 (altRow p A1 c1 j) from R89.out) (AT9.out.keep fun b hb=>⟨trivial,rfl⟩) trivial)
    have T9:=LH (show rdC w9 5 AnyB ([altN p j].map GNode.toD) (altC w6.heap.size) from rdC_one1 AA.out rfl)
    clear K8 K9 R8 I9 AT9 AA M6 O6 I6 AT6
    go_wp2_with (first | (at_builtin;rw [<- e8,<- e9];refine wpList_append_E w9 rfl (.tmp 22) (.tmp 28) 25 rfl 49 zNd 5 72 Tryz.underlying25 (by kernel_rfl) rfl (by omega) w.heap.size (Value.slice A' alts.length c') alts.length cells O9.out (w6.heap.size+1) 1 1 49 ([altN p j].map GNode.toD) (altC w6.heap.size) rfl T9.out R9.out (by omega) (by unfold maxLen;omega) (by omega) rfl rfl ?_;intro A8 c8 w10 hown hGr;obtain⟨q8,hq8,hk8⟩:=hGr.bxe (B:=w.heap.size) (fun q hq=>(HOW.out q hq).1) (by omega);have O10:=LH hown;have M10:=LH (M9.out.chg hk8 hq8 hgl);have I10:=LH (N9.out.move (w':=w10) (v':=.slice A8 (alts.length+1) c8) (hi':=w10.heap.size) hGr.size (Nat.le_refl _) fun b h1 h2 h3=>⟨hGr.grow.block b h1 fun e=>h3 e.symm,hGr.ne h3 h1⟩);clear hGr hown hk8 N9 M9 O9))
    obtain⟨alts2,hal2⟩:∃ x,x=alts++[altN p j]:=⟨_,rfl⟩
    have hl2:alts2.length=alts.length+1:=by rw [hal2];simp
    have HA2:=LH (show AltsD patQ alts2 by rw [hal2,<- HJL.out];exact HA.out.snoc HP.out (by have:=HJL.out;omega))
    go_roundw
    case rel=>exact⟨j+1,alts2,A8,c8,cells++altC w6.heap.size,by go_num,by rw [hl2],by rw [hl2,HJL.out],HA2,LH (by rw [hl2];exact O10.out),LH (by rw [hl2,hal2,<- HJL.out];exact I10.out),M10⟩
    case measure=>simp [intOf];omega
   ·
    -- mixed
    go_wp2_with fail
    refine(drawPat 3 3 rfl (by omega) M6.out).mono ?_
    rintro e w7 ⟨p2,A2,c2,rfl,hp,hat,hm⟩
    have hz7:=hm.size
    have M7:=LH (M6.out.trans hm)
    have O7:=LH (ownsRow_kp O6.out fun b h0 h1 h2=>hm.bx.block b h2 (by omega))
    have I7:=LH (I6.out.move (w':=w7) (v':=(Value.slice A' alts.length c')) (hi':=w4.heap.size) (Nat.le_refl _) (by omega) fun b h1 h2 h3=>⟨hm.bx.block b (by omega) (by omega),h3⟩)
    have R7:=LH (hm.bx.row R6.out (by omega))
    have HP2:=LH (patQ_R hp)
    have AT7:=LH hat
    clear hm hat hp M6 O6 I6 AT6 R6 HP
    have hcm:=fun i=>R7.out.cell i
    have hfm:=fun i=>R7.out.frozen i
    go_upto_region 9 with (fail)
    obtain⟨w7s,e7s,R7s,hz7s,K7s⟩:=stored5 R7.out (.int .i64 p2.op) (.int .i64 p2.n) (.string p2.s) (.string p2.t) (.slice A2 p2.kids.length c2)
    replace hz7s:w7.heap.size<=w7s.heap.size/\w7s.heap.size<=w7.heap.size:=by omega
    have M7s:=LH (M7.out.chg K7s.out (by omega) hgl)
    have O7s:=LH (ownsRow_kp O7.out fun b h0 h1 h2=>K7s.out.block b h2 (by have:=(HOW.out b h0).2;omega))
    have I7s:=LH (I7.out.move (w':=w7s) (v':=(Value.slice A' alts.length c')) (hi':=w4.heap.size) (Nat.le_refl _) (by omega) fun b h1 h2 h3=>⟨K7s.out.block b (by omega) (by omega),h3⟩)
    have AT7s:=LH (AT7.out.keep (w':=w7s) (S':=fun b=>w4.heap.size<=b/\b<w7s.heap.size) fun b hb=>⟨⟨by have:=hb.1;omega,by have:=hb.2;omega⟩,K7s.out.block b hb.2 (by have:=hb.1;omega)⟩)
    rw [<- e7s]
    clear e7s hcm hfm M7 O7 I7 AT7 K7s
    have hcr:=fun i=>R7s.out.cell i
    obtain⟨w8,e8,R8,hz8,K8⟩:=boxed w7s 49 #[.int .i64 p2.op,.int .i64 p2.n,.string p2.s,.string p2.t,.slice A2 p2.kids.length c2,.int .i64 1,.int .i64 j,.string ⟨#[]⟩,.string ⟨#[]⟩,.slice none 0 0]
    obtain⟨w9,e9,R9,hz9,K9⟩:=boxed w8 49 #[.int .i64 8,.int .i64 0,.string ⟨#[]⟩,.string ⟨#[]⟩,.slice (some ⟨w7s.heap.size,0,none⟩) 2 2]
    rw [hz8] at R9
    have R89:=LH (K9.out.row R8.out (by omega))
    have E9:=LH (show Below w7s.heap.size w7s w9 by rw [e9,e8];exact((Below.refl _ _).alloc (Nat.le_refl _) _).alloc (by simp) _)
    have M9:=LH (M7s.out.below E9.out)
    have O9:=LH (ownsRow_kp O7s.out fun b h0 h1 h2=>E9.out.block b h2)
    have I9:=LH (I7s.out.move (w':=w9) (v':=(Value.slice A' alts.length c')) (hi':=w4.heap.size) (Nat.le_refl _) (by omega) fun b h1 h2 h3=>⟨E9.out.block b (by omega),h3⟩)
    have hgn:(Value.slice A' alts.length c').ownBlock≠some w7s.heap.size:=fun e=>by have:=(HOW.out _ e).2;omega
    have hal:alts.length<=5:=HA.out.1
    have AT9:=LH (AT7s.out.keep (w':=w9) (S':=fun b=>w4.heap.size<=b/\b<w7s.heap.size/\(Value.slice A' alts.length c').ownBlock≠some b) fun b hb=>⟨⟨hb.1,hb.2,fun e=>by have:=(HOW.out _ e).2;have:=hb.1;omega⟩,E9.out.block b hb.2⟩)
    have N9:=LH (I9.out.snoc (p:=p2) (A:=A2) (c:=c2) (g:=w7s.heap.size) (by omega) (by omega) (by omega) (by omega) hgn (by rw [HJL.out];exact R89.out) AT9.out)
    have AA:=LH (altC_rd (w:=w9) (S:=AnyB) (p:=p2) (j:=j) (by omega) (show Row w9 w7s.heap.size 49 (altRow p2 A2 c2 j) from R89.out) (AT9.out.keep fun b hb=>⟨trivial,rfl⟩) trivial)
    have T9:=LH (show rdC w9 5 AnyB ([altN p2 j].map GNode.toD) (altC w7s.heap.size) from rdC_one1 AA.out rfl)
    clear K8 K9 R8 I9 AT9 AA M7s O7s I7s AT7s
    go_wp2_with (first | (at_builtin;rw [<- e8,<- e9];refine wpList_append_E w9 rfl (.tmp 22) (.tmp 28) 25 rfl 49 zNd 5 72 Tryz.underlying25 (by kernel_rfl) rfl (by omega) w.heap.size (Value.slice A' alts.length c') alts.length cells O9.out (w7s.heap.size+1) 1 1 49 ([altN p2 j].map GNode.toD) (altC w7s.heap.size) rfl T9.out R9.out (by omega) (by unfold maxLen;omega) (by omega) rfl rfl ?_;intro A8 c8 w10 hown hGr;obtain⟨q8,hq8,hk8⟩:=hGr.bxe (B:=w.heap.size) (fun q hq=>(HOW.out q hq).1) (by omega);have O10:=LH hown;have M10:=LH (M9.out.chg hk8 hq8 hgl);have I10:=LH (N9.out.move (w':=w10) (v':=.slice A8 (alts.length+1) c8) (hi':=w10.heap.size) hGr.size (Nat.le_refl _) fun b h1 h2 h3=>⟨hGr.grow.block b h1 fun e=>h3 e.symm,hGr.ne h3 h1⟩);clear hGr hown hk8 N9 M9 O9))
    obtain⟨alts2,hal2⟩:∃ x,x=alts++[altN p2 j]:=⟨_,rfl⟩
    have hl2:alts2.length=alts.length+1:=by rw [hal2];simp
    have HA2:=LH (show AltsD patQ alts2 by rw [hal2,<- HJL.out];exact HA.out.snoc HP2.out (by have:=HJL.out;omega))
    go_roundw
    case rel=>exact⟨j+1,alts2,A8,c8,cells++altC w7s.heap.size,by go_num,by rw [hl2],by rw [hl2,HJL.out],HA2,LH (by rw [hl2];exact O10.out),LH (by rw [hl2,hal2,<- HJL.out];exact I10.out),M10⟩
    case measure=>simp [intOf];omega
  ·
   have dl:decide ((j:Int)<1+x)=false:=decide_eq_false hlt
   have hj1:1<=j:=by omega
   go_wp2_with fail
   show BP _ _
   rw [HBP.out]
   refine bodyPost_ret (v:=.slice A' alts.length c') (by simp [results,Tryz.results22,go_sem]) rfl ?_
   exact⟨alts,A',c',rfl,HA.out,by have:=HJL.out;omega,⟨cells,O4.out,I4.out⟩,M4.out⟩
theorem storedA {w:World} {n j c0:Nat} {T:TypeId} {p:GNode} {A0:Option Addr} (h:Row w n T (altRow p A0 c0 j)) (v0 v1 v2 v3 v4:Value):∃ x,x=(((((w.setCell ⟨n,0,none⟩ v0).setCell ⟨n,1,none⟩ v1).setCell ⟨n,2,none⟩ v2).setCell ⟨n,3,none⟩ v3).setCell ⟨n,4,none⟩ v4)/\Hid (Row x n T #[v0,v1,v2,v3,v4,.int .i64 1,.int .i64 j,.string ⟨#[]⟩,.string ⟨#[]⟩,.slice none 0 0])/\x.heap.size=w.heap.size/\Hid (Bx n w x):=by
 obtain⟨x0,e0,R0,z0,K0⟩:=storedF h 0 v0
 obtain⟨x1,e1,R1,z1,K1⟩:=storedF R0.out 1 v1
 obtain⟨x2,e2,R2,z2,K2⟩:=storedF R1.out 2 v2
 obtain⟨x3,e3,R3,z3,K3⟩:=storedF R2.out 3 v3
 obtain⟨x4,e4,R4,z4,K4⟩:=storedF R3.out 4 v4
 exact⟨x4,by rw [e4,e3,e2,e1,e0],LH R4.out,by omega,LH ((((K0.out.trans K1.out).trans K2.out).trans K3.out).trans K4.out)⟩
theorem anyN_rep (n:Nat):∀ k∈List.replicate n anyN,k=anyN:=fun k hk=>List.eq_of_mem_replicate hk
theorem patQ_con {s:ByteArray} (hs:s.size<=8) (n:Nat) (hn:n<=8):patQ (.mk 20 0 s ⟨#[]⟩ (List.replicate n anyN)):=by
 refine⟨⟨fun h=>by simp [GNode.op] at h,fun k hk=>?_⟩,?_⟩
 · have:k=anyN:=anyN_rep n k hk
   subst this
   exact⟨fun h=>by simp [anyN,GNode.op] at h,fun k hk=>by simp [anyN,GNode.kids] at hk⟩
 ·
  rw [GNode.bulk_eq]
  have:∀ n,bulkL GNode.bulk (List.replicate n anyN)=n:=by
   intro n
   induction n with
   | zero=>rfl
   | succ n ih=>
    rw [List.replicate_succ]
    have h0:anyN.bulk=0:=by rw [GNode.bulk_eq];rfl
    simp only [bulkL,ih,h0];omega
  simp only [GNode.s,GNode.t,GNode.kids,this]
  have h0:(⟨#[]⟩:ByteArray).size=0:=rfl
  omega
theorem drawTrees (l:List Int) (A:Option Addr) (c:Nat) (w:World) (hs:Sl w (Lt w.heap.size) 1 A c (l.map (D.num .u8))) (hl:l.length<=1048576):
 Calls Tryz.prog 5 #[.slice A l.length c] w fun e w'=>∃ ds D d alts B b,e= .returned (.tuple #[.slice D (List.length ds) d,.slice B (List.length alts) b])/\Datas9 ds/\AltsD patQ alts/\Sl w' (Lt w'.heap.size) 3 D d (ds.map GData.toD)/\Sl w' (Lt w'.heap.size) 5 B b (alts.map GNode.toD)/\Below w.heap.size w w':=by
 have HN:=LH (newCur l A c w hs hl)
 clear hs
 go_enter Tryz.func5,Tryz.ntmps5
 refine wp_hide (fun BP hBP=>?_)
 have HBP:=LH hBP
 clear hBP
 go_wp2_with fail
 refine HN.out.mono ?_
 rintro e w2 ⟨h0,rfl,hc,hb⟩
 have hgl:=hc.row.lt
 obtain⟨g,hg⟩:∃ g,w.heap.size=g:=⟨_,rfl⟩
 rw [hg] at hc hgl ⊢
 have B2:=LH hb
 have M2:=LH (Dm.start hc)
 clear hc hb HN
 go_wp2_with fail
 refine(drawAlts M2.out).mono ?_
 rintro e w3 ⟨alts,A2,c2,rfl,ha,h1,hat,hm⟩
 have hz3:=hm.size
 have HA:=LH ha
 have M3:=LH (M2.out.trans hm)
 have AT:=LH hat
 clear ha hat hm
 go_wp2_with fail
 refine(drawOnceD M3.out 9 (by omega) (by omega)).mono ?_
 rintro e w4 ⟨b1,rfl,hm4⟩
 have hz4:=hm4.size
 have K4:=LH hm4.bx
 have M4:=LH (M3.out.trans hm4)
 clear hm4
 cases b1
 ·
  have S4:=LH (AT.out.sl.keep (w':=w4) (S':=fun b=>b<w4.heap.size/\b≠g) fun b hb=>⟨⟨by have:=hb.1;omega,by have:=hb.2;omega⟩,K4.out.block b hb.1 (by have:=hb.2;omega)⟩)
  clear AT K4
  go_wp2_with fail
  refine(drawDatas9 w4).mono ?_
  rintro e w5 ⟨ds,D,d,rfl,hd,hsl,hb5⟩
  have hz5:=hb5.size
  have HD:=LH hd
  have S5:=LH (S4.out.keep (w':=w5) (S':=Lt w5.heap.size) fun b hb=>⟨by have:=hb.1;show b<_;omega,hb5.block b hb.1⟩)
  have D5:=LH (hsl.keep (w':=w5) (S':=Lt w5.heap.size) fun b hb=>⟨hb.2,rfl⟩)
  have B5:=LH (B2.out.trans ((M4.out.bx.below (B:=w.heap.size) (by have:=B2.out.size;omega) (by omega)).trans (hb5.mono (by have:=B2.out.size;omega))))
  clear hd hsl hb5 S4
  go_wp2_with fail
  show BP _ _
  rw [HBP.out]
  refine bodyPost_ret (v:=.tuple #[.slice D ds.length d,.slice A2 alts.length c2]) (by simp [results,Tryz.results5,go_sem]) rfl ?_
  exact⟨ds,D,d,alts,A2,c2,rfl,HD.out,HA.out,D5.out,S5.out,B5.out⟩
 ·
  obtain⟨ga,b0,p0,A0,c0,rest,hal,hA2,r1,r2,r3,r4,r5,r6,r7,r8⟩:=AT.out.row0 h1
  have HAL:=LH hal
  have hnl:alts.length=rest.length+1:=by rw [hal];simp
  have R8:=LH r8
  have RB4:=LH (K4.out.row r7 (by omega))
  have CC4:=LH ((show w4.cell? ⟨ga,4,none⟩=w3.cell? ⟨ga,4,none⟩ from by unfold World.cell?;rw [K4.out.block ga r2 (by omega)]).trans r6)
  have KK4:=LH (fun b (h1:b<w3.heap.size) (h2:w2.heap.size<=b)=>K4.out.block b h1 (by omega))
  obtain⟨n,hn⟩:∃ n,alts.length=n:=⟨_,rfl⟩
  subst hA2
  have hn1:0<n:=by omega
  rw [hn]
  clear hal r6 r7 r8 AT K4 M3
  go_upto_region 4 with (fail)
  refine wp_region_T (fun x=>x.cell? ⟨ga,4,none⟩=some (.slice (some ⟨b0,0,none⟩) 2 2)) 100 (by kernel_rfl) ?_
  obtain⟨w5,e5⟩:∃ x,x=w4.drew:=⟨_,rfl⟩
  rw [<- e5]
  have K5:=LH (show Below w4.heap.size w4 w5 by rw [e5];exact(Below.refl _ _).drew)
  have hz5:w5.heap.size<=w4.heap.size/\w4.heap.size<=w5.heap.size:=by rw [e5];exact⟨Nat.le_refl _,Nat.le_refl _⟩
  clear e5
  have M5:=LH (M4.out.below K5.out)
  have RB5:=LH (RB4.out.below K5.out RB4.out.lt)
  have hS1:w5.cell? ⟨ga,4,none⟩=some (.slice (some ⟨b0,0,none⟩) 2 2):=(show w5.cell? ⟨ga,4,none⟩=w4.cell? ⟨ga,4,none⟩ from by unfold World.cell?;rw [K5.out.block ga (by omega)]).trans CC4.out
  have hcell:∀ {x y:World},x.heap[ga]? =y.heap[ga]?->x.cell? ⟨ga,4,none⟩=y.cell? ⟨ga,4,none⟩:=fun h=>by unfold World.cell?;rw [h]
  clear CC4 RB4 M4
  refine wpAnyT_tk (i:=0) (oi:=_) (v:=?tv1) rfl (Or.inl ⟨by rfl,?th1⟩) hS1 ?_
  case th1=>(intro x hSx;(try dsimp only at hSx);go_simp;(try with_reducible rfl))
  try simp only [nA,nB,nC,Act.put,nD,nE,nF]
  refine wpAnyT_tk (i:=1) (oi:=_) (v:=?tv2) rfl (Or.inl ⟨by rfl,?th2⟩) hS1 ?_
  case th2=>(intro x hSx;(try dsimp only at hSx);go_simp;(try with_reducible rfl))
  try simp only [nA,nB,nC,Act.put,nD,nE,nF]
  refine wpAnyT_tk (i:=2) (oi:=_) (v:=?tv3) rfl (Or.inl ⟨by rfl,?th3⟩) hS1 ?_
  case th3=>(intro x hSx;(try dsimp only at hSx);go_simp;(try with_reducible rfl))
  try simp only [nA,nB,nC,Act.put,nD,nE,nF]
  refine wpAnyT_tk (i:=3) (oi:=_) (v:=?tv4) rfl (Or.inl ⟨by rfl,?th4⟩) hS1 ?_
  case th4=>(intro x hSx;(try dsimp only at hSx);go_simp;(try with_reducible rfl))
  try simp only [nA,nB,nC,Act.put,nD,nE,nF]
  refine wpAnyT_tk (i:=4) (oi:=_) (v:=?tv5) rfl (Or.inl ⟨by rfl,?th5⟩) hS1 ?_
  case th5=>(intro x hSx;(try dsimp only at hSx);go_simp;(try with_reducible rfl))
  try simp only [nA,nB,nC,Act.put,nD,nE,nF]
  refine wpAnyT_tk (i:=7) (oi:=_) (v:=?tv6) rfl (Or.inl ⟨by rfl,?th6⟩) hS1 ?_
  case th6=>(intro x hSx;(try dsimp only at hSx);go_simp;(try with_reducible rfl))
  try simp only [nA,nB,nC,Act.put,nD,nE,nF]
  refine wpAnyT_step (i:=5) (by kernel_rfl) rfl (fun K hK=>?_)
  obtain⟨w6,e6,R6,hz6,K6⟩:=boxed w5 9 #[.string ⟨#[81]⟩,.string ⟨#[67,111,110,115]⟩,.string ⟨#[78,105,108]⟩]
  replace hz6:w5.heap.size+1<=w6.heap.size/\w6.heap.size<=w5.heap.size+1:=by omega
  have M6:=LH (M5.out.chg K6.out (by omega) (by omega))
  have RB6:=LH (K6.out.row RB5.out (by omega))
  have hS2:=(hcell (K6.out.block ga (by omega) (by omega))).trans hS1
  try simp only [nA,nB,nC]
  go_simp
  rw [<- e6]
  refine hK.out _ _ hS2 (fun hS3=>?_)
  clear hK K hS1 hS2 e6 M5 RB5
  try simp only [nA,nB,nC,Act.put,nD,nE,nF]
  refine wpAnyT_step (i:=6) (by kernel_rfl) rfl (fun K hK=>?_)
  try simp only [nA,nB,nC]
  go_simp
  refine(drawPickD M6.out [⟨#[81]⟩,⟨#[67,111,110,115]⟩,⟨#[78,105,108]⟩] w5.heap.size (by omega) 9 R6.out (by simp) (by simp) (fun s=>s.size<=8) (by intro s hs;simp at hs;rcases hs with rfl | rfl | rfl<;>decide)).mono ?_
  rintro e w7 ⟨y,rfl,hy,hm7⟩
  have hz7:=hm7.size
  have M7:=LH (M6.out.trans hm7)
  have RB7:=LH (hm7.bx.row RB6.out (by omega))
  have K7:=LH hm7.bx
  have hS4:=(hcell (hm7.bx.block ga (by omega) (by omega))).trans hS3
  have HY:=LH hy
  clear hm7 hy
  try simp only [nA,nB,nC]
  go_simp
  refine hK.out _ _ hS4 (fun hS5=>?_)
  clear hK K hS3 hS4 M6 RB6
  try simp only [nA,nB,nC,Act.put,nD,nE,nF]
  refine wpAnyT_step (i:=8) (by kernel_rfl) rfl (fun K hK=>?_)
  try simp only [nA,nB,nC]
  go_simp
  refine(drawBelowD M7.out 3 (by omega) (by omega)).mono ?_
  rintro e w8 ⟨x,rfl,hx,hm8⟩
  have hz8:=hm8.size
  have M8:=LH (M7.out.trans hm8)
  have RB8:=LH (hm8.bx.row RB7.out (by omega))
  have K8:=LH hm8.bx
  have hS6:=(hcell (hm8.bx.block ga (by omega) (by omega))).trans hS5
  clear hm8
  obtain⟨m,hm⟩:∃ m:Nat,x=(m:Int):=⟨x.toNat,by omega⟩
  subst hm
  have hAny:=LH (specAny (fun b=>w8.heap.size<=b) m [] none 0 w8 (fun b h=>h) (by simp;omega) (Sl.nil (by unfold maxLen;omega)))
  rw [List.append_nil] at hAny
  try simp only [nA,nB,nC]
  go_simp
  refine hK.out _ _ hS6 (fun hS7=>?_)
  clear hK K hS5 hS6 M7 RB7
  try simp only [nA,nB,nC,Act.put,nD,nE,nF]
  refine wpAnyT_step (i:=9) (by kernel_rfl) rfl (fun K hK=>?_)
  try simp only [nA,nB,nC]
  go_simp
  refine hAny.out.mono ?_
  rintro e w9 ⟨A9,c9,rfl,hs9,hb9⟩
  have hz9:=hb9.size
  have M9:=LH (M8.out.below hb9)
  have RB9:=LH (RB8.out.below hb9 RB8.out.lt)
  have K9:=LH hb9
  have S9:=LH hs9
  have hS8:=(hcell (hb9.block ga (by omega))).trans hS7
  have hrl:(List.replicate m anyN).length=m:=List.length_replicate
  rw [hrl]
  clear hb9 hs9
  try simp only [nA,nB,nC]
  go_simp
  refine hK.out _ _ hS8 (fun hS9=>?_)
  clear hK K hS7 hS8 M8 RB8
  try simp only [nA,nB,nC,Act.put,nD,nE,nF]
  refine wpAnyT_tk (i:=10) (oi:=_) (v:=?tv7) rfl (Or.inl ⟨by rfl,?th7⟩) hS9 ?_
  case th7=>(intro x hSx;(try dsimp only at hSx);go_simp;(try with_reducible rfl))
  try simp only [nA,nB,nC,Act.put,nD,nE,nF]
  refine wpAnyT_tk (i:=11) (oi:=_) (v:=?tv8) rfl (Or.inl ⟨by rfl,?th8⟩) hS9 ?_
  case th8=>(intro x hSx;(try dsimp only at hSx);go_simp;(try with_reducible rfl))
  try simp only [nA,nB,nC,Act.put,nD,nE,nF]
  have hcb:=fun i=>(show Row w9 b0 49 #[.int .i64 p0.op,.int .i64 p0.n,.string p0.s,.string p0.t,.slice A0 p0.kids.length c0,.int .i64 1,.int .i64 (0:Nat),.string ⟨#[]⟩,.string ⟨#[]⟩,.slice none 0 0] from RB9.out).cell i
  have hfb:=fun i=>RB9.out.frozen i
  have hlb:=RB9.out.lt
  refine wpAnyT_step (i:=12) (by kernel_rfl) rfl (fun K hK=>?_)
  try simp only [nA,nB,nC]
  go_simp
  obtain⟨w10,e10,R10,hz10,K10⟩:=storedA RB9.out (.int .i64 20) (.int .i64 0) (.string y) (.string ⟨#[]⟩) (.slice A9 m c9)
  rw [<- e10]
  clear e10 hcb hfb
  replace hz10:w10.heap.size<=w9.heap.size/\w9.heap.size<=w10.heap.size:=by omega
  have hS10:=(hcell (K10.out.block ga (by omega) (by omega))).trans hS9
  refine hK.out _ _ hS10 (fun _=>?_)
  refine wpAnyT_done (by kernel_rfl) ?_ _
  clear hK K hS9 hS10
  have hk10:∀ b,b<w3.heap.size->w2.heap.size<=b->b≠b0->w10.heap[b]? =w3.heap[b]?:=fun b h1 h2 h3=>(K10.out.block b (by omega) h3).trans ((K9.out.block b (by omega)).trans ((K8.out.block b (by omega) (by omega)).trans ((K7.out.block b (by omega) (by omega)).trans ((K6.out.block b (by omega) (by omega)).trans ((K5.out.block b (by omega)).trans (KK4.out b h1 h2))))))
  have M10:=LH (M9.out.chg K10.out (by omega) hgl)
  have S10:=LH (S9.out.keep (w':=w10) (S':=fun b=>w2.heap.size<=b/\b<w10.heap.size/\b≠ga) fun b hb=>⟨⟨by have:=hb.2;omega,by have:=hb.1;omega,by have:=hb.2;omega⟩,K10.out.block b hb.1 (by have:=hb.2;omega)⟩)
  obtain⟨p,hp⟩:∃ p:GNode,p= .mk 20 0 y ⟨#[]⟩ (List.replicate m anyN):=⟨_,rfl⟩
  have hkl:p.kids.length=m:=by rw [hp];exact hrl
  have HP:=LH (show patQ p by rw [hp];exact patQ_con HY.out m (by omega))
  have AP:=LH (show GNode.At w10 (fun b=>w2.heap.size<=b/\b<w10.heap.size/\b≠ga) A9 c9 p by rw [hp];exact⟨show(Lit.int .i64 20).wf=true by decide,show(Lit.int .i64 0).wf=true by decide,short_le HY.out,empty_le,S10.out⟩)
  have hsl:=R8.out w10 p A9 c9 (by omega) hk10 (show Row w10 b0 49 (altRow p A9 c9 0) by rw [altRow,hkl,hp];exact R10.out) AP.out
  have HA10:=LH (show AltsD patQ (altN p 0::rest) from⟨by have:=HA.out.1;rw [HAL.out] at this;simpa using this,fun j hj=>by
    cases j with
    | zero=>exact⟨p,HP.out,rfl⟩
    | succ j=>
      have:=HA.out.2 (j+1) (by rw [HAL.out];simpa using hj)
      simp only [HAL.out,List.getElem_cons_succ] at this ⊢
      exact this⟩)
  have S11:=LH hsl
  have hal2:(altN p 0::rest).length=n:=by rw [<- hn,HAL.out];simp
  clear hsl S10 S9 AP R10 hk10 R8 KK4 K5 K6 K7 K8 K9 K10 M9
  go_wp2_with fail
  refine(drawDatas9 w10).mono ?_
  rintro e w11 ⟨ds,D,d,rfl,hd,hsl,hb5⟩
  have hz11:=hb5.size
  have HD:=LH hd
  have S12:=LH (S11.out.keep (w':=w11) (S':=Lt w11.heap.size) fun b hb=>⟨by have:=hb.1;show b<_;omega,hb5.block b hb.1⟩)
  have D5:=LH (hsl.keep (w':=w11) (S':=Lt w11.heap.size) fun b hb=>⟨hb.2,rfl⟩)
  have B5:=LH (B2.out.trans ((M10.out.bx.below (B:=w.heap.size) (by have:=B2.out.size;omega) (by omega)).trans (hb5.mono (by have:=B2.out.size;omega))))
  clear hd hsl hb5 S11
  go_wp2_with fail
  show BP _ _
  rw [HBP.out]
  refine bodyPost_ret (v:=.tuple #[.slice D ds.length d,.slice (some ⟨ga,0,none⟩) n c2]) (by simp [results,Tryz.results5,go_sem]) rfl ?_
  exact⟨ds,D,d,altN p 0::rest,some ⟨ga,0,none⟩,c2,by rw [hal2],HD.out,HA10.out,D5.out,S12.out,B5.out⟩
theorem AltsD.bulkQ {alts:List GNode} (h:AltsD patQ alts):bulkL GNode.bulk alts<=10000:=by
 have hb:∀ (l:List GNode),(∀ a∈l,a.bulk<=140)->bulkL GNode.bulk l<=141*l.length:=by
  intro l
  induction l with
  | nil=>intro _;simp [bulkL]
  | cons a r ih=>
   intro h
   have h1:=h a (List.mem_cons_self ..)
   have h2:=ih fun b hb=>h b (List.mem_cons_of_mem _ hb)
   simp only [bulkL,List.length_cons];omega
 have:=hb alts fun a ha=>by
  obtain⟨j,hj,rfl⟩:=List.mem_iff_getElem.1 ha
  obtain⟨p,hp,he⟩:=h.2 j hj
  have:=hp.2
  rw [he,GNode.bulk_eq]
  have e1:(GNode.mk 1 j ⟨#[]⟩ ⟨#[]⟩ []).bulk=0:=by rw [GNode.bulk_eq];rfl
  have h0:(⟨#[]⟩:ByteArray).size=0:=rfl
  simp only [altN,GNode.s,GNode.t,GNode.kids,bulkL,e1,h0];omega
 have:=h.1
 omega
def DrawnTr (l:List Int) (A:Option Addr) (c:Nat) (g:Nat) (w:World) (e:Ending) (w':World):Prop:=
 ∃ t A1 c1 A2 c2,e= .returned (.agg #[.int .i64 (GTree.op t),.int .i64 (GTree.n t),.slice A1 (GTree.path t).length c1,.string (GTree.s t),.slice A2 (GTree.kids t).length c2])/\GTree.bulk t<=1262486504/\GTree.At w' (fun b=>w.heap.size<=b/\b<w'.heap.size) A1 c1 A2 c2 t/\Dm l A c g w w'
theorem TGx.at {w w':World} {S S':Nat->Prop} {A1:Option Addr} {c1:Nat} {A2:Option Addr} {c2:Nat} {t:GTree} (h:TGx w S A1 c1 A2 c2 t) (hk:∀ b,S b->S' b/\w'.heap[b]? =w.heap[b]?) (op n:Int) (s:ByteArray) (h1:(Lit.int .i64 op).wf=true) (h2:(Lit.int .i64 n).wf=true) (h3:s.size<=maxLen):GTree.At w' S' A1 c1 A2 c2 (.mk op n t.path s t.kids):=
 ⟨h1,h2,h.1.osl.sl.keep hk,h3,h.2.keep fun b hb=>hk b hb.1⟩
theorem tree_bulk {t:GTree} (h:t.bulk<=1262485504) (op n:Int) (s:ByteArray) (hs:s.size<=t.s.size+500) (p:List Int) (hp:p.length<=t.path.length+1):(GTree.mk op n p s t.kids).bulk<=1262486504:=by
 cases t with
 | mk a b e f k=>
  have h1:=GTree.bulk_eq (.mk a b e f k)
  have h2:=GTree.bulk_eq (.mk op n p s k)
  simp only [GTree.path,GTree.s,GTree.kids] at h1 h2 hs hp
  show(GTree.mk op n p s k).bulk<=1262486504
  omega
theorem tree_bulk0 {t:GTree} (h:t.bulk<=1262485504) (op n:Int):(GTree.mk op n t.path t.s []).bulk<=1262486504:=by
 cases t with
 | mk a b e f k=>
  have h1:=GTree.bulk_eq (.mk a b e f k)
  have h2:=GTree.bulk_eq (.mk op n e f [])
  simp only [GTree.path,GTree.s,GTree.kids,bulkL] at h1 h2
  show(GTree.mk op n e f []).bulk<=1262486504
  omega
theorem drawTree {l:List Int} {A:Option Addr} {c:Nat} {g:Nat} {w0 w:World} (hm0:Dm l A c g w0 w):
 Calls Tryz.prog 36 #[.pointer (some ⟨g,0,none⟩)] w (DrawnTr l A c g w):=by
 have hm:=hm0.again
 clear hm0
 have hgl:=hm.lt
 have M0:=LH hm
 clear hm
 go_enter Tryz.func36,Tryz.ntmps36
 refine wp_hide (fun BP hBP=>?_)
 have HBP:=LH hBP
 clear hBP
 go_wp2_with fail
 obtain⟨w1,e1,Rr1,hz1,K1⟩:=boxed w 31 #[.int .i64 0,.int .i64 0,.slice none 0 0,.string ⟨#[]⟩,.slice none 0 0]
 have M1:=LH (M0.out.chg K1.out (by omega) (by omega))
 rw [<- e1]
 clear e1
 refine(drawDatas9 w1).mono ?_
 rintro e w2 ⟨ds,Ads,cds,rfl,hd,ha2,hb2⟩
 have hz2:=hb2.size
 have K2:=LH (Bx.of_below (g:=g) hb2 (Nat.le_refl _))
 have DN2:=LH ha2
 have Rr2:=LH (K2.out.row Rr1.out (by omega))
 have M2:=LH (M1.out.below hb2)
 clear Rr1 M1
 clear hb2 ha2 hd
 go_wp2_with fail
 refine(drawAlts M2.out).mono ?_
 rintro e w3 ⟨alts,Aal,cal,rfl,hal,-,hat,hm3⟩
 have hz3:=hm3.size
 have K3:=LH hm3.bx
 have HAB:=LH (hal.bulkQ)
 have DN3:=LH (hat.sl.keep (w':=w3) (S':=fun b=>w2.heap.size<=b/\b<w3.heap.size) fun b hb=>⟨⟨hb.2,hb.1⟩,rfl⟩)
 have Rr3:=LH (K3.out.row Rr2.out (by omega))
 have Dds3:=LH (DN2.out.keep fun b hb=>⟨hb,K3.out.block b (by have:=hb.1;have:=hb.2;omega) (by have:=hb.1;have:=hb.2;omega)⟩)
 have M3:=LH (M2.out.trans hm3)
 clear Rr2 DN2 M2
 clear hm3 hat hal
 have HT0:=LH (treesV_bulk ds alts (by have:=HAB.out;omega))
 have HS0:=LH (specTreesLG ds Ads cds alts Aal cal w3 (by have:=HAB.out;omega) (Dds3.out.keep fun b hb=>⟨by have h1:=hb.2;show b<_;omega,rfl⟩) (DN3.out.keep fun b hb=>⟨by have h1:=hb.2;show b<_;omega,rfl⟩))
 obtain⟨⟨t,ok⟩,hT⟩:∃ T,treesV ds (alts.map patOf)=T:=⟨_,rfl⟩
 rw [hT] at HT0 HS0
 clear hT
 have HTB:=LH (show t.bulk<=1262485504 from HT0.out)
 clear HT0
 go_wp2_with fail
 refine HS0.out.mono ?_
 rintro e w4 ⟨T1,p1,T2,p2,rfl,how,htg,hb4⟩
 dsimp only at how htg ⊢
 have hz4:=hb4.size
 have K4:=LH (Bx.of_below (g:=g) hb4 (Nat.le_refl _))
 have HWO:=LH (how.at.1)
 have HWN:=LH (how.at.2.1)
 have HWS:=LH (how.at.2.2.2.1)
 have DN4:=LH htg
 have Rr4:=LH (K4.out.row Rr3.out (by omega))
 have M4:=LH (M3.out.below hb4)
 clear Rr3 M3
 clear hb4 how htg HS0
 have HTL:=LH (show t.path.length<=1262485504 by have h1:=GTree.bulk_eq t;have h2:=HTB.out;omega)
 go_wp2_with fail
 obtain⟨w5,e5,Rt5,hz5,K5⟩:=boxed w4 31 #[.int .i64 t.op,.int .i64 t.n,.slice T1 t.path.length p1,.string t.s,.slice T2 t.kids.length p2]
 have Rr5:=LH (K5.out.row Rr4.out (by omega))
 have Dt5:=LH (DN4.out.keep fun b hb=>⟨hb,K5.out.block b (by have:=hb.1;have:=hb.2;omega) (by have:=hb.1;have:=hb.2;omega)⟩)
 have M5:=LH (M4.out.chg K5.out (by omega) (by omega))
 clear Rr4 DN4 M4
 rw [<- e5]
 clear e5
 refine(drawBelowD M5.out 14 (by omega) (by omega)).mono ?_
 rintro e w6 ⟨x,rfl,hx,hm6⟩
 have hz6:=hm6.size
 have K6:=LH hm6.bx
 have Rr6:=LH (K6.out.row Rr5.out (by omega))
 have Rt6:=LH (K6.out.row Rt5.out (by omega))
 have Dt6:=LH (Dt5.out.keep fun b hb=>⟨hb,K6.out.block b (by have:=hb.1;have:=hb.2;omega) (by have:=hb.1;have:=hb.2;omega)⟩)
 have M6:=LH (M5.out.trans hm6)
 clear Rr5 Rt5 Dt5 M5
 clear hm6
 have hcr6:=fun i=>Rr6.out.cell i
 have hfr6:=fun i=>Rr6.out.frozen i
 have hct6:=fun i=>Rt6.out.cell i
 have hft6:=fun i=>Rt6.out.frozen i
 by_cases x0:x=0
 ·
  go_wp2_with fail
  refine(drawBelowD M6.out 7 (by omega) (by omega)).mono ?_
  clear hcr6 hfr6 hct6 hft6
  rintro e w7 ⟨y,rfl,hy,hm7⟩
  have hz7:=hm7.size
  have K7:=LH hm7.bx
  have Rr7:=LH (K7.out.row Rr6.out (by omega))
  have Rt7:=LH (K7.out.row Rt6.out (by omega))
  have Dt7:=LH (Dt6.out.keep fun b hb=>⟨hb,K7.out.block b (by have:=hb.1;have:=hb.2;omega) (by have:=hb.1;have:=hb.2;omega)⟩)
  have M7:=LH (M6.out.trans hm7)
  clear Rr6 Rt6 Dt6 M6
  clear hm7
  have hcr7:=fun i=>Rr7.out.cell i
  have hfr7:=fun i=>Rr7.out.frozen i
  have hct7:=fun i=>Rt7.out.cell i
  have hft7:=fun i=>Rt7.out.frozen i
  have hwy:IntKind.i64.wrap (y - 1)=y - 1:=by rw [IntKind.wrap_i64];omega
  go_wp2_with fail
  clear hcr7 hfr7 hct7 hft7
  obtain⟨w8,e8,RO8,hz8,K8⟩:=storedF Rt7.out 0 (.int .i64 (y - 1))
  have RN8:=LH (show Row w8 w4.heap.size 31 #[.int .i64 (y - 1),.int .i64 t.n,.slice T1 t.path.length p1,.string t.s,.slice T2 t.kids.length p2] from RO8.out)
  clear RO8
  have Rr8:=LH (K8.out.row Rr7.out (by omega))
  have Dt8:=LH (Dt7.out.keep fun b hb=>⟨hb,K8.out.block b (by have:=hb.1;have:=hb.2;omega) (by have:=hb.1;have:=hb.2;omega)⟩)
  have M8:=LH (M7.out.chg K8.out (by omega) (by omega))
  clear Rr7 Dt7 M7
  clear Rt7
  obtain⟨w9,e9,RN9,hz9,K9⟩:=stored5 Rr8.out (.int .i64 (y - 1)) (.int .i64 t.n) (.slice T1 t.path.length p1) (.string t.s) (.slice T2 t.kids.length p2)
  have Rt9:=LH (K9.out.row RN8.out (by omega))
  have Dt9:=LH (Dt8.out.keep fun b hb=>⟨hb,K9.out.block b (by have:=hb.1;have:=hb.2;omega) (by have:=hb.1;have:=hb.2;omega)⟩)
  have M9:=LH (M8.out.chg K9.out (by omega) (by omega))
  clear RN8 Dt8 M8
  clear Rr8
  rw [<- e8,<- e9]
  clear e8 e9
  have hlt9:=Rt9.out.lt
  have hcr9:=fun i=>RN9.out.cell i
  show BP _ _
  rw [HBP.out]
  refine bodyPost_ret (v:=.agg #[.int .i64 (y - 1),.int .i64 t.n,.slice T1 t.path.length p1,.string t.s,.slice T2 t.kids.length p2]) (by simp [results,Tryz.results36,go_sem,hcr9]) rfl ?_
  exact⟨.mk (y - 1) t.n t.path t.s t.kids,T1,p1,T2,p2,rfl,tree_bulk HTB.out _ _ _ (Nat.le_add_right _ _) _ (Nat.le_succ _),Dt9.out.at (fun b hb=>⟨⟨by have h1:=hb.1;have h2:=hb.2;omega,by have h2:=hb.2;omega⟩,rfl⟩) _ _ _ (int_wfS (by omega)) HWN.out HWS.out,M9.out⟩
 by_cases x1:x=1
 ·
  have HOW:=LH (fun b (hb:(Value.slice T1 t.path.length p1).ownBlock=some b)=>show w3.heap.size<=b/\b<w4.heap.size from Dt6.out.1.2 b hb)
  go_upto_region 6 with (fail)
  refine wp_region_T (fun x=>x.cell? ⟨w4.heap.size,2,none⟩=some (.slice T1 t.path.length p1)) 8 (by kernel_rfl) ?_
  clear hcr6 hfr6 hct6 hft6
  obtain⟨w7,e7⟩:∃ x,x=w6.drew:=⟨_,rfl⟩
  rw [<- e7]
  have hz7:w7.heap.size<=w6.heap.size/\w6.heap.size<=w7.heap.size:=by rw [e7];exact⟨Nat.le_refl _,Nat.le_refl _⟩
  have K7:=LH (show Bx w6.heap.size w6 w7 by rw [e7];exact Bx.of_below ((Below.refl _ _).drew) (Nat.le_refl _))
  clear e7
  have Rr7:=LH (K7.out.row Rr6.out (by omega))
  have Rt7:=LH (K7.out.row Rt6.out (by omega))
  have Dt7:=LH (Dt6.out.keep fun b hb=>⟨hb,K7.out.block b (by have:=hb.1;have:=hb.2;omega) (by have:=hb.1;have:=hb.2;omega)⟩)
  have M7:=LH (M6.out.chg K7.out (by omega) (by omega))
  clear Rr6 Rt6 Dt6 M6
  have hS1:w7.cell? ⟨w4.heap.size,2,none⟩=some (.slice T1 t.path.length p1):=Rt7.out.cell 2
  refine wpAnyT_tk (i:=0) (oi:=_) (v:=?tv1) rfl (Or.inl ⟨by rfl,?th1⟩) hS1 ?_
  case th1=>(intro x hSx;(try dsimp only at hSx);go_simp;(try with_reducible rfl))
  try simp only [nA,nB,nC,Act.put,nD,nE,nF]
  refine wpAnyT_tk (i:=1) (oi:=_) (v:=?tv2) rfl (Or.inl ⟨by rfl,?th2⟩) hS1 ?_
  case th2=>(intro x hSx;(try dsimp only at hSx);go_simp;(try with_reducible rfl))
  try simp only [nA,nB,nC,Act.put,nD,nE,nF]
  refine wpAnyT_tk (i:=2) (oi:=_) (v:=?tv3) rfl (Or.inl ⟨by rfl,?th3⟩) hS1 ?_
  case th3=>(intro x hSx;(try dsimp only at hSx);go_simp;(try with_reducible rfl))
  try simp only [nA,nB,nC,Act.put,nD,nE,nF]
  refine wpAnyT_step (i:=3) (by kernel_rfl) rfl (fun K hK=>?_)
  try simp only [nA,nB,nC]
  go_simp
  refine(drawBelowD M7.out 3 (by omega) (by omega)).mono ?_
  rintro e w8 ⟨y,rfl,hy,hm8⟩
  have hz8:=hm8.size
  have K8:=LH hm8.bx
  have Rr8:=LH (K8.out.row Rr7.out (by omega))
  have Rt8:=LH (K8.out.row Rt7.out (by omega))
  have Dt8:=LH (Dt7.out.keep fun b hb=>⟨hb,K8.out.block b (by have:=hb.1;have:=hb.2;omega) (by have:=hb.1;have:=hb.2;omega)⟩)
  have M8:=LH (M7.out.trans hm8)
  clear Rr7 Rt7 Dt7 M7
  clear hm8
  have hwy:IntKind.i64.wrap (y - 1)=y - 1:=by rw [IntKind.wrap_i64];omega
  try simp only [nA,nB,nC]
  go_simp
  have hS2:w8.cell? ⟨w4.heap.size,2,none⟩=some (.slice T1 t.path.length p1):=Rt8.out.cell 2
  refine hK.out _ _ hS2 (fun hS3=>?_)
  clear hK K hS1 hS2
  try simp only [nA,nB,nC,Act.put,nD,nE,nF]
  refine wpAnyT_tk (i:=4) (oi:=_) (v:=?tv4) rfl (Or.inl ⟨by rfl,?th4⟩) hS3 ?_
  case th4=>(intro x hSx;(try dsimp only at hSx);go_simp;(try with_reducible rfl))
  try simp only [nA,nB,nC,Act.put,nD,nE,nF]
  refine wpAnyT_step (i:=5) (by kernel_rfl) rfl (fun K hK=>?_)
  try simp only [nA,nB,nC]
  go_simp
  obtain⟨w9,e9,Rrow9,hz9,K9⟩:=boxed w8 3 #[.int .i64 (y - 1)]
  have Rr9:=LH (K9.out.row Rr8.out (by omega))
  have Rt9:=LH (K9.out.row Rt8.out (by omega))
  have Dt9:=LH (Dt8.out.keep fun b hb=>⟨hb,K9.out.block b (by have:=hb.1;have:=hb.2;omega) (by have:=hb.1;have:=hb.2;omega)⟩)
  have M9:=LH (M8.out.chg K9.out (by omega) (by omega))
  clear Rr8 Rt8 Dt8 M8
  have SL:=LH (show Sl w9 (fun b=>b<w9.heap.size/\(Value.slice T1 t.path.length p1).ownBlock≠some b/\AnyB b) 1 (some ⟨w8.heap.size,0,none⟩) 1 ([y - 1].map (D.num .i64)) from Sl.ofRow Rrow9.out (rdC_one1 (D.rd_num.2 ⟨rfl,int_wfS (by omega)⟩) rfl) ⟨by omega,fun e=>by have h3:=(HOW.out _ e).2;omega,trivial⟩ (by simp) (by unfold maxLen;omega))
  rw [<- e9]
  clear e9
  have hS4:w9.cell? ⟨w4.heap.size,2,none⟩=some (.slice T1 t.path.length p1):=Rt9.out.cell 2
  refine hK.out _ _ hS4 (fun hS5=>?_)
  clear hK K hS3 hS4
  try simp only [nA,nB,nC,Act.put,nD,nE,nF]
  refine wpAnyT_step (i:=6) (by kernel_rfl) rfl (fun K hK=>?_)
  refine step_append_X w9 rfl (.tmp 23) (.tmp 27) 28 rfl 3 (.int .i64 0) 1 8 Tryz.underlying28 (by kernel_rfl) rfl (by omega) 0 (.slice T1 t.path.length p1) t.path.length _ Dt9.out.1.1 (some ⟨w8.heap.size,0,none⟩) 1 1 _ rfl SL.out (Nat.zero_le _) (by have:=HTL.out;unfold maxLen;omega) (by have:=HTL.out;omega) rfl rfl ?_
  intro A8 c8 w10 hG hGr
  obtain⟨q8,hq8,hk8⟩:=hGr.bxe (B:=w.heap.size) (fun b hb=>by have:=(HOW.out b hb).1;omega) (by omega)
  have M10:=LH (M9.out.chg hk8 hq8 hgl)
  have hz10:=hGr.size
  have Rr10:=LH (hGr.row Rr9.out (fun e=>by have:=(HOW.out _ e).1;omega))
  have Rt10:=LH (hGr.row Rt9.out (fun e=>by have:=(HOW.out _ e).2;omega))
  obtain⟨np,hnp⟩:∃ x,x=t.path++[y - 1]:=⟨_,rfl⟩
  have hnl:np.length=t.path.length+1:=by rw [hnp];simp
  have KD:=LH (Dt9.out.2.keep (w':=w10) (S':=fun b=>w.heap.size<=b/\b<w10.heap.size/\b≠w.heap.size/\b≠w4.heap.size) fun b hb=>⟨⟨by have h1:=hb.1.1;omega,by have h2:=hb.1.2;omega,by have h1:=hb.1.1;omega,by have h2:=hb.1.2;omega⟩,hGr.grow.block b (by have h2:=hb.1.2;omega) fun e=>hb.2 e.symm⟩)
  have PD:=LH (show Sl w10 (fun b=>w.heap.size<=b/\b<w10.heap.size/\b≠w.heap.size/\b≠w4.heap.size) 1 A8 c8 (np.map (D.num .i64)) from by
    have hG2:Grx AnyB w10 0 3 1 (.slice A8 (t.path.length+1) c8) (t.path.length+1) (np.map (D.num .i64)):=by rw [hnp,List.map_append];exact hG
    have hlt:=hG2.own
    obtain⟨A9,c9,e9,h9⟩:=hG2.oslOwn
    obtain⟨rfl,rfl⟩:A8=A9/\c8=c9:=by simpa using e9
    refine h9.sl.keep fun b hb=>⟨?_,rfl⟩
    have hl2:=(hlt b hb).2
    rcases hGr.own with h1 | ⟨g1,h1,h2⟩
    · rw [h1] at hb
      have:=HOW.out b hb
      omega
    · rw [h1] at hb
      cases hb
      omega)
  rw [<- hnl]
  have HNL:=LH hnl
  clear hnl hnp hG hGr hk8 M9 Rr9 Rt9 Dt9 SL Rrow9
  have hct10:=fun i=>Rt10.out.cell i
  have hft10:=fun i=>Rt10.out.frozen i
  have hS6:w10.cell? ⟨w4.heap.size,2,none⟩=some (.slice T1 t.path.length p1):=Rt10.out.cell 2
  refine hK.out _ _ hS6 (fun hS7=>?_)
  clear hK K hS5 hS6
  try simp only [nA,nB,nC,Act.put,nD,nE,nF]
  refine wpAnyT_tk (i:=7) (oi:=_) (v:=?tv5) rfl (Or.inl ⟨by rfl,?th5⟩) hS7 ?_
  case th5=>(intro x hSx;(try dsimp only at hSx);go_simp;(try with_reducible rfl))
  try simp only [nA,nB,nC,Act.put,nD,nE,nF]
  refine wpAnyT_last (by kernel_rfl) (by kernel_rfl) rfl (fun K hK=>?_)
  try simp only [nA,nB,nC]
  go_simp
  refine hK.out _ _ ?_
  clear hK K
  try simp only [nA,nB,nC,Act.put,nD,nE,nF]
  clear hS7
  try rw [<- HNL.out]
  clear hct10 hft10
  obtain⟨w11,e11,RO11,hz11,K11⟩:=storedF Rt10.out 2 (.slice A8 np.length c8)
  have RN11:=LH (show Row w11 w4.heap.size 31 #[.int .i64 t.op,.int .i64 t.n,.slice A8 np.length c8,.string t.s,.slice T2 t.kids.length p2] from RO11.out)
  clear RO11
  have Rr11:=LH (K11.out.row Rr10.out (by omega))
  have M11:=LH (M10.out.chg K11.out (by omega) (by omega))
  clear Rr10 M10
  clear Rt10
  rw [<- e11]
  clear e11
  have hcr11:=fun i=>Rr11.out.cell i
  have hfr11:=fun i=>Rr11.out.frozen i
  have hct11:=fun i=>RN11.out.cell i
  go_wp2_with fail
  clear hcr11 hfr11 hct11
  obtain⟨w12,e12,RN12,hz12,K12⟩:=stored5 Rr11.out (.int .i64 t.op) (.int .i64 t.n) (.slice A8 np.length c8) (.string t.s) (.slice T2 t.kids.length p2)
  have M12:=LH (M11.out.chg K12.out (by omega) (by omega))
  clear RN11 M11
  clear Rr11
  rw [<- e12]
  clear e12
  have hcr12:=fun i=>RN12.out.cell i
  skip
  show BP _ _
  rw [HBP.out]
  refine bodyPost_ret (v:=.agg #[.int .i64 t.op,.int .i64 t.n,.slice A8 np.length c8,.string t.s,.slice T2 t.kids.length p2]) (by simp [results,Tryz.results36,go_sem,hcr12]) rfl ?_
  exact⟨.mk t.op t.n np t.s t.kids,A8,c8,T2,p2,rfl,tree_bulk HTB.out _ _ _ (Nat.le_add_right _ _) _ (Nat.le_of_eq HNL.out),⟨HWO.out,HWN.out,(PD.out.keep fun b hb=>⟨⟨by have h1:=hb.1;omega,by have h2:=hb.2;omega⟩,(K12.out.block b (by have h2:=hb.2;omega) (by have h2:=hb.2;omega)).trans (K11.out.block b (by have h2:=hb.2;omega) (by have h2:=hb.2;omega))⟩),HWS.out,(KD.out.keep fun b hb=>⟨⟨by have h1:=hb.1;omega,by have h2:=hb.2;omega⟩,(K12.out.block b (by have h2:=hb.2;omega) (by have h2:=hb.2;omega)).trans (K11.out.block b (by have h2:=hb.2;omega) (by have h2:=hb.2;omega))⟩)⟩,M12.out⟩
 by_cases x2:x=2
 ·
  go_wp2_with fail
  clear hcr6 hfr6 hct6 hft6
  obtain⟨w7,e7,Rrow7,hz7,K7⟩:=boxed w6 9 #[.string ⟨#[]⟩,.string ⟨#[81]⟩,.string ⟨#[83,111,109,101]⟩]
  have Rr7:=LH (K7.out.row Rr6.out (by omega))
  have Rt7:=LH (K7.out.row Rt6.out (by omega))
  have Dt7:=LH (Dt6.out.keep fun b hb=>⟨hb,K7.out.block b (by have:=hb.1;have:=hb.2;omega) (by have:=hb.1;have:=hb.2;omega)⟩)
  have M7:=LH (M6.out.chg K7.out (by omega) (by omega))
  clear Rr6 Rt6 Dt6 M6
  rw [<- e7]
  clear e7
  have hlr7:=Rr7.out.lt
  refine(drawPickD M7.out [⟨#[]⟩,⟨#[81]⟩,⟨#[83,111,109,101]⟩] w6.heap.size (by omega) 9 Rrow7.out (by simp) (by simp) (fun s=>s.size<=8) (by intro s hs;simp at hs;rcases hs with rfl | rfl | rfl<;>decide)).mono ?_
  clear hlr7
  rintro e w8 ⟨y,rfl,hy,hm8⟩
  have hz8:=hm8.size
  have K8:=LH hm8.bx
  have Rr8:=LH (K8.out.row Rr7.out (by omega))
  have Rt8:=LH (K8.out.row Rt7.out (by omega))
  have Dt8:=LH (Dt7.out.keep fun b hb=>⟨hb,K8.out.block b (by have:=hb.1;have:=hb.2;omega) (by have:=hb.1;have:=hb.2;omega)⟩)
  have M8:=LH (M7.out.trans hm8)
  clear Rr7 Rt7 Rrow7 Dt7 M7
  clear hm8
  have hcr8:=fun i=>Rr8.out.cell i
  have hfr8:=fun i=>Rr8.out.frozen i
  have hct8:=fun i=>Rt8.out.cell i
  have hft8:=fun i=>Rt8.out.frozen i
  go_wp2_with fail
  clear hcr8 hfr8 hct8 hft8
  obtain⟨w9,e9,RO9,hz9,K9⟩:=storedF Rt8.out 3 (.string y)
  clear RO9
  have Rr9:=LH (K9.out.row Rr8.out (by omega))
  have Dt9:=LH (Dt8.out.keep fun b hb=>⟨hb,K9.out.block b (by have:=hb.1;have:=hb.2;omega) (by have:=hb.1;have:=hb.2;omega)⟩)
  have M9:=LH (M8.out.chg K9.out (by omega) (by omega))
  clear Rr8 Dt8 M8
  clear Rt8
  obtain⟨w10,e10,RN10,hz10,K10⟩:=stored5 Rr9.out (.int .i64 t.op) (.int .i64 t.n) (.slice T1 t.path.length p1) (.string y) (.slice T2 t.kids.length p2)
  have Dt10:=LH (Dt9.out.keep fun b hb=>⟨hb,K10.out.block b (by have:=hb.1;have:=hb.2;omega) (by have:=hb.1;have:=hb.2;omega)⟩)
  have M10:=LH (M9.out.chg K10.out (by omega) (by omega))
  clear Dt9 M9
  clear Rr9
  rw [<- e9,<- e10]
  clear e9 e10
  have hcr10:=fun i=>RN10.out.cell i
  show BP _ _
  rw [HBP.out]
  refine bodyPost_ret (v:=.agg #[.int .i64 t.op,.int .i64 t.n,.slice T1 t.path.length p1,.string y,.slice T2 t.kids.length p2]) (by simp [results,Tryz.results36,go_sem,hcr10]) rfl ?_
  exact⟨.mk t.op t.n t.path y t.kids,T1,p1,T2,p2,rfl,tree_bulk HTB.out _ _ _ (by omega) _ (Nat.le_succ _),Dt10.out.at (fun b hb=>⟨⟨by have h1:=hb.1;have h2:=hb.2;omega,by have h2:=hb.2;omega⟩,rfl⟩) _ _ _ HWO.out HWN.out (short_le hy),M10.out⟩
 by_cases x3:x=3
 ·
  go_wp2_with fail
  refine(drawAnyD M6.out).mono ?_
  clear hcr6 hfr6 hct6 hft6
  rintro e w7 ⟨y,rfl,hy,hm7⟩
  have hz7:=hm7.size
  have K7:=LH hm7.bx
  have Rr7:=LH (K7.out.row Rr6.out (by omega))
  have Rt7:=LH (K7.out.row Rt6.out (by omega))
  have Dt7:=LH (Dt6.out.keep fun b hb=>⟨hb,K7.out.block b (by have:=hb.1;have:=hb.2;omega) (by have:=hb.1;have:=hb.2;omega)⟩)
  have M7:=LH (M6.out.trans hm7)
  clear Rr6 Rt6 Dt6 M6
  clear hm7
  have hcr7:=fun i=>Rr7.out.cell i
  have hfr7:=fun i=>Rr7.out.frozen i
  have hct7:=fun i=>Rt7.out.cell i
  have hft7:=fun i=>Rt7.out.frozen i
  go_wp2_with fail
  clear hcr7 hfr7 hct7 hft7
  obtain⟨w8,e8,RO8,hz8,K8⟩:=storedF Rt7.out 1 (.int .i64 y)
  have RN8:=LH (show Row w8 w4.heap.size 31 #[.int .i64 t.op,.int .i64 y,.slice T1 t.path.length p1,.string t.s,.slice T2 t.kids.length p2] from RO8.out)
  clear RO8
  have Rr8:=LH (K8.out.row Rr7.out (by omega))
  have Dt8:=LH (Dt7.out.keep fun b hb=>⟨hb,K8.out.block b (by have:=hb.1;have:=hb.2;omega) (by have:=hb.1;have:=hb.2;omega)⟩)
  have M8:=LH (M7.out.chg K8.out (by omega) (by omega))
  clear Rr7 Dt7 M7
  clear Rt7
  obtain⟨w9,e9,RN9,hz9,K9⟩:=stored5 Rr8.out (.int .i64 t.op) (.int .i64 y) (.slice T1 t.path.length p1) (.string t.s) (.slice T2 t.kids.length p2)
  have Rt9:=LH (K9.out.row RN8.out (by omega))
  have Dt9:=LH (Dt8.out.keep fun b hb=>⟨hb,K9.out.block b (by have:=hb.1;have:=hb.2;omega) (by have:=hb.1;have:=hb.2;omega)⟩)
  have M9:=LH (M8.out.chg K9.out (by omega) (by omega))
  clear RN8 Dt8 M8
  clear Rr8
  rw [<- e8,<- e9]
  clear e8 e9
  have hlt9:=Rt9.out.lt
  have hcr9:=fun i=>RN9.out.cell i
  show BP _ _
  rw [HBP.out]
  refine bodyPost_ret (v:=.agg #[.int .i64 t.op,.int .i64 y,.slice T1 t.path.length p1,.string t.s,.slice T2 t.kids.length p2]) (by simp [results,Tryz.results36,go_sem,hcr9]) rfl ?_
  exact⟨.mk t.op y t.path t.s t.kids,T1,p1,T2,p2,rfl,tree_bulk HTB.out _ _ _ (Nat.le_add_right _ _) _ (Nat.le_succ _),Dt9.out.at (fun b hb=>⟨⟨by have h1:=hb.1;have h2:=hb.2;omega,by have h2:=hb.2;omega⟩,rfl⟩) _ _ _ HWO.out (wf64R hy) HWS.out,M9.out⟩
 by_cases x4:x=4
 ·
  go_wp2_with fail
  clear hcr6 hfr6 hct6 hft6
  obtain⟨w7,e7,RO7,hz7,K7⟩:=storedF Rt6.out 4 (.slice none 0 0)
  clear RO7
  have Rr7:=LH (K7.out.row Rr6.out (by omega))
  have Dt7:=LH (Dt6.out.keep fun b hb=>⟨hb,K7.out.block b (by have:=hb.1;have:=hb.2;omega) (by have:=hb.1;have:=hb.2;omega)⟩)
  have M7:=LH (M6.out.chg K7.out (by omega) (by omega))
  clear Rr6 Dt6 M6
  clear Rt6
  obtain⟨w8,e8,RN8,hz8,K8⟩:=stored5 Rr7.out (.int .i64 t.op) (.int .i64 t.n) (.slice T1 t.path.length p1) (.string t.s) (.slice none 0 0)
  have Dt8:=LH (Dt7.out.keep fun b hb=>⟨hb,K8.out.block b (by have:=hb.1;have:=hb.2;omega) (by have:=hb.1;have:=hb.2;omega)⟩)
  have M8:=LH (M7.out.chg K8.out (by omega) (by omega))
  clear Dt7 M7
  clear Rr7
  rw [<- e7,<- e8]
  clear e7 e8
  have hcr8:=fun i=>RN8.out.cell i
  show BP _ _
  rw [HBP.out]
  refine bodyPost_ret (v:=.agg #[.int .i64 t.op,.int .i64 t.n,.slice T1 t.path.length p1,.string t.s,.slice none 0 0]) (by simp [results,Tryz.results36,go_sem,hcr8]) rfl ?_
  exact⟨.mk t.op t.n t.path t.s [],T1,p1,none,0,rfl,tree_bulk0 HTB.out _ _,⟨HWO.out,HWN.out,Dt8.out.1.osl.sl.keep (fun b hb=>⟨⟨by have h1:=hb.1;have h2:=hb.2;omega,by have h2:=hb.2;omega⟩,rfl⟩),HWS.out,Sl.nil (by unfold maxLen;omega)⟩,M8.out⟩
 have y0:(x ==0)=false:=beq_eq_false_iff_ne.2 (by omega)
 have y1:(x ==1)=false:=beq_eq_false_iff_ne.2 (by omega)
 have y2:(x ==2)=false:=beq_eq_false_iff_ne.2 (by omega)
 have y3:(x ==3)=false:=beq_eq_false_iff_ne.2 (by omega)
 have y4:(x ==4)=false:=beq_eq_false_iff_ne.2 (by omega)
 go_wp2_with fail
 clear hcr6 hfr6 hct6 hft6
 obtain⟨w7,e7,RN7,hz7,K7⟩:=stored5 Rr6.out (.int .i64 t.op) (.int .i64 t.n) (.slice T1 t.path.length p1) (.string t.s) (.slice T2 t.kids.length p2)
 have Dt7:=LH (Dt6.out.keep fun b hb=>⟨hb,K7.out.block b (by have:=hb.1;have:=hb.2;omega) (by have:=hb.1;have:=hb.2;omega)⟩)
 have M7:=LH (M6.out.chg K7.out (by omega) (by omega))
 clear Rt6 Dt6 M6
 clear Rr6
 rw [<- e7]
 clear e7
 have hcr7:=fun i=>RN7.out.cell i
 show BP _ _
 rw [HBP.out]
 refine bodyPost_ret (v:=.agg #[.int .i64 t.op,.int .i64 t.n,.slice T1 t.path.length p1,.string t.s,.slice T2 t.kids.length p2]) (by simp [results,Tryz.results36,go_sem,hcr7]) rfl ?_
 exact⟨.mk t.op t.n t.path t.s t.kids,T1,p1,T2,p2,rfl,tree_bulk HTB.out _ _ _ (Nat.le_add_right _ _) _ (Nat.le_succ _),Dt7.out.at (fun b hb=>⟨⟨by have h1:=hb.1;have h2:=hb.2;omega,by have h2:=hb.2;omega⟩,rfl⟩) _ _ _ HWO.out HWN.out HWS.out,M7.out⟩
end Go.Proofs.YtamfolaicncblaaGreat
