/- Texts of the claim LTreesRight in one: TrK TiL Trees. Conditions: none but bounds on sizes. -/
import Derived.Test.YtamfolaicncblaaGreatZLTreesRight25
import Derived.Test.YtamfolaicncblaaGreatZLTreesRight23
import Derived.Test.YtamfolaicncblaaGreatZLTreesRight24
import Derived.Test.YtamfolaicncblaaGreatZLTreesRight2
namespace Go.Proofs.YtamfolaicncblaaGreat
set_option maxRecDepth 20000
set_option linter.unusedVariables false
set_option linter.unusedSimpArgs false
open Go.RowKit
set_option maxHeartbeats 2000000
def rowA (i:Nat) (p:GNode):GTrow:=⟨(i:Int),bareA [⟨[],p⟩]⟩
def rowsA:Nat->List GNode->List GTrow
 | _,[]=>[]
 | i,p::r=>rowA i p::rowsA (i+1) r
theorem rowsA_len:∀ (i:Nat) (l:List GNode),(rowsA i l).length=l.length
 | _,[]=>rfl
 | i,p::r=>by simp only [rowsA,List.length_cons,rowsA_len (i+1) r]
theorem rowsA_snoc (x:GNode):∀ (i:Nat) (l:List GNode),rowsA i (l++[x])=rowsA i l++[rowA (i+l.length) x]
 | i,[]=>rfl
 | i,p::r=>by
  simp only [List.cons_append,rowsA,rowsA_snoc x (i+1) r,List.length_cons]
  rw [show i+1+r.length=i+(r.length+1) by omega]
theorem rowsA_take (l:List GNode) (j:Nat) (h:j<l.length):rowsA 0 (l.take (j+1))=rowsA 0 (l.take j)++[rowA j l[j]]:=by
 rw [take_snoc' l j h,rowsA_snoc,List.length_take,Nat.min_eq_left (by omega),Nat.zero_add]
theorem rowsA_ok:∀ (i:Nat) (l:List GNode),(∀ p∈l,p.bulk+1<=1048576)->RowsOk 0 (rowsA i l)
 | _,[],_=>fun r hr=>by simp [rowsA] at hr
 | i,p::rest,h=>fun r hr=>by
  simp only [rowsA] at hr
  rcases List.mem_cons.1 hr with rfl | hr
  ·
   have hp:=h p (List.mem_cons_self ..)
   refine⟨?_,fun x hx=>?_⟩
   · have h1:=asksM_bare [⟨[],p⟩]
     have h2:asksM [⟨[],p⟩]=1+p.bulk:=by simp [asksM_cons,asksM_nil]
     show asksM (bareA [⟨[],p⟩])<=1048576
     omega
   · have hx2:x∈bareA [⟨[],p⟩]:=hx
     unfold bareA at hx2
     obtain⟨h1,h2⟩:=List.mem_filter.1 hx2
     obtain rfl:=List.mem_singleton.1 h1
     exact⟨by simpa using h2,by simp⟩
  · exact rowsA_ok (i+1) rest (fun q hq=>h q (List.mem_cons_of_mem _ hq)) r hr
def treesV (ds:List GData) (l:List GNode):GTree × Bool:=
 if l.all (conOk ds)=true then(if(growV 301 0 (rowsA 0 l)).2<=300 then((growV 301 0 (rowsA 0 l)).1,true) else(zeroT,false)) else(zeroT,false)
def ToTreeB (r:GTree × Bool) (w:World) (e:Ending) (w':World):Prop:=∃ A1 c1 A2 c2,e= .returned (.tuple #[.agg #[.int .i64 r.1.op,.int .i64 r.1.n,.slice A1 r.1.path.length c1,.string r.1.s,.slice A2 r.1.kids.length c2],.bool r.2])/\GTree.Ow w' (Btw w.heap.size w'.heap.size) A1 c1 A2 c2 r.1/\Below w.heap.size w w'
theorem treeBad {r:GTree × Bool} {w w':World} (hr:r=(zeroT,false)) (hb:Below w.heap.size w w'):ToTreeB r w (.returned (.tuple #[.agg #[.int .i64 0,.int .i64 0,.slice none 0 0,.string ⟨#[]⟩,.slice none 0 0],.bool false])) w':=by
 subst hr
 exact⟨none,0,none,0,rfl,owLeaf (by decide) (by decide),hb⟩
def ToTreeG (r:GTree × Bool) (w:World) (e:Ending) (w':World):Prop:=∃ A1 c1 A2 c2,e= .returned (.tuple #[.agg #[.int .i64 r.1.op,.int .i64 r.1.n,.slice A1 r.1.path.length c1,.string r.1.s,.slice A2 r.1.kids.length c2],.bool r.2])/\GTree.Ow w' (Btw w.heap.size w'.heap.size) A1 c1 A2 c2 r.1/\TGx w' (Btw w.heap.size w'.heap.size) A1 c1 A2 c2 r.1/\Below w.heap.size w w'
theorem treeBadG {r:GTree × Bool} {w w':World} (hr:r=(zeroT,false)) (hb:Below w.heap.size w w'):ToTreeG r w (.returned (.tuple #[.agg #[.int .i64 0,.int .i64 0,.slice none 0 0,.string ⟨#[]⟩,.slice none 0 0],.bool false])) w':=by
 subst hr
 exact⟨none,0,none,0,rfl,owLeaf (by decide) (by decide),TGx.leaf,hb⟩
theorem specTreesG (ds:List GData) (alts:List GNode) (A:Option Addr) (c:Nat) (B:Option Addr) (d:Nat) (w:World) (hl:alts.length<=1048576) (hbk:∀ p∈alts.map patOf,p.bulk+1<=1048576) (hs:Sl w (Lt w.heap.size) 3 A c (ds.map GData.toD)) (hs2:Sl w (Lt w.heap.size) 5 B d (alts.map GNode.toD)):
 Calls Tryz.prog 7 #[.slice A ds.length c,.slice B alts.length d] w (ToTreeG (treesV ds (alts.map patOf)) w):=by
 have HD:=LH hs
 obtain⟨w0,e0⟩:∃ w0,w0=(w.alloc (.cells #[.int .i64 0,.int .i64 0,.slice none 0 0,.string ⟨#[]⟩,.slice none 0 0] 31)).alloc (.cells #[] 80):=⟨_,rfl⟩
 have E0:=LH (show Below w.heap.size w w0 by rw [e0];exact((Below.refl _ _).alloc (Nat.le_refl _) _).alloc (by simp) _)
 have RZ0:=LH (show Row w0 w.heap.size 31 #[.int .i64 0,.int .i64 0,.slice none 0 0,.string ⟨#[]⟩,.slice none 0 0] by rw [e0];exact(Row.new' _ _ _ rfl).alloc _)
 have RR0:=LH (show Row w0 (w.heap.size+1) 80 #[] by rw [e0];exact Row.new' _ _ _ (by simp))
 have hz0:w.heap.size+2=w0.heap.size:=by rw [e0];simp
 have hrr:=specRowsS (fun b=>b<w.heap.size) alts B d w0 hl (fun b hb=>by omega) (hs2.keep fun q hq=>⟨hq,E0.out.block q hq⟩)
 obtain⟨l,hll⟩:∃ l,alts.map patOf=l:=⟨_,rfl⟩
 have hln:alts.length=l.length:=by rw [<- hll];simp
 rw [show rowsOf patOf alts=l.map (fun p=>[p]) by rw [<- hll];unfold rowsOf;simp] at hrr
 rw [hll] at hbk ⊢
 have HRR:=LH hrr
 have hl2:l.length<=1048576:=by omega
 have HOKR:=LH (rowsA_ok 0 l hbk)
 clear hs hs2 hrr hbk hll hln
 go_enter Tryz.func7,Tryz.ntmps7
 go_wp2_with fail
 rw [<- e0]
 clear e0
 refine HRR.out.mono ?_
 rintro e w1 ⟨P,cp,rfl,hsp,hb1⟩
 have HP:=LH hsp
 have hz1:=hb1.size
 have G1:=LH (show Grx AnyB w1 (w.heap.size+1) 80 2 (.slice (some ⟨w.heap.size+1,0,none⟩) 0 0) 0 [] from Grx.made (RR0.out.below hb1 RR0.out.lt) (Nat.le_refl _))
 have RZ1:=LH (RZ0.out.below hb1 RZ0.out.lt)
 have BW1:=LH (E0.out.trans (hb1.mono E0.out.size))
 have HO1:=LH (fun g (hg:(Value.slice (some ⟨w.heap.size+1,0,none⟩) 0 0).ownBlock=some g)=>show g=w.heap.size+1\/w1.heap.size<=g from .inl (by simpa [Value.ownBlock] using hg.symm))
 clear hsp hb1 HRR RR0 RZ0
 simp only [List.length_map]
 go_wp2_with fail
 go_loopw [6,8] (fun v i wr=>∃ (j:Nat) (A':Option Addr) (c':Nat),j<=l.length/\i= .int .i64 j/\v= .slice A' j c'/\Hid (Grx AnyB wr (w.heap.size+1) 80 2 (.slice A' j c') j ((rowsA 0 (l.take j)).map GTrow.toD))/\Hid (conOkL ds (l.take j)=true)/\Hid (∀ g,(Value.slice A' j c').ownBlock=some g->g=w.heap.size+1\/w1.heap.size<=g)/\Hid (Bx (w.heap.size+1) w1 wr)) (fun _ i _=>l.length - (intOf i).toNat)
 case atStart=>exact⟨0,_,_,by omega,by go_num,rfl,G1,LH rfl,HO1,LH (Bx.refl _ _)⟩
 case round=>
  clear G1 HO1
  obtain⟨j,A',c',hj,rfl,rfl,HG,HL,HO,HX⟩:=hrel
  have hsz:=HX.out.size
  have BW:=LH (BW1.out.trans (HX.out.below (B:=w.heap.size) (by omega) (by omega)))
  have RZ:=LH (HX.out.row RZ1.out (by omega))
  by_cases hlt:j<l.length
  ·
   obtain⟨b,off,A2,c2,rfl,hSb,g0,hrow⟩:=rowD_elem (HP.out.keep (w':=wr) (S':=fun q=>q<w1.heap.size/\q≠w.heap.size+1) fun q hq=>⟨⟨hq.2,by rcases hq.1 with h | h<;>omega⟩,HX.out.block q hq.2 (by rcases hq.1 with h | h<;>omega)⟩) j (by simpa using hlt)
   simp only [List.getElem_map,List.length_cons,List.length_nil,Nat.zero_add] at g0 hrow
   obtain⟨b3,off3,A3,c3,rfl,hSb3,q0,q1,q2,q3,q4,hat⟩:=GNode.elem (l:=[l[j]]) hrow 0 (by simp)
   simp only [Nat.zero_mul,Nat.add_zero,List.getElem_cons_zero] at q0 q1 q2 q3 q4 hat
   have hbl:=Nat.lt_of_lt_of_le hSb.1 hsz
   have hbl3:=Nat.lt_of_lt_of_le hSb3.1 hsz
   have HT:=LH (rowsA_take l j hlt)
   have HTC:=LH (conOkL_take (ds:=ds) hlt)
   have HM:=LH (List.getElem_mem hlt)
   obtain⟨p,hp⟩:∃ p,l[j]=p:=⟨_,rfl⟩
   rw [hp] at q0 q1 q2 q3 q4 hat HT HTC HM
   have HAT:=LH hat
   have HC:=LH (specCons ds A c (p.bulk+1) p A3 c3 wr (by omega) (HD.out.below BW.out BW.out.size) (hat.keep fun q hq=>⟨Nat.lt_of_lt_of_le hq.1 hsz,rfl⟩))
   have HOW:=LH (fun g (hg:(Value.slice A' j c').ownBlock=some g)=>HG.out.own g hg)
   clear hat hrow hp
   go_wp2_with fail
   refine HC.out.mono ?_
   rintro e w2 ⟨rfl,hb2⟩
   have E2:=LH hb2
   have hz2:=hb2.size
   have m:=(E2.out.cell (p:=⟨b,off+j,none⟩) hbl).trans g0
   have m0:=(E2.out.cell (p:=⟨b3,off3,none⟩) hbl3).trans q0
   have m1:=(E2.out.cell (p:=⟨b3,off3+1,none⟩) hbl3).trans q1
   have m2:=(E2.out.cell (p:=⟨b3,off3+2,none⟩) hbl3).trans q2
   have m3:=(E2.out.cell (p:=⟨b3,off3+3,none⟩) hbl3).trans q3
   have m4:=(E2.out.cell (p:=⟨b3,off3+4,none⟩) hbl3).trans q4
   clear hb2 g0 q0 q1 q2 q3 q4 HC
   cases hc:conOk ds p
   ·
    have HV:=LH (show treesV ds l=(zeroT,false) by
      unfold treesV
      rw [if_neg]
      intro h
      rw [List.all_eq_true] at h
      rw [h p HM.out] at hc
      cases hc)
    have RZ2:=LH (RZ.out.below E2.out RZ.out.lt)
    have hcz:=fun i=>RZ2.out.cell i
    have hfz:=fun i=>RZ2.out.frozen i
    have BF:=LH (BW.out.trans (E2.out.mono BW.out.size))
    clear hc m m0 m1 m2 m3 m4
    go_wp2_with fail
    obtain⟨wf,ef⟩:∃ wf,wf=((((w2.setCell ⟨w.heap.size,0,none⟩ (.int .i64 0)).setCell ⟨w.heap.size,1,none⟩ (.int .i64 0)).setCell ⟨w.heap.size,2,none⟩ (.slice none 0 0)).setCell ⟨w.heap.size,3,none⟩ (.string ⟨#[]⟩)).setCell ⟨w.heap.size,4,none⟩ (.slice none 0 0):=⟨_,rfl⟩
    rw [<- ef]
    have RF:=LH (show Row wf w.heap.size 31 #[.int .i64 0,.int .i64 0,.slice none 0 0,.string ⟨#[]⟩,.slice none 0 0] by rw [ef];exact((((RZ2.out.set 0 _).set 1 _).set 2 _).set 3 _).set 4 _)
    have BF2:=LH (show Below w.heap.size w wf by rw [ef];exact((((BF.out.setCell (p:=⟨w.heap.size,0,none⟩) (Nat.le_refl _) _).setCell (p:=⟨w.heap.size,1,none⟩) (Nat.le_refl _) _).setCell (p:=⟨w.heap.size,2,none⟩) (Nat.le_refl _) _).setCell (p:=⟨w.heap.size,3,none⟩) (Nat.le_refl _) _).setCell (p:=⟨w.heap.size,4,none⟩) (Nat.le_refl _) _)
    have hcf:=fun i=>RF.out.cell i
    clear hcz hfz ef
    exact bodyPost_ret (v:=.tuple #[.agg #[.int .i64 0,.int .i64 0,.slice none 0 0,.string ⟨#[]⟩,.slice none 0 0],.bool false]) (by simp [results,Tryz.results7,go_sem,hcf]) rfl (treeBadG HV.out BF2.out)
   ·
    have HL2:=LH (show conOkL ds (l.take (j+1))=true by rw [HTC.out,HL.out,hc];rfl)
    obtain⟨w3,e3⟩:∃ w3,w3=w2.alloc (.cells #[.slice none 0 0,.int .i64 p.op,.int .i64 p.n,.string p.s,.string p.t,.slice A3 p.kids.length c3] 83):=⟨_,rfl⟩
    have E3:=LH (show Below w2.heap.size w2 w3 by rw [e3];exact(Below.refl _ _).alloc (Nat.le_refl _) _)
    have hz3:w2.heap.size<w3.heap.size:=by rw [e3];simp
    have T3:=LH (show Sl w3 (fun q=>(Value.slice A' j c').ownBlock≠some q/\q<w3.heap.size) 6 (some ⟨w2.heap.size,0,none⟩) 1 ([(⟨[],p⟩:GAsk)].map GAsk.toD) from
      slOne (T:=83) (cs:=[.slice none 0 0,.int .i64 p.op,.int .i64 p.n,.string p.s,.string p.t,.slice A3 p.kids.length c3]) (by rw [e3];exact Row.new _ _ _) (GAsk.rd_mk (t:=⟨[],p⟩) (A1:=none) (c1:=0) ⟨Sl.nil (Nat.zero_le _),HAT.out.keep fun q hq=>⟨⟨fun e=>by have h1:=HO.out _ e;have h3:=hq.2;omega,by have:=hq.1;omega⟩,(E3.out.block q (by have:=hq.1;omega)).trans (E2.out.block q (by have:=hq.1;omega))⟩⟩) rfl ⟨fun e=>by have:=(HOW.out _ e).2;omega,hz3⟩)
    obtain⟨L,hL⟩:∃ L,bareA [⟨[],p⟩]=L:=⟨_,rfl⟩
    have hbb:=specBareS (fun q=>(Value.slice A' j c').ownBlock≠some q/\q<w3.heap.size) ⟨(j:Int),[⟨[],p⟩]⟩ (some ⟨w2.heap.size,0,none⟩) 1 w3 (by simp) (fun q hq=>hq.2) T3.out
    have HBB:=LH (show Calls Tryz.prog 34 #[.agg #[.int .i64 (j:Int),.slice (some ⟨w2.heap.size,0,none⟩) 1 1]] w3 (ToRowS (fun q=>(Value.slice A' j c').ownBlock≠some q/\q<w3.heap.size) ⟨(j:Int),L⟩ w3) by rw [<- hL];exact hbb)
    have HLR:=LH (show rowA j p=⟨(j:Int),L⟩ by unfold rowA;rw [hL])
    clear hc hL hbb
    go_wp2_with fail
    rw [<- e3]
    clear e3
    refine HBB.out.mono ?_
    rintro e w4 ⟨A5,c5,rfl,hs5,hb4⟩
    have E4:=LH ((E2.out.trans (E3.out.mono hz2)).trans (hb4.mono (by omega)))
    have hz4:=hb4.size
    obtain⟨w5,e5⟩:∃ w5,w5=w4.alloc (.cells #[.int .i64 (j:Int),.slice A5 L.length c5] 80):=⟨_,rfl⟩
    have E5:=LH (show Below wr.heap.size wr w5 by rw [e5];exact E4.out.alloc E4.out.size _)
    have hz5:w4.heap.size<w5.heap.size:=by rw [e5];simp
    have G5:=LH (HG.out.below E5.out)
    have hj3:(Lit.int .i64 (j:Int)).wf=true:=wf_i64 (by omega) (by omega)
    have T5:=LH (show Sl w5 (fun q=>q<w5.heap.size/\(Value.slice A' j c').ownBlock≠some q/\AnyB q) 2 (some ⟨w4.heap.size,0,none⟩) 1 [(⟨(j:Int),L⟩:GTrow).toD] from
      slOne (T:=80) (cs:=[.int .i64 (j:Int),.slice A5 L.length c5]) (by rw [e5];exact Row.new _ _ _) (GTrow.rd_mk (t:=⟨(j:Int),L⟩) ⟨hj3,hs5.keep fun q hq=>⟨⟨by have:=hq.2;omega,fun e=>by rcases hq.1 with h | h;exact h.1 e;have:=(HOW.out _ e).2;omega,trivial⟩,by rw [e5];exact Below.heap_alloc _ _ _ hq.2⟩⟩) rfl ⟨hz5,fun e=>by have:=(HOW.out _ e).2;omega,trivial⟩)
    have hs1:w.heap.size+1<=w5.heap.size:=by omega
    clear hs5 hb4 m m0 m1 m2 m3 m4 hj3
    go_wp2_with (first
      | (at_builtin
         rw [<- e5]
         refine wpList_append_X w5 rfl (.tmp 30) (.tmp 42) 75 rfl 80 zTrow 2 32 Tryz.underlying75 (by kernel_rfl) rfl (by omega) (w.heap.size+1) (.slice A' j c') j _ G5.out (some ⟨w4.heap.size,0,none⟩) 1 1 _ rfl T5.out hs1 (by unfold maxLen;omega) (by omega) rfl rfl ?_
         intro A6 c6 w6 G6 hGr6
         have G6h:=LH G6
         have HX6:=LH (HX.out.trans ((Bx.of_below E5.out (Nat.le_refl _)).trans (Bx.refl _ _)))
         have HX7:=LH (show Bx (w.heap.size+1) w1 w6 from⟨hGr6.grow.os.trans HX6.out.os,hGr6.grow.tape.trans HX6.out.tape,hGr6.grow.output.trans HX6.out.output,Nat.le_trans HX6.out.size hGr6.size,fun q hq hq2=>(hGr6.grow.block q (Nat.lt_of_lt_of_le hq HX6.out.size) fun e=>by have:=HO.out q e.symm;omega).trans (HX6.out.block q hq hq2)⟩)
         have HO6:=LH (fun g (hg:(Value.slice A6 (j+1) c6).ownBlock=some g)=>show g=w.heap.size+1\/w1.heap.size<=g from by
           rcases hGr6.own with h1 | ⟨g2,h1,h2⟩
           · exact HO.out g (h1.symm.trans hg)
           · rw [h1] at hg;cases hg;exact .inr (by omega))
         clear G6 hGr6))
    go_roundw
    case rel=>exact⟨j+1,A6,c6,by omega,by go_num,rfl,LH (by rw [HT.out,HLR.out,List.map_append];exact G6h.out),HL2,HO6,HX7⟩
    case measure=>simp [intOf];omega
  ·
   obtain rfl:j=l.length:=by omega
   have hG:=HG.out
   rw [List.take_length] at hG
   have hL:=HL.out
   rw [List.take_length,conOkL_all] at hL
   obtain⟨A5,c5,e5,hs5⟩:=hG.slX
   obtain⟨rfl,rfl⟩:A'=A5/\c'=c5:=by simpa using e5
   obtain⟨wg,eg⟩:∃ wg,wg=wr.alloc (.cells #[.slice A ds.length c,.int .i64 0,.bool true] 86):=⟨_,rfl⟩
   have EG:=LH (show Below wr.heap.size wr wg by rw [eg];exact(Below.refl _ _).alloc (Nat.le_refl _) _)
   have hzg:wr.heap.size+1=wg.heap.size:=by rw [eg];simp
   have hmm:=specMade wr.heap.size (.slice A ds.length c) 301 (by omega) 0 (rowsA 0 l) A' c' wg (by omega) (by omega) HOKR.out (by rw [rowsA_len];exact hl2) (by rw [eg];exact Row.new _ _ _) (hs5.keep fun q hq=>⟨⟨by have h1:q<wr.heap.size:=hq;omega,by have h1:q<wr.heap.size:=hq;omega⟩,EG.out.block q hq⟩)
   rw [rowsA_len] at hmm
   obtain⟨p,hp⟩:∃ p,growV 301 0 (rowsA 0 l)=p:=⟨_,rfl⟩
   rw [hp] at hmm
   have HMM:=LH hmm
   have HVT:=LH (show treesV ds l=(if p.2<=300 then(p.1,true) else(zeroT,false)) by unfold treesV;rw [if_pos hL,hp])
   clear hmm hs5 hG hL e5 hp
   go_wp2_with fail
   rw [<- eg]
   clear eg
   refine HMM.out.mono ?_
   rintro e w6 ⟨P1,pc1,P2,pc2,rfl,ho6,hp6,hg6,hx6⟩
   have O6:=LH ho6
   have Q6:=LH hp6
   have hz6:=hx6.size
   have RZg:=LH (RZ.out.below EG.out RZ.out.lt)
   have RZ6:=LH (hx6.row RZg.out (by have:=RZ.out.lt;omega))
   have BG:=LH (BW.out.trans (EG.out.mono BW.out.size))
   have hwz:=BW.out.size
   have B6:=LH (BG.out.trans (hx6.below (B:=w.heap.size) (by omega) (by omega)))
   obtain⟨w7,e7⟩:∃ w7,w7=w6.alloc (.cells #[.int .i64 p.1.op,.int .i64 p.1.n,.slice P1 p.1.path.length pc1,.string p.1.s,.slice P2 p.1.kids.length pc2] 31):=⟨_,rfl⟩
   have E7:=LH (show Below w6.heap.size w6 w7 by rw [e7];exact(Below.refl _ _).alloc (Nat.le_refl _) _)
   have hz7:w6.heap.size<w7.heap.size:=by rw [e7];simp
   have RP7:=LH (show Row w7 w6.heap.size 31 #[.int .i64 p.1.op,.int .i64 p.1.n,.slice P1 p.1.path.length pc1,.string p.1.s,.slice P2 p.1.kids.length pc2] by rw [e7];exact Row.new _ _ _)
   have RZ7:=LH (RZ6.out.below E7.out RZ6.out.lt)
   have B7:=LH (B6.out.trans (E7.out.mono (by omega)))
   have RG7:=LH (hg6.below E7.out hg6.lt)
   have O7:=LH (O6.out.keep (w':=w7) (S':=fun q=>(w.heap.size<q/\q<w7.heap.size)) fun q hq=>⟨⟨by have:=hq.1;omega,by have:=hq.2;omega⟩,E7.out.block q hq.2⟩)
   have Q7:=LH (Q6.out.keep (w':=w7) (S':=fun q=>(w.heap.size<q/\q<w7.heap.size)) fun q hq=>⟨⟨by have:=hq.1;omega,by have:=hq.2;omega⟩,E7.out.block q hq.2⟩)
   clear ho6 hg6 hx6 hp6 HMM
   go_upto_region 11 with (fail)
   rw [<- e7]
   clear e7
   have hcz:=fun i=>RZ7.out.cell i
   have hfz:=fun i=>RZ7.out.frozen i
   have hcp:=fun i=>RP7.out.cell i
   by_cases hok:p.2<=300
   ·
    have HV:=LH (show treesV ds l=(p.1,true) by rw [HVT.out,if_pos hok])
    have RG8:=LH (show Row w7 wr.heap.size 86 #[.slice A ds.length c,.int .i64 p.2,.bool true] by have h:=RG7.out;rw [decide_eq_true hok] at h;exact h)
    have hcg:=fun i=>RG8.out.cell i
    clear hok
    go_wp2_with fail
    obtain⟨wf,ef⟩:∃ wf,wf=(((((w7).setCell ⟨w.heap.size,0,none⟩ (.int .i64 p.1.op)).setCell ⟨w.heap.size,1,none⟩ (.int .i64 p.1.n)).setCell ⟨w.heap.size,2,none⟩ (.slice P1 p.1.path.length pc1)).setCell ⟨w.heap.size,3,none⟩ (.string p.1.s)).setCell ⟨w.heap.size,4,none⟩ (.slice P2 p.1.kids.length pc2):=⟨_,rfl⟩
    rw [<- ef]
    have RF:=LH (show Row wf w.heap.size 31 #[.int .i64 p.1.op,.int .i64 p.1.n,.slice P1 p.1.path.length pc1,.string p.1.s,.slice P2 p.1.kids.length pc2] by rw [ef];exact(((((RZ7.out).set 0 _).set 1 _).set 2 _).set 3 _).set 4 _)
    have BF:=LH (show Below w.heap.size w wf by rw [ef];exact(((((B7.out).setCell (p:=⟨w.heap.size,0,none⟩) (Nat.le_refl _) _).setCell (p:=⟨w.heap.size,1,none⟩) (Nat.le_refl _) _).setCell (p:=⟨w.heap.size,2,none⟩) (Nat.le_refl _) _).setCell (p:=⟨w.heap.size,3,none⟩) (Nat.le_refl _) _).setCell (p:=⟨w.heap.size,4,none⟩) (Nat.le_refl _) _)
    have hcf:=fun i=>RF.out.cell i
    have QF:=LH (fun q (hq:q≠w.heap.size)=>show wf.heap[q]? =w7.heap[q]? from by
      rw [ef,Below.heap_setCell _ ⟨w.heap.size,4,none⟩ _ q hq,Below.heap_setCell _ ⟨w.heap.size,3,none⟩ _ q hq,Below.heap_setCell _ ⟨w.heap.size,2,none⟩ _ q hq,Below.heap_setCell _ ⟨w.heap.size,1,none⟩ _ q hq,Below.heap_setCell _ ⟨w.heap.size,0,none⟩ _ q hq])
    have hzf:wf.heap.size=w7.heap.size:=by rw [ef];simp [World.setCell]
    have QQF:=LH (Q7.out.keep (w':=wf) (S':=Btw w.heap.size wf.heap.size) fun q hq=>⟨⟨by have:=hq.1;omega,by have:=hq.2;omega⟩,QF.out q (by have:=hq.1;omega)⟩)
    have OF:=LH (O7.out.keep (w':=wf) (S':=Btw w.heap.size wf.heap.size) fun q hq=>⟨⟨by have:=hq.1;omega,by have:=hq.2;omega⟩,QF.out q (by have:=hq.1;omega)⟩)
    clear hcz hfz hcp hcg ef
    exact bodyPost_ret (v:=.tuple #[.agg #[.int .i64 p.1.op,.int .i64 p.1.n,.slice P1 p.1.path.length pc1,.string p.1.s,.slice P2 p.1.kids.length pc2],.bool true]) (by simp [results,Tryz.results7,go_sem,hcf]) rfl (by rw [HV.out];exact⟨P1,pc1,P2,pc2,rfl,OF.out,QQF.out,BF.out⟩)
   ·
    have HV:=LH (show treesV ds l=(zeroT,false) by rw [HVT.out,if_neg hok])
    have RG8:=LH (show Row w7 wr.heap.size 86 #[.slice A ds.length c,.int .i64 p.2,.bool false] by have h:=RG7.out;rw [decide_eq_false hok] at h;exact h)
    have hcg:=fun i=>RG8.out.cell i
    clear hok
    go_wp2_with fail
    obtain⟨wf,ef⟩:∃ wf,wf=(((((w7).setCell ⟨w.heap.size,0,none⟩ (.int .i64 0)).setCell ⟨w.heap.size,1,none⟩ (.int .i64 0)).setCell ⟨w.heap.size,2,none⟩ (.slice none 0 0)).setCell ⟨w.heap.size,3,none⟩ (.string ⟨#[]⟩)).setCell ⟨w.heap.size,4,none⟩ (.slice none 0 0):=⟨_,rfl⟩
    rw [<- ef]
    have RF:=LH (show Row wf w.heap.size 31 #[.int .i64 0,.int .i64 0,.slice none 0 0,.string ⟨#[]⟩,.slice none 0 0] by rw [ef];exact(((((RZ7.out).set 0 _).set 1 _).set 2 _).set 3 _).set 4 _)
    have BF:=LH (show Below w.heap.size w wf by rw [ef];exact(((((B7.out).setCell (p:=⟨w.heap.size,0,none⟩) (Nat.le_refl _) _).setCell (p:=⟨w.heap.size,1,none⟩) (Nat.le_refl _) _).setCell (p:=⟨w.heap.size,2,none⟩) (Nat.le_refl _) _).setCell (p:=⟨w.heap.size,3,none⟩) (Nat.le_refl _) _).setCell (p:=⟨w.heap.size,4,none⟩) (Nat.le_refl _) _)
    have hcf:=fun i=>RF.out.cell i
    clear hcz hfz hcp hcg ef
    exact bodyPost_ret (v:=.tuple #[.agg #[.int .i64 0,.int .i64 0,.slice none 0 0,.string ⟨#[]⟩,.slice none 0 0],.bool false]) (by simp [results,Tryz.results7,go_sem,hcf]) rfl (treeBadG HV.out BF.out)
theorem specTrees (ds:List GData) (alts:List GNode) (A:Option Addr) (c:Nat) (B:Option Addr) (d:Nat) (w:World) (hl:alts.length<=1048576) (hbk:∀ p∈alts.map patOf,p.bulk+1<=1048576) (hs:Sl w (Lt w.heap.size) 3 A c (ds.map GData.toD)) (hs2:Sl w (Lt w.heap.size) 5 B d (alts.map GNode.toD)):
 Calls Tryz.prog 7 #[.slice A ds.length c,.slice B alts.length d] w (ToTreeB (treesV ds (alts.map patOf)) w):=
 (specTreesG ds alts A c B d w hl hbk hs hs2).mono fun _ _ ⟨A1,c1,A2,c2,h,h1,_,h2⟩=>⟨A1,c1,A2,c2,h,h1,h2⟩
theorem GP.one {X:Nat->Prop} {w w':World} {p:GNode} {A3:Option Addr} {c3:Nat} {e:TypeId} (hw:w'=w.alloc (.cells #[.slice none 0 0,.int .i64 p.op,.int .i64 p.n,.string p.s,.string p.t,.slice A3 p.kids.length c3] e)) (hp:GNode.At w (fun b=>b<w.heap.size/\X b) A3 c3 p):GP X w' w.heap.size e w.heap.size 1 1 [⟨[],p⟩]:=by
 subst hw
 refine⟨Nat.le_refl _,Nat.le_refl _,by unfold maxLen;omega,rfl,_,Row.new _ _ _,rfl,fun i hi=>?_⟩
 obtain rfl:i=0:=by simpa using hi
 refine⟨[.slice none 0 0,.int .i64 p.op,.int .i64 p.n,.string p.s,.string p.t,.slice A3 p.kids.length c3],rfl,fun t v ht=>?_,?_⟩
 · simpa using ht
 · exact GAsk.rd_mk (t:=⟨[],p⟩) (A1:=none) (c1:=0) ⟨Sl.nil (Nat.zero_le _),hp.keep fun b hb=>⟨⟨by simp;omega,by omega,hb.2⟩,Below.heap_alloc _ _ _ hb.1⟩⟩
theorem implTrees (ds:List GData) (alts:List GNode) (A:Option Addr) (c:Nat) (B:Option Addr) (d:Nat) (w:World) (hl:alts.length<=1048576) (hbk:∀ p∈alts.map patI,p.bulk+1<=1048576) (hs:Sl w (Lt w.heap.size) 3 A c (ds.map GData.toD)) (hs2:Sl w (Lt w.heap.size) 5 B d (alts.map GNode.toD)):
 Calls Tryz.prog 6 #[.slice A ds.length c,.slice B alts.length d] w (ToTreeB (treesV ds (alts.map patI)) w):=by
 have HD:=LH hs
 have HS2:=LH hs2
 obtain⟨w0,e0⟩:∃ w0,w0=(w.alloc (.cells #[.int .i64 0,.int .i64 0,.slice none 0 0,.string ⟨#[]⟩,.slice none 0 0] 31)).alloc (.cells #[] 70):=⟨_,rfl⟩
 have E0:=LH (show Below w.heap.size w w0 by rw [e0];exact((Below.refl _ _).alloc (Nat.le_refl _) _).alloc (by simp) _)
 have RZ0:=LH (show Row w0 w.heap.size 31 #[.int .i64 0,.int .i64 0,.slice none 0 0,.string ⟨#[]⟩,.slice none 0 0] by rw [e0];exact(Row.new' _ _ _ rfl).alloc _)
 have G0:=LH (show Grx AnyB w0 (w.heap.size+1) 70 2 (.slice (some ⟨w.heap.size+1,0,none⟩) 0 0) 0 [] from Grx.made (by rw [e0];exact Row.new' _ _ _ (by simp)) (Nat.le_refl _))
 have hz0:w.heap.size+1<=w0.heap.size:=by rw [e0];simp
 obtain⟨l,hll⟩:∃ l,alts.map patI=l:=⟨_,rfl⟩
 have hln:alts.length=l.length:=by rw [<- hll];simp
 have HLJ:=LH (fun(j:Nat) (h1:j<l.length) (h2:j<alts.length)=>show l[j]=patI alts[j] by simp [<- hll])
 rw [hll] at hbk ⊢
 have hl2:l.length<=1048576:=by omega
 have HOKR:=LH (rowsA_ok 0 l hbk)
 have hln1:l.length<=alts.length:=by omega
 have hln2:alts.length<=l.length:=by omega
 clear hs hs2 hbk hll hln
 go_enter Tryz.func6,Tryz.ntmps6
 go_wp2_with fail
 rw [<- e0]
 clear e0
 go_loopw [6,15] (fun v i wr=>∃ (j:Nat) (A':Option Addr) (c':Nat),j<=l.length/\i= .int .i64 j/\v= .slice A' j c'/\Hid (Grx AnyB wr (w.heap.size+1) 70 2 (.slice A' j c') j ((rowsA 0 (l.take j)).map GTrow.toD))/\Hid (conOkL ds (l.take j)=true)/\Hid (Row wr w.heap.size 31 #[.int .i64 0,.int .i64 0,.slice none 0 0,.string ⟨#[]⟩,.slice none 0 0])/\w.heap.size+1<=wr.heap.size/\Hid (Below w.heap.size w wr)) (fun _ i _=>l.length - (intOf i).toNat)
 case atStart=>exact⟨0,_,_,by omega,by go_num,rfl,G0,LH rfl,RZ0,hz0,E0⟩
 case round=>
  clear G0 RZ0 E0 hz0
  obtain⟨j,A',c',hj,rfl,rfl,HG,HL,RZ,hz,BW⟩:=hrel
  have hsz:=BW.out.size
  have HOW:=LH (fun g (hg:(Value.slice A' j c').ownBlock=some g)=>HG.out.own g hg)
  by_cases hlt:j<l.length
  ·
   have hlt2:j<alts.length:=by omega
   obtain⟨b,off,A2,c2,rfl,hSb,q0,q1,q2,q3,q4,hat⟩:=GNode.elem (HS2.out.keep (w':=wr) (S':=Lt w.heap.size) fun q hq=>⟨hq,BW.out.block q hq⟩) j hlt2
   obtain⟨a,ha⟩:∃ a,alts[j]=a:=⟨_,rfl⟩
   obtain⟨p,hp⟩:∃ p,patI a=p:=⟨_,rfl⟩
   have hpl:l[j]=p:=by rw [HLJ.out j hlt hlt2,ha,hp]
   have HT:=LH (rowsA_take l j hlt)
   have HTC:=LH (conOkL_take (ds:=ds) hlt)
   have HM:=LH (List.getElem_mem hlt)
   rw [hpl] at HT HTC HM
   rw [ha] at q0 q1 q2 q3 q4 hat
   obtain⟨w2,e2⟩:∃ w2,w2=wr.alloc (.cells #[.int .i64 a.op,.int .i64 a.n,.string a.s,.string a.t,.slice A2 a.kids.length c2] 49):=⟨_,rfl⟩
   have E2:=LH (show Below wr.heap.size wr w2 by rw [e2];exact(Below.refl _ _).alloc (Nat.le_refl _) _)
   have hz2:wr.heap.size<w2.heap.size:=by rw [e2];simp
   have RA2:=LH (show Row w2 wr.heap.size 49 #[.int .i64 a.op,.int .i64 a.n,.string a.s,.string a.t,.slice A2 a.kids.length c2] by rw [e2];exact Row.new _ _ _)
   have hpp:=implPatternOf (fun q=>q<w.heap.size) a A2 c2 w2 (fun q hq=>by omega) (hat.keep fun q hq=>⟨hq,E2.out.block q (by have h1:q<w.heap.size:=hq;omega)⟩)
   rw [hp] at hpp
   have HPP:=LH hpp
   clear hpp hat ha hp hpl
   go_upto_region 5 with (fail)
   rw [<- e2]
   clear e2 q0 q1 q2 q3 q4
   have hca:=fun i=>RA2.out.cell i
   go_wp2_with fail
   refine HPP.out.mono ?_
   rintro e w3 ⟨A3,c3,rfl,hat3,hb3⟩
   have E3:=LH (E2.out.trans (hb3.mono E2.out.size))
   have hz3:=hb3.size
   obtain⟨w4,e4⟩:∃ w4,w4=w3.alloc (.cells #[.int .i64 p.op,.int .i64 p.n,.string p.s,.string p.t,.slice A3 p.kids.length c3] 49):=⟨_,rfl⟩
   have E4:=LH (show Below wr.heap.size wr w4 by rw [e4];exact E3.out.alloc E3.out.size _)
   have hz4:w3.heap.size<w4.heap.size:=by rw [e4];simp
   have RP4:=LH (show Row w4 w3.heap.size 49 #[.int .i64 p.op,.int .i64 p.n,.string p.s,.string p.t,.slice A3 p.kids.length c3] by rw [e4];exact Row.new _ _ _)
   have HAT4:=LH (show GNode.At w4 (fun q=>q<w.heap.size) A3 c3 p from hat3.keep fun q hq=>⟨hq,by rw [e4];exact Below.heap_alloc _ _ _ (by omega)⟩)
   have B4:=LH (BW.out.trans (E4.out.mono hsz))
   have HC:=LH (implConsOk ds A c (p.bulk+1) p A3 c3 w4 (by omega) (HD.out.below B4.out B4.out.size) (HAT4.out.keep fun q hq=>⟨(show q<w4.heap.size by omega),rfl⟩))
   clear hat3 hb3 hca HPP
   go_upto_region 6 with (fail)
   rw [<- e4]
   clear e4
   have hcp:=fun i=>RP4.out.cell i
   go_wp2_with fail
   refine HC.out.mono ?_
   rintro e w5 ⟨rfl,hb5⟩
   have E5:=LH (E4.out.trans (hb5.mono E4.out.size))
   have hz5:=hb5.size
   have RP5:=LH (RP4.out.below hb5 RP4.out.lt)
   have HAT5:=LH (HAT4.out.keep (w':=w5) (S':=fun q=>q<w.heap.size) fun q hq=>⟨hq,hb5.block q (by omega)⟩)
   clear hb5 hcp HC
   cases hc:conOk ds p
   ·
    have HV:=LH (show treesV ds l=(zeroT,false) by
      unfold treesV
      rw [if_neg]
      intro h
      rw [List.all_eq_true] at h
      rw [h p HM.out] at hc
      cases hc)
    have RZ2:=LH (RZ.out.below E5.out RZ.out.lt)
    have hcz:=fun i=>RZ2.out.cell i
    have hfz:=fun i=>RZ2.out.frozen i
    have BF:=LH (BW.out.trans (E5.out.mono hsz))
    clear hc
    go_wp2_with fail
    obtain⟨wf,ef⟩:∃ wf,wf=((((w5.setCell ⟨w.heap.size,0,none⟩ (.int .i64 0)).setCell ⟨w.heap.size,1,none⟩ (.int .i64 0)).setCell ⟨w.heap.size,2,none⟩ (.slice none 0 0)).setCell ⟨w.heap.size,3,none⟩ (.string ⟨#[]⟩)).setCell ⟨w.heap.size,4,none⟩ (.slice none 0 0):=⟨_,rfl⟩
    rw [<- ef]
    have RF:=LH (show Row wf w.heap.size 31 #[.int .i64 0,.int .i64 0,.slice none 0 0,.string ⟨#[]⟩,.slice none 0 0] by rw [ef];exact((((RZ2.out.set 0 _).set 1 _).set 2 _).set 3 _).set 4 _)
    have BF2:=LH (show Below w.heap.size w wf by rw [ef];exact((((BF.out.setCell (p:=⟨w.heap.size,0,none⟩) (Nat.le_refl _) _).setCell (p:=⟨w.heap.size,1,none⟩) (Nat.le_refl _) _).setCell (p:=⟨w.heap.size,2,none⟩) (Nat.le_refl _) _).setCell (p:=⟨w.heap.size,3,none⟩) (Nat.le_refl _) _).setCell (p:=⟨w.heap.size,4,none⟩) (Nat.le_refl _) _)
    have hcf:=fun i=>RF.out.cell i
    clear hcz hfz ef
    exact bodyPost_ret (v:=.tuple #[.agg #[.int .i64 0,.int .i64 0,.slice none 0 0,.string ⟨#[]⟩,.slice none 0 0],.bool false]) (by simp [results,Tryz.results6,go_sem,hcf]) rfl (treeBad HV.out BF2.out)
   ·
    have HL2:=LH (show conOkL ds (l.take (j+1))=true by rw [HTC.out,HL.out,hc];rfl)
    obtain⟨w6,e6⟩:∃ w6,w6=w5.alloc (.cells #[.slice none 0 0,.int .i64 p.op,.int .i64 p.n,.string p.s,.string p.t,.slice A3 p.kids.length c3] 68):=⟨_,rfl⟩
    have E6:=LH (show Below wr.heap.size wr w6 by rw [e6];exact E5.out.alloc E5.out.size _)
    have hz6:w5.heap.size<w6.heap.size:=by rw [e6];simp
    have G6:=LH (GP.grx (GP.one (X:=fun q=>(Value.slice A' j c').ownBlock≠some q) e6 (HAT5.out.keep fun q hq=>⟨⟨(by omega),fun e=>by have:=(HOW.out _ e).1;omega⟩,rfl⟩)))
    obtain⟨L,hL⟩:∃ L,bareA [⟨[],p⟩]=L:=⟨_,rfl⟩
    have hlast:=implLasting (fun q=>(Value.slice A' j c').ownBlock≠some q) w5.heap.size [⟨[],p⟩] (some ⟨w5.heap.size,0,none⟩) 1 w6 (by simp) G6.out
    rw [hL] at hlast
    have HLS:=LH (show Calls Tryz.prog 30 #[.slice (some ⟨w5.heap.size,0,none⟩) 1 1] w6 fun e w'=>e= .returned (.slice (some ⟨w5.heap.size,0,none⟩) L.length 1)/\Grx (fun q=>(Value.slice A' j c').ownBlock≠some q) w' w5.heap.size 68 6 (.slice (some ⟨w5.heap.size,0,none⟩) L.length 1) L.length (L.map GAsk.toD)/\Gr w6 w' (.slice (some ⟨w5.heap.size,0,none⟩) 1 1) (.slice (some ⟨w5.heap.size,0,none⟩) L.length 1) from hlast)
    have HLR:=LH (show rowA j p=⟨(j:Int),L⟩ by unfold rowA;rw [hL])
    have hcp:=fun i=>RP5.out.cell i
    clear hc hL hlast
    go_wp2_with fail
    rw [<- e6]
    clear e6
    refine HLS.out.mono ?_
    rintro e w7 ⟨rfl,g7,r7⟩
    have E7:=LH (E6.out.trans (r7.below (B:=wr.heap.size) (by omega) (fun g hg=>by have:=own_ge hg;omega)))
    have hz7:=r7.size
    obtain⟨A5,c5,e5,hs5⟩:=g7.slY (Y:=fun q=>(Value.slice A' j c').ownBlock≠some q) (fun _ h=>h) (fun q h e=>by have:=(HOW.out _ e).2;omega)
    obtain⟨rfl,rfl⟩:some ⟨w5.heap.size,0,none⟩=A5/\1=c5:=by simpa using e5
    have HS7:=LH hs5
    obtain⟨w8,e8⟩:∃ w8,w8=w7.alloc (.cells #[.int .i64 (j:Int),.slice (some ⟨w5.heap.size,0,none⟩) L.length 1] 70):=⟨_,rfl⟩
    have E8:=LH (show Below wr.heap.size wr w8 by rw [e8];exact E7.out.alloc E7.out.size _)
    have hz8:w7.heap.size<w8.heap.size:=by rw [e8];simp
    have G8:=LH (HG.out.below E8.out)
    have hj3:(Lit.int .i64 (j:Int)).wf=true:=wf_i64 (by omega) (by omega)
    have T8:=LH (show Sl w8 (fun q=>q<w8.heap.size/\(Value.slice A' j c').ownBlock≠some q/\AnyB q) 2 (some ⟨w7.heap.size,0,none⟩) 1 [(⟨(j:Int),L⟩:GTrow).toD] from
      slOne (T:=70) (cs:=[.int .i64 (j:Int),.slice (some ⟨w5.heap.size,0,none⟩) L.length 1]) (by rw [e8];exact Row.new _ _ _) (GTrow.rd_mk (t:=⟨(j:Int),L⟩) ⟨hj3,HS7.out.keep fun q hq=>⟨⟨by have:=hq.2;omega,hq.1,trivial⟩,by rw [e8];exact Below.heap_alloc _ _ _ hq.2⟩⟩) rfl ⟨hz8,fun e=>by have:=(HOW.out _ e).2;omega,trivial⟩)
    have hs1:w.heap.size+1<=w8.heap.size:=by omega
    clear g7 r7 hs5 e5 hj3 hcp
    go_wp2_with (first
      | (at_builtin
         rw [<- e8]
         refine wpList_append_X w8 rfl (.tmp 27) (.tmp 34) 62 rfl 70 zTrow 2 32 Tryz.underlying62 (by kernel_rfl) rfl (by omega) (w.heap.size+1) (.slice A' j c') j _ G8.out (some ⟨w7.heap.size,0,none⟩) 1 1 _ rfl T8.out hs1 (by unfold maxLen;omega) (by omega) rfl rfl ?_
         intro A9 c9 w9 G9 hGr9
         have G9h:=LH G9
         have Z9:=LH (Nat.le_trans hs1 hGr9.size)
         have RZ9:=LH (hGr9.row (RZ.out.below E8.out RZ.out.lt) (fun e=>by have:=(HOW.out _ e).1;omega))
         have B9:=LH ((BW.out.trans (E8.out.mono hsz)).trans (hGr9.below (B:=w.heap.size) (by omega) (fun g hg=>by have:=(HOW.out g hg).1;omega)))
         clear G9 hGr9))
    go_roundw
    case rel=>exact⟨j+1,A9,c9,by omega,by go_num,rfl,LH (by rw [HT.out,HLR.out,List.map_append];exact G9h.out),HL2,RZ9,Z9.out,B9⟩
    case measure=>simp [intOf];omega
  ·
   obtain rfl:j=l.length:=by omega
   have hG:=HG.out
   rw [List.take_length] at hG
   have hL:=HL.out
   rw [List.take_length,conOkL_all] at hL
   obtain⟨A5,c5,e5,hs5⟩:=hG.slX
   obtain⟨rfl,rfl⟩:A'=A5/\c'=c5:=by simpa using e5
   obtain⟨wg,eg⟩:∃ wg,wg=wr.alloc (.cells #[.int .i64 0] 73):=⟨_,rfl⟩
   have EG:=LH (show Below wr.heap.size wr wg by rw [eg];exact(Below.refl _ _).alloc (Nat.le_refl _) _)
   have hzg:wr.heap.size+1=wg.heap.size:=by rw [eg];simp
   have hmm:=growTr wr.heap.size 301 (by omega) 0 (rowsA 0 l) A' c' wg (by omega) (by omega) HOKR.out (by rw [rowsA_len];exact hl2) (by rw [eg];exact Row.new _ _ _) (hs5.keep fun q hq=>⟨⟨by have h1:q<wr.heap.size:=hq;omega,by have h1:q<wr.heap.size:=hq;omega⟩,EG.out.block q hq⟩)
   rw [rowsA_len] at hmm
   obtain⟨p,hp⟩:∃ p,growV 301 0 (rowsA 0 l)=p:=⟨_,rfl⟩
   rw [hp] at hmm
   have HMM:=LH hmm
   have HVT:=LH (show treesV ds l=(if p.2<=300 then(p.1,true) else(zeroT,false)) by unfold treesV;rw [if_pos hL,hp])
   clear hmm hs5 hG hL e5 hp
   go_wp2_with fail
   rw [<- eg]
   clear eg
   refine HMM.out.mono ?_
   rintro e w6 ⟨P1,pc1,P2,pc2,rfl,ho6,hg6,hx6⟩
   have O6:=LH ho6
   have hz6:=hx6.size
   have RZg:=LH (RZ.out.below EG.out RZ.out.lt)
   have RZ6:=LH (hx6.row RZg.out (by have:=RZ.out.lt;omega))
   have BG:=LH (BW.out.trans (EG.out.mono BW.out.size))
   have hwz:=BW.out.size
   have B6:=LH (BG.out.trans (hx6.below (B:=w.heap.size) (by omega) (by omega)))
   obtain⟨w7,e7⟩:∃ w7,w7=w6.alloc (.cells #[.int .i64 p.1.op,.int .i64 p.1.n,.slice P1 p.1.path.length pc1,.string p.1.s,.slice P2 p.1.kids.length pc2] 31):=⟨_,rfl⟩
   have E7:=LH (show Below w6.heap.size w6 w7 by rw [e7];exact(Below.refl _ _).alloc (Nat.le_refl _) _)
   have hz7:w6.heap.size<w7.heap.size:=by rw [e7];simp
   have RP7:=LH (show Row w7 w6.heap.size 31 #[.int .i64 p.1.op,.int .i64 p.1.n,.slice P1 p.1.path.length pc1,.string p.1.s,.slice P2 p.1.kids.length pc2] by rw [e7];exact Row.new _ _ _)
   have RZ7:=LH (RZ6.out.below E7.out RZ6.out.lt)
   have B7:=LH (B6.out.trans (E7.out.mono (by omega)))
   have RG7:=LH (hg6.below E7.out hg6.lt)
   have O7:=LH (O6.out.keep (w':=w7) (S':=fun q=>(w.heap.size<q/\q<w7.heap.size)) fun q hq=>⟨⟨by have:=hq.1;omega,by have:=hq.2;omega⟩,E7.out.block q hq.2⟩)
   clear ho6 hg6 hx6 HMM
   go_upto_region 12 with (fail)
   rw [<- e7]
   clear e7
   have hcz:=fun i=>RZ7.out.cell i
   have hfz:=fun i=>RZ7.out.frozen i
   have hcp:=fun i=>RP7.out.cell i
   by_cases hok:p.2<=300
   ·
    have HV:=LH (show treesV ds l=(p.1,true) by rw [HVT.out,if_pos hok])
    have dcp:decide ((300:Int)<(p.2:Int))=false:=decide_eq_false (by omega)
    have hcg:=fun i=>RG7.out.cell i
    clear hok
    go_wp2_with fail
    obtain⟨wf,ef⟩:∃ wf,wf=(((((w7).setCell ⟨w.heap.size,0,none⟩ (.int .i64 p.1.op)).setCell ⟨w.heap.size,1,none⟩ (.int .i64 p.1.n)).setCell ⟨w.heap.size,2,none⟩ (.slice P1 p.1.path.length pc1)).setCell ⟨w.heap.size,3,none⟩ (.string p.1.s)).setCell ⟨w.heap.size,4,none⟩ (.slice P2 p.1.kids.length pc2):=⟨_,rfl⟩
    rw [<- ef]
    have RF:=LH (show Row wf w.heap.size 31 #[.int .i64 p.1.op,.int .i64 p.1.n,.slice P1 p.1.path.length pc1,.string p.1.s,.slice P2 p.1.kids.length pc2] by rw [ef];exact(((((RZ7.out).set 0 _).set 1 _).set 2 _).set 3 _).set 4 _)
    have BF:=LH (show Below w.heap.size w wf by rw [ef];exact(((((B7.out).setCell (p:=⟨w.heap.size,0,none⟩) (Nat.le_refl _) _).setCell (p:=⟨w.heap.size,1,none⟩) (Nat.le_refl _) _).setCell (p:=⟨w.heap.size,2,none⟩) (Nat.le_refl _) _).setCell (p:=⟨w.heap.size,3,none⟩) (Nat.le_refl _) _).setCell (p:=⟨w.heap.size,4,none⟩) (Nat.le_refl _) _)
    have hcf:=fun i=>RF.out.cell i
    have QF:=LH (fun q (hq:q≠w.heap.size)=>show wf.heap[q]? =w7.heap[q]? from by
      rw [ef,Below.heap_setCell _ ⟨w.heap.size,4,none⟩ _ q hq,Below.heap_setCell _ ⟨w.heap.size,3,none⟩ _ q hq,Below.heap_setCell _ ⟨w.heap.size,2,none⟩ _ q hq,Below.heap_setCell _ ⟨w.heap.size,1,none⟩ _ q hq,Below.heap_setCell _ ⟨w.heap.size,0,none⟩ _ q hq])
    have hzf:wf.heap.size=w7.heap.size:=by rw [ef];simp [World.setCell]
    have OF:=LH (O7.out.keep (w':=wf) (S':=Btw w.heap.size wf.heap.size) fun q hq=>⟨⟨by have:=hq.1;omega,by have:=hq.2;omega⟩,QF.out q (by have:=hq.1;omega)⟩)
    clear hcz hfz hcp hcg ef
    exact bodyPost_ret (v:=.tuple #[.agg #[.int .i64 p.1.op,.int .i64 p.1.n,.slice P1 p.1.path.length pc1,.string p.1.s,.slice P2 p.1.kids.length pc2],.bool true]) (by simp [results,Tryz.results6,go_sem,hcf]) rfl (by rw [HV.out];exact⟨P1,pc1,P2,pc2,rfl,OF.out,BF.out⟩)
   ·
    have HV:=LH (show treesV ds l=(zeroT,false) by rw [HVT.out,if_neg hok])
    have dcp:decide ((300:Int)<(p.2:Int))=true:=decide_eq_true (by omega)
    have hcg:=fun i=>RG7.out.cell i
    clear hok
    go_wp2_with fail
    obtain⟨wf,ef⟩:∃ wf,wf=(((((w7).setCell ⟨w.heap.size,0,none⟩ (.int .i64 0)).setCell ⟨w.heap.size,1,none⟩ (.int .i64 0)).setCell ⟨w.heap.size,2,none⟩ (.slice none 0 0)).setCell ⟨w.heap.size,3,none⟩ (.string ⟨#[]⟩)).setCell ⟨w.heap.size,4,none⟩ (.slice none 0 0):=⟨_,rfl⟩
    rw [<- ef]
    have RF:=LH (show Row wf w.heap.size 31 #[.int .i64 0,.int .i64 0,.slice none 0 0,.string ⟨#[]⟩,.slice none 0 0] by rw [ef];exact(((((RZ7.out).set 0 _).set 1 _).set 2 _).set 3 _).set 4 _)
    have BF:=LH (show Below w.heap.size w wf by rw [ef];exact(((((B7.out).setCell (p:=⟨w.heap.size,0,none⟩) (Nat.le_refl _) _).setCell (p:=⟨w.heap.size,1,none⟩) (Nat.le_refl _) _).setCell (p:=⟨w.heap.size,2,none⟩) (Nat.le_refl _) _).setCell (p:=⟨w.heap.size,3,none⟩) (Nat.le_refl _) _).setCell (p:=⟨w.heap.size,4,none⟩) (Nat.le_refl _) _)
    have hcf:=fun i=>RF.out.cell i
    clear hcz hfz hcp hcg ef
    exact bodyPost_ret (v:=.tuple #[.agg #[.int .i64 0,.int .i64 0,.slice none 0 0,.string ⟨#[]⟩,.slice none 0 0],.bool false]) (by simp [results,Tryz.results6,go_sem,hcf]) rfl (treeBad HV.out BF.out)
set_option maxHeartbeats 1000000
theorem rowsA_cong:∀ (i:Nat) (alts:List GNode),rowsA i (alts.map patI)=rowsA i (alts.map patOf)
 | _,[]=>rfl
 | i,a::r=>by
  simp only [List.map_cons,rowsA,rowsA_cong (i+1) r]
  congr 1
  cases hk:a.kids with
  | nil=>rw [patI_nil hk,patOf_nil hk];rfl
  | cons k t=>rw [patI_cons hk,patOf_cons hk]
theorem conOk_cong (ds:List GData):∀ (alts:List GNode),(alts.map patI).all (conOk ds)=(alts.map patOf).all (conOk ds)
 | []=>rfl
 | a::r=>by
  simp only [List.map_cons,List.all_cons,conOk_cong ds r]
  congr 1
  cases hk:a.kids with
  | nil=>rw [patI_nil hk,patOf_nil hk];rfl
  | cons k t=>rw [patI_cons hk,patOf_cons hk]
theorem treesV_cong (ds:List GData) (alts:List GNode):treesV ds (alts.map patI)=treesV ds (alts.map patOf):=by
 unfold treesV
 rw [conOk_cong,rowsA_cong]
theorem patOf_bulk {a:GNode} {alts:List GNode} (h:a∈alts) (hm:bulkL GNode.bulk alts<=1048576):(patOf a).bulk+1<=1048576:=by
 have h1:=bulkL_mem GNode.bulk alts a h
 have h2:=GNode.bulk_eq a
 cases hk:a.kids with
 | nil=>rw [patOf_nil hk];decide
 | cons k t=>
  rw [patOf_cons hk]
  have h3:=bulkL_mem GNode.bulk a.kids k (by rw [hk];exact List.mem_cons_self ..)
  omega
theorem patI_bulk {a:GNode} {alts:List GNode} (h:a∈alts) (hm:bulkL GNode.bulk alts<=1048576):(patI a).bulk+1<=1048576:=by
 have h1:=bulkL_mem GNode.bulk alts a h
 have h2:=GNode.bulk_eq a
 cases hk:a.kids with
 | nil=>rw [patI_nil hk];decide
 | cons k t=>
  rw [patI_cons hk]
  have h3:=bulkL_mem GNode.bulk a.kids k (by rw [hk];exact List.mem_cons_self ..)
  omega
theorem growV_bulk:∀ (k many:Nat) (rows:List GTrow),RowsOk many rows->(growV k many rows).1.bulk+1<=((growV k many rows).2 - many)*2097152
 | 0,many,rows,_=>by
  show(zeroT).bulk+1<=(many+1 - many)*2097152
  rw [show many+1 - many=1 by omega];decide
 | k+1,many,rows,hok=>by
  by_cases h:300<many+1
  · rw [growV_over h]
    show(zeroT).bulk+1<=(many+1 - many)*2097152
    rw [show many+1 - many=1 by omega];decide
  ·
   by_cases hr:0<rows.length
   ·
    by_cases ha:0<rows[0].asks.length
    ·
     rw [growV_ask h hr ha]
     have hap:=((hok _ (List.getElem_mem hr)).2 _ (List.getElem_mem ha)).2
     have hm1:=(hok _ (List.getElem_mem hr)).1
     have hm2:=asksM_mem (List.getElem_mem ha)
     obtain⟨a,hea⟩:∃ a,rows[0].asks[0]=a:=⟨_,rfl⟩
     rw [hea] at hap hm2 ⊢
     have hs:=GNode.bulk_eq a.pat
     have i1:=growV_bulk k (many+1) (yesR a rows) (hok.yes a hap)
     have l1:=growV_less k (many+1) (yesR a rows)
     obtain⟨p,hp⟩:∃ p,growV k (many+1) (yesR a rows)=p:=⟨_,rfl⟩
     rw [hp] at i1 l1 ⊢
     have i2:=growV_bulk k p.2 (noR a rows) ((hok.no a).mono (by omega))
     have l2:=growV_less k p.2 (noR a rows)
     obtain⟨q,hq⟩:∃ q,growV k p.2 (noR a rows)=q:=⟨_,rfl⟩
     rw [hq] at i2 l2 ⊢
     show(askT a [p.1,q.1]).bulk+1<=(q.2 - many)*2097152
     have hsz:(askS a).size<=1048576:=by
      unfold askS
      split
      · omega
      · decide
     have hb:(askT a [p.1,q.1]).bulk=a.path.length+(askS a).size+(1+p.1.bulk+(1+q.1.bulk)):=by
      rw [askT_eq,GTree.bulk_eq]
      simp [GTree.path,GTree.s,GTree.kids,bulkL]
     rw [hb]
     have e:q.2 - many=1+(p.2 - (many+1))+(q.2 - p.2):=by omega
     rw [e,Nat.add_mul,Nat.add_mul]
     omega
    · rw [growV_done h hr (by omega)]
      show 0+0+0+1<=(many+1 - many)*2097152
      rw [show many+1 - many=1 by omega];decide
   · rw [growV_none h (by omega)]
     show 0+0+0+1<=(many+1 - many)*2097152
     rw [show many+1 - many=1 by omega];decide
theorem treesV_bulk (ds:List GData) (alts:List GNode) (hm:bulkL GNode.bulk alts<=1048576):(treesV ds (alts.map patOf)).1.bulk<=1262485504:=by
 have hok:=rowsA_ok 0 (alts.map patOf) (fun p hp=>by obtain⟨a,ha,rfl⟩:=List.mem_map.1 hp;exact patOf_bulk ha hm)
 have h1:=growV_bulk 301 0 _ hok
 unfold treesV
 split
 · split
   · show(growV 301 0 (rowsA 0 (alts.map patOf))).1.bulk<=_
     omega
   · show(zeroT).bulk<=_
     decide
 · show(zeroT).bulk<=_
   decide
theorem specTreesL (ds:List GData) (A:Option Addr) (c:Nat) (alts:List GNode) (B:Option Addr) (d:Nat) (w:World) (hm:bulkL GNode.bulk alts<=1048576) (hs:Sl w (Lt w.heap.size) 3 A c (ds.map GData.toD)) (hs2:Sl w (Lt w.heap.size) 5 B d (alts.map GNode.toD)):
 Calls Tryz.prog 7 #[.slice A ds.length c,.slice B alts.length d] w (ToTreeB (treesV ds (alts.map patOf)) w):=
 specTrees ds alts A c B d w (Nat.le_trans (bulkL_len GNode.bulk alts) hm) (fun p hp=>by obtain⟨a,ha,rfl⟩:=List.mem_map.1 hp;exact patOf_bulk ha hm) hs hs2
theorem specTreesLG (ds:List GData) (A:Option Addr) (c:Nat) (alts:List GNode) (B:Option Addr) (d:Nat) (w:World) (hm:bulkL GNode.bulk alts<=1048576) (hs:Sl w (Lt w.heap.size) 3 A c (ds.map GData.toD)) (hs2:Sl w (Lt w.heap.size) 5 B d (alts.map GNode.toD)):
 Calls Tryz.prog 7 #[.slice A ds.length c,.slice B alts.length d] w (ToTreeG (treesV ds (alts.map patOf)) w):=
 specTreesG ds alts A c B d w (Nat.le_trans (bulkL_len GNode.bulk alts) hm) (fun p hp=>by obtain⟨a,ha,rfl⟩:=List.mem_map.1 hp;exact patOf_bulk ha hm) hs hs2
theorem implTreesL (ds:List GData) (A:Option Addr) (c:Nat) (alts:List GNode) (B:Option Addr) (d:Nat) (w:World) (hm:bulkL GNode.bulk alts<=1048576) (hs:Sl w (Lt w.heap.size) 3 A c (ds.map GData.toD)) (hs2:Sl w (Lt w.heap.size) 5 B d (alts.map GNode.toD)):
 Calls Tryz.prog 6 #[.slice A ds.length c,.slice B alts.length d] w (ToTreeB (treesV ds (alts.map patOf)) w):=by
 rw [<- treesV_cong]
 exact implTrees ds alts A c B d w (Nat.le_trans (bulkL_len GNode.bulk alts) hm) (fun p hp=>by obtain⟨a,ha,rfl⟩:=List.mem_map.1 hp;exact patI_bulk ha hm) hs hs2
end Go.Proofs.YtamfolaicncblaaGreat
