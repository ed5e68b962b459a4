/- Texts of the claim LTreesRight in one: TiG TiH. Conditions: none but bounds on sizes. -/
import Derived.Test.YtamfolaicncblaaGreatZLTreesRight21
import Derived.Test.YtamfolaicncblaaGreatZLTreesRight19
import Derived.BigQuiet
import Derived.Test.YtamfolaicncblaaGreatZLTreesRight2
namespace Go.Proofs.YtamfolaicncblaaGreat
set_option maxRecDepth 20000
set_option linter.unusedVariables false
set_option linter.unusedSimpArgs false
open Go.RowKit
set_option maxHeartbeats 2000000
theorem implHolding (S:Nat->Prop) (a:GAsk) (rows:List GTrow) (A:Option Addr) (c:Nat) (A1:Option Addr) (c1:Nat) (A2:Option Addr) (c2:Nat) (w:World) (hl:rows.length<=1048576) (n:Nat) (hn:n<=1048575) (hap:a.path.length<=n) (hb:RowsOk n rows) (hS:∀ b,S b->b<w.heap.size) (hs:Sl w S 2 A c (rows.map GTrow.toD)) (ha:GAsk.At w (Lt w.heap.size) A1 c1 A2 c2 a):
 Calls Tryz.prog 57 #[.slice A rows.length c,.agg #[.slice A1 a.path.length c1,.int .i64 a.pat.op,.int .i64 a.pat.n,.string a.pat.s,.string a.pat.t,.slice A2 a.pat.kids.length c2]] w (ToTrowsS S (yesR a rows) w):=by
 have HS:=LH hs
 have HA:=LH ha
 have HBD:=LH hb
 have HSL:=LH hS
 clear hs ha hb hS
 obtain⟨w0,e0⟩:∃ w0,w0=(w.alloc (.cells #[.slice A1 a.path.length c1,.int .i64 a.pat.op,.int .i64 a.pat.n,.string a.pat.s,.string a.pat.t,.slice A2 a.pat.kids.length c2] 68)).alloc (.cells #[] 70):=⟨_,rfl⟩
 have HB0:=LH (show Below w.heap.size w w0 by rw [e0];exact((Below.refl _ _).alloc (Nat.le_refl _) _).alloc (by simp) _)
 have HRa0:=LH (show Row w0 w.heap.size 68 #[.slice A1 a.path.length c1,.int .i64 a.pat.op,.int .i64 a.pat.n,.string a.pat.s,.string a.pat.t,.slice A2 a.pat.kids.length c2] by rw [e0];exact(Row.new' _ _ _ rfl).alloc _)
 have G0:=LH (show Grx (Xs S w.heap.size) w0 (w.heap.size+1) 70 2 (.slice (some ⟨w.heap.size+1,0,none⟩) 0 0) 0 [] from Grx.made (by rw [e0];exact Row.new' _ _ _ (by simp)) (Nat.le_refl _))
 have hs0:w.heap.size+1<=w0.heap.size:=by rw [e0];simp
 go_enter Tryz.func57,Tryz.ntmps57
 go_wp2_with fail
 rw [<- e0]
 clear e0
 go_loopw [5,12] (fun v i wr=>∃ (j m:Nat) (A':Option Addr) (c':Nat),j<=rows.length/\i= .int .i64 j/\v= .slice A' m c'/\m<=j/\Hid (Grx (Xs S w.heap.size) wr (w.heap.size+1) 70 2 (.slice A' m c') m ((yesR a (rows.take j)).map GTrow.toD))/\Hid (Row wr w.heap.size 68 #[.slice A1 a.path.length c1,.int .i64 a.pat.op,.int .i64 a.pat.n,.string a.pat.s,.string a.pat.t,.slice A2 a.pat.kids.length c2])/\w.heap.size+1<=wr.heap.size/\Hid (Below w.heap.size w wr)) (fun _ i _=>rows.length - (intOf i).toNat)
 case atStart=>exact⟨0,0,_,_,by omega,by go_num,rfl,by omega,G0,HRa0,hs0,HB0⟩
 case round=>
  clear HRa0 HB0 G0 hs0
  obtain⟨j,m,A',c',hj,rfl,rfl,hm,HG,HRa,hs1,HB⟩:=hrel
  have hsz:=HB.out.size
  have HOW:=LH (fun g (hg:(Value.slice A' m c').ownBlock=some g)=>HG.out.own g hg)
  by_cases hlt:j<rows.length
  ·
   obtain⟨b,off,B1,d1,rfl,hSb,g0,g1,hat⟩:=GTrow.elem (HS.out.keep (w':=wr) (S':=S) fun q hq=>⟨hq,HB.out.block q (HSL.out q hq)⟩) j hlt
   have hSb':b<w.heap.size:=HSL.out b hSb
   have hbl:b<wr.heap.size:=Nat.lt_of_lt_of_le hSb' hsz
   have HT:=LH (yesR_take (a:=a) (rows:=rows) (j:=j) hlt)
   have HBR:=LH (HBD.out _ (List.getElem_mem hlt))
   obtain⟨r,hr⟩:∃ r,rows[j]=r:=⟨_,rfl⟩
   rw [hr] at g0 g1 hat HT HBR
   have HAT:=LH hat
   have hkm:=HBR.out.1
   have hkl:=asksM_len r.asks
   have hd1:=hat.2.1
   rw [List.length_map] at hd1
   clear hat hr
   obtain⟨w2,e2⟩:∃ w2,w2=wr.alloc (.cells #[.int .i64 r.alt,.slice B1 r.asks.length d1] 70):=⟨_,rfl⟩
   have E2:=LH (show Below wr.heap.size wr w2 by rw [e2];exact(Below.refl _ _).alloc (Nat.le_refl _) _)
   have hz2:wr.heap.size<w2.heap.size:=by rw [e2];simp
   have RR2:=LH (show Row w2 wr.heap.size 70 #[.int .i64 r.alt,.slice B1 r.asks.length d1] by rw [e2];exact Row.new _ _ _)
   have RA2:=LH (HRa.out.below E2.out HRa.out.lt)
   obtain⟨fi,hfi⟩:∃ fi,findA r.asks a.path=fi:=⟨_,rfl⟩
   have hff:=implFindH a r.asks B1 d1 A1 c1 A2 c2 w.heap.size w2 RA2.out ((HA.out.1.below HB.out hsz).below E2.out E2.out.size) (HAT.out.2.keep fun q hq=>⟨(show q<w2.heap.size by have:=HSL.out q hq;omega),E2.out.block q (by have:=HSL.out q hq;omega)⟩)
   rw [hfi] at hff
   have HF:=LH hff
   have HFI:=LH hfi
   clear hff hfi
   go_upto_region 5 with (fail)
   rw [<- e2]
   clear e2 g0 g1
   have hcr:=fun i=>RR2.out.cell i
   go_wp2_with fail
   refine HF.out.mono ?_
   rintro e w3 ⟨rfl,hb3⟩
   have E3:=LH (E2.out.trans (hb3.mono E2.out.size))
   have hz3:=hb3.size
   have RR3:=LH (RR2.out.below hb3 RR2.out.lt)
   have RA3:=LH (RA2.out.below hb3 RA2.out.lt)
   have G3:=LH (HG.out.below E3.out)
   have B3:=LH (HB.out.trans (E3.out.mono hsz))
   clear hb3 hcr HF
   by_cases hnn:fi<0
   ·
    have HV:=LH (show yesR a (rows.take (j+1))=yesR a (rows.take j)++[r] by rw [HT.out];unfold yes1;rw [HFI.out];simp [hnn])
    have dn:decide (fi<0)=true:=decide_eq_true hnn
    have hcr:=fun i=>RR3.out.cell i
    clear hnn
    obtain⟨w5,e5⟩:∃ w5,w5=w3.alloc (.cells #[.int .i64 r.alt,.slice B1 r.asks.length d1] 70):=⟨_,rfl⟩
    have E5:=LH (show Below wr.heap.size wr w5 by rw [e5];exact E3.out.alloc E3.out.size _)
    have G5:=LH (HG.out.below E5.out)
    have B5:=LH (HB.out.trans (E5.out.mono hsz))
    have hs5:w.heap.size+1<=w5.heap.size:=Nat.le_trans hs1 E5.out.size
    have hz5:w3.heap.size<w5.heap.size:=by rw [e5];simp
    have T5:=LH (show Sl w5 (fun b=>b<w5.heap.size/\(Value.slice A' m c').ownBlock≠some b/\Xs S w.heap.size b) 2 (some ⟨w3.heap.size,0,none⟩) 1 [r.toD] from
      slOne (T:=70) (cs:=[.int .i64 r.alt,.slice B1 r.asks.length d1]) (by rw [e5];exact Row.new' _ _ _ rfl) (GTrow.rd_mk (HAT.out.keep fun q hq=>⟨⟨by have:=HSL.out q hq;omega,fun e=>by have:=(HOW.out q e).1;have h4:=HSL.out q hq;omega,.inl hq⟩,E5.out.block q (by have:=HSL.out q hq;omega)⟩)) rfl ⟨hz5,fun e=>by have:=(HOW.out _ e).2;omega,.inr (by omega)⟩)
    go_wp2_with (first
      | (at_builtin
         rw [<- e5]
         refine wpList_append_X w5 rfl (.tmp 23) (.tmp 25) 62 rfl 70 zTrow 2 32 Tryz.underlying62 (by kernel_rfl) rfl (by omega) (w.heap.size+1) (.slice A' m c') m _ G5.out (some ⟨w3.heap.size,0,none⟩) 1 1 _ rfl T5.out hs5 (by unfold maxLen;omega) (by omega) rfl rfl ?_
         intro A6 c6 w6 G6 hGr6
         have G6h:=LH G6
         have Z6:=LH (Nat.le_trans hs5 hGr6.size)
         have Ra6:=LH (hGr6.row (HRa.out.below E5.out HRa.out.lt) (fun e=>by have:=(HOW.out _ e).1;omega))
         have B6:=LH (B5.out.trans (hGr6.below (B:=w.heap.size) (by omega) (fun g hg=>by have:=(HOW.out g hg).1;omega)))
         clear G6 hGr6))
    go_roundw
    case rel=>exact⟨j+1,m+1,A6,c6,by omega,by go_num,rfl,by omega,LH (by rw [HV.out,List.map_append];exact G6h.out),Ra6,Z6.out,B6⟩
    case measure=>simp [intOf];omega
   ·
    obtain⟨k,hk,ek,hpk,-⟩:=idxI_spec (p:=fun x:GAsk=>x.path ==a.path) (l:=r.asks) (show 0<=findA r.asks a.path by rw [HFI.out];omega)
    obtain rfl:fi=(k:Int):=by rw [<- HFI.out];exact ek
    have hpe:r.asks[k].path=a.path:=by simpa using hpk
    obtain⟨b2,off2,D1,f1,D2,f2,rfl,hSb2,q0,q1,q2,q3,q4,q5,hatk⟩:=GAsk.elem (HAT.out.2.keep (w':=w3) (S':=S) fun q hq=>⟨hq,E3.out.block q (by have:=HSL.out q hq;omega)⟩) k hk
    have hSb2':b2<w.heap.size:=HSL.out _ hSb2
    have dn:decide ((k:Int)<0)=false:=decide_eq_false hnn
    have HYE:=LH (show yes1 a r=if sameP r.asks[k].pat a.pat=true then some ⟨r.alt,r.asks.take k++bareA (kidsA a.path 0 r.asks[k].pat.kids)++r.asks.drop (k+1)⟩ else none by
      unfold yes1
      rw [HFI.out,if_neg hnn]
      simp [hk])
    have hkn:r.asks[k].pat.kids.length<=1048576:=by
     have h1:=asksM_mem (List.getElem_mem hk)
     have h2:=GNode.bulk_eq r.asks[k].pat
     have h3:=bulkL_len GNode.bulk r.asks[k].pat.kids
     omega
    have HTM:=LH (show asksM (r.asks.take k++kidsA a.path 0 r.asks[k].pat.kids++r.asks.drop (k+1))<=asksM r.asks from asksM_turned r.asks k hk a.path)
    obtain⟨x,hx⟩:∃ x,r.asks[k]=x:=⟨_,rfl⟩
    rw [hx] at q0 q1 q2 q3 q4 q5 hatk HYE hkn hpe HTM
    have HATK:=LH hatk
    have HPE:=LH hpe
    have HAL:=LH (fun u:World=>implSameAsk x.pat a.pat D2 f2 A2 c2 u)
    have hal3:=RA3.out.lt
    have F8:=LH (fun(u:World) (hu:∀ q,q<w3.heap.size->(Value.slice A' m c').ownBlock≠some q->u.heap[q]? =w3.heap[q]?)=>show(∀ i,u.cell? ⟨w.heap.size,i,none⟩=(#[.slice A1 a.path.length c1,.int .i64 a.pat.op,.int .i64 a.pat.n,.string a.pat.s,.string a.pat.t,.slice A2 a.pat.kids.length c2]:Array Value)[i]?)/\(∀ i,u.cell? ⟨wr.heap.size,i,none⟩=(#[.int .i64 r.alt,.slice (some ⟨b2,off2,none⟩) r.asks.length d1]:Array Value)[i]?)/\u.cell? ⟨b2,off2+k*6,none⟩=some (.slice D1 x.path.length f1)/\u.cell? ⟨b2,off2+k*6+1,none⟩=some (.int .i64 x.pat.op)/\u.cell? ⟨b2,off2+k*6+2,none⟩=some (.int .i64 x.pat.n)/\u.cell? ⟨b2,off2+k*6+3,none⟩=some (.string x.pat.s)/\u.cell? ⟨b2,off2+k*6+4,none⟩=some (.string x.pat.t)/\u.cell? ⟨b2,off2+k*6+5,none⟩=some (.slice D2 x.pat.kids.length f2) from by
      have n1:(Value.slice A' m c').ownBlock≠some w.heap.size:=fun e=>by have:=(HOW.out _ e).1;omega
      have n2:(Value.slice A' m c').ownBlock≠some wr.heap.size:=fun e=>by have:=(HOW.out _ e).2;omega
      have n3:(Value.slice A' m c').ownBlock≠some b2:=fun e=>by have:=(HOW.out _ e).1;omega
      have l1:w.heap.size<w3.heap.size:=by omega
      have l2:wr.heap.size<w3.heap.size:=by omega
      have l3:b2<w3.heap.size:=by omega
      exact⟨fun i=>(World.cell?_of_block (hu _ l1 n1)).trans (RA3.out.cell i),fun i=>(World.cell?_of_block (hu _ l2 n2)).trans (RR3.out.cell i),(World.cell?_of_block (hu _ l3 n3)).trans q0,(World.cell?_of_block (hu _ l3 n3)).trans q1,(World.cell?_of_block (hu _ l3 n3)).trans q2,(World.cell?_of_block (hu _ l3 n3)).trans q3,(World.cell?_of_block (hu _ l3 n3)).trans q4,(World.cell?_of_block (hu _ l3 n3)).trans q5⟩)
    clear hpk ek hnn hatk hpe hx q0 q1 q2 q3 q4 q5
    go_upto_region 8 with (fail)
    refine wp_region_T (fun u=>(∀ i,u.cell? ⟨w.heap.size,i,none⟩=(#[.slice A1 a.path.length c1,.int .i64 a.pat.op,.int .i64 a.pat.n,.string a.pat.s,.string a.pat.t,.slice A2 a.pat.kids.length c2]:Array Value)[i]?)/\(∀ i,u.cell? ⟨wr.heap.size,i,none⟩=(#[.int .i64 r.alt,.slice (some ⟨b2,off2,none⟩) r.asks.length d1]:Array Value)[i]?)/\u.cell? ⟨b2,off2+k*6,none⟩=some (.slice D1 x.path.length f1)/\u.cell? ⟨b2,off2+k*6+1,none⟩=some (.int .i64 x.pat.op)/\u.cell? ⟨b2,off2+k*6+2,none⟩=some (.int .i64 x.pat.n)/\u.cell? ⟨b2,off2+k*6+3,none⟩=some (.string x.pat.s)/\u.cell? ⟨b2,off2+k*6+4,none⟩=some (.string x.pat.t)/\u.cell? ⟨b2,off2+k*6+5,none⟩=some (.slice D2 x.pat.kids.length f2)) 100 (by kernel_rfl) ?_
    have hS1:=F8.out w3.drew (fun _ _ _=>rfl)
    refine wpAnyT_tk (i:=0) (oi:=_) (v:=?tv1) rfl (Or.inl ⟨by rfl,?th1⟩) hS1 ?_
    case th1=>(intro x hSx;(try dsimp only at hSx);go_simp;(try with_reducible rfl))
    try simp only [nA,nB,nC,Act.put,nD,nE,nF]
    refine wpAnyT_tk (i:=1) (oi:=_) (v:=?tv2) rfl (Or.inl ⟨by rfl,?th2⟩) hS1 ?_
    case th2=>(intro x hSx;(try dsimp only at hSx);go_simp;(try with_reducible rfl))
    try simp only [nA,nB,nC,Act.put,nD,nE,nF]
    refine wpAnyT_tk (i:=2) (oi:=_) (v:=?tv3) rfl (Or.inl ⟨by rfl,?th3⟩) hS1 ?_
    case th3=>(intro x hSx;(try dsimp only at hSx);go_simp;(try with_reducible rfl))
    try simp only [nA,nB,nC,Act.put,nD,nE,nF]
    refine wpAnyT_tk (i:=3) (oi:=_) (v:=?tv4) rfl (Or.inl ⟨by rfl,?th4⟩) hS1 ?_
    case th4=>(intro x hSx;(try dsimp only at hSx);go_simp;(try with_reducible rfl))
    try simp only [nA,nB,nC,Act.put,nD,nE,nF]
    refine wpAnyT_tk (i:=4) (oi:=_) (v:=?tv5) rfl (Or.inl ⟨by rfl,?th5⟩) hS1 ?_
    case th5=>(intro x hSx;(try dsimp only at hSx);go_simp;(try with_reducible rfl))
    try simp only [nA,nB,nC,Act.put,nD,nE,nF]
    refine wpAnyT_tk (i:=5) (oi:=_) (v:=?tv6) rfl (Or.inl ⟨by rfl,?th6⟩) hS1 ?_
    case th6=>(intro x hSx;(try dsimp only at hSx);go_simp;(try with_reducible rfl))
    try simp only [nA,nB,nC,Act.put,nD,nE,nF]
    refine wpAnyT_tk (i:=6) (oi:=_) (v:=?tv7) rfl (Or.inl ⟨by rfl,?th7⟩) hS1 ?_
    case th7=>(intro x hSx;(try dsimp only at hSx);go_simp;(try with_reducible rfl))
    try simp only [nA,nB,nC,Act.put,nD,nE,nF]
    refine wpAnyT_tk (i:=7) (oi:=_) (v:=?tv8) rfl (Or.inl ⟨by rfl,?th8⟩) hS1 ?_
    case th8=>(intro x hSx;(try dsimp only at hSx);go_simp;(try with_reducible rfl))
    try simp only [nA,nB,nC,Act.put,nD,nE,nF]
    refine wpAnyT_step (i:=8) (by kernel_rfl) rfl (fun K hK=>?_)
    try simp only [nA,nB,nC]
    go_simp
    go_at_call 86
    refine(HAL.out w3.drew).mono ?_
    rintro e w4 ⟨rfl,hb4⟩
    have E4:=LH (((Below.refl w3.heap.size w3).drew).trans hb4)
    clear hb4
    refine hK.out _ _ (F8.out _ (fun q hq _=>E4.out.block q hq)) (fun hS4=>?_)
    clear hK K hS1
    try simp only [nA,nB,nC,Act.put,nD,nE,nF]
    refine wpAnyT_step (i:=9) (by kernel_rfl) rfl (fun K hK=>?_)
    try simp only [nA,nB,nC]
    go_simp
    refine hK.out _ _ hS4 (fun hS4b=>?_)
    clear hK K hS4
    try simp only [nA,nB,nC,Act.put,nD,nE,nF]
    refine wpAnyT_done (by kernel_rfl) ?_ _
    have hz4:=E4.out.size
    have RA4:=LH (RA3.out.below E4.out RA3.out.lt)
    have G4:=LH (G3.out.below E4.out)
    have B4:=LH (B3.out.trans (E4.out.mono (by omega)))
    have hs4:w.heap.size+1<=w4.heap.size:=by omega
    cases hsp:sameP x.pat a.pat
    · have HV:=LH (show yesR a (rows.take (j+1))=yesR a (rows.take j) by rw [HT.out,HYE.out,hsp];simp)
      clear hsp hS4b
      go_wp2_with fail
      go_roundw
      case rel=>exact⟨j+1,m,A',c',by omega,by go_num,rfl,by omega,LH (by rw [HV.out];exact G4.out),RA4,hs4,B4⟩
      case measure=>simp [intOf];omega
    ·
     have HV:=LH (show yesR a (rows.take (j+1))=yesR a (rows.take j)++[⟨r.alt,r.asks.take k++bareA (kidsA a.path 0 x.pat.kids)++r.asks.drop (k+1)⟩] by rw [HT.out,HYE.out,hsp];rfl)
     clear hsp hS4b
     have HH:=run_headAt (P:=Tryz.prog) 65 68 6 Tryz.underlying65 (by kernel_rfl) b2 off2 r.asks.length d1 k k rfl (by omega)
     have HRE:=run_restAt (P:=Tryz.prog) 65 68 6 Tryz.underlying65 (by kernel_rfl) b2 off2 r.asks.length d1 (k+1) ((k:Int)+1) (by omega) (by omega) (by omega)
     have hwk:IntKind.i64.wrap ((k:Int)+1)=(k:Int)+1:=(IntWalk.i64_left _).trans (IntWalk.wrap64_in ((k:Int)+1) (by omega))
     have F9:=LH (fun(u:World) (hu:∀ q,q<w4.heap.size->(Value.slice A' m c').ownBlock≠some q->u.heap[q]? =w4.heap[q]?)=>F8.out u (fun q hq hq2=>(hu q (by omega) hq2).trans (E4.out.block q hq)))
     have SX:=LH (fun(u:World) (hu:Below w4.heap.size w4 u) (q:Nat) (hq:S q)=>show q<u.heap.size/\u.heap[q]? =wr.heap[q]? from⟨by have:=HSL.out q hq;have:=hu.size;omega,(hu.block q (by have:=HSL.out q hq;omega)).trans ((E4.out.block q (by have:=HSL.out q hq;omega)).trans (E3.out.block q (by have:=HSL.out q hq;omega)))⟩)
     go_upto_region 9 with (fail)
     refine wp_region_T (fun u=>(∀ i,u.cell? ⟨w.heap.size,i,none⟩=(#[.slice A1 a.path.length c1,.int .i64 a.pat.op,.int .i64 a.pat.n,.string a.pat.s,.string a.pat.t,.slice A2 a.pat.kids.length c2]:Array Value)[i]?)/\(∀ i,u.cell? ⟨wr.heap.size,i,none⟩=(#[.int .i64 r.alt,.slice (some ⟨b2,off2,none⟩) r.asks.length d1]:Array Value)[i]?)/\u.cell? ⟨b2,off2+k*6,none⟩=some (.slice D1 x.path.length f1)/\u.cell? ⟨b2,off2+k*6+1,none⟩=some (.int .i64 x.pat.op)/\u.cell? ⟨b2,off2+k*6+2,none⟩=some (.int .i64 x.pat.n)/\u.cell? ⟨b2,off2+k*6+3,none⟩=some (.string x.pat.s)/\u.cell? ⟨b2,off2+k*6+4,none⟩=some (.string x.pat.t)/\u.cell? ⟨b2,off2+k*6+5,none⟩=some (.slice D2 x.pat.kids.length f2)) 23 (by kernel_rfl) ?_
     have hS5:=F9.out w4.drew (fun _ _ _=>rfl)
     refine wpAnyT_tk (i:=0) (oi:=_) (v:=?tv9) rfl (Or.inl ⟨by rfl,?th9⟩) hS5 ?_
     case th9=>(intro x hSx;(try dsimp only at hSx);go_simp;(try with_reducible rfl))
     try simp only [nA,nB,nC,Act.put,nD,nE,nF]
     refine wpAnyT_tk (i:=1) (oi:=_) (v:=?tv10) rfl (Or.inl ⟨by rfl,?th10⟩) hS5 ?_
     case th10=>(intro x hSx;(try dsimp only at hSx);go_simp;(try with_reducible rfl))
     try simp only [nA,nB,nC,Act.put,nD,nE,nF]
     refine wpAnyT_tk (i:=2) (oi:=_) (v:=?tv11) rfl (Or.inl ⟨by rfl,?th11⟩) hS5 ?_
     case th11=>(intro x hSx;(try dsimp only at hSx);go_simp;(try with_reducible rfl))
     try simp only [nA,nB,nC,Act.put,nD,nE,nF]
     refine wpAnyT_tk (i:=3) (oi:=_) (v:=?tv12) rfl (Or.inl ⟨by rfl,?th12⟩) hS5 ?_
     case th12=>(intro x hSx;(try dsimp only at hSx);go_simp;(try with_reducible rfl))
     try simp only [nA,nB,nC,Act.put,nD,nE,nF]
     refine wpAnyT_tk (i:=4) (oi:=_) (v:=?tv13) rfl (Or.inl ⟨by rfl,?th13⟩) hS5 ?_
     case th13=>(intro x hSx;(try dsimp only at hSx);go_simp;(try with_reducible rfl))
     try simp only [nA,nB,nC,Act.put,nD,nE,nF]
     refine wpAnyT_tk (i:=5) (oi:=_) (v:=?tv14) rfl (Or.inl ⟨by rfl,?th14⟩) hS5 ?_
     case th14=>(intro x hSx;(try dsimp only at hSx);go_simp;(try with_reducible rfl))
     try simp only [nA,nB,nC,Act.put,nD,nE,nF]
     refine wpAnyT_tk (i:=6) (oi:=_) (v:=?tv15) rfl (Or.inl ⟨by rfl,?th15⟩) hS5 ?_
     case th15=>(intro x hSx;(try dsimp only at hSx);go_simp;(try with_reducible rfl))
     try simp only [nA,nB,nC,Act.put,nD,nE,nF]
     refine wpAnyT_tk (i:=7) (oi:=_) (v:=?tv16) rfl (Or.inl ⟨by rfl,?th16⟩) hS5 ?_
     case th16=>(intro x hSx;(try dsimp only at hSx);go_simp;(try with_reducible rfl))
     try simp only [nA,nB,nC,Act.put,nD,nE,nF]
     refine wpAnyT_tk (i:=8) (oi:=_) (v:=?tv17) rfl (Or.inl ⟨by rfl,?th17⟩) hS5 ?_
     case th17=>(intro x hSx;(try dsimp only at hSx);go_simp;(try with_reducible rfl))
     try simp only [nA,nB,nC,Act.put,nD,nE,nF]
     refine wpAnyT_tk (i:=9) (oi:=_) (v:=?tv18) rfl (Or.inl ⟨by rfl,?th18⟩) hS5 ?_
     case th18=>(intro x hSx;(try dsimp only at hSx);go_simp;(try with_reducible rfl))
     try simp only [nA,nB,nC,Act.put,nD,nE,nF]
     refine wpAnyT_tk (i:=10) (oi:=_) (v:=?tv19) rfl (Or.inl ⟨by rfl,?th19⟩) hS5 ?_
     case th19=>(intro x hSx;(try dsimp only at hSx);go_simp;(try with_reducible rfl))
     try simp only [nA,nB,nC,Act.put,nD,nE,nF]
     refine wpAnyT_tk (i:=11) (oi:=_) (v:=?tv20) rfl (Or.inl ⟨by rfl,?th20⟩) hS5 ?_
     case th20=>(intro x hSx;(try dsimp only at hSx);go_simp;(try with_reducible rfl))
     try simp only [nA,nB,nC,Act.put,nD,nE,nF]
     refine wpAnyT_tk (i:=13) (oi:=_) (v:=?tv21) rfl (Or.inl ⟨by rfl,?th21⟩) hS5 ?_
     case th21=>(intro x hSx;(try dsimp only at hSx);go_simp;(try with_reducible rfl))
     try simp only [nA,nB,nC,Act.put,nD,nE,nF]
     refine wpAnyT_tk (i:=14) (oi:=_) (v:=?tv22) rfl (Or.inl ⟨by rfl,?th22⟩) hS5 ?_
     case th22=>(intro x hSx;(try dsimp only at hSx);go_simp;(try with_reducible rfl))
     try simp only [nA,nB,nC,Act.put,nD,nE,nF]
     refine wpAnyT_tk (i:=15) (oi:=_) (v:=?tv23) rfl (Or.inl ⟨by rfl,?th23⟩) hS5 ?_
     case th23=>(intro x hSx;(try dsimp only at hSx);go_simp;(try with_reducible rfl))
     try simp only [nA,nB,nC,Act.put,nD,nE,nF]
     refine wpAnyT_tk (i:=16) (oi:=_) (v:=?tv24) rfl (Or.inl ⟨by rfl,?th24⟩) hS5 ?_
     case th24=>(intro x hSx;(try dsimp only at hSx);go_simp;(try with_reducible rfl))
     try simp only [nA,nB,nC,Act.put,nD,nE,nF]
     refine wpAnyT_tk (i:=17) (oi:=_) (v:=?tv25) rfl (Or.inl ⟨by rfl,?th25⟩) hS5 ?_
     case th25=>(intro x hSx;(try dsimp only at hSx);go_simp;(try with_reducible rfl))
     try simp only [nA,nB,nC,Act.put,nD,nE,nF]
     refine wpAnyT_step (i:=12) (by kernel_rfl) rfl (fun K hK=>?_)
     try simp only [nA,nB,nC]
     go_simp
     go_at_call 88
     refine(implInside S x D1 f1 D2 f2 w4.drew (by rw [HPE.out];omega) hkn (fun q hq=>by have:=HSL.out q hq;show q<w4.heap.size;omega) (HATK.out.keep fun q hq=>⟨hq,E4.out.block q (by have:=HSL.out q hq;omega)⟩)).mono ?_
     rintro e w5 ⟨I1,i1,rfl,hin,hb5⟩
     have E5:=LH (((Below.refl w4.heap.size w4).drew).trans hb5)
     have hz5:=E5.out.size
     obtain⟨L,hL⟩:∃ L,bareA (kidsA x.path 0 x.pat.kids)=L:=⟨_,rfl⟩
     rw [hL] at hin ⊢
     have HIN:=LH hin
     have HLE:=LH (show bareA (kidsA a.path 0 x.pat.kids)=L by rw [<- hL,HPE.out])
     clear hin hb5 hL
     refine hK.out _ _ (F9.out _ (fun q hq _=>E5.out.block q hq)) (fun hS6=>?_)
     clear hK K hS5
     try simp only [nA,nB,nC,Act.put,nD,nE,nF]
     refine wpAnyT_step (i:=18) (by kernel_rfl) rfl (fun K hK=>?_)
     try simp only [nA,nB,nC]
     go_simp
     obtain⟨w6,e6⟩:∃ w6,w6=w5.alloc (.cells #[.slice (some ⟨b2,off2,none⟩) k d1,.slice I1 L.length i1,.slice (restAt b2 off2 6 (k+1) d1) (r.asks.length - (k+1)) (d1 - (k+1))] 65):=⟨_,rfl⟩
     rw [<- e6]
     have E6:=LH (show Below w4.heap.size w4 w6 by rw [e6];exact E5.out.alloc E5.out.size _)
     have hz6:w5.heap.size<w6.heap.size:=by rw [e6];simp
     have h56:∀ q,q<w5.heap.size->w6.heap[q]? =w5.heap[q]?:=fun q hq=>by rw [e6];exact Below.heap_alloc _ _ _ hq
     have R6:=LH (show Row w6 w5.heap.size 65 #[.slice (some ⟨b2,off2,none⟩) (r.asks.take k).length d1,.slice I1 L.length i1,.slice (restAt b2 off2 6 (k+1) d1) (r.asks.drop (k+1)).length (d1 - (k+1))] by
       rw [e6,show(r.asks.take k).length=k by rw [List.length_take];omega,List.length_drop]
       exact Row.new _ _ _)
     obtain⟨X,hX⟩:∃ X:Nat->Prop,X=fun q=>(Value.slice A' m c').ownBlock≠some q/\Xs S w.heap.size q:=⟨_,rfl⟩
     have HXS:=LH (show ∀ q,S q->X q from fun q hq=>by rw [hX];exact⟨fun e=>by have:=(HOW.out q e).1;have:=HSL.out q hq;omega,.inl hq⟩)
     have HXN:=LH (show ∀ q,w4.heap.size<=q->X q from fun q hq=>by rw [hX];exact⟨fun e=>by have:=(HOW.out q e).2;omega,.inr (by omega)⟩)
     have HXO:=LH (show ∀ q,X q->(Value.slice A' m c').ownBlock≠some q/\Xs S w.heap.size q from fun q hq=>by rw [hX] at hq;exact hq)
     have T6:=LH (show Sl w6 (Lx X w6) 1 (some ⟨w5.heap.size,0,none⟩) 3 ([r.asks.take k,L,r.asks.drop (k+1)].map rowDA) from
       slThreeRows R6.out (HXN.out _ hz5)
         (by rw [List.map_take];exact(HAT.out.2.take k).keep fun q hq=>⟨⟨(SX.out _ E6.out q hq).1,HXS.out q hq⟩,(SX.out _ E6.out q hq).2⟩)
         (HIN.out.keep fun q hq=>⟨⟨by have:=hq.2;omega,by rcases hq.1 with h | h;exact HXS.out q h;exact HXN.out q h⟩,h56 q hq.2⟩)
         (by rw [List.map_drop];exact(Sl.restAt HAT.out.2 (by rw [List.length_map];omega)).keep fun q hq=>⟨⟨(SX.out _ E6.out q hq).1,HXS.out q hq⟩,(SX.out _ E6.out q hq).2⟩))
     have HCC:=LH (show Calls Tryz.prog 87 #[.slice (some ⟨w5.heap.size,0,none⟩) 3 3] w6 (LToA X (r.asks.take k++L++r.asks.drop (k+1)) w6) from by
       have hbl:([r.asks.take k,L,r.asks.drop (k+1)]:List (List GAsk)).flatten=r.asks.take k++L++r.asks.drop (k+1):=by simp [List.append_assoc]
       have hlen:(r.asks.take k++L++r.asks.drop (k+1)).length<=1099511627776:=by
         have h1:L.length<=(kidsA a.path 0 x.pat.kids).length:=by rw [<- HLE.out];exact List.length_filter_le _ _
         rw [kidsA_len] at h1
         simp only [List.length_append,List.length_take,List.length_drop]
         omega
       have h:=implConcatA X [r.asks.take k,L,r.asks.drop (k+1)] (some ⟨w5.heap.size,0,none⟩) 3 w6 (fun q hq=>HXN.out q (by omega)) (by rw [hbl];exact hlen) T6.out
       rw [hbl] at h
       exact h)
     clear e6 hX h56
     refine hK.out _ _ (F9.out _ (fun q hq _=>E6.out.block q hq)) (fun hS7=>?_)
     clear hK K hS6
     try simp only [nA,nB,nC,Act.put,nD,nE,nF]
     refine wpAnyT_step (i:=19) (by kernel_rfl) rfl (fun K hK=>?_)
     try simp only [nA,nB,nC]
     go_simp
     go_at_call 87
     refine HCC.out.mono ?_
     rintro e w7 ⟨C1,k1,rfl,hcc,hb7⟩
     obtain⟨M,hM⟩:∃ M,r.asks.take k++L++r.asks.drop (k+1)=M:=⟨_,rfl⟩
     rw [hM] at hcc ⊢
     have E7:=LH (E6.out.trans (hb7.mono E6.out.size))
     have hz7:=hb7.size
     have HC7:=LH hcc
     have HV2:=LH (show yesR a (rows.take (j+1))=yesR a (rows.take j)++[⟨r.alt,M⟩] by rw [HV.out,HLE.out,hM])
     clear hcc hb7 hM
     refine hK.out _ _ (F9.out _ (fun q hq _=>E7.out.block q hq)) (fun hS8=>?_)
     clear hK K hS7
     try simp only [nA,nB,nC,Act.put,nD,nE,nF]
     refine wpAnyT_tk (i:=20) (oi:=_) (v:=?tv26) rfl (Or.inl ⟨by rfl,?th26⟩) hS8 ?_
     case th26=>(intro x hSx;(try dsimp only at hSx);go_simp;(try with_reducible rfl))
     try simp only [nA,nB,nC,Act.put,nD,nE,nF]
     refine wpAnyT_step (i:=21) (by kernel_rfl) rfl (fun K hK=>?_)
     try simp only [nA,nB,nC]
     go_simp
     obtain⟨w8,e8⟩:∃ w8,w8=w7.alloc (.cells #[.int .i64 r.alt,.slice C1 M.length k1] 70):=⟨_,rfl⟩
     rw [<- e8]
     have E8:=LH (show Below w4.heap.size w4 w8 by rw [e8];exact E7.out.alloc E7.out.size _)
     have hz8:w7.heap.size<w8.heap.size:=by rw [e8];simp
     have T8:=LH (show Sl w8 (fun q=>q<w8.heap.size/\(Value.slice A' m c').ownBlock≠some q/\Xs S w.heap.size q) 2 (some ⟨w7.heap.size,0,none⟩) 1 [(⟨r.alt,M⟩:GTrow).toD] from
       slOne (T:=70) (cs:=[.int .i64 r.alt,.slice C1 M.length k1]) (by rw [e8];exact Row.new' _ _ _ rfl) (GTrow.rd_mk (t:=⟨r.alt,M⟩) ⟨HAT.out.1,HC7.out.keep fun q hq=>⟨⟨by have:=hq.1;omega,(HXO.out q hq.2).1,(HXO.out q hq.2).2⟩,by rw [e8];exact Below.heap_alloc _ _ _ hq.1⟩⟩) rfl ⟨hz8,fun e=>by have:=(HOW.out _ e).2;omega,.inr (by omega)⟩)
     have G8:=LH (G4.out.below E8.out)
     have hs8:w.heap.size+1<=w8.heap.size:=by omega
     clear e8
     refine hK.out _ _ (F9.out _ (fun q hq _=>E8.out.block q hq)) (fun hS9=>?_)
     clear hK K hS8
     try simp only [nA,nB,nC,Act.put,nD,nE,nF]
     refine wpAnyT_step (i:=22) (by kernel_rfl) rfl (fun K hK=>?_)
     refine step_append_X _ rfl (.tmp 37) (.tmp 58) 62 rfl 70 zTrow 2 32 Tryz.underlying62 (by kernel_rfl) rfl (by omega) (w.heap.size+1) (.slice A' m c') m _ G8.out (some ⟨w7.heap.size,0,none⟩) 1 1 _ rfl T8.out hs8 (by unfold maxLen;omega) (by omega) rfl rfl ?_
     intro A9 c9 w9 G9 hGr9
     have G9h:=LH G9
     have Z9:=LH (Nat.le_trans hs8 hGr9.size)
     have Ra9:=LH (hGr9.row (RA4.out.below E8.out RA4.out.lt) (fun e=>by have:=(HOW.out _ e).1;omega))
     have B9:=LH ((B4.out.trans (E8.out.mono (by omega))).trans (hGr9.below (B:=w.heap.size) (by omega) (fun g hg=>by have:=(HOW.out g hg).1;omega)))
     have K9:=LH (fun q (hq:q<w4.heap.size) (hq2:(Value.slice A' m c').ownBlock≠some q)=>(hGr9.grow.block q (by omega) (fun e=>hq2 e.symm)).trans (E8.out.block q hq))
     clear G9 hGr9
     refine hK.out _ _ (F9.out _ K9.out) (fun hS10=>?_)
     clear hK K hS9
     try simp only [nA,nB,nC,Act.put,nD,nE,nF]
     refine wpAnyT_last (by kernel_rfl) (by kernel_rfl) rfl (fun K hK=>?_)
     try simp only [nA,nB,nC]
     go_simp
     refine hK.out _ _ ?_
     clear hK K
     try simp only [nA,nB,nC,Act.put,nD,nE,nF]
     clear hS10 HH HRE hwk
     go_wp2_with fail
     go_roundw
     case rel=>exact⟨j+1,m+1,A9,c9,by omega,by go_num,rfl,by omega,LH (by rw [HV2.out,List.map_append];exact G9h.out),Ra9,Z9.out,B9⟩
     case measure=>simp [intOf];omega
  ·
   have hje:j=rows.length:=by omega
   have HLE:=LH (show rows.take j=rows by rw [hje,List.take_length])
   clear hje
   go_wp2_with fail
   go_ret
   have hG:=HG.out
   rw [HLE.out] at hG
   obtain⟨A5,c5,e5,hs5⟩:=hG.slY (Y:=Xs S w.heap.size) (fun _ h=>h) (fun b h=>.inr (by omega))
   have hl5:=hG.1
   obtain⟨rfl,rfl⟩:A'=A5/\c'=c5:=by simpa using e5
   exact⟨A',c',ret_sl (by rw [<- hl5];simp),hs5,HB.out⟩
theorem implFailing1 (a x:GAsk) (A1:Option Addr) (c1:Nat) (A2:Option Addr) (c2:Nat) (B1:Option Addr) (d1:Nat) (B2:Option Addr) (d2:Nat) (g:Nat) (w:World) (hr:Row w g 68 #[.slice A1 a.path.length c1,.int .i64 a.pat.op,.int .i64 a.pat.n,.string a.pat.s,.string a.pat.t,.slice A2 a.pat.kids.length c2]) (ha:Sl w (Lt w.heap.size) 1 A1 c1 (a.path.map (D.num .i64))) (hx:Sl w (Lt w.heap.size) 1 B1 d1 (x.path.map (D.num .i64))):
 Calls Tryz.prog 89 (#[.agg #[.slice B1 x.path.length d1,.int .i64 x.pat.op,.int .i64 x.pat.n,.string x.pat.s,.string x.pat.t,.slice B2 x.pat.kids.length d2]]++#[.pointer (some ⟨g,0,none⟩)]) w fun e w'=>e= .returned (.bool (x.path ==a.path))/\Below w.heap.size w w':=by
 obtain⟨w0,e0⟩:∃ w0,w0=w.alloc (.cells #[.slice B1 x.path.length d1,.int .i64 x.pat.op,.int .i64 x.pat.n,.string x.pat.s,.string x.pat.t,.slice B2 x.pat.kids.length d2] 68):=⟨_,rfl⟩
 have E0:=LH (show Below w.heap.size w w0 by rw [e0];exact(Below.refl _ _).alloc (Nat.le_refl _) _)
 have HR:=LH hr
 have hgl:=hr.lt
 have hca:=fun i=>HR.out.cell i
 have HC:=LH (equalInts x.path a.path B1 d1 A1 c1 w0 (hx.below E0.out E0.out.size) (ha.below E0.out E0.out.size))
 clear hr ha hx
 go_enter Tryz.func89,Tryz.ntmps89
 go_wp2_with fail
 rw [<- e0]
 refine HC.out.mono ?_
 rintro e w1 ⟨rfl,hb1⟩
 go_wp2_with fail
 go_ret
 exact⟨rfl,E0.out.trans (hb1.mono E0.out.size)⟩
theorem implFindF (a:GAsk) (l:List GAsk) (A:Option Addr) (c:Nat) (A1:Option Addr) (c1:Nat) (A2:Option Addr) (c2:Nat) (g:Nat) (w:World) (hr:Row w g 68 #[.slice A1 a.path.length c1,.int .i64 a.pat.op,.int .i64 a.pat.n,.string a.pat.s,.string a.pat.t,.slice A2 a.pat.kids.length c2]) (ha:Sl w (Lt w.heap.size) 1 A1 c1 (a.path.map (D.num .i64))) (hs:Sl w (Lt w.heap.size) 6 A c (l.map GAsk.toD)):
 Calls Tryz.prog 83 #[.slice A l.length c,.func (.func 89) #[] #[.pointer (some ⟨g,0,none⟩)]] w fun e w'=>e= .returned (.int .i64 (findA l a.path))/\Below w.heap.size w w':=
 indexFuncAsk 89 (enters Tryz.func89 (by kernel_rfl) (by kernel_rfl)) #[.pointer (some ⟨g,0,none⟩)] (fun x=>x.path ==a.path) l A c w hs
  (fun x hx B1 d1 B2 d2 w2 hb hat=>implFailing1 a x A1 c1 A2 c2 B1 d1 B2 d2 g w2 (hr.below hb hr.lt) (ha.below hb hb.size) hat.1)
theorem implFailing (S:Nat->Prop) (a:GAsk) (rows:List GTrow) (A:Option Addr) (c:Nat) (A1:Option Addr) (c1:Nat) (A2:Option Addr) (c2:Nat) (w:World) (hl:rows.length<=1048576) (hb:∀ r∈rows,r.asks.length<=1048576) (hS:∀ b,S b->b<w.heap.size) (hs:Sl w S 2 A c (rows.map GTrow.toD)) (ha:GAsk.At w (Lt w.heap.size) A1 c1 A2 c2 a):
 Calls Tryz.prog 58 #[.slice A rows.length c,.agg #[.slice A1 a.path.length c1,.int .i64 a.pat.op,.int .i64 a.pat.n,.string a.pat.s,.string a.pat.t,.slice A2 a.pat.kids.length c2]] w (ToTrowsS S (noR a rows) w):=by
 have HS:=LH hs
 have HA:=LH ha
 have HBD:=LH hb
 have HSL:=LH hS
 clear hs ha hb hS
 obtain⟨w0,e0⟩:∃ w0,w0=(w.alloc (.cells #[.slice A1 a.path.length c1,.int .i64 a.pat.op,.int .i64 a.pat.n,.string a.pat.s,.string a.pat.t,.slice A2 a.pat.kids.length c2] 68)).alloc (.cells #[] 70):=⟨_,rfl⟩
 have HB0:=LH (show Below w.heap.size w w0 by rw [e0];exact((Below.refl _ _).alloc (Nat.le_refl _) _).alloc (by simp) _)
 have HRa0:=LH (show Row w0 w.heap.size 68 #[.slice A1 a.path.length c1,.int .i64 a.pat.op,.int .i64 a.pat.n,.string a.pat.s,.string a.pat.t,.slice A2 a.pat.kids.length c2] by rw [e0];exact(Row.new' _ _ _ rfl).alloc _)
 have G0:=LH (show Grx (Xs S w.heap.size) w0 (w.heap.size+1) 70 2 (.slice (some ⟨w.heap.size+1,0,none⟩) 0 0) 0 [] from Grx.made (by rw [e0];exact Row.new' _ _ _ (by simp)) (Nat.le_refl _))
 have hs0:w.heap.size+1<=w0.heap.size:=by rw [e0];simp
 go_enter Tryz.func58,Tryz.ntmps58
 go_wp2_with fail
 rw [<- e0]
 clear e0
 go_loopw [5,12] (fun v i wr=>∃ (j m:Nat) (A':Option Addr) (c':Nat),j<=rows.length/\i= .int .i64 j/\v= .slice A' m c'/\m<=j/\Hid (Grx (Xs S w.heap.size) wr (w.heap.size+1) 70 2 (.slice A' m c') m ((noR a (rows.take j)).map GTrow.toD))/\Hid (Row wr w.heap.size 68 #[.slice A1 a.path.length c1,.int .i64 a.pat.op,.int .i64 a.pat.n,.string a.pat.s,.string a.pat.t,.slice A2 a.pat.kids.length c2])/\w.heap.size+1<=wr.heap.size/\Hid (Below w.heap.size w wr)) (fun _ i _=>rows.length - (intOf i).toNat)
 case atStart=>exact⟨0,0,_,_,by omega,by go_num,rfl,by omega,G0,HRa0,hs0,HB0⟩
 case round=>
  clear HRa0 HB0 G0 hs0
  obtain⟨j,m,A',c',hj,rfl,rfl,hm,HG,HRa,hs1,HB⟩:=hrel
  have hsz:=HB.out.size
  have HOW:=LH (fun g (hg:(Value.slice A' m c').ownBlock=some g)=>HG.out.own g hg)
  by_cases hlt:j<rows.length
  ·
   obtain⟨b,off,B1,d1,rfl,hSb,g0,g1,hat⟩:=GTrow.elem (HS.out.keep (w':=wr) (S':=S) fun q hq=>⟨hq,HB.out.block q (HSL.out q hq)⟩) j hlt
   have HT:=LH (noR_take (a:=a) (rows:=rows) (j:=j) hlt)
   have HBR:=LH (HBD.out _ (List.getElem_mem hlt))
   obtain⟨r,hr⟩:∃ r,rows[j]=r:=⟨_,rfl⟩
   rw [hr] at g0 g1 hat HT HBR
   have HAT:=LH hat
   have hd1:=hat.2.1
   rw [List.length_map] at hd1
   clear hat hr
   obtain⟨w2,e2⟩:∃ w2,w2=wr.alloc (.cells #[.int .i64 r.alt,.slice B1 r.asks.length d1] 70):=⟨_,rfl⟩
   have E2:=LH (show Below wr.heap.size wr w2 by rw [e2];exact(Below.refl _ _).alloc (Nat.le_refl _) _)
   have hz2:wr.heap.size<w2.heap.size:=by rw [e2];simp
   have RR2:=LH (show Row w2 wr.heap.size 70 #[.int .i64 r.alt,.slice B1 r.asks.length d1] by rw [e2];exact Row.new _ _ _)
   have RA2:=LH (HRa.out.below E2.out HRa.out.lt)
   obtain⟨fi,hfi⟩:∃ fi,findA r.asks a.path=fi:=⟨_,rfl⟩
   have hff:=implFindF a r.asks B1 d1 A1 c1 A2 c2 w.heap.size w2 RA2.out ((HA.out.1.below HB.out hsz).below E2.out E2.out.size) (HAT.out.2.keep fun q hq=>⟨(show q<w2.heap.size by have:=HSL.out q hq;omega),E2.out.block q (by have:=HSL.out q hq;omega)⟩)
   rw [hfi] at hff
   have HF:=LH hff
   have HFI:=LH hfi
   clear hff hfi
   go_upto_region 5 with (fail)
   rw [<- e2]
   clear e2 g0 g1
   have hcr:=fun i=>RR2.out.cell i
   go_wp2_with fail
   refine HF.out.mono ?_
   rintro e w3 ⟨rfl,hb3⟩
   have E3:=LH (E2.out.trans (hb3.mono E2.out.size))
   have hz3:=hb3.size
   have RR3:=LH (RR2.out.below hb3 RR2.out.lt)
   have RA3:=LH (RA2.out.below hb3 RA2.out.lt)
   have G3:=LH (HG.out.below E3.out)
   have B3:=LH (HB.out.trans (E3.out.mono hsz))
   clear hb3 hcr HF
   by_cases hnn:fi<0
   ·
    have HV:=LH (show noR a (rows.take (j+1))=noR a (rows.take j)++[r] by rw [HT.out];unfold no1;rw [HFI.out];simp [hnn])
    have dn:decide (fi<0)=true:=decide_eq_true hnn
    clear hnn
    go_wp2_with fail
    go_simp
    go_big_quiet (fail)
    obtain⟨w4,e4⟩:∃ w4,w4=w3.drewN nq:=⟨_,rfl⟩
    rw [<- e4]
    have E4:=LH (show Below wr.heap.size wr w4 by rw [e4];exact E3.out.trans ⟨rfl,rfl,rfl,Nat.le_refl _,fun _ _=>rfl⟩)
    have hz4:w3.heap.size=w4.heap.size:=by rw [e4];rfl
    have RR4:=LH (show Row w4 wr.heap.size 70 #[.int .i64 r.alt,.slice B1 r.asks.length d1] by rw [e4];exact RR3.out)
    have hcr:=fun i=>RR4.out.cell i
    clear e4
    obtain⟨w5,e5⟩:∃ w5,w5=w4.alloc (.cells #[.int .i64 r.alt,.slice B1 r.asks.length d1] 70):=⟨_,rfl⟩
    have E5:=LH (show Below wr.heap.size wr w5 by rw [e5];exact E4.out.alloc E4.out.size _)
    have G5:=LH (HG.out.below E5.out)
    have B5:=LH (HB.out.trans (E5.out.mono hsz))
    have hs5:w.heap.size+1<=w5.heap.size:=Nat.le_trans hs1 E5.out.size
    have hz5:w4.heap.size<w5.heap.size:=by rw [e5];simp
    have T5:=LH (show Sl w5 (fun b=>b<w5.heap.size/\(Value.slice A' m c').ownBlock≠some b/\Xs S w.heap.size b) 2 (some ⟨w4.heap.size,0,none⟩) 1 [r.toD] from
      slOne (T:=70) (cs:=[.int .i64 r.alt,.slice B1 r.asks.length d1]) (by rw [e5];exact Row.new' _ _ _ rfl) (GTrow.rd_mk (HAT.out.keep fun q hq=>⟨⟨by have:=HSL.out q hq;omega,fun e=>by have:=(HOW.out q e).1;have h4:=HSL.out q hq;omega,.inl hq⟩,E5.out.block q (by have:=HSL.out q hq;omega)⟩)) rfl ⟨hz5,fun e=>by have:=(HOW.out _ e).2;omega,.inr (by omega)⟩)
    go_wp2_with (first
      | (at_builtin
         rw [<- e5]
         refine wpList_append_X w5 rfl (.tmp 34) (.tmp 36) 62 rfl 70 zTrow 2 32 Tryz.underlying62 (by kernel_rfl) rfl (by omega) (w.heap.size+1) (.slice A' m c') m _ G5.out (some ⟨w4.heap.size,0,none⟩) 1 1 _ rfl T5.out hs5 (by unfold maxLen;omega) (by omega) rfl rfl ?_
         intro A6 c6 w6 G6 hGr6
         have G6h:=LH G6
         have Z6:=LH (Nat.le_trans hs5 hGr6.size)
         have Ra6:=LH (hGr6.row (HRa.out.below E5.out HRa.out.lt) (fun e=>by have:=(HOW.out _ e).1;omega))
         have B6:=LH (B5.out.trans (hGr6.below (B:=w.heap.size) (by omega) (fun g hg=>by have:=(HOW.out g hg).1;omega)))
         clear G6 hGr6))
    go_roundw
    case rel=>exact⟨j+1,m+1,A6,c6,by omega,by go_num,rfl,by omega,LH (by rw [HV.out,List.map_append];exact G6h.out),Ra6,Z6.out,B6⟩
    case measure=>simp [intOf];omega
   ·
    obtain⟨k,hk,ek,hpk,-⟩:=idxI_spec (p:=fun x:GAsk=>x.path ==a.path) (l:=r.asks) (show 0<=findA r.asks a.path by rw [HFI.out];omega)
    obtain rfl:fi=(k:Int):=by rw [<- HFI.out];exact ek
    have hpe:r.asks[k].path=a.path:=by simpa using hpk
    obtain⟨b2,off2,D1,f1,D2,f2,rfl,hSb2,q0,q1,q2,q3,q4,q5,hatk⟩:=GAsk.elem (HAT.out.2.keep (w':=w3) (S':=S) fun q hq=>⟨hq,E3.out.block q (by have:=HSL.out q hq;omega)⟩) k hk
    have hSb2':b2<w.heap.size:=HSL.out _ hSb2
    have dn:decide ((k:Int)<0)=false:=decide_eq_false hnn
    have HNO:=LH (show no1 a r= !sameP r.asks[k].pat a.pat by
      unfold no1
      rw [HFI.out,if_neg hnn]
      simp [hk])
    obtain⟨x,hx⟩:∃ x,r.asks[k]=x:=⟨_,rfl⟩
    rw [hx] at q0 q1 q2 q3 q4 q5 hatk HNO hpe
    have HAL:=LH (fun u:World=>implSameAsk x.pat a.pat D2 f2 A2 c2 u)
    have hal3:=RA3.out.lt
    have F8:=LH (fun(u:World) (hu:∀ q,q<w3.heap.size->(Value.slice A' m c').ownBlock≠some q->u.heap[q]? =w3.heap[q]?)=>show(∀ i,u.cell? ⟨w.heap.size,i,none⟩=(#[.slice A1 a.path.length c1,.int .i64 a.pat.op,.int .i64 a.pat.n,.string a.pat.s,.string a.pat.t,.slice A2 a.pat.kids.length c2]:Array Value)[i]?)/\(∀ i,u.cell? ⟨wr.heap.size,i,none⟩=(#[.int .i64 r.alt,.slice (some ⟨b2,off2,none⟩) r.asks.length d1]:Array Value)[i]?)/\u.cell? ⟨b2,off2+k*6,none⟩=some (.slice D1 x.path.length f1)/\u.cell? ⟨b2,off2+k*6+1,none⟩=some (.int .i64 x.pat.op)/\u.cell? ⟨b2,off2+k*6+2,none⟩=some (.int .i64 x.pat.n)/\u.cell? ⟨b2,off2+k*6+3,none⟩=some (.string x.pat.s)/\u.cell? ⟨b2,off2+k*6+4,none⟩=some (.string x.pat.t)/\u.cell? ⟨b2,off2+k*6+5,none⟩=some (.slice D2 x.pat.kids.length f2) from by
      have n1:(Value.slice A' m c').ownBlock≠some w.heap.size:=fun e=>by have:=(HOW.out _ e).1;omega
      have n2:(Value.slice A' m c').ownBlock≠some wr.heap.size:=fun e=>by have:=(HOW.out _ e).2;omega
      have n3:(Value.slice A' m c').ownBlock≠some b2:=fun e=>by have:=(HOW.out _ e).1;omega
      have l1:w.heap.size<w3.heap.size:=by omega
      have l2:wr.heap.size<w3.heap.size:=by omega
      have l3:b2<w3.heap.size:=by omega
      exact⟨fun i=>(World.cell?_of_block (hu _ l1 n1)).trans (RA3.out.cell i),fun i=>(World.cell?_of_block (hu _ l2 n2)).trans (RR3.out.cell i),(World.cell?_of_block (hu _ l3 n3)).trans q0,(World.cell?_of_block (hu _ l3 n3)).trans q1,(World.cell?_of_block (hu _ l3 n3)).trans q2,(World.cell?_of_block (hu _ l3 n3)).trans q3,(World.cell?_of_block (hu _ l3 n3)).trans q4,(World.cell?_of_block (hu _ l3 n3)).trans q5⟩)
    clear hpk ek hnn hatk hpe hx q0 q1 q2 q3 q4 q5
    go_upto_region 6 with (fail)
    refine wp_region_T (fun u=>(∀ i,u.cell? ⟨w.heap.size,i,none⟩=(#[.slice A1 a.path.length c1,.int .i64 a.pat.op,.int .i64 a.pat.n,.string a.pat.s,.string a.pat.t,.slice A2 a.pat.kids.length c2]:Array Value)[i]?)/\(∀ i,u.cell? ⟨wr.heap.size,i,none⟩=(#[.int .i64 r.alt,.slice (some ⟨b2,off2,none⟩) r.asks.length d1]:Array Value)[i]?)/\u.cell? ⟨b2,off2+k*6,none⟩=some (.slice D1 x.path.length f1)/\u.cell? ⟨b2,off2+k*6+1,none⟩=some (.int .i64 x.pat.op)/\u.cell? ⟨b2,off2+k*6+2,none⟩=some (.int .i64 x.pat.n)/\u.cell? ⟨b2,off2+k*6+3,none⟩=some (.string x.pat.s)/\u.cell? ⟨b2,off2+k*6+4,none⟩=some (.string x.pat.t)/\u.cell? ⟨b2,off2+k*6+5,none⟩=some (.slice D2 x.pat.kids.length f2)) 100 (by kernel_rfl) ?_
    have hS1:=F8.out w3.drew (fun _ _ _=>rfl)
    refine wpAnyT_tk (i:=0) (oi:=_) (v:=?tv1) rfl (Or.inl ⟨by rfl,?th1⟩) hS1 ?_
    case th1=>(intro x hSx;(try dsimp only at hSx);go_simp;(try with_reducible rfl))
    try simp only [nA,nB,nC,Act.put,nD,nE,nF]
    refine wpAnyT_tk (i:=1) (oi:=_) (v:=?tv2) rfl (Or.inl ⟨by rfl,?th2⟩) hS1 ?_
    case th2=>(intro x hSx;(try dsimp only at hSx);go_simp;(try with_reducible rfl))
    try simp only [nA,nB,nC,Act.put,nD,nE,nF]
    refine wpAnyT_tk (i:=2) (oi:=_) (v:=?tv3) rfl (Or.inl ⟨by rfl,?th3⟩) hS1 ?_
    case th3=>(intro x hSx;(try dsimp only at hSx);go_simp;(try with_reducible rfl))
    try simp only [nA,nB,nC,Act.put,nD,nE,nF]
    refine wpAnyT_tk (i:=3) (oi:=_) (v:=?tv4) rfl (Or.inl ⟨by rfl,?th4⟩) hS1 ?_
    case th4=>(intro x hSx;(try dsimp only at hSx);go_simp;(try with_reducible rfl))
    try simp only [nA,nB,nC,Act.put,nD,nE,nF]
    refine wpAnyT_tk (i:=4) (oi:=_) (v:=?tv5) rfl (Or.inl ⟨by rfl,?th5⟩) hS1 ?_
    case th5=>(intro x hSx;(try dsimp only at hSx);go_simp;(try with_reducible rfl))
    try simp only [nA,nB,nC,Act.put,nD,nE,nF]
    refine wpAnyT_tk (i:=5) (oi:=_) (v:=?tv6) rfl (Or.inl ⟨by rfl,?th6⟩) hS1 ?_
    case th6=>(intro x hSx;(try dsimp only at hSx);go_simp;(try with_reducible rfl))
    try simp only [nA,nB,nC,Act.put,nD,nE,nF]
    refine wpAnyT_tk (i:=6) (oi:=_) (v:=?tv7) rfl (Or.inl ⟨by rfl,?th7⟩) hS1 ?_
    case th7=>(intro x hSx;(try dsimp only at hSx);go_simp;(try with_reducible rfl))
    try simp only [nA,nB,nC,Act.put,nD,nE,nF]
    refine wpAnyT_tk (i:=7) (oi:=_) (v:=?tv8) rfl (Or.inl ⟨by rfl,?th8⟩) hS1 ?_
    case th8=>(intro x hSx;(try dsimp only at hSx);go_simp;(try with_reducible rfl))
    try simp only [nA,nB,nC,Act.put,nD,nE,nF]
    refine wpAnyT_tk (i:=8) (oi:=_) (v:=?tv9) rfl (Or.inl ⟨by rfl,?th9⟩) hS1 ?_
    case th9=>(intro x hSx;(try dsimp only at hSx);go_simp;(try with_reducible rfl))
    try simp only [nA,nB,nC,Act.put,nD,nE,nF]
    refine wpAnyT_tk (i:=9) (oi:=_) (v:=?tv10) rfl (Or.inl ⟨by rfl,?th10⟩) hS1 ?_
    case th10=>(intro x hSx;(try dsimp only at hSx);go_simp;(try with_reducible rfl))
    try simp only [nA,nB,nC,Act.put,nD,nE,nF]
    refine wpAnyT_tk (i:=10) (oi:=_) (v:=?tv11) rfl (Or.inl ⟨by rfl,?th11⟩) hS1 ?_
    case th11=>(intro x hSx;(try dsimp only at hSx);go_simp;(try with_reducible rfl))
    try simp only [nA,nB,nC,Act.put,nD,nE,nF]
    refine wpAnyT_step (i:=11) (by kernel_rfl) rfl (fun K hK=>?_)
    try simp only [nA,nB,nC]
    go_simp
    go_at_call 86
    refine(HAL.out w3.drew).mono ?_
    rintro e w4 ⟨rfl,hb4⟩
    have E34:=LH (((Below.refl w3.heap.size w3).drew).trans hb4)
    clear hb4
    refine hK.out _ _ (F8.out _ (fun q hq _=>E34.out.block q hq)) (fun hS4=>?_)
    clear hK K hS1
    try simp only [nA,nB,nC,Act.put,nD,nE,nF]
    refine wpAnyT_tk (i:=12) (oi:=_) (v:=?tv12) rfl (Or.inl ⟨by rfl,?th12⟩) hS4 ?_
    case th12=>(intro x hSx;(try dsimp only at hSx);go_simp;(try with_reducible rfl))
    try simp only [nA,nB,nC,Act.put,nD,nE,nF]
    refine wpAnyT_tk (i:=13) (oi:=_) (v:=?tv13) rfl (Or.inl ⟨by rfl,?th13⟩) hS4 ?_
    case th13=>(intro x hSx;(try dsimp only at hSx);go_simp;(try with_reducible rfl))
    try simp only [nA,nB,nC,Act.put,nD,nE,nF]
    refine wpAnyT_done (by kernel_rfl) ?_ _
    have hz4:=E34.out.size
    have E4:=LH (E3.out.trans (E34.out.mono (by omega)))
    have RA4:=LH (RA3.out.below E34.out RA3.out.lt)
    have RR4:=LH (RR3.out.below E34.out RR3.out.lt)
    have G4:=LH (G3.out.below E34.out)
    have B4:=LH (B3.out.trans (E34.out.mono (by omega)))
    have hs4:w.heap.size+1<=w4.heap.size:=by omega
    cases hsp:sameP x.pat a.pat
    ·
     have HV:=LH (show noR a (rows.take (j+1))=noR a (rows.take j)++[r] by rw [HT.out,HNO.out,hsp];rfl)
     have hcr:=fun i=>RR4.out.cell i
     clear hsp hS4
     obtain⟨w5,e5⟩:∃ w5,w5=w4.alloc (.cells #[.int .i64 r.alt,.slice (some ⟨b2,off2,none⟩) r.asks.length d1] 70):=⟨_,rfl⟩
     have E5:=LH (show Below wr.heap.size wr w5 by rw [e5];exact E4.out.alloc E4.out.size _)
     have G5:=LH (HG.out.below E5.out)
     have B5:=LH (HB.out.trans (E5.out.mono hsz))
     have hs5:w.heap.size+1<=w5.heap.size:=Nat.le_trans hs1 E5.out.size
     have hz5:w4.heap.size<w5.heap.size:=by rw [e5];simp
     have T5:=LH (show Sl w5 (fun b=>b<w5.heap.size/\(Value.slice A' m c').ownBlock≠some b/\Xs S w.heap.size b) 2 (some ⟨w4.heap.size,0,none⟩) 1 [r.toD] from
       slOne (T:=70) (cs:=[.int .i64 r.alt,.slice (some ⟨b2,off2,none⟩) r.asks.length d1]) (by rw [e5];exact Row.new' _ _ _ rfl) (GTrow.rd_mk (HAT.out.keep fun q hq=>⟨⟨by have:=HSL.out q hq;omega,fun e=>by have:=(HOW.out q e).1;have h4:=HSL.out q hq;omega,.inl hq⟩,E5.out.block q (by have:=HSL.out q hq;omega)⟩)) rfl ⟨hz5,fun e=>by have:=(HOW.out _ e).2;omega,.inr (by omega)⟩)
     go_wp2_with (first
       | (at_builtin
          rw [<- e5]
          refine wpList_append_X w5 rfl (.tmp 34) (.tmp 36) 62 rfl 70 zTrow 2 32 Tryz.underlying62 (by kernel_rfl) rfl (by omega) (w.heap.size+1) (.slice A' m c') m _ G5.out (some ⟨w4.heap.size,0,none⟩) 1 1 _ rfl T5.out hs5 (by unfold maxLen;omega) (by omega) rfl rfl ?_
          intro A6 c6 w6 G6 hGr6
          have G6h:=LH G6
          have Z6:=LH (Nat.le_trans hs5 hGr6.size)
          have Ra6:=LH (hGr6.row (HRa.out.below E5.out HRa.out.lt) (fun e=>by have:=(HOW.out _ e).1;omega))
          have B6:=LH (B5.out.trans (hGr6.below (B:=w.heap.size) (by omega) (fun g hg=>by have:=(HOW.out g hg).1;omega)))
          clear G6 hGr6))
     go_roundw
     case rel=>exact⟨j+1,m+1,A6,c6,by omega,by go_num,rfl,by omega,LH (by rw [HV.out,List.map_append];exact G6h.out),Ra6,Z6.out,B6⟩
     case measure=>simp [intOf];omega
    · have HV:=LH (show noR a (rows.take (j+1))=noR a (rows.take j) by rw [HT.out,HNO.out,hsp];simp)
      clear hsp hS4
      go_wp2_with fail
      go_roundw
      case rel=>exact⟨j+1,m,A',c',by omega,by go_num,rfl,by omega,LH (by rw [HV.out];exact G4.out),RA4,hs4,B4⟩
      case measure=>simp [intOf];omega
  ·
   have hje:j=rows.length:=by omega
   have HLE:=LH (show rows.take j=rows by rw [hje,List.take_length])
   clear hje
   go_wp2_with fail
   go_ret
   have hG:=HG.out
   rw [HLE.out] at hG
   obtain⟨A5,c5,e5,hs5⟩:=hG.slY (Y:=Xs S w.heap.size) (fun _ h=>h) (fun b h=>.inr (by omega))
   have hl5:=hG.1
   obtain⟨rfl,rfl⟩:A'=A5/\c'=c5:=by simpa using e5
   exact⟨A',c',ret_sl (by rw [<- hl5];simp),hs5,HB.out⟩
end Go.Proofs.YtamfolaicncblaaGreat
