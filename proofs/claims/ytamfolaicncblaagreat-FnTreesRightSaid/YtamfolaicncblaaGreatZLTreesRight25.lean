/- Texts of the claim LTreesRight in one: TrH TrJ. Conditions: none but bounds on sizes. -/
import Derived.Test.YtamfolaicncblaaGreatZLTreesRight23
import Derived.Deep.CutRange
import Derived.Test.YtamfolaicncblaaGreatZLTreesRight24
import Derived.Test.YtamfolaicncblaaGreatZLTreesRight2
namespace Go.Proofs.YtamfolaicncblaaGreat
set_option maxRecDepth 20000
set_option linter.unusedVariables false
set_option linter.unusedSimpArgs false
open Go.RowKit
set_option maxHeartbeats 2000000
theorem specMadeAsk (g:Nat) (dv:Value) (k many:Nat) (rows:List GTrow) (A:Option Addr) (c:Nat) (w:World) (hIH:MadeOk g dv k) (h:¬ 300<many+1) (hk:300<many+(k+1)) (hk2:k<=1000) (hok:RowsOk many rows) (hl:0<rows.length) (hl2:rows.length<=1048576) (ha:0<rows[0].asks.length) (hrow:Row w g 86 #[dv,.int .i64 many,.bool (decide (many<=300))]) (hs:Sl w (fun b=>b<w.heap.size/\b≠g) 2 A c (rows.map GTrow.toD)):
 Calls Tryz.prog 35 #[.pointer (some ⟨g,0,none⟩),.slice A rows.length c] w (ToMade g dv (growV (k+1) many rows) w):=by
 have hv:=growV_ask (k:=k) h hl ha
 have RW:=LH (show Row w g 86 #[dv,.int .i64 many,.bool true] by rw [show decide (many<=300)=true from decide_eq_true (by omega)] at hrow;exact hrow)
 have hgl:=hrow.lt
 have hcw:=fun i=>RW.out.cell i
 have hfw:=fun i=>RW.out.frozen i
 have hwr:IntKind.i64.wrap ((many:Int)+1)=(many:Int)+1:=(IntWalk.i64_left _).trans (IntWalk.wrap64_in ((many:Int)+1) (by omega))
 have dm:decide ((300:Int)<(many:Int)+1)=false:=decide_eq_false (by omega)
 have HF:=LH (show decide (many+1<=300)=true from decide_eq_true (by omega))
 have HS:=LH hs
 have HOK:=LH hok
 have HIH:=LH hIH
 obtain⟨b,off,B1,d1,rfl,hSb,g0,g1,hat⟩:=GTrow.elem hs 0 hl
 obtain⟨b2,off2,A1,c1,A2,c2,rfl,hSb2,q0,q1,q2,q3,q4,q5,hatk⟩:=GAsk.elem hat.2 0 ha
 have hbl:=hSb.1
 have hbg:=hSb.2
 have hbl2:=hSb2.1
 have hbg2:=hSb2.2
 have dl:((rows.length:Int) ==0)=false:=by rw [beq_eq_false_iff_ne];omega
 have dl2:((rows[0].asks.length:Int) ==0)=false:=by rw [beq_eq_false_iff_ne];omega
 have hla2:rows[0].asks.length<=1048576:=Nat.le_trans (asksM_len _) (hok _ (List.getElem_mem hl)).1
 have hap:=((hok _ (List.getElem_mem hl)).2 _ (List.getElem_mem ha)).2
 obtain⟨n1,hn1⟩:∃ n1,rows[0].asks.length=n1:=⟨_,rfl⟩
 obtain⟨a,hea⟩:∃ a,rows[0].asks[0]=a:=⟨_,rfl⟩
 rw [hea] at q0 q1 q2 q3 q4 q5 hatk hap hv
 rw [hn1] at g1 dl2 ha hla2
 obtain⟨p,hp⟩:∃ p,growV k (many+1) (yesR a rows)=p:=⟨_,rfl⟩
 rw [hp] at hv
 obtain⟨q,hq⟩:∃ q,growV k p.2 (noR a rows)=q:=⟨_,rfl⟩
 rw [hq] at hv
 have HV:=LH hv
 have HP:=LH hp
 have HQ:=LH hq
 have HA:=LH hatk
 simp only [Nat.zero_mul,Nat.add_zero] at g0 g1 q0 q1 q2 q3 q4 q5
 clear hrow hs hat hatk hSb hSb2 hv hp hq hea hn1 hok hIH g0
 go_enter Tryz.func35,Tryz.ntmps35
 go_upto_region 11 with (fail)
 obtain⟨w2,e2⟩:∃ w2,w2=((w.setCell ⟨g,1,none⟩ (.int .i64 ((many:Int)+1))).alloc (.cells #[.int .i64 0,.int .i64 0,.slice none 0 0,.string ⟨#[]⟩,.slice none 0 0] 31)).alloc (.cells #[.slice A1 a.path.length c1,.int .i64 a.pat.op,.int .i64 a.pat.n,.string a.pat.s,.string a.pat.t,.slice A2 a.pat.kids.length c2] 83):=⟨_,rfl⟩
 rw [<- e2]
 have X2:=LH (show Bx g w w2 by rw [e2];exact(((Bx.refl g w).set (p:=⟨g,1,none⟩) (.inl rfl) _).alloc _).alloc _)
 have RG2:=LH (show Row w2 g 86 #[dv,.int .i64 ((many:Int)+1),.bool true] by rw [e2];exact((RW.out.set 1 _).alloc _).alloc _)
 have RB2:=LH (show Row w2 w.heap.size 31 #[.int .i64 0,.int .i64 0,.slice none 0 0,.string ⟨#[]⟩,.slice none 0 0] by rw [e2];exact(Row.new' _ _ _ (by simp [World.setCell])).alloc _)
 have RA2:=LH (show Row w2 (w.heap.size+1) 83 #[.slice A1 a.path.length c1,.int .i64 a.pat.op,.int .i64 a.pat.n,.string a.pat.s,.string a.pat.t,.slice A2 a.pat.kids.length c2] by rw [e2];exact Row.new' _ _ _ (by simp [World.setCell]))
 have hz2:w.heap.size+2=w2.heap.size:=by rw [e2];simp [World.setCell]
 have hz2':w.heap.size+2<=w2.heap.size:=Nat.le_of_eq hz2
 have HA2:=LH (HA.out.keep (w':=w2) (S':=fun b=>b<w2.heap.size/\b≠g) fun q hq=>⟨⟨Nat.lt_of_lt_of_le hq.1 X2.out.size,hq.2⟩,X2.out.block q hq.1 hq.2⟩)
 have HF5:=LH (fun(x:World) (hx:Below w2.heap.size w2 x)=>show ∀ i,x.cell? ⟨w.heap.size+1,i,none⟩=(#[.slice A1 a.path.length c1,.int .i64 a.pat.op,.int .i64 a.pat.n,.string a.pat.s,.string a.pat.t,.slice A2 a.pat.kids.length c2]:Array Value)[i]? from fun i=>(RA2.out.below hx RA2.out.lt).cell i)
 have HT5:=LH (fun(x:World) (be:Nat) (hx:Below w2.heap.size w2 x) (hbe:w2.heap.size<=be)=>show Sl x (fun b=>b<x.heap.size/\(Value.slice (some ⟨be,0,none⟩) 0 0).ownBlock≠some b/\AnyB b) 1 A1 c1 (a.path.map (D.num .i64)) from
   HA2.out.1.keep fun q hq=>⟨⟨Nat.lt_of_lt_of_le hq.1 hx.size,fun e=>by have:=own_ge e;have:=hq.1;omega,trivial⟩,hx.block q hq.1⟩)
 clear hcw hfw e2 hz2
 have GA5:=LH (show Grx AnyB (w2.alloc (.cells #[] 3)).drew w2.heap.size 3 1 (.slice (some ⟨w2.heap.size,0,none⟩) 0 0) 0 [] from Grx.made (Row.new w2 _ _) (Nat.le_refl _))
 have GB5:=LH (show Grx AnyB ((w2.alloc (.cells #[] 3)).alloc (.cells #[.int .i64 0,.int .i64 0,.slice none 0 0,.string ⟨#[]⟩,.slice none 0 0] 31)).drew w2.heap.size 3 1 (.slice (some ⟨w2.heap.size,0,none⟩) 0 0) 0 [] from Grx.made ((Row.new w2 _ _).alloc _) (Nat.le_refl _))
 have GC5:=LH (show Grx AnyB ((w2.alloc (.cells #[.int .i64 0,.int .i64 0,.slice none 0 0,.string ⟨#[]⟩,.slice none 0 0] 31)).alloc (.cells #[] 3)).drew w2.heap.size 3 1 (.slice (some ⟨w2.heap.size+1,0,none⟩) 0 0) 0 [] from Grx.made (show Row ((w2.alloc (.cells #[.int .i64 0,.int .i64 0,.slice none 0 0,.string ⟨#[]⟩,.slice none 0 0] 31)).alloc (.cells #[] 3)) (w2.heap.size+1) 3 #[] from Row.new' _ _ _ (by simp)) (Nat.le_succ _))
 have RB5:=LH (show Row ((w2.alloc (.cells #[] 3)).alloc (.cells #[.int .i64 0,.int .i64 0,.slice none 0 0,.string ⟨#[]⟩,.slice none 0 0] 31)).drew (w2.heap.size+1) 31 #[.int .i64 0,.int .i64 0,.slice none 0 0,.string ⟨#[]⟩,.slice none 0 0] from(show Row ((w2.alloc (.cells #[] 3)).alloc (.cells #[.int .i64 0,.int .i64 0,.slice none 0 0,.string ⟨#[]⟩,.slice none 0 0] 31)) (w2.heap.size+1) 31 #[.int .i64 0,.int .i64 0,.slice none 0 0,.string ⟨#[]⟩,.slice none 0 0] from Row.new' _ _ _ (by simp)))
 have RC5:=LH (show Row ((w2.alloc (.cells #[.int .i64 0,.int .i64 0,.slice none 0 0,.string ⟨#[]⟩,.slice none 0 0] 31)).alloc (.cells #[] 3)).drew w2.heap.size 31 #[.int .i64 0,.int .i64 0,.slice none 0 0,.string ⟨#[]⟩,.slice none 0 0] from(Row.new w2 _ _).alloc _)
 have NB5:=LH (show(Value.slice (some ⟨w2.heap.size,0,none⟩) 0 0).ownBlock≠some (w2.heap.size+1) by simp [Value.ownBlock])
 have NC5:=LH (show(Value.slice (some ⟨w2.heap.size+1,0,none⟩) 0 0).ownBlock≠some w2.heap.size by simp [Value.ownBlock])
 obtain⟨oe,hoe⟩:∃ oe,oe=Obj.cells #[] 3:=⟨_,rfl⟩
 obtain⟨on,hon⟩:∃ on,on=Obj.cells #[.int .i64 0,.int .i64 0,.slice none 0 0,.string ⟨#[]⟩,.slice none 0 0] 31:=⟨_,rfl⟩
 have EA:=LH (show Below w2.heap.size w2 (w2.alloc oe).drew from((Below.refl _ _).alloc (Nat.le_refl _) _).drew)
 have EB:=LH (show Below w2.heap.size w2 ((w2.alloc oe).alloc on).drew from(((Below.refl _ _).alloc (Nat.le_refl _) _).alloc (by simp) _).drew)
 have EC:=LH (show Below w2.heap.size w2 ((w2.alloc on).alloc oe).drew from(((Below.refl _ _).alloc (Nat.le_refl _) _).alloc (by simp) _).drew)
 have ED:=LH (show Below w2.heap.size w2 (w2.alloc on).drew from((Below.refl _ _).alloc (Nat.le_refl _) _).drew)
 rw [hoe] at EA EB EC
 rw [hon] at EB EC ED
 clear hoe hon
 go_cut [6] from 51 to 58 (fun v x=>∃ (n3:Nat) (A6:Option Addr) (c6:Nat),v= .pointer (some ⟨n3,0,none⟩)/\Hid (Below w2.heap.size w2 x)/\Hid (Row x n3 31 #[.int .i64 4,.int .i64 a.pat.n,.slice A6 a.path.length c6,.string ⟨#[]⟩,.slice none 0 0])/\Hid (Gxo x (fun b=>(w2.heap.size<=b/\b<x.heap.size)/\b≠n3) A6 c6 a.path)/\w2.heap.size<=n3)
 case first=>
  refine wp_region_T (fun x=>∀ i,x.cell? ⟨w.heap.size+1,i,none⟩=(#[.slice A1 a.path.length c1,.int .i64 a.pat.op,.int .i64 a.pat.n,.string a.pat.s,.string a.pat.t,.slice A2 a.pat.kids.length c2]:Array Value)[i]?) 9 (by kernel_rfl) ?_
  have hS1:=HF5.out _ ((Below.refl w2.heap.size w2).drew)
  refine wpAnyT_tk (i:=0) (oi:=_) (v:=?tv1) rfl (Or.inl ⟨by rfl,?th1⟩) hS1 ?_
  case th1=>(intro x hSx;(try dsimp only at hSx);go_simp;(try with_reducible rfl))
  try simp only [nA,nB,nC,Act.put,nD,nE,nF]
  refine wpAnyT_tk (i:=1) (oi:=_) (v:=?tv2) rfl (Or.inl ⟨by rfl,?th2⟩) hS1 ?_
  case th2=>(intro x hSx;(try dsimp only at hSx);go_simp;(try with_reducible rfl))
  try simp only [nA,nB,nC,Act.put,nD,nE,nF]
  refine wpAnyT_tk (i:=2) (oi:=_) (v:=?tv3) rfl (Or.inl ⟨by rfl,?th3⟩) hS1 ?_
  case th3=>(intro x hSx;(try dsimp only at hSx);go_simp;(try with_reducible rfl))
  try simp only [nA,nB,nC,Act.put,nD,nE,nF]
  refine wpAnyT_tk (i:=4) (oi:=_) (v:=?tv4) rfl (Or.inl ⟨by rfl,?th4⟩) hS1 ?_
  case th4=>(intro x hSx;(try dsimp only at hSx);go_simp;(try with_reducible rfl))
  try simp only [nA,nB,nC,Act.put,nD,nE,nF]
  refine wpAnyT_tk (i:=5) (oi:=_) (v:=?tv5) rfl (Or.inl ⟨by rfl,?th5⟩) hS1 ?_
  case th5=>(intro x hSx;(try dsimp only at hSx);go_simp;(try with_reducible rfl))
  try simp only [nA,nB,nC,Act.put,nD,nE,nF]
  refine wpAnyT_two (i:=3) (j:=8) (by kernel_rfl) rfl rfl (fun K hK=>?_) (fun K hK=>?_)
  ·
   try simp only [nA,nB,nC]
   go_simp
   refine hK.out _ _ (HF5.out _ EA.out) (fun hS2=>?_)
   clear hK K hS1
   try simp only [nA,nB,nC,Act.put,nD,nE,nF]
   refine wpAnyT_two (i:=6) (j:=8) (by kernel_rfl) rfl rfl (fun K hK=>?_) (fun K hK=>?_)
   ·
    skip
    refine step_append_X _ rfl (.tmp 54) (.tmp 56) 28 rfl 3 (.int .i64 0) 1 8 Tryz.underlying28 (by kernel_rfl) rfl (by omega) w2.heap.size (.slice (some ⟨w2.heap.size,0,none⟩) 0 0) 0 [] GA5.out A1 c1 a.path.length _ (by simp) (HT5.out _ _ EA.out (by omega)) EA.out.size (by unfold maxLen;omega) (by omega) rfl rfl ?_
    intro A6 c6 w6 G6 hGr6
    have HG6:=LH (show Grx AnyB w6 w2.heap.size 3 1 (.slice A6 a.path.length c6) a.path.length (a.path.map (D.num .i64)) by simpa using G6)
    have HE6:=LH (show Value.slice A6 (0+a.path.length) c6= .slice A6 a.path.length c6 by rw [Nat.zero_add])
    have E6:=LH (EA.out.trans (hGr6.below EA.out.size (fun g hg=>Nat.le_trans (by omega) (own_ge hg))))
    clear G6 hGr6
    rw [HE6.out]
    refine hK.out _ _ (HF5.out _ E6.out) (fun hS3=>?_)
    clear hK K hS2
    try simp only [nA,nB,nC,Act.put,nD,nE,nF]
    refine wpAnyT_tk (i:=7) (oi:=_) (v:=?tv6) rfl (Or.inl ⟨by rfl,?th6⟩) hS3 ?_
    case th6=>(intro x hSx;(try dsimp only at hSx);go_simp;(try with_reducible rfl))
    try simp only [nA,nB,nC,Act.put,nD,nE,nF]
    refine wpAnyT_step (i:=8) (by kernel_rfl) rfl (fun K hK=>?_)
    try simp only [nA,nB,nC]
    go_simp
    refine hK.out _ _ (HF5.out _ (E6.out.alloc E6.out.size _)) (fun hS4=>?_)
    clear hK K hS3
    try simp only [nA,nB,nC,Act.put,nD,nE,nF]
    refine wpAnyT_last (by kernel_rfl) (by kernel_rfl) rfl (fun K hK=>?_)
    try simp only [nA,nB,nC]
    go_simp
    refine hK.out _ _ ?_
    clear hK K
    try simp only [nA,nB,nC,Act.put,nD,nE,nF]
    obtain⟨w7,e7⟩:∃ w7,w7=w6.alloc (.cells #[.int .i64 4,.int .i64 a.pat.n,.slice A6 a.path.length c6,.string ⟨#[]⟩,.slice none 0 0] 31):=⟨_,rfl⟩
    rw [<- e7]
    have K7:=fun b (hb:(Value.slice A6 a.path.length c6).ownBlock=some b)=>show((w2.heap.size<=b/\b<w7.heap.size)/\b≠w6.heap.size)/\w7.heap[b]? =w6.heap[b]? from by
     have h1:=HG6.out.own b hb
     rw [e7]
     exact⟨⟨⟨h1.1,by simp;omega⟩,by omega⟩,Below.heap_alloc _ _ _ h1.2⟩
    have O7:=LH (show Gxo w7 (fun b=>(w2.heap.size<=b/\b<w7.heap.size)/\b≠w6.heap.size) A6 c6 a.path from Gxo.of HG6.out K7)
    have E7:=LH (show Below w2.heap.size w2 w7 by rw [e7];exact E6.out.alloc E6.out.size _)
    have R7:=LH (show Row w7 w6.heap.size 31 #[.int .i64 4,.int .i64 a.pat.n,.slice A6 a.path.length c6,.string ⟨#[]⟩,.slice none 0 0] by rw [e7];exact Row.new w6 _ _)
    have hn7:=E6.out.size
    clear e7 K7
    go_wp2_with fail
    go_meet
    exact⟨w6.heap.size,A6,c6,rfl,E7,R7,O7,hn7⟩
   ·
    try simp only [nA,nB,nC]
    go_simp
    refine hK.out _ _ (HF5.out _ EB.out) (fun hS3=>?_)
    clear hK K hS2
    try simp only [nA,nB,nC,Act.put,nD,nE,nF]
    refine wpAnyT_step (i:=6) (by kernel_rfl) rfl (fun K hK=>?_)
    refine step_append_X _ rfl (.tmp 54) (.tmp 56) 28 rfl 3 (.int .i64 0) 1 8 Tryz.underlying28 (by kernel_rfl) rfl (by omega) w2.heap.size (.slice (some ⟨w2.heap.size,0,none⟩) 0 0) 0 [] GB5.out A1 c1 a.path.length _ (by simp) (HT5.out _ _ EB.out (by omega)) EB.out.size (by unfold maxLen;omega) (by omega) rfl rfl ?_
    intro A6 c6 w6 G6 hGr6
    have HG6:=LH (show Grx AnyB w6 w2.heap.size 3 1 (.slice A6 a.path.length c6) a.path.length (a.path.map (D.num .i64)) by simpa using G6)
    have HE6:=LH (show Value.slice A6 (0+a.path.length) c6= .slice A6 a.path.length c6 by rw [Nat.zero_add])
    have E6:=LH (EB.out.trans (hGr6.below EB.out.size (fun g hg=>Nat.le_trans (by omega) (own_ge hg))))
    have RN6:=LH (hGr6.row RB5.out NB5.out)
    have NN6:=LH (show(Value.slice A6 a.path.length c6).ownBlock≠some (w2.heap.size+1) by rw [<- HE6.out];exact hGr6.ne NB5.out RB5.out.lt)
    have hcn6:=fun i=>RN6.out.cell i
    have hfn6:=fun i=>RN6.out.frozen i
    clear G6 hGr6
    rw [HE6.out]
    refine hK.out _ _ (HF5.out _ E6.out) (fun hS4=>?_)
    clear hK K hS3
    try simp only [nA,nB,nC,Act.put,nD,nE,nF]
    refine wpAnyT_tk (i:=7) (oi:=_) (v:=?tv7) rfl (Or.inl ⟨by rfl,?th7⟩) hS4 ?_
    case th7=>(intro x hSx;(try dsimp only at hSx);go_simp;(try with_reducible rfl))
    try simp only [nA,nB,nC,Act.put,nD,nE,nF]
    refine wpAnyT_last (by kernel_rfl) (by kernel_rfl) rfl (fun K hK=>?_)
    try simp only [nA,nB,nC]
    go_simp
    refine hK.out _ _ ?_
    clear hK K
    try simp only [nA,nB,nC,Act.put,nD,nE,nF]
    obtain⟨w7,e7⟩:∃ w7,w7=((((w6.setCell ⟨w2.heap.size+1,0,none⟩ (.int .i64 4)).setCell ⟨w2.heap.size+1,1,none⟩ (.int .i64 a.pat.n)).setCell ⟨w2.heap.size+1,2,none⟩ (.slice A6 a.path.length c6)).setCell ⟨w2.heap.size+1,3,none⟩ (.string ⟨#[]⟩)).setCell ⟨w2.heap.size+1,4,none⟩ (.slice none 0 0):=⟨_,rfl⟩
    rw [<- e7]
    have Q7:=LH (show ∀ b,b≠w2.heap.size+1->w7.heap[b]? =w6.heap[b]? from fun b hb=>by rw [e7];simp only [Below.heap_setCell _ _ _ b (show b≠(⟨w2.heap.size+1,_,none⟩:Addr).block from hb)])
    have hz7:w7.heap.size=w6.heap.size:=by rw [e7];simp [World.setCell]
    have K7:=fun b (hb:(Value.slice A6 a.path.length c6).ownBlock=some b)=>show((w2.heap.size<=b/\b<w7.heap.size)/\b≠w2.heap.size+1)/\w7.heap[b]? =w6.heap[b]? from by
     have h1:=HG6.out.own b hb
     have h2:b≠w2.heap.size+1:=fun e=>NN6.out (by rw [<- e];exact hb)
     exact⟨⟨⟨h1.1,by omega⟩,h2⟩,Q7.out b h2⟩
    have O7:=LH (show Gxo w7 (fun b=>(w2.heap.size<=b/\b<w7.heap.size)/\b≠w2.heap.size+1) A6 c6 a.path from Gxo.of HG6.out K7)
    have E7:=LH (show Below w2.heap.size w2 w7 by rw [e7];exact((((E6.out.setCell (p:=⟨w2.heap.size+1,0,none⟩) (by simp) _).setCell (p:=⟨w2.heap.size+1,1,none⟩) (by simp) _).setCell (p:=⟨w2.heap.size+1,2,none⟩) (by simp) _).setCell (p:=⟨w2.heap.size+1,3,none⟩) (by simp) _).setCell (p:=⟨w2.heap.size+1,4,none⟩) (by simp) _)
    have R7:=LH (show Row w7 (w2.heap.size+1) 31 #[.int .i64 4,.int .i64 a.pat.n,.slice A6 a.path.length c6,.string ⟨#[]⟩,.slice none 0 0] by rw [e7];exact((((RN6.out.set 0 _).set 1 _).set 2 _).set 3 _).set 4 _)
    clear e7 K7 Q7 hz7 hcn6 hfn6
    go_wp2_with fail
    go_meet
    exact⟨w2.heap.size+1,A6,c6,rfl,E7,R7,O7,by omega⟩
  ·
   try simp only [nA,nB,nC]
   go_simp
   refine hK.out _ _ (HF5.out _ ED.out) (fun hS2=>?_)
   clear hK K hS1
   try simp only [nA,nB,nC,Act.put,nD,nE,nF]
   refine wpAnyT_step (i:=3) (by kernel_rfl) rfl (fun K hK=>?_)
   try simp only [nA,nB,nC]
   go_simp
   refine hK.out _ _ (HF5.out _ EC.out) (fun hS3=>?_)
   clear hK K hS2
   try simp only [nA,nB,nC,Act.put,nD,nE,nF]
   refine wpAnyT_step (i:=6) (by kernel_rfl) rfl (fun K hK=>?_)
   refine step_append_X _ rfl (.tmp 54) (.tmp 56) 28 rfl 3 (.int .i64 0) 1 8 Tryz.underlying28 (by kernel_rfl) rfl (by omega) w2.heap.size (.slice (some ⟨w2.heap.size+1,0,none⟩) 0 0) 0 [] GC5.out A1 c1 a.path.length _ (by simp) (HT5.out _ _ EC.out (by omega)) EC.out.size (by unfold maxLen;omega) (by omega) rfl rfl ?_
   intro A6 c6 w6 G6 hGr6
   have HG6:=LH (show Grx AnyB w6 w2.heap.size 3 1 (.slice A6 a.path.length c6) a.path.length (a.path.map (D.num .i64)) by simpa using G6)
   have HE6:=LH (show Value.slice A6 (0+a.path.length) c6= .slice A6 a.path.length c6 by rw [Nat.zero_add])
   have E6:=LH (EC.out.trans (hGr6.below EC.out.size (fun g hg=>Nat.le_trans (by omega) (own_ge hg))))
   have RN6:=LH (hGr6.row RC5.out NC5.out)
   have NN6:=LH (show(Value.slice A6 a.path.length c6).ownBlock≠some w2.heap.size by rw [<- HE6.out];exact hGr6.ne NC5.out RC5.out.lt)
   have hcn6:=fun i=>RN6.out.cell i
   have hfn6:=fun i=>RN6.out.frozen i
   clear G6 hGr6
   rw [HE6.out]
   refine hK.out _ _ (HF5.out _ E6.out) (fun hS4=>?_)
   clear hK K hS3
   try simp only [nA,nB,nC,Act.put,nD,nE,nF]
   refine wpAnyT_tk (i:=7) (oi:=_) (v:=?tv8) rfl (Or.inl ⟨by rfl,?th8⟩) hS4 ?_
   case th8=>(intro x hSx;(try dsimp only at hSx);go_simp;(try with_reducible rfl))
   try simp only [nA,nB,nC,Act.put,nD,nE,nF]
   refine wpAnyT_last (by kernel_rfl) (by kernel_rfl) rfl (fun K hK=>?_)
   try simp only [nA,nB,nC]
   go_simp
   refine hK.out _ _ ?_
   clear hK K
   try simp only [nA,nB,nC,Act.put,nD,nE,nF]
   obtain⟨w7,e7⟩:∃ w7,w7=((((w6.setCell ⟨w2.heap.size,0,none⟩ (.int .i64 4)).setCell ⟨w2.heap.size,1,none⟩ (.int .i64 a.pat.n)).setCell ⟨w2.heap.size,2,none⟩ (.slice A6 a.path.length c6)).setCell ⟨w2.heap.size,3,none⟩ (.string ⟨#[]⟩)).setCell ⟨w2.heap.size,4,none⟩ (.slice none 0 0):=⟨_,rfl⟩
   rw [<- e7]
   have Q7:=LH (show ∀ b,b≠w2.heap.size->w7.heap[b]? =w6.heap[b]? from fun b hb=>by rw [e7];simp only [Below.heap_setCell _ _ _ b (show b≠(⟨w2.heap.size,_,none⟩:Addr).block from hb)])
   have hz7:w7.heap.size=w6.heap.size:=by rw [e7];simp [World.setCell]
   have K7:=fun b (hb:(Value.slice A6 a.path.length c6).ownBlock=some b)=>show((w2.heap.size<=b/\b<w7.heap.size)/\b≠w2.heap.size)/\w7.heap[b]? =w6.heap[b]? from by
    have h1:=HG6.out.own b hb
    have h2:b≠w2.heap.size:=fun e=>NN6.out (by rw [<- e];exact hb)
    exact⟨⟨⟨h1.1,by omega⟩,h2⟩,Q7.out b h2⟩
   have O7:=LH (show Gxo w7 (fun b=>(w2.heap.size<=b/\b<w7.heap.size)/\b≠w2.heap.size) A6 c6 a.path from Gxo.of HG6.out K7)
   have E7:=LH (show Below w2.heap.size w2 w7 by rw [e7];exact((((E6.out.setCell (p:=⟨w2.heap.size,0,none⟩) (by simp) _).setCell (p:=⟨w2.heap.size,1,none⟩) (by simp) _).setCell (p:=⟨w2.heap.size,2,none⟩) (by simp) _).setCell (p:=⟨w2.heap.size,3,none⟩) (by simp) _).setCell (p:=⟨w2.heap.size,4,none⟩) (by simp) _)
   have R7:=LH (show Row w7 (w2.heap.size) 31 #[.int .i64 4,.int .i64 a.pat.n,.slice A6 a.path.length c6,.string ⟨#[]⟩,.slice none 0 0] by rw [e7];exact((((RN6.out.set 0 _).set 1 _).set 2 _).set 3 _).set 4 _)
   clear e7 K7 Q7 hz7 hcn6 hfn6
   go_wp2_with fail
   go_meet
   exact⟨w2.heap.size,A6,c6,rfl,E7,R7,O7,by omega⟩
 case rest=>
  clear GA5 GB5 GC5 RB5 RC5 NB5 NC5 EA EB EC ED oe on HT5 HF5
  obtain⟨n3,A6,c6,rfl,C1,C2,C3,hn3⟩:=hcut
  have hcn3:=fun i=>C2.out.cell i
  have hfn3:=fun i=>C2.out.frozen i
  have RAc:=LH (RA2.out.below C1.out RA2.out.lt)
  have hcac:=fun i=>RAc.out.cell i
  go_upto_if 62 with (fail)
  go_cut [6] from 59 to 68 (fun v x=>v= .pointer (some ⟨n3,0,none⟩)/\Hid (Below w2.heap.size w2 x)/\Hid (Row x n3 31 #[.int .i64 (askO a),.int .i64 (askN a),.slice A6 a.path.length c6,.string (askS a),.slice none 0 0])/\Hid (Gxo x (fun b=>(w2.heap.size<=b/\b<x.heap.size)/\b≠n3) A6 c6 a.path)/\wc.heap.size<=x.heap.size)
  case first=>
   cases h20:(a.pat.op ==20)
   case true=>
    have e20:a.pat.op=20:=by simpa using h20
    have HO:=LH (show askO a=3/\askN a=0/\askS a=a.pat.s by unfold askO askN askS;simp [e20])
    clear e20
    go_wp2_with fail
    go_meet
    refine⟨rfl,LH (((C1.out.setCell (p:=⟨n3,0,none⟩) hn3 _).setCell (p:=⟨n3,3,none⟩) hn3 _).setCell (p:=⟨n3,1,none⟩) hn3 _),LH ?_,LH ?_,by simp [World.setCell]⟩
    · rw [HO.out.1,HO.out.2.1,HO.out.2.2];exact((C2.out.set 0 _).set 3 _).set 1 _
    · exact C3.out.keep fun b hb=>⟨⟨⟨hb.1.1,by simp [World.setCell];exact hb.1.2⟩,hb.2⟩,(Below.heap_setCell _ ⟨n3,1,none⟩ _ b hb.2).trans ((Below.heap_setCell _ ⟨n3,3,none⟩ _ b hb.2).trans (Below.heap_setCell _ ⟨n3,0,none⟩ _ b hb.2))⟩
   case false=>
    have e20:¬ a.pat.op=20:=by simpa using h20
    have HO:=LH (show askO a=4/\askN a=a.pat.n/\askS a=⟨#[]⟩ by unfold askO askN askS;simp [e20])
    clear e20
    go_wp2_with fail
    go_meet
    exact⟨rfl,C1,LH (by rw [HO.out.1,HO.out.2.1,HO.out.2.2];exact C2.out),C3,Nat.le_refl _⟩
  case rest=>
   clear hcn3 hfn3 hcac RAc C2 C3
   obtain⟨rfl,D1,D2,D3,hcd⟩:=hcut
   have hnd:=D2.out.lt
   have hzd:=D1.out.size
   have Xd:=LH (X2.out.trans (Bx.of_below D1.out (Nat.le_refl _)))
   have RAd:=LH (RA2.out.below D1.out RA2.out.lt)
   have hcad:=fun i=>RAd.out.cell i
   have RGd:=LH (RG2.out.below D1.out RG2.out.lt)
   have RBd:=LH (RB2.out.below D1.out RB2.out.lt)
   have hgw2:g<w2.heap.size:=by omega
   have HAd:=LH (HA.out.keep (w':=wc) (S':=Lt wc.heap.size) fun x hx=>⟨Nat.lt_of_lt_of_le hx.1 Xd.out.size,Xd.out.block x hx.1 hx.2⟩)
   have hyy:=specYes (fun b=>b<w.heap.size/\b≠g) a rows (some ⟨b,off,none⟩) c A1 c1 A2 c2 wc hl2 many (by omega) hap HOK.out (fun x hx=>Nat.lt_of_lt_of_le hx.1 Xd.out.size) (HS.out.keep fun x hx=>⟨hx,Xd.out.block x hx.1 hx.2⟩) HAd.out
   unfold askC at hyy
   have HYY:=LH hyy
   clear hyy
   go_wp2_with fail
   refine HYY.out.mono ?_
   rintro e wy ⟨Ay,cy,rfl,hsy,hby⟩
   have EY:=LH hby
   have Xy:=LH (Xd.out.trans (Bx.of_below hby (Nat.le_refl _)))
   have hzy:=hby.size
   have RGy:=LH (RGd.out.below EY.out RGd.out.lt)
   have hia:=HIH.out (many+1) (yesR a rows) Ay cy wy (by omega) (by omega) (HOK.out.yes a hap) (Nat.le_trans (yesR_len a rows) hl2) (by rw [HF.out];exact RGy.out) (hsy.keep fun x hx=>⟨⟨hx.2,by rcases hx.1 with h1 | h1;exact h1.2;omega⟩,rfl⟩)
   rw [HP.out] at hia
   have HIA:=LH hia
   clear hia hsy hby HYY hcad
   go_wp2_with fail
   refine HIA.out.mono ?_
   rintro e wa ⟨P1,pc1,P2,pc2,rfl,hoa,-,hga,hxa⟩
   have OA:=LH hoa
   have GA:=LH hga
   have XA:=LH hxa
   have hza:=hxa.size
   clear hoa hga hxa HIA
   obtain⟨wb,eb⟩:∃ wb,wb=wa.alloc (.cells #[.int .i64 p.1.op,.int .i64 p.1.n,.slice P1 p.1.path.length pc1,.string p.1.s,.slice P2 p.1.kids.length pc2] 31):=⟨_,rfl⟩
   have Eb:=LH (show Below wa.heap.size wa wb by rw [eb];exact(Below.refl _ _).alloc (Nat.le_refl _) _)
   have hzb:wa.heap.size+1<=wb.heap.size:=by rw [eb];simp
   have Xb:=LH ((Xy.out.trans XA.out).trans (Bx.of_below Eb.out (Nat.le_refl _)))
   have RPb:=LH (show Row wb wa.heap.size 31 #[.int .i64 p.1.op,.int .i64 p.1.n,.slice P1 p.1.path.length pc1,.string p.1.s,.slice P2 p.1.kids.length pc2] by rw [eb];exact Row.new _ _ _)
   have RAa:=LH (XA.out.row (RAd.out.below EY.out RAd.out.lt) (by omega))
   have RAb:=LH (RAa.out.below Eb.out RAa.out.lt)
   have RNa:=LH (XA.out.row (D2.out.below EY.out D2.out.lt) (by omega))
   have RNb:=LH (RNa.out.below Eb.out RNa.out.lt)
   have RBa:=LH (XA.out.row (RBd.out.below EY.out RBd.out.lt) (by omega))
   have RBb:=LH (RBa.out.below Eb.out RBa.out.lt)
   have RGb:=LH (GA.out.below Eb.out GA.out.lt)
   have hcab:=fun i=>RAb.out.cell i
   have hp2:many+1<p.2/\p.2<=max (many+1+1) (301+k):=by rw [<- HP.out];exact⟨growV_less k _ _,growV_le k _ _⟩
   have HAb:=LH (HA.out.keep (w':=wb) (S':=Lt wb.heap.size) fun x hx=>⟨Nat.lt_of_lt_of_le hx.1 Xb.out.size,Xb.out.block x hx.1 hx.2⟩)
   have hnn:=specNo (fun b=>b<w.heap.size/\b≠g) a rows (some ⟨b,off,none⟩) c A1 c1 A2 c2 wb hl2 (fun r hr=>Nat.le_trans (asksM_len _) (HOK.out r hr).1) (fun x hx=>Nat.lt_of_lt_of_le hx.1 Xb.out.size) (HS.out.keep fun x hx=>⟨hx,Xb.out.block x hx.1 hx.2⟩) HAb.out
   unfold askC at hnn
   have HNN:=LH hnn
   clear hnn
   go_upto_region 17 with (fail)
   rw [<- eb]
   clear eb
   go_wp2_with fail
   refine HNN.out.mono ?_
   rintro e wn ⟨An,cn,rfl,hsn,hbn⟩
   have EN:=LH hbn
   have hzn:=hbn.size
   have Xn':=LH (Xb.out.trans (Bx.of_below hbn (Nat.le_refl _)))
   have RGn:=LH (RGb.out.below EN.out RGb.out.lt)
   have hzwb:=Xb.out.size
   have hiq:=HIH.out p.2 (noR a rows) An cn wn (by omega) (by omega) ((HOK.out.no a).mono (by omega)) (Nat.le_trans (noR_len a rows) hl2) RGn.out (hsn.keep fun x hx=>⟨⟨hx.2,by rcases hx.1 with h1 | h1;exact h1.2;omega⟩,rfl⟩)
   rw [HQ.out] at hiq
   have HIQ:=LH hiq
   clear hiq hsn hbn HNN hcab
   go_wp2_with fail
   refine HIQ.out.mono ?_
   rintro e wq ⟨Q1,qc1,Q2,qc2,rfl,hoq,-,hgq,hxq⟩
   have OQ:=LH hoq
   have GQ:=LH hgq
   have XQ:=LH hxq
   have hzq:=hxq.size
   clear hoq hgq hxq HIQ
   obtain⟨wz,ez⟩:∃ wz,wz=wq.alloc (.cells #[.int .i64 q.1.op,.int .i64 q.1.n,.slice Q1 q.1.path.length qc1,.string q.1.s,.slice Q2 q.1.kids.length qc2] 31):=⟨_,rfl⟩
   have Ez:=LH (show Below wq.heap.size wq wz by rw [ez];exact(Below.refl _ _).alloc (Nat.le_refl _) _)
   have hzz:wq.heap.size+1=wz.heap.size:=by rw [ez];simp
   have Xz:=LH ((Xn'.out.trans XQ.out).trans (Bx.of_below Ez.out (Nat.le_refl _)))
   have RQz:=LH (show Row wz wq.heap.size 31 #[.int .i64 q.1.op,.int .i64 q.1.n,.slice Q1 q.1.path.length qc1,.string q.1.s,.slice Q2 q.1.kids.length qc2] by rw [ez];exact Row.new _ _ _)
   have RPq:=LH (XQ.out.row (RPb.out.below EN.out RPb.out.lt) (by omega))
   have RPz:=LH (RPq.out.below Ez.out RPq.out.lt)
   have RNq:=LH (XQ.out.row (RNb.out.below EN.out RNb.out.lt) (by omega))
   have RNz:=LH (RNq.out.below Ez.out RNq.out.lt)
   have RBq:=LH (XQ.out.row (RBb.out.below EN.out RBb.out.lt) (by omega))
   have RBz:=LH (RBq.out.below Ez.out RBq.out.lt)
   have RGz:=LH (GQ.out.below Ez.out GQ.out.lt)
   have hzc2:=Nat.le_trans hzd hzy
   have c1z:=fun i=>RQz.out.cell i
   have c2z:=fun i=>RPz.out.cell i
   have c3z:=fun i=>RNz.out.cell i
   have f3z:=fun i=>RNz.out.frozen i
   have c4z:=fun i=>RBz.out.cell i
   have f4z:=fun i=>RBz.out.frozen i
   have l2z:=RPz.out.lt
   have l3z:=RNz.out.lt
   have l4z:=RBz.out.lt
   have hne43:w.heap.size≠n3:=by omega
   go_upto_region 18 with (fail)
   rw [<- ez]
   clear ez
   go_wp2_with fail
   obtain⟨wm,em⟩:∃ wm,wm=(((((wz.setCell ⟨n3,4,none⟩ (.slice (some ⟨wz.heap.size,0,none⟩) 2 2)).setCell ⟨w.heap.size,0,none⟩ (.int .i64 (askO a))).setCell ⟨w.heap.size,1,none⟩ (.int .i64 (askN a))).setCell ⟨w.heap.size,2,none⟩ (.slice A6 a.path.length c6)).setCell ⟨w.heap.size,3,none⟩ (.string (askS a))).setCell ⟨w.heap.size,4,none⟩ (.slice (some ⟨wz.heap.size,0,none⟩) 2 2):=⟨_,rfl⟩
   rw [<- em]
   obtain⟨wf,ef⟩:∃ wf,wf=wm.alloc (.cells #[.int .i64 p.1.op,.int .i64 p.1.n,.slice P1 p.1.path.length pc1,.string p.1.s,.slice P2 p.1.kids.length pc2,.int .i64 q.1.op,.int .i64 q.1.n,.slice Q1 q.1.path.length qc1,.string q.1.s,.slice Q2 q.1.kids.length qc2] 31):=⟨_,rfl⟩
   rw [<- ef]
   have hzm:wm.heap.size=wz.heap.size:=by rw [em];simp [World.setCell]
   have hwn3:w.heap.size<=n3:=by omega
   have Qm:=LH (fun b (h1:b≠n3) (h2:b≠w.heap.size) (h3:b<wz.heap.size)=>show wf.heap[b]? =wz.heap[b]? from by
     rw [ef,Below.heap_alloc wm _ b (by omega),em]
     rw [Below.heap_setCell _ ⟨w.heap.size,4,none⟩ _ b h2,Below.heap_setCell _ ⟨w.heap.size,3,none⟩ _ b h2,Below.heap_setCell _ ⟨w.heap.size,2,none⟩ _ b h2,Below.heap_setCell _ ⟨w.heap.size,1,none⟩ _ b h2,Below.heap_setCell _ ⟨w.heap.size,0,none⟩ _ b h2,Below.heap_setCell _ ⟨n3,4,none⟩ _ b h1])
   have hzf:wz.heap.size+1=wf.heap.size:=by rw [ef];simp [hzm]
   have RKf:=LH (show Row wf wz.heap.size 31 #[.int .i64 p.1.op,.int .i64 p.1.n,.slice P1 p.1.path.length pc1,.string p.1.s,.slice P2 p.1.kids.length pc2,.int .i64 q.1.op,.int .i64 q.1.n,.slice Q1 q.1.path.length qc1,.string q.1.s,.slice Q2 q.1.kids.length qc2] by rw [ef];exact Row.new' _ _ _ hzm.symm)
   have RBf:=LH (show Row wf w.heap.size 31 #[.int .i64 (askO a),.int .i64 (askN a),.slice A6 a.path.length c6,.string (askS a),.slice (some ⟨wz.heap.size,0,none⟩) 2 2] by
     rw [ef,em]
     exact((((((RBz.out.far (p:=⟨n3,4,none⟩) hne43 _).set 0 _).set 1 _).set 2 _).set 3 _).set 4 _).alloc _)
   have RGf:=LH (show Row wf g 86 #[dv,.int .i64 q.2,.bool (decide (q.2<=300))] from(Qm.out g (by omega) (by omega) (by omega)).trans RGz.out)
   have XF:=LH (show Bx g w wf by
     rw [ef,em]
     exact((((((Xz.out.set (p:=⟨n3,4,none⟩) (.inr hwn3) _).set (p:=⟨w.heap.size,0,none⟩) (.inr (Nat.le_refl _)) _).set (p:=⟨w.heap.size,1,none⟩) (.inr (Nat.le_refl _)) _).set (p:=⟨w.heap.size,2,none⟩) (.inr (Nat.le_refl _)) _).set (p:=⟨w.heap.size,3,none⟩) (.inr (Nat.le_refl _)) _).set (p:=⟨w.heap.size,4,none⟩) (.inr (Nat.le_refl _)) _).alloc _)
   have QQ:=LH (fun b (h1:wn.heap.size<=b) (h2:b<wq.heap.size)=>show wf.heap[b]? =wq.heap[b]? from(Qm.out b (by omega) (by omega) (by omega)).trans (Ez.out.block b h2))
   have QA:=LH (fun b (h1:b≠n3) (h2:b≠w.heap.size) (h3:b≠g) (h4:b<wa.heap.size)=>show wf.heap[b]? =wa.heap[b]? from
     (Qm.out b h1 h2 (by omega)).trans ((Ez.out.block b (by omega)).trans ((XQ.out.block b (by omega) h3).trans ((EN.out.block b (by omega)).trans (Eb.out.block b h4)))))
   have OAf:=LH (OA.out.keep (w':=wf) (S':=Btw wy.heap.size wa.heap.size) fun b hb=>⟨hb,QA.out b (by have:=hb.1;omega) (by have:=hb.1;omega) (by have:=hb.1;omega) hb.2⟩)
   have OQf:=LH (OQ.out.keep (w':=wf) (S':=Btw wn.heap.size wq.heap.size) fun b hb=>⟨hb,QQ.out b hb.1 hb.2⟩)
   have D3f:=LH (D3.out.keep (w':=wf) (S':=fun b=>(w2.heap.size<=b/\b<wc.heap.size)/\b≠n3) fun b hb=>⟨hb,(QA.out b hb.2 (by have:=hb.1.1;omega) (by have:=hb.1.1;omega) (by have:=hb.1.2;omega)).trans ((XA.out.block b (by have:=hb.1.2;omega) (by have:=hb.1.1;omega)).trans (EY.out.block b hb.1.2))⟩)
   have OK:=LH (oslTwoTree (S:=fun b=>wc.heap.size<=b/\b<wf.heap.size) (t1:=p.1) (t2:=q.1) RKf.out OAf.out OQf.out (fun x hx=>⟨⟨⟨by have:=hx.1;omega,by have:=hx.2;omega⟩,by have:=hx.2;omega⟩,fun h2=>by have:=hx.2;have:=h2.1;omega⟩) (fun x hx=>⟨⟨by have:=hx.1;omega,by have:=hx.2;omega⟩,by have:=hx.2;omega⟩) ⟨by omega,by omega⟩)
   have hwfs:(Lit.int .i64 (askO a)).wf=true/\(Lit.int .i64 (askN a)).wf=true/\(askS a).size<=maxLen:=by
    unfold askO askN askS
    split
    · exact⟨by decide,by decide,HA.out.2.2.2.1⟩
    · exact⟨by decide,HA.out.2.2.1,by simp [ByteArray.size,maxLen]⟩
   have hczf:=fun i=>RBf.out.cell i
   have HVT:=LH (show growV (k+1) many rows=(.mk (askO a) (askN a) a.path (askS a) [p.1,q.1],q.2) by rw [HV.out,askT_eq])
   rw [HVT.out]
   clear ef em c1z c2z c3z c4z f3z f4z
   exact bodyPost_ret (v:=.agg #[.int .i64 (askO a),.int .i64 (askN a),.slice A6 a.path.length c6,.string (askS a),.slice (some ⟨wz.heap.size,0,none⟩) 2 2]) (by simp [results,Tryz.results35,go_sem,hczf]) rfl ⟨A6,c6,some ⟨wz.heap.size,0,none⟩,2,rfl,⟨fun b=>(w2.heap.size<=b/\b<wc.heap.size)/\b≠n3,fun b=>wc.heap.size<=b/\b<wf.heap.size,fun x hx=>⟨by have:=hx.1.1;omega,by have:=hx.1.2;omega⟩,fun x hx=>⟨by have:=hx.1;omega,hx.2⟩,fun x hx h2=>by have:=hx.1.2;have:=h2.1;omega,hwfs.1,hwfs.2.1,D3f.out.osl,hwfs.2.2,OK.out⟩,⟨D3f.out.keep (fun b hb=>⟨⟨by have:=hb.1.1;omega,by have:=hb.1.2;omega⟩,rfl⟩),OK.out.sl.keep (fun b hb=>⟨⟨⟨by have:=hb.1;omega,hb.2⟩,fun e=>by have:=(D3f.out.2 b e).1.2;have:=hb.1;omega⟩,rfl⟩)⟩,RGf.out,XF.out⟩
theorem specMade (g:Nat) (dv:Value):∀ (k:Nat),k<=1000->MadeOk g dv k
 | 0,_,many,rows,A,c,w,h,hm,hok,hl,hrow,hs=>specMadeOver g dv 0 many rows A c w (by omega) hm hrow
 | k+1,hk,many,rows,A,c,w,h,hm,hok,hl,hrow,hs=>by
  by_cases ho:300<many+1
  · exact specMadeOver g dv (k+1) many rows A c w ho hm hrow
  · by_cases h0:0<rows.length
    · by_cases ha:0<rows[0].asks.length
      · exact specMadeAsk g dv k many rows A c w (specMade g dv k (by omega)) ho h (by omega) hok h0 hl ha hrow hs
      · exact specMadeDone g dv k many rows A c w ho h0 hl (by omega) hrow hs
    · exact specMadeNone g dv k many rows A c w ho (by omega) hrow
set_option maxHeartbeats 1000000
def RowsToS (S:Nat->Prop) (rows:List (List GNode)) (w:World) (e:Ending) (w':World):Prop:=∃ A c,e= .returned (.slice A rows.length c)/\Sl w' (fun b=>Xs S w.heap.size b/\b<w'.heap.size) 1 A c (rows.map rowD)/\Below w.heap.size w w'
theorem specRowsS (S:Nat->Prop) (alts:List GNode) (A:Option Addr) (c:Nat) (w:World) (hl:alts.length<=1048576) (hS:∀ b,S b->b<w.heap.size) (hs:Sl w S 5 A c (alts.map GNode.toD)):
 Calls Tryz.prog 32 #[.slice A alts.length c] w (RowsToS S (rowsOf patOf alts) w):=by
 have HS:=LH hs
 have HSL:=LH hS
 obtain⟨w0,e0⟩:∃ w0,w0=w.alloc (.cells #[] 25):=⟨_,rfl⟩
 have E0:=LH (show Below w.heap.size w w0 by rw [e0];exact(Below.refl _ _).alloc (Nat.le_refl _) _)
 have G0:=LH (show Grx (Xs S w.heap.size) w0 w.heap.size 25 1 (.slice (some ⟨w.heap.size,0,none⟩) 0 0) 0 [] from Grx.made (by rw [e0];exact Row.new' _ _ _ rfl) (Nat.le_refl _))
 clear hs hS
 go_enter Tryz.func32,Tryz.ntmps32
 go_wp2_with fail
 rw [<- e0]
 clear e0
 go_loopw [3,4] (fun v i wr=>∃ (j:Nat) (A:Option Addr) (c:Nat),j<=alts.length/\i= .int .i64 j/\v= .slice A j c/\Hid (Grx (Xs S w.heap.size) wr w.heap.size 25 1 (.slice A j c) j ((rowsOf patOf (alts.take j)).map rowD))/\Hid (Below w.heap.size w wr)) (fun _ i _=>alts.length - (intOf i).toNat)
 case atStart=>exact⟨0,_,_,by omega,by go_num,rfl,G0,E0⟩
 case round=>
  clear G0 E0
  obtain⟨j,A',c',hj,rfl,rfl,HG,HB⟩:=hrel
  have hsz:=HB.out.size
  have HOW:=LH (fun g (hg:(Value.slice A' j c').ownBlock=some g)=>HG.out.own g hg)
  by_cases hlt:j<alts.length
  ·
   obtain⟨b,off,A1,c1,rfl,hSb,q0,q1,q2,q3,q4,hat⟩:=GNode.elem (HS.out.keep (w':=wr) (S':=S) fun k hk=>⟨hk,HB.out.block k (HSL.out k hk)⟩) j hlt
   have HT:=LH (rowsOf_take (f:=patOf) hlt)
   have hkm:(alts[j]).kids.length<=9223372036854775807:=by simpa using hat.2.2.2.2.len
   obtain⟨wa,ea⟩:∃ wa,wa=wr.alloc (.cells #[.int .i64 17,.int .i64 0,.string ⟨#[]⟩,.string ⟨#[]⟩,.slice none 0 0] 49):=⟨_,rfl⟩
   have EA:=LH (show Below wr.heap.size wr wa by rw [ea];exact(Below.refl _ _).alloc (Nat.le_refl _) _)
   have RA:=LH (show Row wa wr.heap.size 49 #[.int .i64 17,.int .i64 0,.string ⟨#[]⟩,.string ⟨#[]⟩,.slice none 0 0] by rw [ea];exact Row.new' _ _ _ rfl)
   have hsa:=Nat.le_trans hsz EA.out.size
   have k4:=(EA.out.cell (p:=⟨b,off+j*5+4,none⟩) (Nat.lt_of_lt_of_le (HSL.out _ hSb) hsz)).trans q4
   cases hks:(alts[j]).kids with
   | nil=>
    have HV:=LH (show patOf alts[j]=anyN from patOf_nil hks)
    rw [hks] at k4
    rw [ea] at k4
    have hwa:wa.heap.size=wr.heap.size+1:=by rw [ea];simp
    obtain⟨w3,e3⟩:∃ w3,w3=wa.alloc (.cells #[.slice (some ⟨wr.heap.size,0,none⟩) 1 1] 25):=⟨_,rfl⟩
    have E3:=LH (show Below wa.heap.size wa w3 by rw [e3];exact(Below.refl _ _).alloc (Nat.le_refl _) _)
    have T3:=LH (oneRow (X:=Xs S w.heap.size) (r:=[anyN]) (w':=w3) (T:=25) (Value.slice A' j c') (fun g hg=>Nat.lt_of_lt_of_le (HOW.out g hg).2 EA.out.size) (.inr (by have:=EA.out.size;omega)) e3
      (slOne RA.out (anyN_cells _ _) rfl ⟨RA.out.lt,fun e=>by have:=(HOW.out _ e).2;omega,.inr (by omega)⟩))
    have T3x:=LH (show Sl w3 (fun b=>b<w3.heap.size/\(Value.slice A' j c').ownBlock≠some b/\Xs S w.heap.size b) 1 (some ⟨wr.heap.size+1,0,none⟩) 1 ([[anyN]].map rowD) from by have h:=T3.out;rw [hwa] at h;exact h)
    clear hwa
    have G3:=LH ((HG.out.below EA.out).below E3.out)
    have hs3:=Nat.le_trans hsa E3.out.size
    have B3:=LH ((HB.out.trans (EA.out.mono hsz)).trans (E3.out.mono hsa))
    clear hat hks q0 q1 q2 q3 q4
    go_wp2_with (first | (at_builtin;rw [<- ea,<- e3];refine wpList_append_X w3 rfl (.tmp 30) (.tmp 32) 76 rfl 25 zRow 1 24 Tryz.underlying76 (by kernel_rfl) rfl (by omega) w.heap.size (.slice A' j c') j _ G3.out (some ⟨wr.heap.size+1,0,none⟩) 1 1 _ rfl T3x.out hs3 (by unfold maxLen;omega) (by omega) rfl rfl ?_;intro A4 c4 w4 G4 hGr4;have G4h:=LH G4;have B4:=LH (B3.out.trans (hGr4.below hs3 (fun g hg=>(HOW.out g hg).1)));clear G4 hGr4))
    go_roundw
    case rel=>exact⟨j+1,A4,c4,by omega,by go_num,rfl,LH (by rw [HT.out,HV.out,List.map_append];exact G4h.out),B4⟩
    case measure=>simp [intOf];omega
   | cons k r=>
    have hl:(alts[j]).kids.length=r.length+1:=by rw [hks];rfl
    have HV:=LH (show patOf alts[j]=k from patOf_cons hks)
    have hat2:=hat.2.2.2.2
    rw [hks] at hat2
    obtain⟨bk,offk,A2,c2,rfl,hSk,p0,p1,p2,p3,p4,hk⟩:=GNode.elem hat2 0 (by simp)
    simp only [Nat.zero_mul,Nat.add_zero,List.getElem_cons_zero] at p0 p1 p2 p3 p4 hk
    rw [hl] at k4 hkm
    have m0:=(EA.out.cell (p:=⟨bk,offk,none⟩) (Nat.lt_of_lt_of_le (HSL.out _ hSk) hsz)).trans p0
    have m1:=(EA.out.cell (p:=⟨bk,offk+1,none⟩) (Nat.lt_of_lt_of_le (HSL.out _ hSk) hsz)).trans p1
    have m2:=(EA.out.cell (p:=⟨bk,offk+2,none⟩) (Nat.lt_of_lt_of_le (HSL.out _ hSk) hsz)).trans p2
    have m3:=(EA.out.cell (p:=⟨bk,offk+3,none⟩) (Nat.lt_of_lt_of_le (HSL.out _ hSk) hsz)).trans p3
    have m4:=(EA.out.cell (p:=⟨bk,offk+4,none⟩) (Nat.lt_of_lt_of_le (HSL.out _ hSk) hsz)).trans p4
    rw [ea] at k4 m0 m1 m2 m3 m4
    have hwa:wa.heap.size=wr.heap.size+1:=by rw [ea];simp
    obtain⟨wb,eb⟩:∃ wb,wb=wa.alloc (.cells #[.int .i64 k.op,.int .i64 k.n,.string k.s,.string k.t,.slice A2 k.kids.length c2] 49):=⟨_,rfl⟩
    have EB:=LH (show Below wa.heap.size wa wb by rw [eb];exact(Below.refl _ _).alloc (Nat.le_refl _) _)
    have RB:=LH (show Row wb (wr.heap.size+1) 49 #[.int .i64 k.op,.int .i64 k.n,.string k.s,.string k.t,.slice A2 k.kids.length c2] by rw [eb];exact Row.new' _ _ _ hwa.symm)
    have hwb:wb.heap.size=wr.heap.size+2:=by rw [eb];simp;omega
    obtain⟨w3,e3⟩:∃ w3,w3=wb.alloc (.cells #[.slice (some ⟨wr.heap.size+1,0,none⟩) 1 1] 25):=⟨_,rfl⟩
    have E3:=LH (show Below wb.heap.size wb w3 by rw [e3];exact(Below.refl _ _).alloc (Nat.le_refl _) _)
    have T3:=LH (oneRow (X:=Xs S w.heap.size) (r:=[k]) (w':=w3) (T:=25) (Value.slice A' j c') (fun g hg=>Nat.lt_of_lt_of_le (HOW.out g hg).2 (Nat.le_trans EA.out.size EB.out.size)) (.inr (by have:=EA.out.size;omega)) e3
      (slOne RB.out (GNode.rd_mk (t:=k) (hk.keep (w':=wb) (S':=fun b=>b<wb.heap.size/\(Value.slice A' j c').ownBlock≠some b/\Xs S w.heap.size b) fun b hb=>⟨⟨by have:=HSL.out b hb;omega,fun e=>by have:=(HOW.out _ e).1;have:=HSL.out b hb;omega,.inl hb⟩,(EB.out.block b (by have:=HSL.out b hb;omega)).trans (EA.out.block b (by have:=HSL.out b hb;omega))⟩)) rfl ⟨RB.out.lt,fun e=>by have:=(HOW.out _ e).2;omega,.inr (by omega)⟩))
    have T3x:=LH (show Sl w3 (fun b=>b<w3.heap.size/\(Value.slice A' j c').ownBlock≠some b/\Xs S w.heap.size b) 1 (some ⟨wr.heap.size+2,0,none⟩) 1 ([[k]].map rowD) from by have h:=T3.out;rw [hwb] at h;exact h)
    have G3:=LH (((HG.out.below EA.out).below EB.out).below E3.out)
    have hs3:w.heap.size<=w3.heap.size:=Nat.le_trans hsa (Nat.le_trans EB.out.size E3.out.size)
    have B3:=LH (((HB.out.trans (EA.out.mono hsz)).trans (EB.out.mono hsa)).trans (E3.out.mono (Nat.le_trans hsa EB.out.size)))
    rw [hl] at q4
    clear hat hat2 hks hk p0 p1 p2 p3 p4 hwa hwb hl q0 q1 q2 q3
    go_wp2_with (first | (at_builtin;rw [<- ea,<- eb,<- e3];refine wpList_append_X w3 rfl (.tmp 30) (.tmp 32) 76 rfl 25 zRow 1 24 Tryz.underlying76 (by kernel_rfl) rfl (by omega) w.heap.size (.slice A' j c') j _ G3.out (some ⟨wr.heap.size+2,0,none⟩) 1 1 _ rfl T3x.out hs3 (by unfold maxLen;omega) (by omega) rfl rfl ?_;intro A4 c4 w4 G4 hGr4;have G4h:=LH G4;have B4:=LH (B3.out.trans (hGr4.below hs3 (fun g hg=>(HOW.out g hg).1)));clear G4 hGr4))
    go_roundw
    case rel=>exact⟨j+1,A4,c4,by omega,by go_num,rfl,LH (by rw [HT.out,HV.out,List.map_append];exact G4h.out),B4⟩
    case measure=>simp [intOf];omega
  ·
   have hje:j=alts.length:=by omega
   have HLE:=LH (show alts.take j=alts by rw [hje,List.take_length])
   clear hje
   go_wp2_with fail
   go_ret
   have hG:=HG.out
   rw [HLE.out] at hG
   obtain⟨A5,c5,e5,hs5⟩:=hG.slY (Y:=Xs S w.heap.size) (fun _ h=>h) (fun b h=>.inr h)
   have hl5:=hG.1
   obtain⟨rfl,rfl⟩:A'=A5/\c'=c5:=by simpa using e5
   exact⟨A',c',ret_sl (by rw [<- hl5];simp),hs5,HB.out⟩
end Go.Proofs.YtamfolaicncblaaGreat
