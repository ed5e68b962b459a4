/- Texts of the claim LTreesRight in one: TrightP PatR DnG AltI. Conditions: none but bounds on sizes. -/
import Derived.Test.YtamfolaicncblaaGreatZLTreesRight29
import Derived.Test.YtamfolaicncblaaGreatZLTreesRight6
import Derived.Test.YtamfolaicncblaaGreatZLTreesRight16
import Derived.Test.YtamfolaicncblaaGreatZLTreesRight2
namespace Go.Proofs.YtamfolaicncblaaGreat
set_option maxRecDepth 20000
set_option linter.unusedVariables false
set_option linter.unusedSimpArgs false
open Go.RowKit
set_option maxHeartbeats 1000000
def shP:Nat->GNode->Prop
 | 0,p=>(p.op=19-> -1000<=p.n/\p.n<=1000)/\p.kids= []
 | d+1,p=>(p.op=19-> -1000<=p.n/\p.n<=1000)/\∀ k∈p.kids,shP d k
theorem shP.n {d:Nat} {p:GNode} (h:shP d p):p.op=19-> -1000<=p.n/\p.n<=1000:=by cases d<;>exact h.1
theorem shP.kid {d:Nat} {p k:GNode} (h:shP d p) (hk:k∈p.kids):∃ e,d=e+1/\shP e k:=by
 cases d with
 | zero=>rw [h.2] at hk;cases hk
 | succ d=>exact⟨d,rfl,h.2 k hk⟩
theorem patD_sh:∀ (d:Nat) (p:GNode),patD d p->shP d p
 | 0,p,h=>by obtain rfl:=h;exact⟨fun e=>by simp [GNode.op] at e,rfl⟩
 | d+1,p,h=>by
  rcases h with rfl | ⟨x,hx,rfl⟩ | rfl | rfl | ⟨a,b,ha,hb,rfl⟩ | ⟨a,ha,rfl⟩
  · exact⟨fun e=>by simp [GNode.op] at e,fun k hk=>by simp [GNode.kids] at hk⟩
  · exact⟨fun e=>by simp only [GNode.n];omega,fun k hk=>by simp [GNode.kids] at hk⟩
  · exact⟨fun e=>by simp [GNode.op] at e,fun k hk=>by simp [GNode.kids] at hk⟩
  · exact⟨fun e=>by simp [GNode.op] at e,fun k hk=>by simp [GNode.kids] at hk⟩
  · refine⟨fun e=>by simp [GNode.op] at e,fun k hk=>?_⟩
    rcases(show k=a\/k=b by simpa [GNode.kids] using hk) with rfl | rfl
    · exact patD_sh d _ ha
    · exact patD_sh d _ hb
  · refine⟨fun e=>by simp [GNode.op] at e,fun k hk=>?_⟩
    obtain rfl:k=a:=by simpa [GNode.kids] using hk
    exact patD_sh d _ ha
def AskS (ds:List GData) (a:GAsk):Prop:=isAnyB a.pat=false/\(a.path.all fun x=>decide (0<=x))=true/\conOk ds a.pat=true/\∃ d,shP d a.pat/\a.path.length+d<=24
def RowS (ds:List GData) (r:GTrow):Prop:=0<=r.alt/\∀ a∈r.asks,AskS ds a
theorem kids_askS {ds:List GData} {x:GAsk} (hx:AskS ds x):∀ z∈bareA (kidsA x.path 0 x.pat.kids),AskS ds z:=by
 obtain⟨hb,hp,hc,d,hd,hl⟩:=hx
 intro z hz
 unfold bareA at hz
 rw [List.mem_filter] at hz
 obtain⟨j,hj,rfl⟩:=kidsA_memP _ _ _ _ hz.1
 obtain⟨d',rfl,hpk⟩:=hd.kid (List.getElem_mem hj)
 rw [conOk_eq,Bool.and_eq_true,conOkL_all,List.all_eq_true] at hc
 refine⟨by simpa using hz.2,?_,hc.2 _ (List.getElem_mem hj),d',hpk,by simp;omega⟩
 rw [List.all_append,hp]
 simp
theorem yesR_S {ds:List GData} {a:GAsk} {rows:List GTrow} (h:∀ r∈rows,RowS ds r):∀ r∈yesR a rows,RowS ds r:=by
 intro r' hr'
 unfold yesR at hr'
 obtain⟨r,hr,e⟩:=List.mem_filterMap.1 hr'
 have hro:=h r hr
 unfold yes1 at e
 by_cases hn:findA r.asks a.path<0
 · rw [if_pos hn] at e
   obtain rfl:r=r':=by simpa using e
   exact hro
 ·
  rw [if_neg hn] at e
  obtain⟨k,hk,ek,hpk,-⟩:=idxI_spec (p:=fun x:GAsk=>x.path ==a.path) (l:=r.asks) (show 0<=findA r.asks a.path by omega)
  have ek2:(findA r.asks a.path).toNat=k:=by
   have:findA r.asks a.path=(k:Int):=ek
   omega
  rw [ek2,List.getElem?_eq_getElem hk] at e
  dsimp only at e
  have hxp:r.asks[k].path=a.path:=by simpa using hpk
  split at e
  ·
   obtain rfl:=(Option.some.inj e).symm
   refine⟨hro.1,fun z hz=>?_⟩
   simp only [List.mem_append] at hz
   rcases hz with (hz | hz) | hz
   · exact hro.2 z (List.mem_of_mem_take hz)
   · rw [<- hxp] at hz
     exact kids_askS (hro.2 _ (List.getElem_mem hk)) z hz
   · exact hro.2 z (List.mem_of_mem_drop hz)
  · cases e
theorem askT_okS {ds:List GData} {a:GAsk} {t1 t2:GTree} (ha:AskS ds a) (h1:t1.okS ds=true) (h2:t2.okS ds=true):(askT a [t1,t2]).okS ds=true:=by
 obtain⟨hb,hp,hc,d,hd,hl⟩:=ha
 rw [GTree.okS_eq,(askT_path a [t1,t2]).1,(askT_path a [t1,t2]).2.1,hp]
 have hk:([t1,t2].all (GTree.okS ds))=true:=by simp [h1,h2]
 rw [hk,Bool.true_and,Bool.and_true]
 unfold askT
 by_cases ho:a.pat.op=20
 ·
  rw [if_pos ho]
  rw [conOk_eq,Bool.and_eq_true,ho] at hc
  have hag:argsOk ds a.pat.s a.pat.kids.length=true:=by simpa using hc.1
  have ht:=argsOk_tag hag
  show tree1 (tagI (tagOf a.pat.s ds 0)) 3 0 a.pat.s a.path.length 2=true
  rw [tree1_con,decide_eq_true ht,decide_eq_true (by omega)]
  rfl
 ·
  have h19:a.pat.op=19:=by
   unfold isAnyB at hb
   simp only [Bool.and_eq_false_iff,bne_eq_false_iff_eq] at hb
   rcases hb with h | h
   · exact absurd h ho
   · exact h
  have hr:=hd.n h19
  rw [if_neg ho]
  show tree1 (tagI (tagOf ⟨#[]⟩ ds 0)) 4 a.pat.n ⟨#[]⟩ a.path.length 2=true
  rw [tree1_num,empty_isE,decide_eq_true (by omega)]
  unfold inB
  simp
  omega
theorem grow_okS {ds:List GData}:∀ (k many:Nat) (rows:List GTrow),(∀ r∈rows,RowS ds r)->300<many+k->(growV k many rows).2<=300->(growV k many rows).1.okS ds=true/\(growV k many rows).1.nodes+many<=(growV k many rows).2
 | 0,many,rows,_,hk,h2=>by
  have:(growV 0 many rows).2=many+1:=rfl
  omega
 | k+1,many,rows,hr,hk,h2=>by
  have hge:(growV (k+1) many rows)=growB (growV k) many rows:=rfl
  rw [hge] at h2 ⊢
  unfold growB at h2 ⊢
  by_cases hm:300<many+1
  · rw [if_pos hm] at h2;omega
  ·
   rw [if_neg hm] at h2 ⊢
   cases rows with
   | nil=>
    refine⟨?_,?_⟩
    · rw [GTree.okS_eq]
      show(true&&(tree1 (tagI (tagOf ⟨#[]⟩ ds 0)) 2 0 ⟨#[]⟩ 0 0&&true))=true
      rw [tree1_fail,empty_isE]
      rfl
    · dsimp only;rw [GTree.nodes_eq];simp [GTree.kids,GTree.nodesL];omega
   | cons r rest=>
    dsimp only at h2 ⊢
    cases hra:r.asks with
    | nil=>
     have h0:=(hr r List.mem_cons_self).1
     refine⟨?_,?_⟩
     · rw [GTree.okS_eq]
       show(true&&(tree1 (tagI (tagOf ⟨#[]⟩ ds 0)) 1 r.alt ⟨#[]⟩ 0 0&&true))=true
       rw [tree1_done,empty_isE,decide_eq_true h0]
       rfl
     · rw [GTree.nodes_eq];simp [GTree.kids,GTree.nodesL];omega
    | cons a t=>
     rw [hra] at h2
     dsimp only at h2 ⊢
     have hag:AskS ds a:=(hr r List.mem_cons_self).2 a (by rw [hra];exact List.mem_cons_self)
     have hl1:=growV_less k (many+1) (yesR a (r::rest))
     have hl2:=growV_less k (growV k (many+1) (yesR a (r::rest))).2 (noR a (r::rest))
     obtain⟨T1,hT1⟩:∃ T,growV k (many+1) (yesR a (r::rest))=T:=⟨_,rfl⟩
     obtain⟨T2,hT2⟩:∃ T,growV k T1.2 (noR a (r::rest))=T:=⟨_,rfl⟩
     rw [hT1] at h2 hl1 hl2 ⊢
     rw [hT2] at h2 hl2 ⊢
     have i1:=grow_okS k (many+1) (yesR a (r::rest)) (yesR_S hr) (by omega) (by rw [hT1];omega)
     have i2:=grow_okS k T1.2 (noR a (r::rest)) (fun x hx=>hr x (List.mem_filter.1 hx).1) (by omega) (by rw [hT2];omega)
     rw [hT1] at i1
     rw [hT2] at i2
     refine⟨askT_okS hag i1.1 i2.1,?_⟩
     rw [GTree.nodes_eq,(askT_path a [T1.1,T2.1]).2.1]
     simp only [GTree.nodesL]
     omega
theorem rows_S (ds:List GData) (d:Nat) (hd:d<=24):∀ (l:List GNode) (i:Nat),(∀ p∈l,shP d p/\conOk ds p=true)->∀ r∈rowsA i l,RowS ds r
 | [],i,_,r,hr=>by simp [rowsA] at hr
 | p::q,i,h,r,hr=>by
  simp only [rowsA,List.mem_cons] at hr
  rcases hr with rfl | hr
  · refine⟨by simp [rowA],fun a ha=>?_⟩
    unfold rowA bareA at ha
    rw [List.mem_filter] at ha
    obtain⟨ha1,ha2⟩:=ha
    obtain rfl:a=⟨[],p⟩:=by simpa using ha1
    exact⟨by simpa using ha2,rfl,(h p List.mem_cons_self).2,d,(h p List.mem_cons_self).1,by simpa using hd⟩
  · exact rows_S ds d hd q (i+1) (fun x hx=>h x (List.mem_cons_of_mem _ hx)) r hr
theorem right_law {ds:List GData} {l:List GNode} {d:Nat} (hd:d<=24) (hp:∀ p∈l,shP d p):(treesV ds l).1.ok ds=(treesV ds l).2:=by
 cases h:(treesV ds l).2 with
 | false=>
  rw [trees_op h]
  have h0:zeroT.okS ds=false:=by
   rw [GTree.okS_eq]
   show(true&&(tree1 (tagI (tagOf ⟨#[]⟩ ds 0)) 0 0 ⟨#[]⟩ 0 0&&true))=false
   unfold tree1
   rw [if_neg (by decide),if_neg (by decide),if_neg (by decide),if_neg (by decide)]
   rfl
  show(decide (zeroT.nodes<=300)&&zeroT.okS ds)=false
  rw [h0,Bool.and_false]
 | true=>
  unfold treesV at h ⊢
  split at h
  ·
   rename_i hc
   rw [if_pos hc]
   split at h
   · rename_i h3
     rw [if_pos h3]
     have h2:=grow_okS (ds:=ds) 301 0 (rowsA 0 l) (rows_S ds d hd _ 0 fun p h=>⟨hp p h,(List.all_eq_true.1 hc) p h⟩) (by omega) h3
     dsimp only
     unfold GTree.ok
     rw [h2.1,Bool.and_true]
     exact decide_eq_true (by omega)
   · cases h
  · cases h
def patR:Nat->GNode->Prop
 | 0,p=>p= .mk 17 0 ⟨#[]⟩ ⟨#[]⟩ []\/(∃ s:ByteArray,s.size<=8/\p= .mk 18 0 s ⟨#[]⟩ [])
 | d+1,p=>p= .mk 17 0 ⟨#[]⟩ ⟨#[]⟩ []\/(∃ s:ByteArray,s.size<=8/\p= .mk 18 0 s ⟨#[]⟩ [])\/(∃ x:Int,(0<=x/\x<3)/\p= .mk 19 x ⟨#[]⟩ ⟨#[]⟩ [])\/p= .mk 20 0 sNil ⟨#[]⟩ []\/p= .mk 20 0 sNone ⟨#[]⟩ []\/
  (∃ a b,patR d a/\patR d b/\p= .mk 20 0 sCons ⟨#[]⟩ [a,b])\/(∃ a,patR d a/\p= .mk 20 0 sSome ⟨#[]⟩ [a])
theorem patR_sh:∀ (d:Nat) (p:GNode),patR d p->shP d p
 | 0,p,h=>by
  rcases h with rfl | ⟨s,hs,rfl⟩
  · exact⟨fun h=>by simp [GNode.op] at h,rfl⟩
  · exact⟨fun h=>by simp [GNode.op] at h,rfl⟩
 | d+1,p,h=>by
  rcases h with rfl | ⟨s,hs,rfl⟩ | ⟨x,hx,rfl⟩ | rfl | rfl | ⟨a,b,ha,hb,rfl⟩ | ⟨a,ha,rfl⟩
  · exact⟨fun h=>by simp [GNode.op] at h,fun k hk=>by simp [GNode.kids] at hk⟩
  · exact⟨fun h=>by simp [GNode.op] at h,fun k hk=>by simp [GNode.kids] at hk⟩
  · exact⟨fun h=>by simp only [GNode.n];omega,fun k hk=>by simp [GNode.kids] at hk⟩
  · exact⟨fun h=>by simp [GNode.op] at h,fun k hk=>by simp [GNode.kids] at hk⟩
  · exact⟨fun h=>by simp [GNode.op] at h,fun k hk=>by simp [GNode.kids] at hk⟩
  · refine⟨fun h=>by simp [GNode.op] at h,fun k hk=>?_⟩
    simp only [GNode.kids,List.mem_cons,List.not_mem_nil,or_false] at hk
    rcases hk with rfl | rfl
    · exact patR_sh d _ ha
    · exact patR_sh d _ hb
  · refine⟨fun h=>by simp [GNode.op] at h,fun k hk=>?_⟩
    simp only [GNode.kids,List.mem_cons,List.not_mem_nil,or_false] at hk
    obtain rfl:=hk
    exact patR_sh d _ ha
theorem patR_bulk:∀ (d:Nat) (p:GNode),patR d p->p.bulk+8<=16*2 ^ d
 | 0,p,h=>by
  rcases h with rfl | ⟨s,hs,rfl⟩
  · rw [GNode.bulk_eq];simp [GNode.s,GNode.t,GNode.kids,bulkL,ByteArray.size]
  · rw [GNode.bulk_eq];simp only [GNode.s,GNode.t,GNode.kids,bulkL];have h0:(⟨#[]⟩:ByteArray).size=0:=rfl;omega
 | d+1,p,h=>by
  have h1:1<=2 ^ d:=Nat.one_le_two_pow
  rw [Nat.pow_succ]
  rcases h with rfl | ⟨s,hs,rfl⟩ | ⟨x,hx,rfl⟩ | rfl | rfl | ⟨a,b,ha,hb,rfl⟩ | ⟨a,ha,rfl⟩
  · rw [GNode.bulk_eq];simp [GNode.s,GNode.t,GNode.kids,bulkL,ByteArray.size];omega
  · rw [GNode.bulk_eq];simp only [GNode.s,GNode.t,GNode.kids,bulkL];have h0:(⟨#[]⟩:ByteArray).size=0:=rfl;omega
  · rw [GNode.bulk_eq];simp [GNode.s,GNode.t,GNode.kids,bulkL,ByteArray.size];omega
  · rw [GNode.bulk_eq];simp [GNode.s,GNode.t,GNode.kids,bulkL,ByteArray.size,sNil];omega
  · rw [GNode.bulk_eq];simp [GNode.s,GNode.t,GNode.kids,bulkL,ByteArray.size,sNone];omega
  · have i1:=patR_bulk d a ha
    have i2:=patR_bulk d b hb
    rw [GNode.bulk_eq];simp [GNode.s,GNode.t,GNode.kids,bulkL,ByteArray.size,sCons];omega
  · have i1:=patR_bulk d a ha
    rw [GNode.bulk_eq];simp [GNode.s,GNode.t,GNode.kids,bulkL,ByteArray.size,sSome];omega
def patQ (p:GNode):Prop:=shP 3 p/\p.bulk<=130
theorem patQ_D {p:GNode} (h:patD 3 p):patQ p:=⟨patD_sh 3 p h,by have:=patD_bulk 3 p h;omega⟩
theorem patQ_R {p:GNode} (h:patR 3 p):patQ p:=⟨patR_sh 3 p h,by have:=patR_bulk 3 p h;omega⟩
set_option maxHeartbeats 2000000
theorem drawPat (d:Nat):∀ (dd:Int) {l:List Int} {A:Option Addr} {c:Nat} {g:Nat} {w0 w:World},dd=(d:Int)->d<=100->Dm l A c g w0 w->
 Calls Tryz.prog 47 #[.pointer (some ⟨g,0,none⟩),.int .i64 dd] w (DrawnN l A c g (patR d) w):=by
 induction d with
 | zero=>
  intro dd l A c g w0 w hdd hd hm0
  have hm:=hm0.again
  clear hm0
  have h0:(dd ==0)=true:=by rw [hdd];rfl
  clear hdd
  have hgl:=hm.lt
  have M0:=LH hm
  clear hm
  go_enter Tryz.func47,Tryz.ntmps47
  refine wp_hide (fun BP hBP=>?_)
  have HBP:=LH hBP
  clear hBP
  go_wp2_with fail
  obtain⟨w1,e1,Rr1,hz1,K1⟩:=boxed w 49 #[.int .i64 0,.int .i64 0,.string ⟨#[]⟩,.string ⟨#[]⟩,.slice none 0 0]
  have M1:=LH (M0.out.chg K1.out (by omega) (by omega))
  rw [<- e1]
  clear e1
  refine(drawOnceD M1.out 3 (by omega) (by omega)).mono ?_
  rintro e w2 ⟨b0,rfl,hm2⟩
  have hz2:=hm2.size
  have K2:=LH hm2.bx
  have Rr2:=LH (K2.out.row Rr1.out (by omega))
  have M2:=LH (M1.out.trans hm2)
  clear Rr1 M1
  clear hm2
  have hcr2:=fun i=>Rr2.out.cell i
  have hfr2:=fun i=>Rr2.out.frozen i
  cases b0
  ·
   go_wp2_with fail
   clear hcr2 hfr2
   obtain⟨w3,e3,RN3,hz3,K3⟩:=stored5 Rr2.out (.int .i64 17) (.int .i64 0) (.string ⟨#[]⟩) (.string ⟨#[]⟩) (.slice none 0 0)
   have M3:=LH (M2.out.chg K3.out (by omega) (by omega))
   clear M2
   clear Rr2
   rw [<- e3]
   clear e3
   have hcr3:=fun i=>RN3.out.cell i
   show BP _ _
   rw [HBP.out]
   refine bodyPost_ret (v:=.agg #[.int .i64 17,.int .i64 0,.string ⟨#[]⟩,.string ⟨#[]⟩,.slice none 0 0]) (by simp [results,Tryz.results47,go_sem,hcr3]) rfl ?_
   exact⟨.mk 17 0 ⟨#[]⟩ ⟨#[]⟩ [],none,0,rfl,.inl rfl,GNode.leaf (show(Lit.int .i64 17).wf=true by decide) (show(Lit.int .i64 0).wf=true by decide) empty_le empty_le,M3.out⟩
  ·
   go_wp2_with fail
   clear hcr2 hfr2
   obtain⟨w3,e3,Rrow3,hz3,K3⟩:=boxed w2 9 #[.string ⟨#[120]⟩,.string ⟨#[121]⟩,.string ⟨#[122]⟩]
   have Rr3:=LH (K3.out.row Rr2.out (by omega))
   have M3:=LH (M2.out.chg K3.out (by omega) (by omega))
   clear Rr2 M2
   rw [<- e3]
   clear e3
   refine(drawPickD M3.out [⟨#[120]⟩,⟨#[121]⟩,⟨#[122]⟩] w2.heap.size (by omega) 9 Rrow3.out (by simp) (by simp) (fun s=>s.size<=8) (by intro s hs;simp at hs;rcases hs with rfl | rfl | rfl<;>decide)).mono ?_
   rintro e w4 ⟨y,rfl,hy,hm4⟩
   have K4:=LH hm4.bx
   have Rr4:=LH (K4.out.row Rr3.out (by omega))
   have M4:=LH (M3.out.trans hm4)
   clear Rr3 Rrow3 M3
   clear hm4
   have hcr4:=fun i=>Rr4.out.cell i
   have hfr4:=fun i=>Rr4.out.frozen i
   go_wp2_with fail
   clear hcr4 hfr4
   obtain⟨w5,e5,RN5,hz5,K5⟩:=stored5 Rr4.out (.int .i64 18) (.int .i64 0) (.string y) (.string ⟨#[]⟩) (.slice none 0 0)
   have M5:=LH (M4.out.chg K5.out (by omega) (by omega))
   clear M4
   clear Rr4
   rw [<- e5]
   clear e5
   have hcr5:=fun i=>RN5.out.cell i
   show BP _ _
   rw [HBP.out]
   refine bodyPost_ret (v:=.agg #[.int .i64 18,.int .i64 0,.string y,.string ⟨#[]⟩,.slice none 0 0]) (by simp [results,Tryz.results47,go_sem,hcr5]) rfl ?_
   exact⟨.mk 18 0 y ⟨#[]⟩ [],none,0,rfl,.inr ⟨y,hy,rfl⟩,GNode.leaf (show(Lit.int .i64 18).wf=true by decide) (show(Lit.int .i64 0).wf=true by decide) (short_le hy) empty_le,M5.out⟩
 | succ d ih=>
  intro dd l A c g w0 w hdd hd hm0
  have hm:=hm0.again
  clear hm0
  have h0:(dd ==0)=false:=by rw [beq_eq_false_iff_ne,hdd];omega
  have hwd:IntKind.i64.wrap (dd - 1)=dd - 1:=by rw [IntKind.wrap_i64];omega
  have hIH:=LH (fun(wa wb:World) (m:Dm l A c g wa wb)=>ih (dd - 1) (w0:=wa) (w:=wb) (by omega) (by omega) m)
  clear ih hdd hd
  have hgl:=hm.lt
  have M0:=LH hm
  clear hm
  go_enter Tryz.func47,Tryz.ntmps47
  refine wp_hide (fun BP hBP=>?_)
  have HBP:=LH hBP
  clear hBP
  go_wp2_with fail
  obtain⟨w1,e1,Rr1,hz1,K1⟩:=boxed w 49 #[.int .i64 0,.int .i64 0,.string ⟨#[]⟩,.string ⟨#[]⟩,.slice none 0 0]
  have M1:=LH (M0.out.chg K1.out (by omega) (by omega))
  rw [<- e1]
  clear e1
  refine(drawOnceD M1.out 3 (by omega) (by omega)).mono ?_
  rintro e w2 ⟨b0,rfl,hm2⟩
  have hz2:=hm2.size
  have K2:=LH hm2.bx
  have Rr2:=LH (K2.out.row Rr1.out (by omega))
  have M2:=LH (M1.out.trans hm2)
  clear Rr1 M1
  clear hm2
  cases b0
  ·
   go_wp2_with fail
   refine(drawBelowD M2.out 6 (by omega) (by omega)).mono ?_
   rintro e w3 ⟨x,rfl,hx,hm3⟩
   have hz3:=hm3.size
   have K3:=LH hm3.bx
   have Rr3:=LH (K3.out.row Rr2.out (by omega))
   have M3:=LH (M2.out.trans hm3)
   clear Rr2 M2
   clear hm3
   have hcr3:=fun i=>Rr3.out.cell i
   have hfr3:=fun i=>Rr3.out.frozen i
   by_cases x0:x=0
   ·
    go_wp2_with fail
    clear hcr3 hfr3
    obtain⟨w4,e4,RN4,hz4,K4⟩:=stored5 Rr3.out (.int .i64 20) (.int .i64 0) (.string ⟨#[78,105,108]⟩) (.string ⟨#[]⟩) (.slice none 0 0)
    have M4:=LH (M3.out.chg K4.out (by omega) (by omega))
    clear M3
    clear Rr3
    rw [<- e4]
    clear e4
    have hcr4:=fun i=>RN4.out.cell i
    show BP _ _
    rw [HBP.out]
    refine bodyPost_ret (v:=.agg #[.int .i64 20,.int .i64 0,.string ⟨#[78,105,108]⟩,.string ⟨#[]⟩,.slice none 0 0]) (by simp [results,Tryz.results47,go_sem,hcr4]) rfl ?_
    exact⟨.mk 20 0 sNil ⟨#[]⟩ [],none,0,rfl,.inr (.inr (.inr (.inl rfl))),GNode.leaf (show(Lit.int .i64 20).wf=true by decide) (show(Lit.int .i64 0).wf=true by decide) (short_le (show sNil.size<=8 by decide)) empty_le,M4.out⟩
   by_cases x1:x=1
   ·
    go_wp2_with fail
    refine(hIH.out _ _ M3.out).mono ?_
    clear hcr3 hfr3
    rintro e w4 ⟨a,Aa,ca,rfl,pa,ha4,hm4⟩
    have DN4:=LH ha4
    have hz4:=hm4.size
    have K4:=LH hm4.bx
    have Rr4:=LH (K4.out.row Rr3.out (by omega))
    have M4:=LH (M3.out.trans hm4)
    clear Rr3 M3
    clear hm4 ha4
    go_wp2_with fail
    obtain⟨w5,e5,Rxa5,hz5,K5⟩:=boxed w4 49 #[.int .i64 a.op,.int .i64 a.n,.string a.s,.string a.t,.slice Aa a.kids.length ca]
    have Rr5:=LH (K5.out.row Rr4.out (by omega))
    have Da5:=LH (DN4.out.keep fun b hb=>⟨hb,K5.out.block b (by have:=hb.1;have:=hb.2;omega) (by have:=hb.1;have:=hb.2;omega)⟩)
    have M5:=LH (M4.out.chg K5.out (by omega) (by omega))
    clear Rr4 DN4 M4
    rw [<- e5]
    clear e5
    refine(hIH.out _ _ M5.out).mono ?_
    rintro e w6 ⟨b,Ab,cb,rfl,pb,ha6,hm6⟩
    have DN6:=LH ha6
    have hz6:=hm6.size
    have K6:=LH hm6.bx
    have Rr6:=LH (K6.out.row Rr5.out (by omega))
    have Rxa6:=LH (K6.out.row Rxa5.out (by omega))
    have Da6:=LH (Da5.out.keep fun b hb=>⟨hb,K6.out.block b (by have:=hb.1;have:=hb.2;omega) (by have:=hb.1;have:=hb.2;omega)⟩)
    have M6:=LH (M5.out.trans hm6)
    clear Rr5 Rxa5 Da5 M5
    clear hm6 ha6
    have hcr6:=fun i=>Rr6.out.cell i
    have hfr6:=fun i=>Rr6.out.frozen i
    have hlr6:=Rr6.out.lt
    have hcxa6:=fun i=>Rxa6.out.cell i
    have hlxa6:=Rxa6.out.lt
    go_wp2_with fail
    clear hcr6 hfr6 hlr6 hcxa6 hlxa6
    obtain⟨w7,e7,RN7,hz7,K7⟩:=stored5 Rr6.out (.int .i64 20) (.int .i64 0) (.string ⟨#[67,111,110,115]⟩) (.string ⟨#[]⟩) (.slice (some ⟨(w6.heap.size+1),0,none⟩) 2 2)
    have Da7:=LH (Da6.out.keep fun b hb=>⟨hb,K7.out.block b (by have:=hb.1;have:=hb.2;omega) (by have:=hb.1;have:=hb.2;omega)⟩)
    have Db7:=LH (DN6.out.keep fun b hb=>⟨hb,K7.out.block b (by have:=hb.1;have:=hb.2;omega) (by have:=hb.1;have:=hb.2;omega)⟩)
    have M7:=LH (M6.out.chg K7.out (by omega) (by omega))
    clear Rxa6 Da6 DN6 M6
    clear Rr6
    obtain⟨w8,e8,Rbx8,hz8,K8⟩:=boxed w7 49 #[.int .i64 b.op,.int .i64 b.n,.string b.s,.string b.t,.slice Ab b.kids.length cb]
    have hy8:w7.heap.size=w6.heap.size:=by omega
    rw [hy8] at Rbx8 K8
    have Rr8:=LH (K8.out.row RN7.out (by omega))
    have Da8:=LH (Da7.out.keep fun b hb=>⟨hb,K8.out.block b (by have:=hb.1;have:=hb.2;omega) (by have:=hb.1;have:=hb.2;omega)⟩)
    have Db8:=LH (Db7.out.keep fun b hb=>⟨hb,K8.out.block b (by have:=hb.1;have:=hb.2;omega) (by have:=hb.1;have:=hb.2;omega)⟩)
    have M8:=LH (M7.out.chg K8.out (by omega) (by omega))
    clear RN7 Da7 Db7 M7
    obtain⟨w9,e9,Rrow9,hz9,K9⟩:=boxed w8 49 #[.int .i64 a.op,.int .i64 a.n,.string a.s,.string a.t,.slice Aa a.kids.length ca,.int .i64 b.op,.int .i64 b.n,.string b.s,.string b.t,.slice Ab b.kids.length cb]
    have hy9:w8.heap.size=(w6.heap.size+1):=by omega
    rw [hy9] at Rrow9 K9
    have Rr9:=LH (K9.out.row Rr8.out (by omega))
    have Da9:=LH (Da8.out.keep fun b hb=>⟨hb,K9.out.block b (by have:=hb.1;have:=hb.2;omega) (by have:=hb.1;have:=hb.2;omega)⟩)
    have Db9:=LH (Db8.out.keep fun b hb=>⟨hb,K9.out.block b (by have:=hb.1;have:=hb.2;omega) (by have:=hb.1;have:=hb.2;omega)⟩)
    have M9:=LH (M8.out.chg K9.out (by omega) (by omega))
    clear Rr8 Rbx8 Da8 Db8 M8
    have SL9:=LH (show Sl w9 (fun b=>b<w9.heap.size/\w.heap.size<=b/\b≠w.heap.size) 5 (some ⟨(w6.heap.size+1),0,none⟩) 2 ([a,b].map GNode.toD) from Sl.ofRow Rrow9.out (rdC_cons (GNode.rd_mk (Da9.out.keep (w':=w9) (S':=fun b=>b<w9.heap.size/\w.heap.size<=b/\b≠w.heap.size) fun b hb=>⟨⟨by omega,by omega⟩,rfl⟩)) rfl (rdC_one1 (GNode.rd_mk (Db9.out.keep (w':=w9) (S':=fun b=>b<w9.heap.size/\w.heap.size<=b/\b≠w.heap.size) fun b hb=>⟨⟨by omega,by omega⟩,rfl⟩)) rfl)) ⟨by omega,by omega⟩ (by simp) (by unfold maxLen;omega))
    rw [<- e7,<- e8,<- e9]
    clear e7 e8 e9
    have hcr9:=fun i=>Rr9.out.cell i
    show BP _ _
    rw [HBP.out]
    refine bodyPost_ret (v:=.agg #[.int .i64 20,.int .i64 0,.string ⟨#[67,111,110,115]⟩,.string ⟨#[]⟩,.slice (some ⟨(w6.heap.size+1),0,none⟩) 2 2]) (by simp [results,Tryz.results47,go_sem,hcr9]) rfl ?_
    exact⟨.mk 20 0 sCons ⟨#[]⟩ [a,b],some ⟨(w6.heap.size+1),0,none⟩,2,rfl,.inr (.inr (.inr (.inr (.inr (.inl ⟨a,b,pa,pb,rfl⟩))))),⟨show(Lit.int .i64 20).wf=true by decide,show(Lit.int .i64 0).wf=true by decide,short_le (show sCons.size<=8 by decide),empty_le,SL9.out.keep fun b hb=>⟨⟨by have h1:=hb.1;omega,by have h1:=hb.1;omega⟩,rfl⟩⟩,M9.out⟩
   by_cases x2:x=2
   ·
    go_wp2_with fail
    refine(hIH.out _ _ M3.out).mono ?_
    clear hcr3 hfr3
    rintro e w4 ⟨a,Aa,ca,rfl,pa,ha4,hm4⟩
    have DN4:=LH ha4
    have hz4:=hm4.size
    have K4:=LH hm4.bx
    have Rr4:=LH (K4.out.row Rr3.out (by omega))
    have M4:=LH (M3.out.trans hm4)
    clear Rr3 M3
    clear hm4 ha4
    go_wp2_with fail
    obtain⟨w5,e5,Rxa5,hz5,K5⟩:=boxed w4 49 #[.int .i64 a.op,.int .i64 a.n,.string a.s,.string a.t,.slice Aa a.kids.length ca]
    have Rr5:=LH (K5.out.row Rr4.out (by omega))
    have Da5:=LH (DN4.out.keep fun b hb=>⟨hb,K5.out.block b (by have:=hb.1;have:=hb.2;omega) (by have:=hb.1;have:=hb.2;omega)⟩)
    have M5:=LH (M4.out.chg K5.out (by omega) (by omega))
    clear Rr4 DN4 M4
    rw [<- e5]
    clear e5
    refine(hIH.out _ _ M5.out).mono ?_
    rintro e w6 ⟨b,Ab,cb,rfl,pb,ha6,hm6⟩
    have DN6:=LH ha6
    have hz6:=hm6.size
    have K6:=LH hm6.bx
    have Rr6:=LH (K6.out.row Rr5.out (by omega))
    have Rxa6:=LH (K6.out.row Rxa5.out (by omega))
    have Da6:=LH (Da5.out.keep fun b hb=>⟨hb,K6.out.block b (by have:=hb.1;have:=hb.2;omega) (by have:=hb.1;have:=hb.2;omega)⟩)
    have M6:=LH (M5.out.trans hm6)
    clear Rr5 Rxa5 Da5 M5
    clear hm6 ha6
    have hcr6:=fun i=>Rr6.out.cell i
    have hfr6:=fun i=>Rr6.out.frozen i
    have hlr6:=Rr6.out.lt
    have hcxa6:=fun i=>Rxa6.out.cell i
    have hlxa6:=Rxa6.out.lt
    go_wp2_with fail
    clear hcr6 hfr6 hlr6 hcxa6 hlxa6
    obtain⟨w7,e7,RN7,hz7,K7⟩:=stored5 Rr6.out (.int .i64 20) (.int .i64 0) (.string ⟨#[67,111,110,115]⟩) (.string ⟨#[]⟩) (.slice (some ⟨(w6.heap.size+1),0,none⟩) 2 2)
    have Da7:=LH (Da6.out.keep fun b hb=>⟨hb,K7.out.block b (by have:=hb.1;have:=hb.2;omega) (by have:=hb.1;have:=hb.2;omega)⟩)
    have Db7:=LH (DN6.out.keep fun b hb=>⟨hb,K7.out.block b (by have:=hb.1;have:=hb.2;omega) (by have:=hb.1;have:=hb.2;omega)⟩)
    have M7:=LH (M6.out.chg K7.out (by omega) (by omega))
    clear Rxa6 Da6 DN6 M6
    clear Rr6
    obtain⟨w8,e8,Rbx8,hz8,K8⟩:=boxed w7 49 #[.int .i64 b.op,.int .i64 b.n,.string b.s,.string b.t,.slice Ab b.kids.length cb]
    have hy8:w7.heap.size=w6.heap.size:=by omega
    rw [hy8] at Rbx8 K8
    have Rr8:=LH (K8.out.row RN7.out (by omega))
    have Da8:=LH (Da7.out.keep fun b hb=>⟨hb,K8.out.block b (by have:=hb.1;have:=hb.2;omega) (by have:=hb.1;have:=hb.2;omega)⟩)
    have Db8:=LH (Db7.out.keep fun b hb=>⟨hb,K8.out.block b (by have:=hb.1;have:=hb.2;omega) (by have:=hb.1;have:=hb.2;omega)⟩)
    have M8:=LH (M7.out.chg K8.out (by omega) (by omega))
    clear RN7 Da7 Db7 M7
    obtain⟨w9,e9,Rrow9,hz9,K9⟩:=boxed w8 49 #[.int .i64 a.op,.int .i64 a.n,.string a.s,.string a.t,.slice Aa a.kids.length ca,.int .i64 b.op,.int .i64 b.n,.string b.s,.string b.t,.slice Ab b.kids.length cb]
    have hy9:w8.heap.size=(w6.heap.size+1):=by omega
    rw [hy9] at Rrow9 K9
    have Rr9:=LH (K9.out.row Rr8.out (by omega))
    have Da9:=LH (Da8.out.keep fun b hb=>⟨hb,K9.out.block b (by have:=hb.1;have:=hb.2;omega) (by have:=hb.1;have:=hb.2;omega)⟩)
    have Db9:=LH (Db8.out.keep fun b hb=>⟨hb,K9.out.block b (by have:=hb.1;have:=hb.2;omega) (by have:=hb.1;have:=hb.2;omega)⟩)
    have M9:=LH (M8.out.chg K9.out (by omega) (by omega))
    clear Rr8 Rbx8 Da8 Db8 M8
    have SL9:=LH (show Sl w9 (fun b=>b<w9.heap.size/\w.heap.size<=b/\b≠w.heap.size) 5 (some ⟨(w6.heap.size+1),0,none⟩) 2 ([a,b].map GNode.toD) from Sl.ofRow Rrow9.out (rdC_cons (GNode.rd_mk (Da9.out.keep (w':=w9) (S':=fun b=>b<w9.heap.size/\w.heap.size<=b/\b≠w.heap.size) fun b hb=>⟨⟨by omega,by omega⟩,rfl⟩)) rfl (rdC_one1 (GNode.rd_mk (Db9.out.keep (w':=w9) (S':=fun b=>b<w9.heap.size/\w.heap.size<=b/\b≠w.heap.size) fun b hb=>⟨⟨by omega,by omega⟩,rfl⟩)) rfl)) ⟨by omega,by omega⟩ (by simp) (by unfold maxLen;omega))
    rw [<- e7,<- e8,<- e9]
    clear e7 e8 e9
    have hcr9:=fun i=>Rr9.out.cell i
    show BP _ _
    rw [HBP.out]
    refine bodyPost_ret (v:=.agg #[.int .i64 20,.int .i64 0,.string ⟨#[67,111,110,115]⟩,.string ⟨#[]⟩,.slice (some ⟨(w6.heap.size+1),0,none⟩) 2 2]) (by simp [results,Tryz.results47,go_sem,hcr9]) rfl ?_
    exact⟨.mk 20 0 sCons ⟨#[]⟩ [a,b],some ⟨(w6.heap.size+1),0,none⟩,2,rfl,.inr (.inr (.inr (.inr (.inr (.inl ⟨a,b,pa,pb,rfl⟩))))),⟨show(Lit.int .i64 20).wf=true by decide,show(Lit.int .i64 0).wf=true by decide,short_le (show sCons.size<=8 by decide),empty_le,SL9.out.keep fun b hb=>⟨⟨by have h1:=hb.1;omega,by have h1:=hb.1;omega⟩,rfl⟩⟩,M9.out⟩
   by_cases x3:x=3
   ·
    go_wp2_with fail
    clear hcr3 hfr3
    obtain⟨w4,e4,RN4,hz4,K4⟩:=stored5 Rr3.out (.int .i64 20) (.int .i64 0) (.string ⟨#[78,111,110,101]⟩) (.string ⟨#[]⟩) (.slice none 0 0)
    have M4:=LH (M3.out.chg K4.out (by omega) (by omega))
    clear M3
    clear Rr3
    rw [<- e4]
    clear e4
    have hcr4:=fun i=>RN4.out.cell i
    show BP _ _
    rw [HBP.out]
    refine bodyPost_ret (v:=.agg #[.int .i64 20,.int .i64 0,.string ⟨#[78,111,110,101]⟩,.string ⟨#[]⟩,.slice none 0 0]) (by simp [results,Tryz.results47,go_sem,hcr4]) rfl ?_
    exact⟨.mk 20 0 sNone ⟨#[]⟩ [],none,0,rfl,.inr (.inr (.inr (.inr (.inl rfl)))),GNode.leaf (show(Lit.int .i64 20).wf=true by decide) (show(Lit.int .i64 0).wf=true by decide) (short_le (show sNone.size<=8 by decide)) empty_le,M4.out⟩
   by_cases x4:x=4
   ·
    go_wp2_with fail
    refine(hIH.out _ _ M3.out).mono ?_
    clear hcr3 hfr3
    rintro e w4 ⟨a,Aa,ca,rfl,pa,ha4,hm4⟩
    have DN4:=LH ha4
    have hz4:=hm4.size
    have K4:=LH hm4.bx
    have Rr4:=LH (K4.out.row Rr3.out (by omega))
    have M4:=LH (M3.out.trans hm4)
    clear Rr3 M3
    clear hm4 ha4
    have hcr4:=fun i=>Rr4.out.cell i
    have hfr4:=fun i=>Rr4.out.frozen i
    have hlr4:=Rr4.out.lt
    go_wp2_with fail
    clear hcr4 hfr4 hlr4
    obtain⟨w5,e5,RN5,hz5,K5⟩:=stored5 Rr4.out (.int .i64 20) (.int .i64 0) (.string ⟨#[83,111,109,101]⟩) (.string ⟨#[]⟩) (.slice (some ⟨w4.heap.size,0,none⟩) 1 1)
    have Da5:=LH (DN4.out.keep fun b hb=>⟨hb,K5.out.block b (by have:=hb.1;have:=hb.2;omega) (by have:=hb.1;have:=hb.2;omega)⟩)
    have M5:=LH (M4.out.chg K5.out (by omega) (by omega))
    clear DN4 M4
    clear Rr4
    obtain⟨w6,e6,Rrow6,hz6,K6⟩:=boxed w5 49 #[.int .i64 a.op,.int .i64 a.n,.string a.s,.string a.t,.slice Aa a.kids.length ca]
    have hy6:w5.heap.size=w4.heap.size:=by omega
    rw [hy6] at Rrow6 K6
    have Rr6:=LH (K6.out.row RN5.out (by omega))
    have Da6:=LH (Da5.out.keep fun b hb=>⟨hb,K6.out.block b (by have:=hb.1;have:=hb.2;omega) (by have:=hb.1;have:=hb.2;omega)⟩)
    have M6:=LH (M5.out.chg K6.out (by omega) (by omega))
    clear RN5 Da5 M5
    have SL6:=LH (show Sl w6 (fun b=>b<w6.heap.size/\w.heap.size<=b/\b≠w.heap.size) 5 (some ⟨w4.heap.size,0,none⟩) 1 ([a].map GNode.toD) from Sl.ofRow Rrow6.out (rdC_one1 (GNode.rd_mk (Da6.out.keep (w':=w6) (S':=fun b=>b<w6.heap.size/\w.heap.size<=b/\b≠w.heap.size) fun b hb=>⟨⟨by omega,by omega⟩,rfl⟩)) rfl) ⟨by omega,by omega⟩ (by simp) (by unfold maxLen;omega))
    rw [<- e5,<- e6]
    clear e5 e6
    have hcr6:=fun i=>Rr6.out.cell i
    show BP _ _
    rw [HBP.out]
    refine bodyPost_ret (v:=.agg #[.int .i64 20,.int .i64 0,.string ⟨#[83,111,109,101]⟩,.string ⟨#[]⟩,.slice (some ⟨w4.heap.size,0,none⟩) 1 1]) (by simp [results,Tryz.results47,go_sem,hcr6]) rfl ?_
    exact⟨.mk 20 0 sSome ⟨#[]⟩ [a],some ⟨w4.heap.size,0,none⟩,1,rfl,.inr (.inr (.inr (.inr (.inr (.inr ⟨a,pa,rfl⟩))))),⟨show(Lit.int .i64 20).wf=true by decide,show(Lit.int .i64 0).wf=true by decide,short_le (show sSome.size<=8 by decide),empty_le,SL6.out.keep fun b hb=>⟨⟨by have h1:=hb.1;omega,by have h1:=hb.1;omega⟩,rfl⟩⟩,M6.out⟩
   have y0:(x ==0)=false:=beq_eq_false_iff_ne.2 (by omega)
   have y1:(x ==1)=false:=beq_eq_false_iff_ne.2 (by omega)
   have y2:(x ==2)=false:=beq_eq_false_iff_ne.2 (by omega)
   have y3:(x ==3)=false:=beq_eq_false_iff_ne.2 (by omega)
   have y4:(x ==4)=false:=beq_eq_false_iff_ne.2 (by omega)
   go_wp2_with fail
   refine(drawBelowD M3.out 3 (by omega) (by omega)).mono ?_
   clear hcr3 hfr3
   rintro e w4 ⟨y,rfl,hy,hm4⟩
   have K4:=LH hm4.bx
   have Rr4:=LH (K4.out.row Rr3.out (by omega))
   have M4:=LH (M3.out.trans hm4)
   clear Rr3 M3
   clear hm4
   have hcr4:=fun i=>Rr4.out.cell i
   have hfr4:=fun i=>Rr4.out.frozen i
   go_wp2_with fail
   clear hcr4 hfr4
   obtain⟨w5,e5,RN5,hz5,K5⟩:=stored5 Rr4.out (.int .i64 19) (.int .i64 y) (.string ⟨#[]⟩) (.string ⟨#[]⟩) (.slice none 0 0)
   have M5:=LH (M4.out.chg K5.out (by omega) (by omega))
   clear M4
   clear Rr4
   rw [<- e5]
   clear e5
   have hcr5:=fun i=>RN5.out.cell i
   show BP _ _
   rw [HBP.out]
   refine bodyPost_ret (v:=.agg #[.int .i64 19,.int .i64 y,.string ⟨#[]⟩,.string ⟨#[]⟩,.slice none 0 0]) (by simp [results,Tryz.results47,go_sem,hcr5]) rfl ?_
   exact⟨.mk 19 y ⟨#[]⟩ ⟨#[]⟩ [],none,0,rfl,.inr (.inr (.inl ⟨y,hy,rfl⟩)),GNode.leaf (show(Lit.int .i64 19).wf=true by decide) (int_wfS (by omega)) empty_le empty_le,M5.out⟩
  ·
   go_wp2_with fail
   refine(drawOnceD M2.out 3 (by omega) (by omega)).mono ?_
   rintro e w3 ⟨b1,rfl,hm3⟩
   have hz3:=hm3.size
   have K3:=LH hm3.bx
   have Rr3:=LH (K3.out.row Rr2.out (by omega))
   have M3:=LH (M2.out.trans hm3)
   clear Rr2 M2
   clear hm3
   have hcr3:=fun i=>Rr3.out.cell i
   have hfr3:=fun i=>Rr3.out.frozen i
   cases b1
   ·
    go_wp2_with fail
    clear hcr3 hfr3
    obtain⟨w4,e4,RN4,hz4,K4⟩:=stored5 Rr3.out (.int .i64 17) (.int .i64 0) (.string ⟨#[]⟩) (.string ⟨#[]⟩) (.slice none 0 0)
    have M4:=LH (M3.out.chg K4.out (by omega) (by omega))
    clear M3
    clear Rr3
    rw [<- e4]
    clear e4
    have hcr4:=fun i=>RN4.out.cell i
    show BP _ _
    rw [HBP.out]
    refine bodyPost_ret (v:=.agg #[.int .i64 17,.int .i64 0,.string ⟨#[]⟩,.string ⟨#[]⟩,.slice none 0 0]) (by simp [results,Tryz.results47,go_sem,hcr4]) rfl ?_
    exact⟨.mk 17 0 ⟨#[]⟩ ⟨#[]⟩ [],none,0,rfl,.inl rfl,GNode.leaf (show(Lit.int .i64 17).wf=true by decide) (show(Lit.int .i64 0).wf=true by decide) empty_le empty_le,M4.out⟩
   ·
    go_wp2_with fail
    clear hcr3 hfr3
    obtain⟨w4,e4,Rrow4,hz4,K4⟩:=boxed w3 9 #[.string ⟨#[120]⟩,.string ⟨#[121]⟩,.string ⟨#[122]⟩]
    have Rr4:=LH (K4.out.row Rr3.out (by omega))
    have M4:=LH (M3.out.chg K4.out (by omega) (by omega))
    clear Rr3 M3
    rw [<- e4]
    clear e4
    have hlr4:=Rr4.out.lt
    refine(drawPickD M4.out [⟨#[120]⟩,⟨#[121]⟩,⟨#[122]⟩] w3.heap.size (by omega) 9 Rrow4.out (by simp) (by simp) (fun s=>s.size<=8) (by intro s hs;simp at hs;rcases hs with rfl | rfl | rfl<;>decide)).mono ?_
    clear hlr4
    rintro e w5 ⟨y,rfl,hy,hm5⟩
    have K5:=LH hm5.bx
    have Rr5:=LH (K5.out.row Rr4.out (by omega))
    have M5:=LH (M4.out.trans hm5)
    clear Rr4 Rrow4 M4
    clear hm5
    have hcr5:=fun i=>Rr5.out.cell i
    have hfr5:=fun i=>Rr5.out.frozen i
    go_wp2_with fail
    clear hcr5 hfr5
    obtain⟨w6,e6,RN6,hz6,K6⟩:=stored5 Rr5.out (.int .i64 18) (.int .i64 0) (.string y) (.string ⟨#[]⟩) (.slice none 0 0)
    have M6:=LH (M5.out.chg K6.out (by omega) (by omega))
    clear M5
    clear Rr5
    rw [<- e6]
    clear e6
    have hcr6:=fun i=>RN6.out.cell i
    show BP _ _
    rw [HBP.out]
    refine bodyPost_ret (v:=.agg #[.int .i64 18,.int .i64 0,.string y,.string ⟨#[]⟩,.slice none 0 0]) (by simp [results,Tryz.results47,go_sem,hcr6]) rfl ?_
    exact⟨.mk 18 0 y ⟨#[]⟩ [],none,0,rfl,.inr (.inl ⟨y,hy,rfl⟩),GNode.leaf (show(Lit.int .i64 18).wf=true by decide) (show(Lit.int .i64 0).wf=true by decide) (short_le hy) empty_le,M6.out⟩
def altC (b:Nat):List Value:=[.int .i64 8,.int .i64 0,.string ⟨#[]⟩,.string ⟨#[]⟩,.slice (some ⟨b,0,none⟩) 2 2]
def altRow (p:GNode) (A:Option Addr) (c:Nat) (j:Nat):Array Value:=#[.int .i64 p.op,.int .i64 p.n,.string p.s,.string p.t,.slice A p.kids.length c,.int .i64 1,.int .i64 j,.string ⟨#[]⟩,.string ⟨#[]⟩,.slice none 0 0]
theorem altC_rd {w:World} {S:Nat->Prop} {g:Nat} {T:TypeId} {p:GNode} {j:Nat} {A1:Option Addr} {c1:Nat} (hj:j<=1000) (hr:Row w g T (altRow p A1 c1 j)) (hp:GNode.At w S A1 c1 p) (hg:S g):(altN p j).toD.rd w S (altC g):=
 GNode.rd_mk (altAt hj hr hp hg)
def AltI (w:World) (T:TypeId) (v:Value) (lo hi:Nat) (alts:List GNode) (cells:List Value):Prop:=
 (alts= []/\cells= [])\/∃ p0 b0 A0 c0 rest cr,alts=altN p0 0::rest/\cells=altC b0++cr/\lo<=b0/\b0<hi/\hi<=w.heap.size/\v.ownBlock≠some b0/\Row w b0 T (altRow p0 A0 c0 0)/\
  GNode.At w (fun b=>lo<=b/\b<b0/\v.ownBlock≠some b) A0 c0 p0/\rdC w 5 (fun b=>b0<b/\b<hi/\v.ownBlock≠some b) (rest.map GNode.toD) cr
theorem AltI.move {w w':World} {T:TypeId} {v v':Value} {lo hi hi':Nat} {alts:List GNode} {cells:List Value} (h:AltI w T v lo hi alts cells) (hh:hi<=hi') (hh2:hi'<=w'.heap.size)
 (hk:∀ b,b<hi->lo<=b->v.ownBlock≠some b->w'.heap[b]? =w.heap[b]?/\v'.ownBlock≠some b):AltI w' T v' lo hi' alts cells:=by
 rcases h with h | ⟨p0,b0,A0,c0,rest,cr,e1,e2,h1,h2,h3,h4,h5,h6,h7⟩
 · exact .inl h
 · have k0:=hk b0 h2 h1 h4
   exact .inr ⟨p0,b0,A0,c0,rest,cr,e1,e2,h1,by omega,hh2,k0.2,k0.1.trans h5,
     h6.keep fun b hb=>⟨⟨hb.1,hb.2.1,(hk b (by omega) hb.1 hb.2.2).2⟩,(hk b (by omega) hb.1 hb.2.2).1⟩,
     rdC_keep (fun b hb=>⟨⟨hb.1,by omega,(hk b hb.2.1 (by omega) hb.2.2).2⟩,(hk b hb.2.1 (by omega) hb.2.2).1⟩) _ _ h7⟩
theorem AltI.snoc {w:World} {T:TypeId} {v:Value} {lo hi:Nat} {alts:List GNode} {cells:List Value} (h:AltI w T v lo hi alts cells) (hj:alts.length<=1000) {p:GNode} {A:Option Addr} {c g:Nat} (hlo:lo<=hi) (hg:hi<=g) (hgl:g<w.heap.size) (hv:v.ownBlock≠some g)
 (hr:Row w g T (altRow p A c alts.length)) (hp:GNode.At w (fun b=>hi<=b/\b<g/\v.ownBlock≠some b) A c p):AltI w T v lo w.heap.size (alts++[altN p alts.length]) (cells++altC g):=by
 rcases h with ⟨rfl,rfl⟩ | ⟨p0,b0,A0,c0,rest,cr,e1,e2,h1,h2,h3,h4,h5,h6,h7⟩
 · exact .inr ⟨p,g,A,c,[],[],rfl,by simp,by omega,hgl,Nat.le_refl _,hv,hr,hp.keep fun b hb=>⟨⟨by have:=hb.1;omega,hb.2.1,hb.2.2⟩,rfl⟩,rfl⟩
 · have hd:=rdC_append (rdC_one1 (altC_rd (S:=fun b=>b0<b/\b<w.heap.size/\v.ownBlock≠some b) hj hr (hp.keep fun b hb=>⟨⟨by have:=hb.1;omega,by have:=hb.2.1;omega,hb.2.2⟩,rfl⟩) ⟨by omega,hgl,hv⟩) (show(altC g).length=5 from rfl)) _ _ (rdC_keep (S':=fun b=>b0<b/\b<w.heap.size/\v.ownBlock≠some b) (fun b hb=>⟨⟨hb.1,by have:=hb.2.1;omega,hb.2.2⟩,rfl⟩) _ _ h7)
   exact .inr ⟨p0,b0,A0,c0,rest++[altN p alts.length],cr++altC g,by rw [e1];rfl,by rw [e2,List.append_assoc],h1,by omega,Nat.le_refl _,h4,h5,h6,by simpa using hd⟩
theorem AltI.rd {w:World} {T:TypeId} {v:Value} {lo hi:Nat} {alts:List GNode} {cells:List Value} (h:AltI w T v lo hi alts cells):rdC w 5 (fun b=>b<w.heap.size/\v.ownBlock≠some b/\lo<=b) (alts.map GNode.toD) cells:=by
 rcases h with ⟨rfl,rfl⟩ | ⟨p0,b0,A0,c0,rest,cr,rfl,rfl,h1,h2,h3,h4,h5,h6,h7⟩
 · exact rfl
 · exact rdC_cons (altC_rd (by omega) h5 (h6.keep fun b hb=>⟨⟨by omega,hb.2.2,hb.1⟩,rfl⟩) ⟨by omega,h4,h1⟩) rfl (rdC_keep (fun b hb=>⟨⟨by omega,hb.2.2,by omega⟩,rfl⟩) _ _ h7)
def AltsAt (w:World) (T:TypeId) (lo:Nat) (A:Option Addr) (c:Nat) (alts:List GNode):Prop:=
 ∃ cells,w.ownsRow lo T 5 (.slice A alts.length c) alts.length cells/\AltI w T (.slice A alts.length c) lo w.heap.size alts cells
theorem AltsAt.sl {w:World} {T:TypeId} {lo:Nat} {A:Option Addr} {c:Nat} {alts:List GNode} (h:AltsAt w T lo A c alts):Sl w (fun b=>b<w.heap.size/\lo<=b) 5 A c (alts.map GNode.toD):=by
 obtain⟨cells,h1,h2⟩:=h
 obtain⟨A',c',e,hs⟩:=Grx.sl (X:=fun b=>lo<=b) (show Grx (fun b=>lo<=b) w lo T 5 (.slice A alts.length c) alts.length (alts.map GNode.toD) from⟨by simp,cells,h1,h2.rd⟩) fun b h=>h
 cases e
 exact hs
theorem AltsAt.row0 {w:World} {T:TypeId} {lo:Nat} {A:Option Addr} {c:Nat} {alts:List GNode} (h:AltsAt w T lo A c alts) (hl:1<=alts.length):
 ∃ (g b0:Nat) (p0:GNode) (A0:Option Addr) (c0:Nat) (rest:List GNode),alts=altN p0 0::rest/\A=some ⟨g,0,none⟩/\lo<=g/\g<w.heap.size/\lo<=b0/\b0<w.heap.size/\g≠b0/\w.cell? ⟨g,4,none⟩=some (.slice (some ⟨b0,0,none⟩) 2 2)/\Row w b0 T (altRow p0 A0 c0 0)/\
  ∀ (w':World) (p:GNode) (A1:Option Addr) (c1:Nat),w.heap.size<=w'.heap.size->(∀ b,b<w.heap.size->lo<=b->b≠b0->w'.heap[b]? =w.heap[b]?)->Row w' b0 T (altRow p A1 c1 0)->GNode.At w' (fun b=>lo<=b/\b<w'.heap.size/\b≠g) A1 c1 p->
   Sl w' (fun b=>b<w'.heap.size/\lo<=b) 5 A c ((altN p 0::rest).map GNode.toD):=by
 obtain⟨cells,h1,h2⟩:=h
 rcases h2 with ⟨rfl,rfl⟩ | ⟨p0,b0,A0,c0,rest,cr,rfl,rfl,k1,k2,k3,k4,k5,k6,k7⟩
 · simp at hl
 have hlt:=h1.lt
 rcases h1.2 with ⟨e,h0⟩ | ⟨g,cap,cur,e,a1,a2,a3,a4,a5,a6⟩
 · simp at h0
 cases e
 have hg:=hlt g rfl
 have hne:g≠b0:=fun e=>k4 (by rw [e];rfl)
 refine⟨g,b0,p0,A0,c0,rest,rfl,rfl,hg.1,hg.2,k1,by omega,hne,?_,k5,fun w' p A1 c1 hs hk hr hp=>?_⟩
 ·
  have h4:cur[4]? =some (.slice (some ⟨b0,0,none⟩) 2 2):=by
   have hh:(cur.toList.take ((altN p0 0::rest).length*5))[4]? =some (.slice (some ⟨b0,0,none⟩) 2 2):=by rw [a6];rfl
   rw [List.getElem?_take] at hh
   split at hh
   · simpa using hh
   · cases hh
  exact(Row.cell (t:=T) (cs:=cur) a2 4).trans h4
 ·
  have hd:rdC w' 5 (fun b=>b<w'.heap.size/\(Value.slice (some ⟨g,0,none⟩) (altN p0 0::rest).length c).ownBlock≠some b/\lo<=b) ((altN p 0::rest).map GNode.toD) (altC b0++cr):=
   rdC_cons (altC_rd (by omega) hr (hp.keep fun b hb=>⟨⟨hb.2.1,fun e=>hb.2.2 (by cases e;rfl),hb.1⟩,rfl⟩) ⟨by omega,k4,k1⟩) rfl (rdC_keep (fun b hb=>⟨⟨by have:=hb.2.1;omega,hb.2.2,by have:=hb.1;omega⟩,hk b hb.2.1 (by have:=hb.1;omega) (by have:=hb.1;omega)⟩) _ _ k7)
  obtain⟨A',c',e,hsl⟩:=Grx.sl (X:=fun b=>lo<=b) (show Grx (fun b=>lo<=b) w' lo T 5 (.slice (some ⟨g,0,none⟩) (altN p0 0::rest).length c) (altN p0 0::rest).length ((altN p 0::rest).map GNode.toD) from
    ⟨by simp,_,⟨h1.1,.inr ⟨g,c,cur,rfl,a1,(hk g hg.2 hg.1 hne).trans a2,a3,a4,a5,a6⟩⟩,hd⟩) fun b h=>h
  cases e
  exact hsl
theorem run_append_E {P:Program} {S:Nat->Prop} (w:World) (t ty e:TypeId) (z:Value) (size bytes:Nat) (ht:P.underlying t=some (.slice e)) (hi:(P.info? e).map (fun i=>(i.zero,i.size,i.bytes))=some (some z,size,bytes)) (hzs:z.cells.size=size) (hsz:0<size)
 (B:Nat) (v:Value) (n:Nat) (cells:List Value) (hg:w.ownsRow B e size v n cells) (b c m:Nat) (T:TypeId) (ys:List D) (es:List Value) (hm:ys.length=m) (hy:rdC w size S ys es) (hr:Row w b T es.toArray) (hB:B<=w.heap.size)
 (hn:n+m<=maxLen) (hbt:(n+m)*bytes<=140737488355328):
 ∃ A' c' w',(Builtin.append_ #[t,t] ty #[v,.slice (some ⟨b,0,none⟩) m c]).run P w= .ok (.slice A' (n+m) c') w'/\w'.ownsRow B e size (.slice A' (n+m) c') (n+m) (cells++es)/\Gr w w' v (.slice A' (n+m) c'):=by
 obtain⟨i,i1,i2,i3,i4⟩:=info_parts hi
 have k3:∀ a,(some ⟨b,0,none⟩:Option Addr)=some a->∀ j u,es[j]? =some u->w.cell? (a.add j)=some u:=fun a ha j u hj=>by
  obtain rfl:(⟨b,0,none⟩:Addr)=a:=by simpa using ha
  have hadd:(⟨b,0,none⟩:Addr).add j=⟨b,0+j,none⟩:=by unfold Addr.add;split<;>simp_all
  rw [hadd,Nat.zero_add,Row.cell (t:=T) (cs:=es.toArray) hr]
  simpa using hj
 obtain⟨v',w',hr,hown,hgr,hat⟩:=run_append_many (P:=P) w B t ty e i z size bytes ht i1 i2 i3 i4 hzs hsz v n cells hg (some ⟨b,0,none⟩) m c es (fun h=>by cases h) (by rw [rdC_length _ _ hy,hm]) k3 (rdC_one _ _ hy) hn hbt hB
 have hfm:∃ A' c',v'= .slice A' (n+m) c':=by
  rcases hown.2 with ⟨rfl,h0⟩ | ⟨g,cap,cur,rfl,_⟩
  · exact⟨none,0,by rw [h0]⟩
  · exact⟨_,cap,rfl⟩
 obtain⟨A',c',rfl⟩:=hfm
 exact⟨A',c',w',hr,hown,hgr,hat.imp id fun h=>⟨_,h,Nat.le_refl _⟩⟩
theorem wpList_append_E {P:Program} {S:Nat->Prop} {ops:Array Oper} {rest:List Oper} {o:Oper} {a:Act} {Q:Exit->Act->World->Prop} (w:World) (hgd:o.guard=none) (s x:Operand) (t:TypeId) (ho:o.op= .call {callee:=.builtin .append,args:=#[s,x],argTypes:=#[t,t]})
 (e:TypeId) (z:Value) (size bytes:Nat) (ht:P.underlying t=some (.slice e)) (hi:(P.info? e).map (fun i=>(i.zero,i.size,i.bytes))=some (some z,size,bytes)) (hzs:z.cells.size=size) (hsz:0<size)
 (B:Nat) (v:Value) (n:Nat) (cells:List Value) (hg:w.ownsRow B e size v n cells) (b c m:Nat) (T:TypeId) (ys:List D) (es:List Value) (hm:ys.length=m) (hy:rdC w size S ys es) (hr:Row w b T es.toArray) (hB:B<=w.heap.size)
 (hn:n+m<=maxLen) (hbt:(n+m)*bytes<=140737488355328) (hs:a.eval s=v) (hx:a.eval x= .slice (some ⟨b,0,none⟩) m c)
 (h:∀ A' c' w',w'.ownsRow B e size (.slice A' (n+m) c') (n+m) (cells++es)->Gr w w' v (.slice A' (n+m) c')->wpList P ops Q rest (a.put o.dst (.slice A' (n+m) c')) w'):wpList P ops Q (o::rest) a w:=
 wpList_plain hgd fun _ hK=>by
  obtain⟨A',c',w',hr2,h2,h3⟩:=run_append_E (P:=P) w t o.type e z size bytes ht hi hzs hsz B v n cells hg b c m T ys es hm hy hr hB hn hbt
  unfold Oper.wp execOp
  simp only [ho,resolve,invoke,builtin,Sem.run_bind,Sem.run_pure,Result.andThen_ok,List.map_toArray,List.map_cons,List.map_nil,hs,hx,hr2]
  exact hK _ _ (h A' c' w' h2 h3)
end Go.Proofs.YtamfolaicncblaaGreat
