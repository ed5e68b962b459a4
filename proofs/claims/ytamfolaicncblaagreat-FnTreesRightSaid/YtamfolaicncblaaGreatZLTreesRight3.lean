/- Texts of the claim LTreesRight in one: Take PaC Within PaD. Conditions: none but bounds on sizes. -/
import Derived.Deep.RegionHeld3
import Derived.WalkKit
import Derived.Test.YtamfolaicncblaaGreatZLTreesRight2
import Derived.Lib.Hide
import Derived.BigQuiet
import Derived.Test.YtamfolaicncblaaGreatRows
import Derived.Test.YtamfolaicncblaaGreatZLTreesRight0
namespace Go.Proofs.YtamfolaicncblaaGreat
set_option maxRecDepth 20000
set_option linter.unusedVariables false
set_option linter.unusedSimpArgs false
open Go Go.RowKit
section
variable {P:Program} {ops:Array Oper} {Q:Exit->Act->World->Prop} {md:Region.Mode} {S:World->Prop} {n:Nat}
def wpAnyT (P:Program) (md:Region.Mode) (ops:Array Oper) (Q:Exit->Act->World->Prop) (S:World->Prop) (n:Nat):Nat->Array Bool->Act->World->Prop
 | 0,listed,a,w=>Region.ready md ops listed= []/\Q .normal a w
 | fuel+1,listed,a,w=>
  (Region.ready md ops listed= []->Q .normal a w)/\
  ∀ i∈Region.ready md ops listed,wpOp P ops Q i (fun a' w'=>(i=n\/S w')/\wpAnyT P md ops Q S n fuel (listed.setIfInBounds i true) a' w') a w
theorem wpAny_of_T:∀ (fuel:Nat) (listed:Array Bool) (a:Act) (w:World),wpAnyT P md ops Q S n fuel listed a w->wpAny P md ops Q fuel listed a w
 | 0,_,_,_,h=>h
 | fuel+1,_,_,_,h=>⟨h.1,fun i hi=>wpOp_mono (fun a' w' h'=>wpAny_of_T fuel _ a' w' h'.2) (h.2 i hi)⟩
def lastWaits (md:Region.Mode) (ops:Array Oper) (n i:Nat):Bool:=
 match ops[n]? with
 | some o=>o.after.any fun e=>Region.binds md e&&e.on ==i
 | none=>true
theorem lastWaits_spec {i:Nat} (h:lastWaits md ops n i=true) (oj:Oper) (hj:ops[n]? =some oj) (hno:∀ e∈oj.after,Region.binds md e=true->e.on≠i):False:=by
 unfold lastWaits at h
 simp only [hj] at h
 obtain⟨e,he,hb⟩:=Array.any_eq_true'.1 h
 simp only [Bool.and_eq_true,beq_iff_eq] at hb
 exact hno e he hb.1 hb.2
theorem wpAnyT_first {i:Nat} {oi:Oper} {v:Value} (hi:ops[i]? =some oi) (hsel:∀ (j:Nat) (o:Oper) cs b,ops[j]? =some o->o.op≠ .select cs b)
 (hQ:∀ c a w,Q (.panic c) (a.put oi.dst v) w->Q (.panic c) a w) (hn:lastWaits md ops n i=true):
 ∀ (fuel:Nat) (listed:Array Bool) (a:Act) (w:World),
  (∀ j oj,ops[j]? =some oj->j≠i->listed.getD j true=false->(∀ e∈oj.after,Region.binds md e=true->e.on≠i)->oi.apart ops oj=true)->
  i∈Region.ready md ops listed->YieldsIf P ops S oi v a->S w->
  wpAnyT P md ops Q S n fuel (listed.setIfInBounds i true) (a.put oi.dst v) w->wpAnyT P md ops Q S n (fuel+1) listed a w:=by
 intro fuel
 induction fuel with
 | zero=>
  intro listed a w _ hr hy hS H
  refine⟨fun h=>(by rw [h] at hr;cases hr),fun j hj=>?_⟩
  by_cases hji:j=i
  · subst hji;exact hy.wpOp hi hS ⟨.inr hS,H⟩
  · have:=ready_mono hj hji
    rw [H.1] at this
    cases this
 | succ fuel ih=>
  intro listed a w hfree hr hy hS H
  refine⟨fun h=>(by rw [h] at hr;cases hr),fun j hj=>?_⟩
  by_cases hji:j=i
  · subst hji;exact hy.wpOp hi hS ⟨.inr hS,H⟩
  ·
   have h1:=H.2 j (ready_mono hj hji)
   obtain⟨hjun,oj,hoj,hall⟩:=mem_ready.1 hj
   have hnot:∀ e∈oj.after,Region.binds md e=true->e.on≠i:=fun e he hb heq=>by
    have h1:=hall e he hb
    have h0:=(mem_ready.1 hr).1
    rw [heq] at h1
    rcases Nat.lt_or_ge i listed.size with h' | h'
    · simp [h'] at h0 h1;rw [h0] at h1;cases h1
    · simp [Array.getElem?_eq_none h'] at h1
   have hjn:j≠n:=fun e=>lastWaits_spec hn oj (e ▸ hoj) hnot
   have h2:=wpOp_putIf hoj (hfree j oj hoj hji hjun hnot) (fun cs b=>hsel i oi cs b hi) (fun cs b=>hsel j oj cs b hoj) hQ hy h1
   have hfree':∀ k ok,ops[k]? =some ok->k≠i->(listed.setIfInBounds j true).getD k true=false->
    (∀ e∈ok.after,Region.binds md e=true->e.on≠i)->oi.apart ops ok=true:=fun k ok hk hki hun hno=>by
    refine hfree k ok hk hki ?_ hno
    by_cases hjk:j=k
    · subst hjk;exact hjun
    · rw [getD_set_ne true hjk] at hun;exact hun
   refine wpOp_mono (fun a' w' h3=>?_) h2
   have hS':=h3.2.1.resolve_left hjn
   refine⟨.inr hS',ih (listed.setIfInBounds j true) a' w' hfree' (ready_mono hr (Ne.symm hji)) h3.1 hS' ?_⟩
   rw [Array.setIfInBounds_comm _ _ hji]
   exact h3.2.2
theorem wpAnyT_take {i:Nat} {oi:Oper} {v:Value} {fuel:Nat} {listed:Array Bool} {a:Act} {w:World} (hi:ops[i]? =some oi)
 (hs:Region.noSelect ops=true) (hf:Region.free md ops listed i=true) (hr:(Region.ready md ops listed).contains i=true) (hn:lastWaits md ops n i=true)
 (hQ:∀ c a w,Q (.panic c) (a.put oi.dst v) w->Q (.panic c) a w) (hy:YieldsIf P ops S oi v a) (hS:S w)
 (h:wpAnyT P md ops Q S n fuel (listed.setIfInBounds i true) (a.put oi.dst v) w):wpAnyT P md ops Q S n (fuel+1) listed a w:=
 wpAnyT_first hi (Region.noSelect_spec hs) hQ hn fuel listed a w (Region.free_spec hi hf) (by simpa using hr) hy hS h
theorem wpAnyT_tk {i:Nat} {oi:Oper} {v:Value} {fuel:Nat} {listed:Array Bool} {a:Act} {w:World} (hi:ops[i]? =some oi)
 (hy:YieldsIf P ops S oi v a) (hS:S w)
 (h:wpAnyT P md ops Q S n fuel (listed.setIfInBounds i true) (a.put oi.dst v) w)
 (hs:Region.noSelect ops=true:=by kernel_rfl) (hf:Region.free md ops listed i=true:=by kernel_rfl) (hr:(Region.ready md ops listed).contains i=true:=by kernel_rfl) (hn:lastWaits md ops n i=true:=by kernel_rfl)
 (hQ:∀ c a w,Q (.panic c) (a.put oi.dst v) w->Q (.panic c) a w:=by exact fun _ _ _ h=>h):wpAnyT P md ops Q S n (fuel+1) listed a w:=
 wpAnyT_take hi hs hf hr hn hQ hy hS h
theorem wpAnyT_step {i:Nat} {o:Oper} {fuel:Nat} {listed:Array Bool} {a:Act} {w:World} (hr:Region.ready md ops listed= [i]) (ho:ops[i]? =some o)
 (h:∀ K':Act->World->Prop,Shut (∀ a w,S w->(S w->wpAnyT P md ops Q S n fuel (listed.setIfInBounds i true) a w)->K' a w)->if Region.wanted o (yielded ops a.tmps)=true then Oper.wp P o a w K' Q else K' (a.put o.dst undef) w):wpAnyT P md ops Q S n (fuel+1) listed a w:=
 ⟨fun h0=>(by rw [hr] at h0;cases h0),fun j hj=>by
   rw [hr] at hj
   obtain rfl:=List.mem_singleton.1 hj
   exact wpOp_step ho (fun K' hK=>h K' (fun a w hS hW=>hK a w ⟨.inr hS,hW hS⟩))⟩
theorem wpAnyT_two {i j:Nat} {o o':Oper} {fuel:Nat} {listed:Array Bool} {a:Act} {w:World} (hr:Region.ready md ops listed= [i,j]) (ho:ops[i]? =some o) (ho':ops[j]? =some o')
 (h:∀ K':Act->World->Prop,Shut (∀ a w,S w->(S w->wpAnyT P md ops Q S n fuel (listed.setIfInBounds i true) a w)->K' a w)->if Region.wanted o (yielded ops a.tmps)=true then Oper.wp P o a w K' Q else K' (a.put o.dst undef) w)
 (h':∀ K':Act->World->Prop,Shut (∀ a w,S w->(S w->wpAnyT P md ops Q S n fuel (listed.setIfInBounds j true) a w)->K' a w)->if Region.wanted o' (yielded ops a.tmps)=true then Oper.wp P o' a w K' Q else K' (a.put o'.dst undef) w):wpAnyT P md ops Q S n (fuel+1) listed a w:=
 ⟨fun h0=>(by rw [hr] at h0;cases h0),fun q hq=>by
   rw [hr] at hq
   rcases List.mem_cons.1 hq with rfl | hq
   · exact wpOp_step ho (fun K' hK=>h K' (fun a w hS hW=>hK a w ⟨.inr hS,hW hS⟩))
   · obtain rfl:=List.mem_singleton.1 hq
     exact wpOp_step ho' (fun K' hK=>h' K' (fun a w hS hW=>hK a w ⟨.inr hS,hW hS⟩))⟩
theorem wpAnyT_done {listed:Array Bool} {a:Act} {w:World} (hr:Region.ready md ops listed= []) (h:Q .normal a w):∀ fuel,wpAnyT P md ops Q S n fuel listed a w
 | 0=>⟨hr,h⟩
 | _+1=>⟨fun _=>h,by rw [hr];simp⟩
theorem wpAnyT_last {o:Oper} {fuel:Nat} {listed:Array Bool} {a:Act} {w:World} (hr:Region.ready md ops listed= [n]) (hr2:Region.ready md ops (listed.setIfInBounds n true)= []) (ho:ops[n]? =some o)
 (h:∀ K':Act->World->Prop,Shut (∀ a w,Q .normal a w->K' a w)->if Region.wanted o (yielded ops a.tmps)=true then Oper.wp P o a w K' Q else K' (a.put o.dst undef) w):wpAnyT P md ops Q S n (fuel+1) listed a w:=
 ⟨fun h0=>(by rw [hr] at h0;cases h0),fun j hj=>by
   rw [hr] at hj
   obtain rfl:=List.mem_singleton.1 hj
   refine wpOp_step ho (fun K' hK=>h K' (fun a w hq=>hK a w ⟨.inl rfl,?_⟩))
   cases fuel with
   | zero=>exact⟨hr2,hq⟩
   | succ f=>exact⟨fun _=>hq,by rw [hr2];simp⟩⟩
theorem wp_region_T (S:World->Prop) (n:Nat) {id:Nat} {a:Act} {w:World} (hm:P.follows .mixedOrders=true)
 (h:wpAnyT P .any ops Q S n ops.size (Array.replicate ops.size false) a w.drew):(Code.region id ops true).wp P Q a w:=
 wp_region_any hm (wpAny_of_T _ _ _ _ h)
end
end Go.Proofs.YtamfolaicncblaaGreat
namespace Go.Proofs.YtamfolaicncblaaGreat
set_option maxRecDepth 20000
set_option linter.unusedVariables false
set_option linter.unusedSimpArgs false
open Go.RowKit
set_option maxHeartbeats 1000000
structure PCur (ts:List GToken) (g:Nat) (L:Option Addr) (cl:Nat) (V:Option Addr) (cv:Nat) (st:PSt) (w:World):Prop where
 row:Row w g 130 #[.slice L ts.length cl,.int .i64 st.pos,.int .i64 st.bad,.slice V st.vars.length cv,.bool st.nov]
 toks:Sl w (fun b=>b<w.heap.size/\b≠g) 4 L cl (ts.map GToken.toD)
 vars:Sl w (fun b=>b<w.heap.size/\b≠g) 1 V cv (st.vars.map D.str)
 pos:st.pos<ts.length
 few:ts.length<=1048576
theorem PCur.below {ts:List GToken} {g:Nat} {L:Option Addr} {cl:Nat} {V:Option Addr} {cv:Nat} {st:PSt} {w w':World} (h:PCur ts g L cl V cv st w) (hb:Below w.heap.size w w'):PCur ts g L cl V cv st w':=
 ⟨h.row.below hb h.row.lt,h.toks.keep fun b hx=>⟨⟨Nat.lt_of_lt_of_le hx.1 hb.size,hx.2⟩,hb.block b hx.1⟩,h.vars.keep fun b hx=>⟨⟨Nat.lt_of_lt_of_le hx.1 hb.size,hx.2⟩,hb.block b hx.1⟩,h.pos,h.few⟩
theorem PCur.now {ts:List GToken} {g:Nat} {L:Option Addr} {cl:Nat} {V:Option Addr} {cv:Nat} {st:PSt} {w:World} (h:PCur ts g L cl V cv st w):∃ b off,L=some ⟨b,off,none⟩/\b<w.heap.size/\w.cell? ⟨b,off+st.pos*4,none⟩=some (.int .i64 (pNow ts st).kind)/\w.cell? ⟨b,off+st.pos*4+1,none⟩=some (.string (pNow ts st).text)/\w.cell? ⟨b,off+st.pos*4+2,none⟩=some (.int .i64 (pNow ts st).n)/\w.cell? ⟨b,off+st.pos*4+3,none⟩=some (.int .i64 (pNow ts st).pos)/\(Lit.int .i64 (pNow ts st).kind).wf=true/\(pNow ts st).text.size<=maxLen/\(Lit.int .i64 (pNow ts st).n).wf=true/\(Lit.int .i64 (pNow ts st).pos).wf=true:=by
 obtain⟨b,off,e,hb,h0,h1,h2,h3,hat⟩:=GToken.elem h.toks st.pos h.pos
 have hn:ts[st.pos]'h.pos=pNow ts st:=by unfold pNow;simp [List.getD,h.pos]
 rw [hn] at h0 h1 h2 h3 hat
 exact⟨b,off,e,hb.1,h0,h1,h2,h3,hat⟩
theorem l3Now (ts:List GToken) (g:Nat) (L:Option Addr) (cl:Nat) (V:Option Addr) (cv:Nat) (st:PSt) (w:World) (h:PCur ts g L cl V cv st w):
 Calls Tryz.prog 76 #[.pointer (some ⟨g,0,none⟩)] w fun e w'=>e= .returned (.agg #[.int .i64 (pNow ts st).kind,.string (pNow ts st).text,.int .i64 (pNow ts st).n,.int .i64 (pNow ts st).pos])/\Below w.heap.size w w':=by
 obtain⟨b,off,rfl,hb,c0,c1,c2,c3,-⟩:=h.now
 have hp:st.pos<ts.length:=h.pos
 have HR:=LH h.row
 have hca:=fun i=>HR.out.cell i
 have hgl:=HR.out.lt
 clear h
 obtain⟨t,ht⟩:∃ t,pNow ts st=t:=⟨_,rfl⟩
 rw [ht] at c0 c1 c2 c3 ⊢
 clear ht
 have hp2:((st.pos:Nat):Int)<(ts.length:Int):=by omega
 obtain⟨w0,e0⟩:∃ w0,w0=w.alloc (.cells #[.int .i64 0,.string ⟨#[]⟩,.int .i64 0,.int .i64 0] 135):=⟨_,rfl⟩
 have E0:=LH (show Below w.heap.size w w0 by rw [e0];exact(Below.refl _ _).alloc (Nat.le_refl _) _)
 have RZ:=LH (show Row w0 w.heap.size 135 #[.int .i64 0,.string ⟨#[]⟩,.int .i64 0,.int .i64 0] by rw [e0];exact Row.new _ _ _)
 have F0:=LH (fun(x:World) (hx:∀ q,q<w.heap.size->x.heap[q]? =w.heap[q]?)=>show(∀ i,x.cell? ⟨g,i,none⟩=(#[.slice (some ⟨b,off,none⟩) ts.length cl,.int .i64 st.pos,.int .i64 st.bad,.slice V st.vars.length cv,.bool st.nov]:Array Value)[i]?)/\x.cell? ⟨b,off+st.pos*4,none⟩=some (.int .i64 t.kind)/\x.cell? ⟨b,off+st.pos*4+1,none⟩=some (.string t.text)/\x.cell? ⟨b,off+st.pos*4+2,none⟩=some (.int .i64 t.n)/\x.cell? ⟨b,off+st.pos*4+3,none⟩=some (.int .i64 t.pos) from
   ⟨fun i=>(World.cell?_of_block (hx _ hgl)).trans (hca i),(World.cell?_of_block (hx _ hb)).trans c0,(World.cell?_of_block (hx _ hb)).trans c1,(World.cell?_of_block (hx _ hb)).trans c2,(World.cell?_of_block (hx _ hb)).trans c3⟩)
 go_enter Tryz.func76,Tryz.ntmps76
 go_wp2_with fail
 rw [<- e0]
 clear e0 c0 c1 c2 c3 hca
 refine wp_region_T (fun x=>(∀ i,x.cell? ⟨g,i,none⟩=(#[.slice (some ⟨b,off,none⟩) ts.length cl,.int .i64 st.pos,.int .i64 st.bad,.slice V st.vars.length cv,.bool st.nov]:Array Value)[i]?)/\x.cell? ⟨b,off+st.pos*4,none⟩=some (.int .i64 t.kind)/\x.cell? ⟨b,off+st.pos*4+1,none⟩=some (.string t.text)/\x.cell? ⟨b,off+st.pos*4+2,none⟩=some (.int .i64 t.n)/\x.cell? ⟨b,off+st.pos*4+3,none⟩=some (.int .i64 t.pos)) 10 (by kernel_rfl) ?_
 obtain⟨w1,e1⟩:∃ w1,w1=w0.drew:=⟨_,rfl⟩
 rw [<- e1]
 have E1:=LH (show Below w.heap.size w w1 by rw [e1];exact E0.out.trans ((Below.refl _ _).drew))
 have RZ1:=LH (show Row w1 w.heap.size 135 #[.int .i64 0,.string ⟨#[]⟩,.int .i64 0,.int .i64 0] by rw [e1];exact RZ.out)
 clear e1
 have hS1:=F0.out w1 (fun q hq=>E1.out.block q hq)
 refine wpAnyT_tk (i:=0) (oi:=_) (v:=?tv1) rfl (Or.inl ⟨by rfl,?th1⟩) hS1 ?_
 case th1=>(intro x hSx;(try dsimp only at hSx);go_simp;(try with_reducible rfl))
 try simp only [nA,nB,nC,Act.put,nD,nE,nF]
 refine wpAnyT_tk (i:=1) (oi:=_) (v:=?tv2) rfl (Or.inl ⟨by rfl,?th2⟩) hS1 ?_
 case th2=>(intro x hSx;(try dsimp only at hSx);go_simp;(try with_reducible rfl))
 try simp only [nA,nB,nC,Act.put,nD,nE,nF]
 refine wpAnyT_tk (i:=2) (oi:=_) (v:=?tv3) rfl (Or.inl ⟨by rfl,?th3⟩) hS1 ?_
 case th3=>(intro x hSx;(try dsimp only at hSx);go_simp;(try with_reducible rfl))
 try simp only [nA,nB,nC,Act.put,nD,nE,nF]
 refine wpAnyT_tk (i:=3) (oi:=_) (v:=?tv4) rfl (Or.inl ⟨by rfl,?th4⟩) hS1 ?_
 case th4=>(intro x hSx;(try dsimp only at hSx);go_simp;(try with_reducible rfl))
 try simp only [nA,nB,nC,Act.put,nD,nE,nF]
 refine wpAnyT_tk (i:=4) (oi:=_) (v:=?tv5) rfl (Or.inl ⟨by rfl,?th5⟩) hS1 ?_
 case th5=>(intro x hSx;(try dsimp only at hSx);go_simp;(try with_reducible rfl))
 try simp only [nA,nB,nC,Act.put,nD,nE,nF]
 refine wpAnyT_tk (i:=5) (oi:=_) (v:=?tv6) rfl (Or.inl ⟨by rfl,?th6⟩) hS1 ?_
 case th6=>(intro x hSx;(try dsimp only at hSx);go_simp;(try with_reducible rfl))
 try simp only [nA,nB,nC,Act.put,nD,nE,nF]
 refine wpAnyT_tk (i:=6) (oi:=_) (v:=?tv7) rfl (Or.inl ⟨by rfl,?th7⟩) hS1 ?_
 case th7=>(intro x hSx;(try dsimp only at hSx);go_simp;(try with_reducible rfl))
 try simp only [nA,nB,nC,Act.put,nD,nE,nF]
 refine wpAnyT_tk (i:=7) (oi:=_) (v:=?tv8) rfl (Or.inl ⟨by rfl,?th8⟩) hS1 ?_
 case th8=>(intro x hSx;(try dsimp only at hSx);go_simp;(try with_reducible rfl))
 try simp only [nA,nB,nC,Act.put,nD,nE,nF]
 refine wpAnyT_tk (i:=8) (oi:=_) (v:=?tv9) rfl (Or.inl ⟨by rfl,?th9⟩) hS1 ?_
 case th9=>(intro x hSx;(try dsimp only at hSx);go_simp;(try with_reducible rfl))
 try simp only [nA,nB,nC,Act.put,nD,nE,nF]
 refine wpAnyT_tk (i:=9) (oi:=_) (v:=?tv10) rfl (Or.inl ⟨by rfl,?th10⟩) hS1 ?_
 case th10=>(intro x hSx;(try dsimp only at hSx);go_simp;(try with_reducible rfl))
 try simp only [nA,nB,nC,Act.put,nD,nE,nF]
 have hcz:=fun i=>RZ1.out.cell i
 have hfz:=fun i=>RZ1.out.frozen i
 refine wpAnyT_last (by kernel_rfl) (by kernel_rfl) rfl (fun K hK=>?_)
 try simp only [nA,nB,nC]
 go_simp
 refine hK.out _ _ ?_
 clear hK K
 try simp only [nA,nB,nC,Act.put,nD,nE,nF]
 obtain⟨wf,ef⟩:∃ wf,wf=(((w1.setCell ⟨w.heap.size,0,none⟩ (.int .i64 t.kind)).setCell ⟨w.heap.size,1,none⟩ (.string t.text)).setCell ⟨w.heap.size,2,none⟩ (.int .i64 t.n)).setCell ⟨w.heap.size,3,none⟩ (.int .i64 t.pos):=⟨_,rfl⟩
 rw [<- ef]
 have RF:=LH (show Row wf w.heap.size 135 #[.int .i64 t.kind,.string t.text,.int .i64 t.n,.int .i64 t.pos] by rw [ef];exact(((RZ1.out.set 0 _).set 1 _).set 2 _).set 3 _)
 have BF:=LH (show Below w.heap.size w wf by rw [ef];exact((((E1.out).setCell (p:=⟨w.heap.size,0,none⟩) (Nat.le_refl _) _).setCell (p:=⟨w.heap.size,1,none⟩) (Nat.le_refl _) _).setCell (p:=⟨w.heap.size,2,none⟩) (Nat.le_refl _) _).setCell (p:=⟨w.heap.size,3,none⟩) (Nat.le_refl _) _)
 have hcf:=fun i=>RF.out.cell i
 clear hcz hfz hS1 ef
 go_wp2_with fail
 exact bodyPost_ret (v:=.agg #[.int .i64 t.kind,.string t.text,.int .i64 t.n,.int .i64 t.pos]) (by simp [results,Tryz.results76,go_sem,hcf]) rfl ⟨rfl,BF.out⟩
structure Mv (ts:List GToken) (g:Nat) (L:Option Addr) (cl:Nat) (V:Option Addr) (cv:Nat) (vs:List ByteArray) (st:PSt) (w w':World):Prop where
 bx:Bx g w w'
 row:Row w' g 130 #[.slice L ts.length cl,.int .i64 st.pos,.int .i64 st.bad,.slice V vs.length cv,.bool st.nov]
 vs:st.vars=vs
 pos:st.pos<ts.length
theorem PCur.mv {ts:List GToken} {g:Nat} {L:Option Addr} {cl:Nat} {V:Option Addr} {cv:Nat} {st:PSt} {w:World} (h:PCur ts g L cl V cv st w):Mv ts g L cl V cv st.vars st w w:=⟨Bx.refl _ _,h.row,rfl,h.pos⟩
theorem Mv.cur {ts:List GToken} {g:Nat} {L:Option Addr} {cl:Nat} {V:Option Addr} {cv:Nat} {st st':PSt} {w w':World} (m:Mv ts g L cl V cv st.vars st' w w') (h:PCur ts g L cl V cv st w):PCur ts g L cl V cv st' w':=
 ⟨by rw [m.vs];exact m.row,m.bx.sl h.toks,by rw [m.vs];exact m.bx.sl h.vars,m.pos,h.few⟩
theorem Mv.trans {ts:List GToken} {g:Nat} {L:Option Addr} {cl:Nat} {V:Option Addr} {cv:Nat} {vs:List ByteArray} {st st':PSt} {a b c:World} (h:Mv ts g L cl V cv vs st a b) (k:Mv ts g L cl V cv st.vars st' b c):Mv ts g L cl V cv vs st' a c:=
 ⟨h.bx.trans k.bx,by have:=k.row;rw [h.vs] at this;exact this,k.vs.trans h.vs,k.pos⟩
theorem Mv.below {ts:List GToken} {g:Nat} {L:Option Addr} {cl:Nat} {V:Option Addr} {cv:Nat} {vs:List ByteArray} {st:PSt} {a b c:World} (h:Mv ts g L cl V cv vs st a b) (k:Below b.heap.size b c):Mv ts g L cl V cv vs st a c:=
 ⟨h.bx.trans (Bx.of_below k (Nat.le_refl _)),h.row.below k h.row.lt,h.vs,h.pos⟩
theorem Mv.size {ts:List GToken} {g:Nat} {L:Option Addr} {cl:Nat} {V:Option Addr} {cv:Nat} {vs:List ByteArray} {st:PSt} {a b:World} (h:Mv ts g L cl V cv vs st a b):a.heap.size<=b.heap.size:=h.bx.size
theorem l3Bad (ts:List GToken) (g:Nat) (L:Option Addr) (cl:Nat) (V:Option Addr) (cv:Nat) (st:PSt) (w:World) (h:PCur ts g L cl V cv st w):
 Calls Tryz.prog 77 #[.pointer (some ⟨g,0,none⟩)] w fun e w'=>e= .returned (.tuple #[])/\Mv ts g L cl V cv st.vars (pBad ts st) w w':=by
 have HC:=LH h
 have HN:=LH (l3Now ts g L cl V cv st w h)
 have HR:=LH h.row
 have hca:=fun i=>HR.out.cell i
 clear h
 obtain⟨t,ht⟩:∃ t,pNow ts st=t:=⟨_,rfl⟩
 rw [ht] at HN
 have HTN:=LH ht
 clear ht
 have hfd:∀ w:World,(Instr.field 135 (.agg #[.int .i64 t.kind,.string t.text,.int .i64 t.n,.int .i64 t.pos]) 3).run Tryz.prog w= .ok (.int .i64 t.pos) w:=fun _=>by kernel_rfl
 go_enter Tryz.func77,Tryz.ntmps77
 by_cases hb:st.bad<0
 ·
  have HV:=LH (show pBad ts st= {st with bad:=t.pos} by unfold pBad;rw [if_pos hb,HTN.out])
  go_wp2_with fail
  refine HN.out.mono ?_
  rintro e w1 ⟨rfl,hb1⟩
  have E1:=LH hb1
  have R1:=LH (HR.out.below hb1 HR.out.lt)
  have hca1:=fun i=>R1.out.cell i
  have hfa1:=fun i=>R1.out.frozen i
  clear hca hb1 hb
  go_wp2_with fail
  have MF:=LH (show Mv ts g L cl V cv st.vars (pBad ts st) w (w1.setCell ⟨g,2,none⟩ (.int .i64 t.pos)) by
    rw [HV.out]
    exact⟨(Bx.of_below E1.out (Nat.le_refl _)).set (p:=⟨g,2,none⟩) (.inl rfl) _,R1.out.set 2 _,rfl,HC.out.pos⟩)
  (try simp only [Exit.inBlock,Exit.then]);first | (refine bodyPost_ret (results_tmp rfl _ _ _) rfl ?_) | (refine bodyPost_ret (results_none rfl _ _ _) rfl ?_) | (refine bodyPost_end (results_none rfl _ _ _) rfl ?_) | go_ret2 | go_ret3
  exact⟨rfl,MF.out⟩
 · have HV:=LH (show pBad ts st=st by unfold pBad;rw [if_neg hb])
   go_wp2_with fail
   (try simp only [Exit.inBlock,Exit.then]);first | (refine bodyPost_ret (results_tmp rfl _ _ _) rfl ?_) | (refine bodyPost_ret (results_none rfl _ _ _) rfl ?_) | (refine bodyPost_end (results_none rfl _ _ _) rfl ?_) | go_ret2 | go_ret3
   exact⟨rfl,by rw [HV.out];exact HC.out.mv⟩
theorem l3Sign (ts:List GToken) (g:Nat) (L:Option Addr) (cl:Nat) (V:Option Addr) (cv:Nat) (st:PSt) (w:World) (h:PCur ts g L cl V cv st w) (s:ByteArray):
 Calls Tryz.prog 103 #[.pointer (some ⟨g,0,none⟩),.string s] w fun e w'=>e= .returned (.bool (pSign ts s.data.toList st))/\Below w.heap.size w w':=by
 have HN:=LH (l3Now ts g L cl V cv st w h)
 have HR:=LH h.row
 clear h
 obtain⟨t,ht⟩:∃ t,pNow ts st=t:=⟨_,rfl⟩
 rw [ht] at HN
 have HV:=LH (show(pSign ts s.data.toList st)=(decide (st.bad<0)&&(t.kind ==4&&t.text.toList ==s.toList)) by unfold pSign;rw [ht];simp only [bytes_beq])
 clear ht
 go_enter Tryz.func103,Tryz.ntmps103
 go_wp2_with fail
 refine HN.out.mono ?_
 rintro e w1 ⟨rfl,hb1⟩
 have E1:=LH hb1
 have R1:=LH (HR.out.below hb1 HR.out.lt)
 have hca1:=fun i=>R1.out.cell i
 have hgl1:=R1.out.lt
 have BF:=LH (show Below w.heap.size w (w1.alloc (.cells #[.int .i64 t.kind,.string t.text,.int .i64 t.n,.int .i64 t.pos] 135)) from E1.out.alloc E1.out.size _)
 clear hb1
 cases h1:decide (st.bad<0)
 case' true=>cases h2:(t.kind ==4)
 case' true.true=>cases h3:(t.text.toList ==s.toList)
 all_goals
  go_wp2_with fail
  (try simp only [Exit.inBlock,Exit.then]);first | (refine bodyPost_ret (results_tmp rfl _ _ _) rfl ?_) | (refine bodyPost_ret (results_none rfl _ _ _) rfl ?_) | (refine bodyPost_end (results_none rfl _ _ _) rfl ?_) | go_ret2 | go_ret3
  exact⟨congrArg (fun b=>Ending.returned (Value.bool b)) (by rw [HV.out];simp [*,bne]),BF.out⟩
theorem l3Is (ts:List GToken) (g:Nat) (L:Option Addr) (cl:Nat) (V:Option Addr) (cv:Nat) (st:PSt) (w:World) (h:PCur ts g L cl V cv st w) (s:ByteArray):
 Calls Tryz.prog 73 #[.pointer (some ⟨g,0,none⟩),.string s] w fun e w'=>e= .returned (.bool (pIs ts s.data.toList st))/\Below w.heap.size w w':=by
 have HN:=LH (l3Now ts g L cl V cv st w h)
 have HR:=LH h.row
 clear h
 obtain⟨t,ht⟩:∃ t,pNow ts st=t:=⟨_,rfl⟩
 rw [ht] at HN
 have HV:=LH (show(pIs ts s.data.toList st)=(decide (st.bad<0)&&(t.kind ==1&&t.text.toList ==s.toList)) by unfold pIs;rw [ht];simp only [bytes_beq])
 clear ht
 go_enter Tryz.func73,Tryz.ntmps73
 go_wp2_with fail
 refine HN.out.mono ?_
 rintro e w1 ⟨rfl,hb1⟩
 have E1:=LH hb1
 have R1:=LH (HR.out.below hb1 HR.out.lt)
 have hca1:=fun i=>R1.out.cell i
 have hgl1:=R1.out.lt
 have BF:=LH (show Below w.heap.size w (w1.alloc (.cells #[.int .i64 t.kind,.string t.text,.int .i64 t.n,.int .i64 t.pos] 135)) from E1.out.alloc E1.out.size _)
 clear hb1
 cases h1:decide (st.bad<0)
 case' true=>cases h2:(t.kind ==1)
 case' true.true=>cases h3:(t.text.toList ==s.toList)
 all_goals
  go_wp2_with fail
  (try simp only [Exit.inBlock,Exit.then]);first | (refine bodyPost_ret (results_tmp rfl _ _ _) rfl ?_) | (refine bodyPost_ret (results_none rfl _ _ _) rfl ?_) | (refine bodyPost_end (results_none rfl _ _ _) rfl ?_) | go_ret2 | go_ret3
  exact⟨congrArg (fun b=>Ending.returned (Value.bool b)) (by rw [HV.out];simp [*,bne]),BF.out⟩
theorem l3Con (ts:List GToken) (g:Nat) (L:Option Addr) (cl:Nat) (V:Option Addr) (cv:Nat) (st:PSt) (w:World) (h:PCur ts g L cl V cv st w):
 Calls Tryz.prog 123 #[.pointer (some ⟨g,0,none⟩)] w fun e w'=>e= .returned (.bool (pCon ts st))/\Below w.heap.size w w':=by
 have HN:=LH (l3Now ts g L cl V cv st w h)
 have HR:=LH h.row
 clear h
 obtain⟨t,ht⟩:∃ t,pNow ts st=t:=⟨_,rfl⟩
 rw [ht] at HN
 have HV:=LH (show(pCon ts st)=(decide (st.bad<0)&&(t.kind ==2&&t.text.toList != ByteArray.toList ⟨#[73,110,116]⟩)) by unfold pCon;rw [ht];simp only [bne,bytes_beq])
 clear ht
 go_enter Tryz.func123,Tryz.ntmps123
 go_wp2_with fail
 refine HN.out.mono ?_
 rintro e w1 ⟨rfl,hb1⟩
 have E1:=LH hb1
 have R1:=LH (HR.out.below hb1 HR.out.lt)
 have hca1:=fun i=>R1.out.cell i
 have hgl1:=R1.out.lt
 have BF:=LH (show Below w.heap.size w (w1.alloc (.cells #[.int .i64 t.kind,.string t.text,.int .i64 t.n,.int .i64 t.pos] 135)) from E1.out.alloc E1.out.size _)
 clear hb1
 cases h1:decide (st.bad<0)
 case' true=>cases h2:(t.kind ==2)
 case' true.true=>cases h3:(t.text.toList ==ByteArray.toList ⟨#[73,110,116]⟩)
 all_goals
  go_wp2_with fail
  (try simp only [Exit.inBlock,Exit.then]);first | (refine bodyPost_ret (results_tmp rfl _ _ _) rfl ?_) | (refine bodyPost_ret (results_none rfl _ _ _) rfl ?_) | (refine bodyPost_end (results_none rfl _ _ _) rfl ?_) | go_ret2 | go_ret3
  exact⟨congrArg (fun b=>Ending.returned (Value.bool b)) (by rw [HV.out];simp [*,bne]),BF.out⟩
theorem l3Name (ts:List GToken) (g:Nat) (L:Option Addr) (cl:Nat) (V:Option Addr) (cv:Nat) (st:PSt) (w:World) (h:PCur ts g L cl V cv st w):
 Calls Tryz.prog 100 #[.pointer (some ⟨g,0,none⟩)] w fun e w'=>e= .returned (.bool (pName ts st))/\Below w.heap.size w w':=by
 have HN:=LH (l3Now ts g L cl V cv st w h)
 have HR:=LH h.row
 clear h
 obtain⟨t,ht⟩:∃ t,pNow ts st=t:=⟨_,rfl⟩
 rw [ht] at HN
 have HV:=LH (show(pName ts st)=(decide (st.bad<0)&&(t.kind ==1&&!inStrs kws t.text)) by unfold pName;rw [ht];rw [inKw_eq])
 clear ht
 go_enter Tryz.func100,Tryz.ntmps100
 go_wp2_with fail
 refine HN.out.mono ?_
 rintro e w1 ⟨rfl,hb1⟩
 have E1:=LH hb1
 have R1:=LH (HR.out.below hb1 HR.out.lt)
 have hca1:=fun i=>R1.out.cell i
 have hgl1:=R1.out.lt
 have BF:=LH (show Below w.heap.size w (w1.alloc (.cells #[.int .i64 t.kind,.string t.text,.int .i64 t.n,.int .i64 t.pos] 135)) from E1.out.alloc E1.out.size _)
 clear hb1
 cases h1:decide (st.bad<0)
 case' true=>cases h2:(t.kind ==1)
 case' true.true=>
  go_wp2_with fail
  refine(specKeyword t.text _).mono ?_
  rintro e w2 ⟨rfl,hb2⟩
  have BF2:=LH (BF.out.trans (hb2.mono BF.out.size))
  clear hb2
  cases h3:inStrs kws t.text
 all_goals
  go_wp2_with fail
  (try simp only [Exit.inBlock,Exit.then]);first | (refine bodyPost_ret (results_tmp rfl _ _ _) rfl ?_) | (refine bodyPost_ret (results_none rfl _ _ _) rfl ?_) | (refine bodyPost_end (results_none rfl _ _ _) rfl ?_) | go_ret2 | go_ret3
  first
  | exact⟨congrArg (fun b=>Ending.returned (Value.bool b)) (by rw [HV.out];simp [*,bne]),BF.out⟩
  | exact⟨congrArg (fun b=>Ending.returned (Value.bool b)) (by rw [HV.out];simp [*,bne]),BF2.out⟩
theorem belowN {B:Nat} {a w:World} (h:Below B a w) (n:Nat):Below B a (w.drewN n):=⟨h.os,h.tape,h.output,h.size,h.block⟩
def inB (n lo hi:Int):Bool:=decide (lo<=n/\n<=hi)
theorem inB_true {n lo hi:Int} (h:lo<=n/\n<=hi):inB n lo hi=true:=decide_eq_true h
theorem inB_false {n lo hi:Int} (h:¬ (lo<=n/\n<=hi)):inB n lo hi=false:=decide_eq_false h
theorem implWithin (n lo hi:Int) (w:World):Calls Tryz.prog 38 #[.int .i64 n,.int .i64 lo,.int .i64 hi] w fun e w'=>e= .returned (.bool (inB n lo hi))/\w=w':=by
 by_cases h1:lo<=n
 ·
  by_cases h2:n<=hi
  · go_enter Tryz.func38,Tryz.ntmps38
    go_wp2_with fail
    go_ret
    exact⟨ret_bool (by rw [inB_true ⟨h1,h2⟩]),rfl⟩
  · go_enter Tryz.func38,Tryz.ntmps38
    go_wp2_with fail
    go_ret
    exact⟨ret_bool (by rw [inB_false (by omega)]),rfl⟩
 · go_enter Tryz.func38,Tryz.ntmps38
   go_wp2_with fail
   go_ret
   exact⟨ret_bool (by rw [inB_false (by omega)]),rfl⟩
theorem specIn (n lo hi:Int) (w:World):Calls Tryz.prog 96 #[.int .i64 n,.int .i64 lo,.int .i64 hi] w fun e w'=>e= .returned (.bool (inB n lo hi))/\w=w':=by
 by_cases h1:lo<=n
 ·
  by_cases h2:n<=hi
  · go_enter Tryz.func96,Tryz.ntmps96
    go_wp2_with fail
    go_ret
    exact⟨ret_bool (by rw [inB_true ⟨h1,h2⟩]),rfl⟩
  · go_enter Tryz.func96,Tryz.ntmps96
    go_wp2_with fail
    go_ret
    exact⟨ret_bool (by rw [inB_false (by omega)]),rfl⟩
 · go_enter Tryz.func96,Tryz.ntmps96
   go_wp2_with fail
   go_ret
   exact⟨ret_bool (by rw [inB_false (by omega)]),rfl⟩
theorem l3Next (ts:List GToken) (g:Nat) (L:Option Addr) (cl:Nat) (V:Option Addr) (cv:Nat) (st:PSt) (w:World) (h:PCur ts g L cl V cv st w):
 Calls Tryz.prog 104 #[.pointer (some ⟨g,0,none⟩)] w fun e w'=>e= .returned (.tuple #[])/\Mv ts g L cl V cv st.vars (pNext ts st) w w':=by
 have HC:=LH h
 have HR:=LH h.row
 have hca:=fun i=>HR.out.cell i
 have hfa:=fun i=>HR.out.frozen i
 have hlen:=h.few
 have hpos:=h.pos
 clear h
 go_enter Tryz.func104,Tryz.ntmps104
 have hw1:IntKind.i64.wrap ((ts.length:Int) - 1)=(ts.length:Int) - 1:=(IntWalk.i64_left _).trans (IntWalk.wrap64_in ((ts.length:Int) - 1) (by omega))
 by_cases hb:st.pos+1<ts.length
 ·
  have HV:=LH (show pNext ts st= {st with pos:=st.pos+1} by unfold pNext;rw [if_pos hb])
  have d1:decide ((st.pos:Int)<(ts.length:Int) - 1)=true:=decide_eq_true (by omega)
  have hw2:IntKind.i64.wrap ((st.pos:Int)+1)=(st.pos:Int)+1:=(IntWalk.i64_left _).trans (IntWalk.wrap64_in ((st.pos:Int)+1) (by omega))
  go_wp2_with fail
  go_quiet (fail)
  go_wp2_with fail
  (try simp only [Exit.inBlock,Exit.then]);first | (refine bodyPost_ret (results_tmp rfl _ _ _) rfl ?_) | (refine bodyPost_ret (results_none rfl _ _ _) rfl ?_) | (refine bodyPost_end (results_none rfl _ _ _) rfl ?_) | go_ret2 | go_ret3
  refine⟨rfl,?_⟩
  rw [HV.out]
  exact⟨((Bx.refl g w).trans (Bx.of_below (belowN (Below.refl _ _) _) (Nat.le_refl _))).set (p:=⟨g,1,none⟩) (.inl rfl) _,Row.set (HR.out.below (belowN (Below.refl _ _) _) HR.out.lt) 1 _,rfl,hb⟩
 ·
  have HV:=LH (show pNext ts st=st by unfold pNext;rw [if_neg hb])
  have d1:decide ((st.pos:Int)<(ts.length:Int) - 1)=false:=decide_eq_false (by omega)
  go_wp2_with fail
  go_quiet (fail)
  go_wp2_with fail
  (try simp only [Exit.inBlock,Exit.then]);first | (refine bodyPost_ret (results_tmp rfl _ _ _) rfl ?_) | (refine bodyPost_ret (results_none rfl _ _ _) rfl ?_) | (refine bodyPost_end (results_none rfl _ _ _) rfl ?_) | go_ret2 | go_ret3
  exact⟨rfl,by rw [HV.out];exact HC.out.mv.below (belowN (Below.refl _ _) _)⟩
theorem l3Take (ts:List GToken) (g:Nat) (L:Option Addr) (cl:Nat) (V:Option Addr) (cv:Nat) (st:PSt) (w:World) (h:PCur ts g L cl V cv st w) (s:ByteArray):
 Calls Tryz.prog 101 #[.pointer (some ⟨g,0,none⟩),.string s] w fun e w'=>e= .returned (.tuple #[])/\Mv ts g L cl V cv st.vars (pTake ts s.data.toList st) w w':=by
 have HC:=LH h
 clear h
 go_enter Tryz.func101,Tryz.ntmps101
 have HV:=LH (show pTake ts s.data.toList st=if pSign ts s.data.toList st then pNext ts st else pBad ts st from rfl)
 go_wp2_with fail
 refine(l3Sign ts g L cl V cv st w HC.out s).mono ?_
 rintro e w1 ⟨rfl,hb1⟩
 have E1:=LH hb1
 have C1:=LH (HC.out.below hb1)
 clear hb1
 cases h1:pSign ts s.data.toList st
 ·
  go_wp2_with fail
  refine(l3Bad ts g L cl V cv st w1 C1.out).mono ?_
  rintro e w2 ⟨rfl,hm⟩
  have MF:=LH ((HC.out.mv.below E1.out).trans hm)
  clear hm
  go_wp2_with fail
  (try simp only [Exit.inBlock,Exit.then]);first | (refine bodyPost_ret (results_tmp rfl _ _ _) rfl ?_) | (refine bodyPost_ret (results_none rfl _ _ _) rfl ?_) | (refine bodyPost_end (results_none rfl _ _ _) rfl ?_) | go_ret2 | go_ret3
  exact⟨rfl,by rw [HV.out,h1];exact MF.out⟩
 ·
  go_wp2_with fail
  refine(l3Next ts g L cl V cv st w1 C1.out).mono ?_
  rintro e w2 ⟨rfl,hm⟩
  have MF:=LH ((HC.out.mv.below E1.out).trans hm)
  clear hm
  go_wp2_with fail
  (try simp only [Exit.inBlock,Exit.then]);first | (refine bodyPost_ret (results_tmp rfl _ _ _) rfl ?_) | (refine bodyPost_ret (results_none rfl _ _ _) rfl ?_) | (refine bodyPost_end (results_none rfl _ _ _) rfl ?_) | go_ret2 | go_ret3
  exact⟨rfl,by rw [HV.out,h1];exact MF.out⟩
theorem l3Word (ts:List GToken) (g:Nat) (L:Option Addr) (cl:Nat) (V:Option Addr) (cv:Nat) (st:PSt) (w:World) (h:PCur ts g L cl V cv st w) (s:ByteArray):
 Calls Tryz.prog 98 #[.pointer (some ⟨g,0,none⟩),.string s] w fun e w'=>e= .returned (.tuple #[])/\Mv ts g L cl V cv st.vars (pWord ts s.data.toList st) w w':=by
 have HC:=LH h
 clear h
 go_enter Tryz.func98,Tryz.ntmps98
 have HV:=LH (show pWord ts s.data.toList st=if pIs ts s.data.toList st then pNext ts st else pBad ts st from rfl)
 go_wp2_with fail
 refine(l3Is ts g L cl V cv st w HC.out s).mono ?_
 rintro e w1 ⟨rfl,hb1⟩
 have E1:=LH hb1
 have C1:=LH (HC.out.below hb1)
 clear hb1
 cases h1:pIs ts s.data.toList st
 ·
  go_wp2_with fail
  refine(l3Bad ts g L cl V cv st w1 C1.out).mono ?_
  rintro e w2 ⟨rfl,hm⟩
  have MF:=LH ((HC.out.mv.below E1.out).trans hm)
  clear hm
  go_wp2_with fail
  (try simp only [Exit.inBlock,Exit.then]);first | (refine bodyPost_ret (results_tmp rfl _ _ _) rfl ?_) | (refine bodyPost_ret (results_none rfl _ _ _) rfl ?_) | (refine bodyPost_end (results_none rfl _ _ _) rfl ?_) | go_ret2 | go_ret3
  exact⟨rfl,by rw [HV.out,h1];exact MF.out⟩
 ·
  go_wp2_with fail
  refine(l3Next ts g L cl V cv st w1 C1.out).mono ?_
  rintro e w2 ⟨rfl,hm⟩
  have MF:=LH ((HC.out.mv.below E1.out).trans hm)
  clear hm
  go_wp2_with fail
  (try simp only [Exit.inBlock,Exit.then]);first | (refine bodyPost_ret (results_tmp rfl _ _ _) rfl ?_) | (refine bodyPost_ret (results_none rfl _ _ _) rfl ?_) | (refine bodyPost_end (results_none rfl _ _ _) rfl ?_) | go_ret2 | go_ret3
  exact⟨rfl,by rw [HV.out,h1];exact MF.out⟩
theorem l3TextC (ts:List GToken) (g:Nat) (L:Option Addr) (cl:Nat) (V:Option Addr) (cv:Nat) (st:PSt) (w:World) (h:PCur ts g L cl V cv st w):
 Calls Tryz.prog 99 #[.pointer (some ⟨g,0,none⟩),.bool true] w fun e w'=>e= .returned (.string (pText ts true st).1)/\Mv ts g L cl V cv st.vars (pText ts true st).2 w w':=by
 have HC:=LH h
 clear h
 go_enter Tryz.func99,Tryz.ntmps99
 go_wp2_with fail
 refine(l3Con ts g L cl V cv st w HC.out).mono ?_
 rintro e w1 ⟨rfl,hb1⟩
 have E1:=LH hb1
 have C1:=LH (HC.out.below hb1)
 clear hb1
 cases h1:pCon ts st
 ·
  have HV:=LH (show pText ts true st=(⟨#[]⟩,pBad ts st) by simp [pText,h1])
  go_wp2_with fail
  refine(l3Bad ts g L cl V cv st w1 C1.out).mono ?_
  rintro e w2 ⟨rfl,hm⟩
  have MF:=LH ((HC.out.mv.below E1.out).trans hm)
  clear hm
  go_wp2_with fail
  (try simp only [Exit.inBlock,Exit.then]);first | (refine bodyPost_ret (results_tmp rfl _ _ _) rfl ?_) | (refine bodyPost_ret (results_none rfl _ _ _) rfl ?_) | (refine bodyPost_end (results_none rfl _ _ _) rfl ?_) | go_ret2 | go_ret3
  exact⟨by rw [HV.out];rfl,by rw [HV.out];exact MF.out⟩
 ·
  have HV:=LH (show pText ts true st=((pNow ts st).text,pNext ts st) by simp [pText,h1])
  have hfd:∀ w:World,(Instr.field 135 (.agg #[.int .i64 (pNow ts st).kind,.string (pNow ts st).text,.int .i64 (pNow ts st).n,.int .i64 (pNow ts st).pos]) 1).run Tryz.prog w= .ok (.string (pNow ts st).text) w:=fun _=>by kernel_rfl
  go_wp2_with fail
  refine(l3Now ts g L cl V cv st w1 C1.out).mono ?_
  rintro e w2 ⟨rfl,hb2⟩
  have E2:=LH hb2
  have C2:=LH (C1.out.below hb2)
  clear hb2
  go_wp2_with fail
  refine(l3Next ts g L cl V cv st w2 C2.out).mono ?_
  rintro e w3 ⟨rfl,hm⟩
  have MF:=LH (((HC.out.mv.below E1.out).below E2.out).trans hm)
  clear hm
  go_wp2_with fail
  (try simp only [Exit.inBlock,Exit.then]);first | (refine bodyPost_ret (results_tmp rfl _ _ _) rfl ?_) | (refine bodyPost_ret (results_none rfl _ _ _) rfl ?_) | (refine bodyPost_end (results_none rfl _ _ _) rfl ?_) | go_ret2 | go_ret3
  exact⟨by rw [HV.out];rfl,by rw [HV.out];exact MF.out⟩
theorem l3TextN (ts:List GToken) (g:Nat) (L:Option Addr) (cl:Nat) (V:Option Addr) (cv:Nat) (st:PSt) (w:World) (h:PCur ts g L cl V cv st w):
 Calls Tryz.prog 99 #[.pointer (some ⟨g,0,none⟩),.bool false] w fun e w'=>e= .returned (.string (pText ts false st).1)/\Mv ts g L cl V cv st.vars (pText ts false st).2 w w':=by
 have HC:=LH h
 clear h
 go_enter Tryz.func99,Tryz.ntmps99
 go_wp2_with fail
 refine(l3Name ts g L cl V cv st w HC.out).mono ?_
 rintro e w1 ⟨rfl,hb1⟩
 have E1:=LH hb1
 have C1:=LH (HC.out.below hb1)
 clear hb1
 cases h1:pName ts st
 ·
  have HV:=LH (show pText ts false st=(⟨#[]⟩,pBad ts st) by simp [pText,h1])
  go_wp2_with fail
  refine(l3Bad ts g L cl V cv st w1 C1.out).mono ?_
  rintro e w2 ⟨rfl,hm⟩
  have MF:=LH ((HC.out.mv.below E1.out).trans hm)
  clear hm
  go_wp2_with fail
  (try simp only [Exit.inBlock,Exit.then]);first | (refine bodyPost_ret (results_tmp rfl _ _ _) rfl ?_) | (refine bodyPost_ret (results_none rfl _ _ _) rfl ?_) | (refine bodyPost_end (results_none rfl _ _ _) rfl ?_) | go_ret2 | go_ret3
  exact⟨by rw [HV.out];rfl,by rw [HV.out];exact MF.out⟩
 ·
  have HV:=LH (show pText ts false st=((pNow ts st).text,pNext ts st) by simp [pText,h1])
  have hfd:∀ w:World,(Instr.field 135 (.agg #[.int .i64 (pNow ts st).kind,.string (pNow ts st).text,.int .i64 (pNow ts st).n,.int .i64 (pNow ts st).pos]) 1).run Tryz.prog w= .ok (.string (pNow ts st).text) w:=fun _=>by kernel_rfl
  go_wp2_with fail
  refine(l3Now ts g L cl V cv st w1 C1.out).mono ?_
  rintro e w2 ⟨rfl,hb2⟩
  have E2:=LH hb2
  have C2:=LH (C1.out.below hb2)
  clear hb2
  go_wp2_with fail
  refine(l3Next ts g L cl V cv st w2 C2.out).mono ?_
  rintro e w3 ⟨rfl,hm⟩
  have MF:=LH (((HC.out.mv.below E1.out).below E2.out).trans hm)
  clear hm
  go_wp2_with fail
  (try simp only [Exit.inBlock,Exit.then]);first | (refine bodyPost_ret (results_tmp rfl _ _ _) rfl ?_) | (refine bodyPost_ret (results_none rfl _ _ _) rfl ?_) | (refine bodyPost_end (results_none rfl _ _ _) rfl ?_) | go_ret2 | go_ret3
  exact⟨by rw [HV.out];rfl,by rw [HV.out];exact MF.out⟩
theorem l3Small (ts:List GToken) (g:Nat) (L:Option Addr) (cl:Nat) (V:Option Addr) (cv:Nat) (st:PSt) (w:World) (h:PCur ts g L cl V cv st w):
 Calls Tryz.prog 125 #[.pointer (some ⟨g,0,none⟩)] w fun e w'=>e= .returned (.bool (pSmall ts st))/\Below w.heap.size w w':=by
 have HC:=LH h
 have HN:=LH (l3Now ts g L cl V cv st w h)
 clear h
 obtain⟨t,ht⟩:∃ t,pNow ts st=t:=⟨_,rfl⟩
 rw [ht] at HN
 have HV:=LH (show pSmall ts st=(pName ts st||(decide (st.bad<0)&&t.kind ==2)||pSign ts [40] st) by unfold pSmall;rw [ht])
 clear ht
 go_enter Tryz.func125,Tryz.ntmps125
 go_wp2_with fail
 refine HN.out.mono ?_
 rintro e w1 ⟨rfl,hb1⟩
 have E1:=LH hb1
 clear hb1 HN
 go_wp2_with fail
 obtain⟨w2,e2⟩:∃ w2,w2=w1.alloc (.cells #[.int .i64 t.kind,.string t.text,.int .i64 t.n,.int .i64 t.pos] 135):=⟨_,rfl⟩
 rw [<- e2]
 have E2:=LH (show Below w.heap.size w w2 by rw [e2];exact E1.out.alloc E1.out.size _)
 have RT2:=LH (show Row w2 w1.heap.size 135 #[.int .i64 t.kind,.string t.text,.int .i64 t.n,.int .i64 t.pos] by rw [e2];exact Row.new _ _ _)
 have C2:=LH (HC.out.below E2.out)
 clear e2
 refine(l3Name ts g L cl V cv st w2 C2.out).mono ?_
 rintro e w3 ⟨rfl,hb3⟩
 have E3:=LH (E2.out.trans (hb3.mono E2.out.size))
 have RT3:=LH (RT2.out.below hb3 RT2.out.lt)
 have C3:=LH (HC.out.below E3.out)
 have hct:=fun i=>RT3.out.cell i
 have hc3:=fun i=>C3.out.row.cell i
 clear hb3
 cases h1:pName ts st
 case' true=>
  go_wp2_with fail
  (try simp only [Exit.inBlock,Exit.then]);first | (refine bodyPost_ret (results_tmp rfl _ _ _) rfl ?_) | (refine bodyPost_ret (results_none rfl _ _ _) rfl ?_) | (refine bodyPost_end (results_none rfl _ _ _) rfl ?_) | go_ret2 | go_ret3
  exact⟨congrArg (fun b=>Ending.returned (Value.bool b)) (by rw [HV.out];simp [*]),E3.out⟩
 cases h2:decide (st.bad<0)
 case' false.true=>cases h3:(t.kind ==2)
 case' false.true.true=>
  go_wp2_with fail
  (try simp only [Exit.inBlock,Exit.then]);first | (refine bodyPost_ret (results_tmp rfl _ _ _) rfl ?_) | (refine bodyPost_ret (results_none rfl _ _ _) rfl ?_) | (refine bodyPost_end (results_none rfl _ _ _) rfl ?_) | go_ret2 | go_ret3
  exact⟨congrArg (fun b=>Ending.returned (Value.bool b)) (by rw [HV.out];simp [*]),E3.out⟩
 all_goals
  go_wp2_with fail
  refine(l3Sign ts g L cl V cv st w3 C3.out ⟨#[40]⟩).mono ?_
  rintro e w4 ⟨rfl,hb4⟩
  have E4:=LH (E3.out.trans (hb4.mono E3.out.size))
  clear hb4
  go_wp2_with fail
  (try simp only [Exit.inBlock,Exit.then]);first | (refine bodyPost_ret (results_tmp rfl _ _ _) rfl ?_) | (refine bodyPost_ret (results_none rfl _ _ _) rfl ?_) | (refine bodyPost_end (results_none rfl _ _ _) rfl ?_) | go_ret2 | go_ret3
  exact⟨congrArg (fun b=>Ending.returned (Value.bool b)) (by rw [HV.out];simp [*]),E4.out⟩
theorem l3Atomic (ts:List GToken) (g:Nat) (L:Option Addr) (cl:Nat) (V:Option Addr) (cv:Nat) (st:PSt) (w:World) (h:PCur ts g L cl V cv st w):
 Calls Tryz.prog 138 #[.pointer (some ⟨g,0,none⟩)] w fun e w'=>e= .returned (.bool (pAtomic ts st))/\Below w.heap.size w w':=by
 have HC:=LH h
 clear h
 obtain⟨t,ht⟩:∃ t,pNow ts st=t:=⟨_,rfl⟩
 have HT:=LH ht
 have HV:=LH (show pAtomic ts st=(pName ts st||pCon ts st||pSign ts [40] st||(decide (st.bad<0)&&t.kind ==3)) by unfold pAtomic;rw [ht])
 clear ht
 have hfd:∀ w:World,(Instr.field 135 (.agg #[.int .i64 t.kind,.string t.text,.int .i64 t.n,.int .i64 t.pos]) 0).run Tryz.prog w= .ok (.int .i64 t.kind) w:=fun _=>by kernel_rfl
 go_enter Tryz.func138,Tryz.ntmps138
 go_wp2_with fail
 refine(l3Name ts g L cl V cv st w HC.out).mono ?_
 rintro e w1 ⟨rfl,hb1⟩
 have E1:=LH hb1
 have C1:=LH (HC.out.below hb1)
 clear hb1
 cases h1:pName ts st
 case' true=>
  go_wp2_with fail
  (try simp only [Exit.inBlock,Exit.then]);first | (refine bodyPost_ret (results_tmp rfl _ _ _) rfl ?_) | (refine bodyPost_ret (results_none rfl _ _ _) rfl ?_) | (refine bodyPost_end (results_none rfl _ _ _) rfl ?_) | go_ret2 | go_ret3
  exact⟨congrArg (fun b=>Ending.returned (Value.bool b)) (by rw [HV.out];simp [*]),E1.out⟩
 go_wp2_with fail
 refine(l3Con ts g L cl V cv st w1 C1.out).mono ?_
 rintro e w2 ⟨rfl,hb2⟩
 have E2:=LH (E1.out.trans (hb2.mono E1.out.size))
 have C2:=LH (HC.out.below E2.out)
 clear hb2
 cases h2:pCon ts st
 case' true=>
  go_wp2_with fail
  (try simp only [Exit.inBlock,Exit.then]);first | (refine bodyPost_ret (results_tmp rfl _ _ _) rfl ?_) | (refine bodyPost_ret (results_none rfl _ _ _) rfl ?_) | (refine bodyPost_end (results_none rfl _ _ _) rfl ?_) | go_ret2 | go_ret3
  exact⟨congrArg (fun b=>Ending.returned (Value.bool b)) (by rw [HV.out];simp [*]),E2.out⟩
 go_wp2_with fail
 refine(l3Sign ts g L cl V cv st w2 C2.out ⟨#[40]⟩).mono ?_
 rintro e w3 ⟨rfl,hb3⟩
 have E3:=LH (E2.out.trans (hb3.mono E2.out.size))
 have C3:=LH (HC.out.below E3.out)
 have hc3:=fun i=>C3.out.row.cell i
 clear hb3
 cases h3:pSign ts [40] st
 case' true=>
  go_wp2_with fail
  (try simp only [Exit.inBlock,Exit.then]);first | (refine bodyPost_ret (results_tmp rfl _ _ _) rfl ?_) | (refine bodyPost_ret (results_none rfl _ _ _) rfl ?_) | (refine bodyPost_end (results_none rfl _ _ _) rfl ?_) | go_ret2 | go_ret3
  exact⟨congrArg (fun b=>Ending.returned (Value.bool b)) (by rw [HV.out];simp [*]),E3.out⟩
 cases h4:decide (st.bad<0)
 case' false=>
  go_wp2_with fail
  (try simp only [Exit.inBlock,Exit.then]);first | (refine bodyPost_ret (results_tmp rfl _ _ _) rfl ?_) | (refine bodyPost_ret (results_none rfl _ _ _) rfl ?_) | (refine bodyPost_end (results_none rfl _ _ _) rfl ?_) | go_ret2 | go_ret3
  exact⟨congrArg (fun b=>Ending.returned (Value.bool b)) (by rw [HV.out];simp [*]),E3.out⟩
 have HN:=LH (l3Now ts g L cl V cv st w3 C3.out)
 rw [HT.out] at HN
 go_wp2_with fail
 refine HN.out.mono ?_
 rintro e w4 ⟨rfl,hb4⟩
 have E4:=LH (E3.out.trans (hb4.mono E3.out.size))
 clear hb4
 cases h5:(t.kind ==3)
 all_goals
  go_wp2_with fail
  (try simp only [Exit.inBlock,Exit.then]);first | (refine bodyPost_ret (results_tmp rfl _ _ _) rfl ?_) | (refine bodyPost_ret (results_none rfl _ _ _) rfl ?_) | (refine bodyPost_end (results_none rfl _ _ _) rfl ?_) | go_ret2 | go_ret3
  exact⟨congrArg (fun b=>Ending.returned (Value.bool b)) (by rw [HV.out];simp [*]),E4.out⟩
end Go.Proofs.YtamfolaicncblaaGreat
