/- Texts of the claim LTags in one: Grx PaK PaE PaG. Conditions: none but bounds on sizes. -/
import Derived.Test.YtgbjdhfaklmjcaaGreatZLTags2
import Derived.Test.YtgbjdhfaklmjcaaGreatZLTags0
import Derived.Test.YtgbjdhfaklmjcaaGreatZLTags1
namespace Go.Proofs.YtgbjdhfaklmjcaaGreat
set_option maxRecDepth 20000
set_option linter.unusedVariables false
set_option linter.unusedSimpArgs false
open Go.RowKit
def Grx (X:Nat->Prop) (w:World) (B:Nat) (e:TypeId) (size:Nat) (v:Value) (n:Nat) (xs:List D):Prop:=
 xs.length=n/\∃ cs,w.ownsRow B e size v n cs/\rdC w size (fun b=>b<w.heap.size/\v.ownBlock≠some b/\X b) xs cs
theorem Grx.nil (X:Nat->Prop) (w:World) (B:Nat) (e:TypeId) (size:Nat):Grx X w B e size (.slice none 0 0) 0 []:=⟨rfl,[],World.ownsRow_nil w B e size,rfl⟩
theorem Grx.made {X:Nat->Prop} {w:World} {B g:Nat} {e:TypeId} {size:Nat} (hr:Row w g e #[]) (hB:B<=g):Grx X w B e size (.slice (some ⟨g,0,none⟩) 0 0) 0 []:=
 ⟨rfl,[],⟨by simp,.inr ⟨g,0,#[],rfl,hB,hr,Nat.le_refl _,by unfold maxLen;omega,by simp,by simp⟩⟩,rfl⟩
theorem Grx.own {X:Nat->Prop} {w:World} {B:Nat} {e:TypeId} {size:Nat} {v:Value} {n:Nat} {xs:List D} (h:Grx X w B e size v n xs):∀ g,v.ownBlock=some g->B<=g/\g<w.heap.size:=by
 obtain⟨h1,cs,h2,h4⟩:=h
 exact fun g hg=>h2.lt g hg
theorem Grx.form {X:Nat->Prop} {w:World} {B:Nat} {e:TypeId} {size:Nat} {v:Value} {n:Nat} {xs:List D} (h:Grx X w B e size v n xs):∃ A c,v= .slice A n c:=by
 obtain⟨h1,cs,h2,h4⟩:=h
 rcases h2.2 with ⟨rfl,h0⟩ | ⟨g,cap,cur,rfl,_⟩
 · exact⟨none,0,by rw [h0]⟩
 · exact⟨_,cap,rfl⟩
theorem Grx.keep {X:Nat->Prop} {w w':World} {B:Nat} {e:TypeId} {size:Nat} {v:Value} {n:Nat} {xs:List D} (h:Grx X w B e size v n xs) (hs:w.heap.size<=w'.heap.size) (hk:∀ b,b<w.heap.size->w'.heap[b]? =w.heap[b]?):Grx X w' B e size v n xs:=by
 have ho:=h.own
 obtain⟨h1,cs,h2,h4⟩:=h
 refine⟨h1,cs,⟨h2.1,?_⟩,rdC_keep (fun b hb=>⟨⟨Nat.lt_of_lt_of_le hb.1 hs,hb.2⟩,hk b hb.1⟩) xs cs h4⟩
 rcases h2.2 with h | ⟨g,cap,cur,rfl,a1,a2,a3⟩
 · exact .inl h
 · exact .inr ⟨g,cap,cur,rfl,a1,(hk g (ho g rfl).2).trans a2,a3⟩
theorem Grx.below {X:Nat->Prop} {w w':World} {B:Nat} {e:TypeId} {size:Nat} {v:Value} {n:Nat} {xs:List D} (h:Grx X w B e size v n xs) (hb:Below w.heap.size w w'):Grx X w' B e size v n xs:=h.keep hb.size hb.block
theorem Grx.sl {X:Nat->Prop} {w:World} {B:Nat} {e:TypeId} {size:Nat} {v:Value} {n:Nat} {xs:List D} (h:Grx X w B e size v n xs) (hX:∀ b,B<=b->X b):∃ A c,v= .slice A n c/\Sl w (fun b=>b<w.heap.size/\X b) size A c xs:=by
 have hlt:=h.own
 obtain⟨h1,cs,h2,h4⟩:=h
 rcases h2.2 with ⟨rfl,h⟩ | ⟨g,cap,cur,rfl,a1,a2,a3,a4,a5,a6⟩
 · have:xs= []:=List.eq_nil_of_length_eq_zero (by omega)
   subst this
   exact⟨none,0,by rw [h],Sl.nil (by unfold maxLen;omega)⟩
 ·
  refine⟨_,cap,rfl,by omega,a4,.inr ⟨g,0,rfl,⟨(hlt g rfl).2,hX g (hlt g rfl).1⟩,?_⟩⟩
  refine rdC_row xs cs 0 (fun j v hj=>?_) (rdC_keep (fun b hb=>⟨⟨hb.1,hb.2.2⟩,rfl⟩) xs cs h4)
  rw [Nat.zero_add,Row.cell (t:=e) (cs:=cur) a2]
  rw [<- a6,List.getElem?_take] at hj
  split at hj
  · simpa using hj
  · cases hj
theorem Grx.step {P:Program} {X:Nat->Prop} (w:World) (t ty e:TypeId) (z:Value) (size bytes:Nat) (ht:P.underlying t=some (.slice e)) (hi:(P.info? e).map (fun i=>(i.zero,i.size,i.bytes))=some (some z,size,bytes)) (hzs:z.cells.size=size) (hsz:0<size)
 (B:Nat) (v:Value) (n:Nat) (xs:List D) (hg:Grx X w B e size v n xs) (A:Option Addr) (c m:Nat) (ys:List D) (hm:ys.length=m) (hy:Sl w (fun b=>b<w.heap.size/\v.ownBlock≠some b/\X b) size A c ys) (hB:B<=w.heap.size)
 (hn:n+m<=maxLen) (hbt:(n+m)*bytes<=140737488355328):
 ∃ A' c' w',(Builtin.append_ #[t,t] ty #[v,.slice A m c]).run P w= .ok (.slice A' (n+m) c') w'/\Grx X w' B e size (.slice A' (n+m) c') (n+m) (xs++ys)/\Gr w w' v (.slice A' (n+m) c'):=by
 obtain⟨i,i1,i2,i3,i4⟩:=info_parts hi
 have ho:=hg.own
 obtain⟨hxs,cells,g2,g4⟩:=id hg
 obtain⟨es,k1,k2,k3⟩:∃ es,rdC w size (fun b=>b<w.heap.size/\v.ownBlock≠some b/\X b) ys es/\(A=none->m=0)/\∀ a,A=some a->∀ j u,es[j]? =some u->w.cell? (a.add j)=some u:=by
  rcases hy.2.2 with rfl | ⟨b,off,rfl,hS,hr⟩
  · exact⟨[],rfl,fun _=>by simpa using hm.symm,fun _ _ j u h=>by simp at h⟩
  · obtain⟨es,h1,h2⟩:=rdR_cells ys off hr
    refine⟨es,h1,fun h=>by simp at h,fun a ha j u hj=>?_⟩
    obtain rfl:⟨b,off,none⟩=a:=by simpa using ha
    have hadd:(⟨b,off,none⟩:Addr).add j=⟨b,off+j,none⟩:=by unfold Addr.add;split<;>simp_all
    rw [hadd];exact h2 j u hj
 obtain⟨v',w',hr,hown,hgr,hat⟩:=run_append_many (P:=P) w B t ty e i z size bytes ht i1 i2 i3 i4 hzs hsz v n cells g2 A m c es k2 (by rw [rdC_length _ _ k1,hm]) k3 (rdC_one _ _ k1) hn hbt hB
 have hfm:∃ A' c',v'= .slice A' (n+m) c':=by
  rcases hown.2 with ⟨rfl,h0⟩ | ⟨g,cap,cur,rfl,_⟩
  · exact⟨none,0,by rw [h0]⟩
  · exact⟨_,cap,rfl⟩
 obtain⟨A',c',rfl⟩:=hfm
 have hG:Gr w w' v (.slice A' (n+m) c'):=⟨hgr,hat.imp id fun h=>⟨_,h,Nat.le_refl _⟩⟩
 refine⟨A',c',w',hr,⟨by simp [hxs,hm],cells++es,hown,rdC_keep (fun b hb=>⟨⟨Nat.lt_of_lt_of_le hb.1 hgr.size,hG.ne hb.2.1 hb.1,hb.2.2⟩,hgr.block b hb.1 fun e=>hb.2.1 e.symm⟩) _ _ (rdC_append k1 _ _ g4)⟩,hG⟩
theorem wp_append_X {P:Program} {X:Nat->Prop} {o:Oper} {a:Act} {K:Act->World->Prop} {Q:Exit->Act->World->Prop} (w:World) (s x:Operand) (t:TypeId) (ho:o.op= .call {callee:=.builtin .append,args:=#[s,x],argTypes:=#[t,t]})
 (e:TypeId) (z:Value) (size bytes:Nat) (ht:P.underlying t=some (.slice e)) (hi:(P.info? e).map (fun i=>(i.zero,i.size,i.bytes))=some (some z,size,bytes)) (hzs:z.cells.size=size) (hsz:0<size)
 (B:Nat) (v:Value) (n:Nat) (xs:List D) (hg:Grx X w B e size v n xs) (A:Option Addr) (c m:Nat) (ys:List D) (hm:ys.length=m) (hy:Sl w (fun b=>b<w.heap.size/\v.ownBlock≠some b/\X b) size A c ys) (hB:B<=w.heap.size)
 (hn:n+m<=maxLen) (hbt:(n+m)*bytes<=140737488355328) (hs:a.eval s=v) (hx:a.eval x= .slice A m c)
 (h:∀ A' c' w',Grx X w' B e size (.slice A' (n+m) c') (n+m) (xs++ys)->Gr w w' v (.slice A' (n+m) c')->K (a.put o.dst (.slice A' (n+m) c')) w'):o.wp P a w K Q:=by
 obtain⟨A',c',w',hr,h2,h3⟩:=Grx.step (P:=P) w t o.type e z size bytes ht hi hzs hsz B v n xs hg A c m ys hm hy hB hn hbt
 unfold Oper.wp execOp
 simp only [ho,resolve,invoke,builtin,Sem.run_bind,Sem.run_pure,Result.andThen_ok,List.map_toArray,List.map_cons,List.map_nil,hs,hx,hr]
 exact h A' c' w' h2 h3
theorem wpList_append_X {P:Program} {X:Nat->Prop} {ops:Array Oper} {rest:List Oper} {o:Oper} {a:Act} {Q:Exit->Act->World->Prop} (w:World) (hgd:o.guard=none) (s x:Operand) (t:TypeId) (ho:o.op= .call {callee:=.builtin .append,args:=#[s,x],argTypes:=#[t,t]})
 (e:TypeId) (z:Value) (size bytes:Nat) (ht:P.underlying t=some (.slice e)) (hi:(P.info? e).map (fun i=>(i.zero,i.size,i.bytes))=some (some z,size,bytes)) (hzs:z.cells.size=size) (hsz:0<size)
 (B:Nat) (v:Value) (n:Nat) (xs:List D) (hg:Grx X w B e size v n xs) (A:Option Addr) (c m:Nat) (ys:List D) (hm:ys.length=m) (hy:Sl w (fun b=>b<w.heap.size/\v.ownBlock≠some b/\X b) size A c ys) (hB:B<=w.heap.size)
 (hn:n+m<=maxLen) (hbt:(n+m)*bytes<=140737488355328) (hs:a.eval s=v) (hx:a.eval x= .slice A m c)
 (h:∀ A' c' w',Grx X w' B e size (.slice A' (n+m) c') (n+m) (xs++ys)->Gr w w' v (.slice A' (n+m) c')->wpList P ops Q rest (a.put o.dst (.slice A' (n+m) c')) w'):wpList P ops Q (o::rest) a w:=
 wpList_plain hgd fun _ hK=>wp_append_X w s x t ho e z size bytes ht hi hzs hsz B v n xs hg A c m ys hm hy hB hn hbt hs hx fun A' c' w' h2 h3=>hK _ _ (h A' c' w' h2 h3)
theorem step_append_X {P:Program} {X:Nat->Prop} {ops:Array Oper} {o:Oper} {a:Act} {K:Act->World->Prop} {Q:Exit->Act->World->Prop} {E:Prop} (w:World) (hgd:o.guard=none) (s x:Operand) (t:TypeId) (ho:o.op= .call {callee:=.builtin .append,args:=#[s,x],argTypes:=#[t,t]})
 (e:TypeId) (z:Value) (size bytes:Nat) (ht:P.underlying t=some (.slice e)) (hi:(P.info? e).map (fun i=>(i.zero,i.size,i.bytes))=some (some z,size,bytes)) (hzs:z.cells.size=size) (hsz:0<size)
 (B:Nat) (v:Value) (n:Nat) (xs:List D) (hg:Grx X w B e size v n xs) (A:Option Addr) (c m:Nat) (ys:List D) (hm:ys.length=m) (hy:Sl w (fun b=>b<w.heap.size/\v.ownBlock≠some b/\X b) size A c ys) (hB:B<=w.heap.size)
 (hn:n+m<=maxLen) (hbt:(n+m)*bytes<=140737488355328) (hs:a.eval s=v) (hx:a.eval x= .slice A m c)
 (h:∀ A' c' w',Grx X w' B e size (.slice A' (n+m) c') (n+m) (xs++ys)->Gr w w' v (.slice A' (n+m) c')->K (a.put o.dst (.slice A' (n+m) c')) w'):if Region.wanted o (yielded ops a.tmps)=true then Oper.wp P o a w K Q else E:=by
 have hw:Region.wanted o (yielded ops a.tmps)=true:=by simp [Region.wanted,hgd]
 rw [if_pos hw]
 exact wp_append_X w s x t ho e z size bytes ht hi hzs hsz B v n xs hg A c m ys hm hy hB hn hbt hs hx h
set_option maxHeartbeats 1000000
theorem least_ex {I:Nat->Prop}:∀ n,(∃ k,k<=n/\I k)->∃ m,I m/\∀ k,I k->m<=k
 | 0,⟨k,hk,h⟩=>⟨k,h,fun j _=>by omega⟩
 | n+1,⟨k,hk,h⟩=>by
  by_cases hn:∃ k,k<=n/\I k
  · exact least_ex n hn
  · exact⟨k,h,fun j hj=>by
      rcases Nat.lt_or_ge j k with hlt | hge
      · exact(hn ⟨j,by omega,hj⟩).elim
      · exact hge⟩
open Classical in
noncomputable def leastK (I:Nat->Prop):Nat:=if h:∃ m,I m/\∀ k,I k->m<=k then Classical.choose h else 0
theorem leastK_both {I:Nat->Prop} (h:∃ k,I k):I (leastK I)/\∀ k,I k->leastK I<=k:=by
 obtain⟨k,hk⟩:=h
 have h':∃ m,I m/\∀ k,I k->m<=k:=least_ex k ⟨k,Nat.le_refl _,hk⟩
 unfold leastK
 rw [dif_pos h']
 exact Classical.choose_spec h'
theorem leastK_spec {I:Nat->Prop} (h:∃ k,I k):I (leastK I):=(leastK_both h).1
theorem leastK_le {I:Nat->Prop} {k:Nat} (h:I k):leastK I<=k:=(leastK_both ⟨k,h⟩).2 k h
theorem Grx.keepP {X:Nat->Prop} {w w':World} {B:Nat} {e:TypeId} {size:Nat} {v:Value} {n:Nat} {xs:List D} (h:Grx X w B e size v n xs) (hs:w.heap.size<=w'.heap.size) (hk:∀ b,b<w.heap.size->(v.ownBlock=some b\/X b)->w'.heap[b]? =w.heap[b]?):Grx X w' B e size v n xs:=by
 have ho:=h.own
 obtain⟨h1,cs,h2,h4⟩:=h
 refine⟨h1,cs,⟨h2.1,?_⟩,rdC_keep (fun b hb=>⟨⟨Nat.lt_of_lt_of_le hb.1 hs,hb.2⟩,hk b hb.1 (.inr hb.2.2)⟩) xs cs h4⟩
 rcases h2.2 with h | ⟨g,cap,cur,rfl,a1,a2,a3⟩
 · exact .inl h
 · exact .inr ⟨g,cap,cur,rfl,a1,(hk g (ho g rfl).2 (.inl rfl)).trans a2,a3⟩
theorem Grx.wide {X Y:Nat->Prop} {w:World} {B B':Nat} {e:TypeId} {size:Nat} {v:Value} {n:Nat} {xs:List D} (h:Grx X w B e size v n xs) (hB:B'<=B) (hX:∀ b,X b->Y b):Grx Y w B' e size v n xs:=by
 obtain⟨h1,cs,h2,h4⟩:=h
 refine⟨h1,cs,⟨h2.1,?_⟩,rdC_keep (fun b hb=>⟨⟨hb.1,hb.2.1,hX b hb.2.2⟩,rfl⟩) xs cs h4⟩
 rcases h2.2 with h | ⟨g,cap,cur,rfl,a1,a2,a3⟩
 · exact .inl h
 · exact .inr ⟨g,cap,cur,rfl,Nat.le_trans hB a1,a2,a3⟩
theorem own_is {b:Nat} {o n c q:Nat} (h:(Value.slice (some ⟨b,o,none⟩) n c).ownBlock=some q):q=b:=by simp [Value.ownBlock] at h;omega
theorem Gr.keepB {w w':World} {v v':Value} (h:Gr w w' v v') {b:Nat} (hb:b<w.heap.size) (hv:v.ownBlock≠some b):w'.heap[b]? =w.heap[b]?:=h.grow.block b hb fun e=>hv e.symm
theorem Mv.grown {ts:List GToken} {g:Nat} {L:Option Addr} {cl:Nat} {V:Option Addr} {cv:Nat} {vs:List ByteArray} {st:PSt} {a b c:World} {v v':Value} (h:Mv ts g L cl V cv vs st a b) (k:Gr b c v v') (hv:∀ q,v.ownBlock=some q->a.heap.size<=q) (hg:g<a.heap.size):Mv ts g L cl V cv vs st a c:=by
 have hz:=h.size
 refine⟨⟨k.grow.os.trans h.bx.os,k.grow.tape.trans h.bx.tape,k.grow.output.trans h.bx.output,Nat.le_trans hz k.size,fun q hq hqg=>?_⟩,?_,h.vs,h.pos⟩
 · exact(k.keepB (Nat.lt_of_lt_of_le hq hz) fun e=>by have:=hv q e;omega).trans (h.bx.block q hq hqg)
 · exact(k.keepB h.row.lt fun e=>by have:=hv g e;omega).trans h.row
theorem Sl.ofRow {w:World} {b:Nat} {T:TypeId} {cs:Array Value} {size c:Nat} {S:Nat->Prop} {xs:List D} (hr:Row w b T cs) (hc:rdC w size S xs cs.toList) (hS:S b) (hl:xs.length<=c) (hm:c<=maxLen):Sl w S size (some ⟨b,0,none⟩) c xs:=
 ⟨hl,hm,.inr ⟨b,0,rfl,hS,rdC_row xs cs.toList 0 (fun j v hj=>by rw [Nat.zero_add,hr.cell];simpa using hj) hc⟩⟩
theorem rdC_one1 {w:World} {size:Nat} {S:Nat->Prop} {d1:D} {c1:List Value} (h1:d1.rd w S c1) (l1:c1.length=size):rdC w size S [d1] c1:=⟨c1,[],by simp,l1,h1,rfl⟩
theorem rdC_cons {w:World} {size:Nat} {S:Nat->Prop} {d1:D} {xs:List D} {c1 cs:List Value} (h1:d1.rd w S c1) (l1:c1.length=size) (h:rdC w size S xs cs):rdC w size S (d1::xs) (c1++cs):=⟨c1,cs,rfl,l1,h1,h⟩
def zNd:Value:=.agg #[.int .i64 0,.int .i64 0,.string ⟨#[]⟩,.string ⟨#[]⟩,.slice none 0 0]
def zTyv:Value:=.agg #[.int .i64 0,.int .i64 0,.string ⟨#[]⟩,.slice none 0 0]
def zCn:Value:=.agg #[.string ⟨#[]⟩,.slice none 0 0]
def zDt:Value:=.agg #[.string ⟨#[]⟩,.int .i64 0,.slice none 0 0]
theorem Bx.wide {g q:Nat} {w w':World} (h:Bx q w w') (hq:w.heap.size<=q):Bx g w w':=⟨h.os,h.tape,h.output,h.size,fun b hb _=>h.block b hb (by omega)⟩
theorem Mv.chg {ts:List GToken} {g:Nat} {L:Option Addr} {cl:Nat} {V:Option Addr} {cv:Nat} {vs:List ByteArray} {st:PSt} {q:Nat} {a b c:World} (h:Mv ts g L cl V cv vs st a b) (k:Bx q b c) (hq:a.heap.size<=q) (hg:g<a.heap.size):Mv ts g L cl V cv vs st a c:=by
 have hz:=h.size
 exact⟨⟨k.os.trans h.bx.os,k.tape.trans h.bx.tape,k.output.trans h.bx.output,Nat.le_trans hz k.size,fun x hx hxg=>(k.block x (by omega) (by omega)).trans (h.bx.block x hx hxg)⟩,(k.block g (by omega) (by omega)).trans h.row,h.vs,h.pos⟩
theorem boxed (w:World) (T:TypeId) (cs:Array Value):∃ x,x=w.alloc (.cells cs T)/\Hid (Row x w.heap.size T cs)/\x.heap.size=w.heap.size+1/\Hid (Bx w.heap.size w x):=
 ⟨_,rfl,LH (Row.new _ _ _),by simp,LH ((Bx.refl _ _).alloc _)⟩
theorem storedF {w:World} {n:Nat} {T:TypeId} {cs:Array Value} (h:Row w n T cs) (i:Nat) (v:Value):∃ x,x=w.setCell ⟨n,i,none⟩ v/\Hid (Row x n T (cs.setIfInBounds i v))/\x.heap.size=w.heap.size/\Hid (Bx n w x):=
 ⟨_,rfl,LH (h.set i v),by simp [World.setCell],LH ((Bx.refl _ _).set (p:=⟨n,i,none⟩) (.inl rfl) _)⟩
theorem stored2 {w:World} {n:Nat} {T:TypeId} {a0 a1:Value} (h:Row w n T #[a0,a1]) (v0 v1:Value):∃ x,x=((w.setCell ⟨n,0,none⟩ v0).setCell ⟨n,1,none⟩ v1)/\Hid (Row x n T #[v0,v1])/\x.heap.size=w.heap.size/\Hid (Bx n w x):=
 ⟨_,rfl,LH ((h.set 0 v0).set 1 v1),by simp [World.setCell],LH (((Bx.refl _ _).set (p:=⟨n,0,none⟩) (.inl rfl) _).set (p:=⟨n,1,none⟩) (.inl rfl) _)⟩
theorem stored3 {w:World} {n:Nat} {T:TypeId} {a0 a1 a2:Value} (h:Row w n T #[a0,a1,a2]) (v0 v1 v2:Value):∃ x,x=(((w.setCell ⟨n,0,none⟩ v0).setCell ⟨n,1,none⟩ v1).setCell ⟨n,2,none⟩ v2)/\Hid (Row x n T #[v0,v1,v2])/\x.heap.size=w.heap.size/\Hid (Bx n w x):=
 ⟨_,rfl,LH (((h.set 0 v0).set 1 v1).set 2 v2),by simp [World.setCell],LH ((((Bx.refl _ _).set (p:=⟨n,0,none⟩) (.inl rfl) _).set (p:=⟨n,1,none⟩) (.inl rfl) _).set (p:=⟨n,2,none⟩) (.inl rfl) _)⟩
theorem stored4 {w:World} {n:Nat} {T:TypeId} {a0 a1 a2 a3:Value} (h:Row w n T #[a0,a1,a2,a3]) (v0 v1 v2 v3:Value):∃ x,x=((((w.setCell ⟨n,0,none⟩ v0).setCell ⟨n,1,none⟩ v1).setCell ⟨n,2,none⟩ v2).setCell ⟨n,3,none⟩ v3)/\Hid (Row x n T #[v0,v1,v2,v3])/\x.heap.size=w.heap.size/\Hid (Bx n w x):=
 ⟨_,rfl,LH ((((h.set 0 v0).set 1 v1).set 2 v2).set 3 v3),by simp [World.setCell],LH (((((Bx.refl _ _).set (p:=⟨n,0,none⟩) (.inl rfl) _).set (p:=⟨n,1,none⟩) (.inl rfl) _).set (p:=⟨n,2,none⟩) (.inl rfl) _).set (p:=⟨n,3,none⟩) (.inl rfl) _)⟩
theorem stored5 {w:World} {n:Nat} {T:TypeId} {a0 a1 a2 a3 a4:Value} (h:Row w n T #[a0,a1,a2,a3,a4]) (v0 v1 v2 v3 v4:Value):∃ x,x=(((((w.setCell ⟨n,0,none⟩ v0).setCell ⟨n,1,none⟩ v1).setCell ⟨n,2,none⟩ v2).setCell ⟨n,3,none⟩ v3).setCell ⟨n,4,none⟩ v4)/\Hid (Row x n T #[v0,v1,v2,v3,v4])/\x.heap.size=w.heap.size/\Hid (Bx n w x):=
 ⟨_,rfl,LH (((((h.set 0 v0).set 1 v1).set 2 v2).set 3 v3).set 4 v4),by simp [World.setCell],LH ((((((Bx.refl _ _).set (p:=⟨n,0,none⟩) (.inl rfl) _).set (p:=⟨n,1,none⟩) (.inl rfl) _).set (p:=⟨n,2,none⟩) (.inl rfl) _).set (p:=⟨n,3,none⟩) (.inl rfl) _).set (p:=⟨n,4,none⟩) (.inl rfl) _)⟩
def PToNode (ts:List GToken) (g:Nat) (L:Option Addr) (cl:Nat) (V:Option Addr) (cv:Nat) (vs:List ByteArray) (n:GNode) (st:PSt) (w:World) (e:Ending) (w':World):Prop:=
 ∃ A c,e= .returned (.agg #[.int .i64 n.op,.int .i64 n.n,.string n.s,.string n.t,.slice A n.kids.length c])/\GNode.At w' (fun b=>w.heap.size<=b/\b<w'.heap.size) A c n/\Mv ts g L cl V cv vs st w w'
def PToTy (ts:List GToken) (g:Nat) (L:Option Addr) (cl:Nat) (V:Option Addr) (cv:Nat) (vs:List ByteArray) (n:GTy) (st:PSt) (w:World) (e:Ending) (w':World):Prop:=
 ∃ A c,e= .returned (.agg #[.int .i64 n.op,.int .i64 n.n,.string n.s,.slice A n.kids.length c])/\GTy.At w' (fun b=>w.heap.size<=b/\b<w'.heap.size) A c n/\Mv ts g L cl V cv vs st w w'
theorem l3Node (X:Nat->Prop) (op:Int) (ks:List GNode) (A:Option Addr) (c:Nat) (w:World) (hs:Sl w (fun b=>b<w.heap.size/\X b) 5 A c (ks.map GNode.toD)) (hn:ks.length<=1000):
 Calls Tryz.prog 72 #[.int .i64 op,.slice A ks.length c] w fun e w'=>∃ A' c',e= .returned (.agg #[.int .i64 op,.int .i64 0,.string ⟨#[]⟩,.string ⟨#[]⟩,.slice A' ks.length c'])/\
  Grx X w' w.heap.size 45 5 (.slice A' ks.length c') ks.length (ks.map GNode.toD)/\Below w.heap.size w w':=by
 have HS:=LH hs
 clear hs
 obtain⟨w1,e1⟩:∃ w1,w1=w.alloc (.cells #[.int .i64 0,.int .i64 0,.string ⟨#[]⟩,.string ⟨#[]⟩,.slice none 0 0] 45):=⟨_,rfl⟩
 obtain⟨w2,e2⟩:∃ w2,w2=w1.alloc (.cells #[] 45):=⟨_,rfl⟩
 have hz1:w1.heap.size=w.heap.size+1:=by rw [e1];simp
 have hz2:w2.heap.size=w.heap.size+2:=by rw [e2];simp [hz1]
 have E2:=LH (show Below w.heap.size w w2 by rw [e2,e1];exact((Below.refl _ _).alloc (Nat.le_refl _) _).alloc (by simp) _)
 have RR:=LH (show Row w2 w.heap.size 45 #[.int .i64 0,.int .i64 0,.string ⟨#[]⟩,.string ⟨#[]⟩,.slice none 0 0] by rw [e2,e1];exact(Row.new _ _ _).alloc _)
 have G2:=LH (show Grx (fun b=>X b/\b<w.heap.size) w2 (w.heap.size+1) 45 5 (.slice (some ⟨w.heap.size+1,0,none⟩) 0 0) 0 [] from Grx.made (by rw [e2];exact Row.new' _ _ _ hz1.symm) (by omega))
 have T2:=LH (show Sl w2 (fun b=>b<w2.heap.size/\(Value.slice (some ⟨w.heap.size+1,0,none⟩) 0 0).ownBlock≠some b/\(X b/\b<w.heap.size)) 5 A c (ks.map GNode.toD) from HS.out.keep fun b hb=>⟨⟨by have:=hb.1;omega,fun e=>by have:=own_is e;have:=hb.1;omega,hb.2,hb.1⟩,E2.out.block b hb.1⟩)
 go_enter Tryz.func72,Tryz.ntmps72
 go_wp2_with (first | (at_builtin;rw [<- e1,<- e2];refine wpList_append_X w2 rfl (.tmp 6) (.tmp 7) 43 rfl 45 zNd 5 72 Tryz.underlying43 (by kernel_rfl) rfl (by omega) (w.heap.size+1) (.slice (some ⟨w.heap.size+1,0,none⟩) 0 0) 0 _ G2.out A c ks.length _ (by simp) T2.out (by omega) (by unfold maxLen;omega) (by omega) rfl rfl ?_;intro A4 c4 w4 G4 hGr4;rw [Nat.zero_add] at G4 hGr4;have HE4:=LH (show Value.slice A4 (0+ks.length) c4= .slice A4 ks.length c4 by rw [Nat.zero_add]);rw [HE4.out];have G4h:=LH (show Grx (fun b=>X b/\b<w.heap.size) w4 (w.heap.size+1) 45 5 (.slice A4 ks.length c4) ks.length (ks.map GNode.toD) by simpa using G4);have GR4:=LH hGr4;have R4:=LH (show Row w4 w.heap.size 45 #[.int .i64 0,.int .i64 0,.string ⟨#[]⟩,.string ⟨#[]⟩,.slice none 0 0] from(hGr4.keepB (by omega) (by simp [Value.ownBlock])).trans RR.out);have hc4:=fun i=>R4.out.cell i;have hf4:=fun i=>R4.out.frozen i;have hz4:=hGr4.size;clear G4 hGr4))
 obtain⟨w5,e5,R5,z5,K5⟩:=stored5 R4.out (.int .i64 op) (.int .i64 0) (.string ⟨#[]⟩) (.string ⟨#[]⟩) (.slice A4 ks.length c4)
 rw [<- e5]
 have G5:=LH (G4h.out.keepP (w':=w5) (by omega) fun b hb h=>K5.out.block b hb (by
   rcases h with h | h
   · have:=G4h.out.own b h;omega
   · have:=h.2;omega))
 have hc5:=fun i=>R5.out.cell i
 clear hc4 hf4 e5
 refine bodyPost_ret (v:=.agg #[.int .i64 op,.int .i64 0,.string ⟨#[]⟩,.string ⟨#[]⟩,.slice A4 ks.length c4]) (by simp [results,Tryz.results72,go_sem,hc5]) rfl ?_
 exact⟨A4,c4,rfl,G5.out.wide (by omega) fun b h=>h.1,(E2.out.trans (GR4.out.below (by omega) fun q hq=>by have:=own_is hq;omega)).trans (K5.out.below (by omega) (by omega))⟩
set_option maxHeartbeats 2000000
def Ok1 (F:FuncId) (p:List GToken->Nat->PSt->Option (GNode × PSt)) (k:Nat):Prop:=
 ∀ (ts:List GToken) (g:Nat) (L:Option Addr) (cl:Nat) (V:Option Addr) (cv:Nat) (st:PSt) (w:World),PCur ts g L cl V cv st w->∀ (n:GNode) (st':PSt),p ts k st=some (n,st')->
  Calls Tryz.prog F #[.pointer (some ⟨g,0,none⟩)] w (PToNode ts g L cl V cv st.vars n st' w)
def OkT (F:FuncId) (p:List GToken->Nat->PSt->Option (GTy × PSt)) (k:Nat):Prop:=
 ∀ (ts:List GToken) (g:Nat) (L:Option Addr) (cl:Nat) (V:Option Addr) (cv:Nat) (st:PSt) (w:World),PCur ts g L cl V cv st w->∀ (n:GTy) (st':PSt),p ts k st=some (n,st')->
  Calls Tryz.prog F #[.pointer (some ⟨g,0,none⟩)] w (PToTy ts g L cl V cv st.vars n st' w)
theorem GNode.leaf {w:World} {S:Nat->Prop} {op n:Int} {s t:ByteArray} (h1:(Lit.int .i64 op).wf=true) (h2:(Lit.int .i64 n).wf=true) (h3:s.size<=maxLen) (h4:t.size<=maxLen):GNode.At w S none 0 (.mk op n s t []):=⟨h1,h2,h3,h4,Sl.nil (by unfold maxLen;omega)⟩
theorem empty_le:(⟨#[]⟩:ByteArray).size<=maxLen:=by simp [ByteArray.size,maxLen]
theorem l3Atom (k:Nat) (hE:Ok1 56 pE k):Ok1 105 pAtom (k+1):=by
 intro ts g L cl V cv st w h n st' hp
 have HE:=LH hE
 clear hE
 obtain⟨b0,off0,hL,hbt,-,-,-,-,hat⟩:=h.now
 clear hL hbt
 obtain⟨t,ht⟩:∃ t,pNow ts st=t:=⟨_,rfl⟩
 rw [ht] at hat
 have HAT:=LH hat
 have HT:=LH ht
 clear hat
 have HC:=LH h
 have M0:=LH h.mv
 have hgl:=h.row.lt
 clear h
 have hcu0:=fun i=>M0.out.row.cell i
 have HN:=LH (l3Now ts g L cl V cv st w HC.out)
 rw [ht] at HN
 clear ht
 go_enter Tryz.func105,Tryz.ntmps105
 go_wp2_with fail
 clear hcu0
 obtain⟨w1,e1,Rr1,hz1,K1⟩:=boxed w 45 #[.int .i64 0,.int .i64 0,.string ⟨#[]⟩,.string ⟨#[]⟩,.slice none 0 0]
 have M1:=LH (M0.out.chg K1.out (by omega) (by omega))
 rw [<- e1]
 clear e1
 have hcu1:=fun i=>M1.out.row.cell i
 have hlu1:=M1.out.row.lt
 have hcr1:=fun i=>Rr1.out.cell i
 have hlr1:=Rr1.out.lt
 have HN1:=LH (l3Now ts g L cl V cv st w1 (M1.out.cur HC.out))
 rw [HT.out] at HN1
 clear HN
 refine(HN1.out).mono ?_
 clear hcu1 hlu1 hcr1 hlr1
 rintro e w2 ⟨rfl,hb2⟩
 have hz2:=hb2.size
 have K2:=LH (Bx.of_below (g:=g) hb2 (Nat.le_refl _))
 have Rr2:=LH (K2.out.row Rr1.out (by omega))
 have M2:=LH (M1.out.below hb2)
 clear Rr1 M1
 clear hb2
 have hcu2:=fun i=>M2.out.row.cell i
 have hlu2:=M2.out.row.lt
 have hcr2:=fun i=>Rr2.out.cell i
 have hlr2:=Rr2.out.lt
 clear HN1
 cases hb:decide (st.bad<0)
 case' true=>cases hk:(t.kind ==3)
 case' true.true=>
  simp [pAtom,hb,hk,HT.out] at hp
  obtain⟨rfl,rfl⟩:=hp
  go_wp2_with fail
  clear hcu2 hlu2 hcr2 hlr2
  obtain⟨w3,e3,Rt3,hz3,K3⟩:=boxed w2 95 #[.int .i64 t.kind,.string t.text,.int .i64 t.n,.int .i64 t.pos]
  have Rr3:=LH (K3.out.row Rr2.out (by omega))
  have M3:=LH (M2.out.chg K3.out (by omega) (by omega))
  clear Rr2 M2
  rw [<- e3]
  clear e3
  have hcu3:=fun i=>M3.out.row.cell i
  have hlu3:=M3.out.row.lt
  have hcr3:=fun i=>Rr3.out.cell i
  have hlr3:=Rr3.out.lt
  have hct3:=fun i=>Rt3.out.cell i
  have hlt3:=Rt3.out.lt
  refine(l3Next ts g L cl V cv st w3 (M3.out.cur HC.out)).mono ?_
  clear hcu3 hlu3 hcr3 hlr3 hct3 hlt3
  rintro e w4 ⟨rfl,hm4⟩
  replace hm4:Mv ts g L cl V cv st.vars (pNext ts st) w3 w4:=hm4
  have hz4:=hm4.size
  have K4:=LH hm4.bx
  have Rr4:=LH (K4.out.row Rr3.out (by omega))
  have Rt4:=LH (K4.out.row Rt3.out (by omega))
  have M4:=LH (M3.out.trans hm4)
  clear Rr3 Rt3 M3
  clear hm4
  have hcu4:=fun i=>M4.out.row.cell i
  have hlu4:=M4.out.row.lt
  have hcr4:=fun i=>Rr4.out.cell i
  have hfr4:=fun i=>Rr4.out.frozen i
  have hlr4:=Rr4.out.lt
  have hct4:=fun i=>Rt4.out.cell i
  have hlt4:=Rt4.out.lt
  go_wp2_with fail
  clear hcu4 hlu4 hcr4 hfr4 hlr4 hct4 hlt4
  obtain⟨w5,e5,RN5,hz5,K5⟩:=stored5 Rr4.out (.int .i64 1) (.int .i64 t.n) (.string ⟨#[]⟩) (.string ⟨#[]⟩) (.slice none 0 0)
  have Rt5:=LH (K5.out.row Rt4.out (by omega))
  have M5:=LH (M4.out.chg K5.out (by omega) (by omega))
  clear Rt4 M4
  clear Rr4
  rw [<- e5]
  clear e5
  have hcu5:=fun i=>M5.out.row.cell i
  have hlu5:=M5.out.row.lt
  have hct5:=fun i=>Rt5.out.cell i
  have hlt5:=Rt5.out.lt
  have hcr5:=fun i=>RN5.out.cell i
  have hlr5:=RN5.out.lt
  refine bodyPost_ret (v:=.agg #[.int .i64 1,.int .i64 t.n,.string ⟨#[]⟩,.string ⟨#[]⟩,.slice none 0 0]) (by simp [results,Tryz.results105,go_sem,hcr5]) rfl ?_
  exact⟨none,0,rfl,GNode.leaf (by decide) HAT.out.2.2.1 empty_le empty_le,M5.out⟩
 all_goals
  go_wp2_with fail
  clear hcu2 hlu2 hcr2 hlr2
  obtain⟨w3,e3,Rt3,hz3,K3⟩:=boxed w2 95 #[.int .i64 t.kind,.string t.text,.int .i64 t.n,.int .i64 t.pos]
  have Rr3:=LH (K3.out.row Rr2.out (by omega))
  have M3:=LH (M2.out.chg K3.out (by omega) (by omega))
  clear Rr2 M2
  rw [<- e3]
  clear e3
  have hcu3:=fun i=>M3.out.row.cell i
  have hlu3:=M3.out.row.lt
  have hcr3:=fun i=>Rr3.out.cell i
  have hlr3:=Rr3.out.lt
  have hct3:=fun i=>Rt3.out.cell i
  have hlt3:=Rt3.out.lt
  refine(l3Name ts g L cl V cv st w3 (M3.out.cur HC.out)).mono ?_
  clear hcu3 hlu3 hcr3 hlr3 hct3 hlt3
  rintro e w4 ⟨rfl,hb4⟩
  have hz4:=hb4.size
  have K4:=LH (Bx.of_below (g:=g) hb4 (Nat.le_refl _))
  have Rr4:=LH (K4.out.row Rr3.out (by omega))
  have Rt4:=LH (K4.out.row Rt3.out (by omega))
  have M4:=LH (M3.out.below hb4)
  clear Rr3 Rt3 M3
  clear hb4
  have hcu4:=fun i=>M4.out.row.cell i
  have hlu4:=M4.out.row.lt
  have hcr4:=fun i=>Rr4.out.cell i
  have hfr4:=fun i=>Rr4.out.frozen i
  have hlr4:=Rr4.out.lt
  have hct4:=fun i=>Rt4.out.cell i
  have hlt4:=Rt4.out.lt
  cases hn:pName ts st
  case' true=>
   simp [pAtom, *,HT.out] at hp
   obtain⟨rfl,rfl⟩:=hp
   go_wp2_with fail
   refine(l3Next ts g L cl V cv st w4 (M4.out.cur HC.out)).mono ?_
   clear hcu4 hlu4 hcr4 hfr4 hlr4 hct4 hlt4
   rintro e w5 ⟨rfl,hm5⟩
   replace hm5:Mv ts g L cl V cv st.vars (pNext ts st) w4 w5:=hm5
   have hz5:=hm5.size
   have K5:=LH hm5.bx
   have Rr5:=LH (K5.out.row Rr4.out (by omega))
   have Rt5:=LH (K5.out.row Rt4.out (by omega))
   have M5:=LH (M4.out.trans hm5)
   clear Rr4 Rt4 M4
   clear hm5
   have hcu5:=fun i=>M5.out.row.cell i
   have hlu5:=M5.out.row.lt
   have hcr5:=fun i=>Rr5.out.cell i
   have hfr5:=fun i=>Rr5.out.frozen i
   have hlr5:=Rr5.out.lt
   have hct5:=fun i=>Rt5.out.cell i
   have hlt5:=Rt5.out.lt
   go_wp2_with fail
   clear hcu5 hlu5 hcr5 hlr5 hct5 hlt5
   obtain⟨w6,e6,RN6,hz6,K6⟩:=stored5 Rr5.out (.int .i64 2) (.int .i64 0) (.string t.text) (.string ⟨#[]⟩) (.slice none 0 0)
   have Rt6:=LH (K6.out.row Rt5.out (by omega))
   have M6:=LH (M5.out.chg K6.out (by omega) (by omega))
   clear Rt5 M5
   clear Rr5
   rw [<- e6]
   clear e6
   have hcu6:=fun i=>M6.out.row.cell i
   have hlu6:=M6.out.row.lt
   have hct6:=fun i=>Rt6.out.cell i
   have hlt6:=Rt6.out.lt
   have hcr6:=fun i=>RN6.out.cell i
   have hlr6:=RN6.out.lt
   refine bodyPost_ret (v:=.agg #[.int .i64 2,.int .i64 0,.string t.text,.string ⟨#[]⟩,.slice none 0 0]) (by simp [results,Tryz.results105,go_sem,hcr6]) rfl ?_
   exact⟨none,0,rfl,GNode.leaf (by decide) (by decide) HAT.out.2.1 empty_le,M6.out⟩
  go_wp2_with fail
  refine(l3Con ts g L cl V cv st w4 (M4.out.cur HC.out)).mono ?_
  clear hcu4 hlu4 hcr4 hfr4 hlr4 hct4 hlt4
  rintro e w5 ⟨rfl,hb5⟩
  have hz5:=hb5.size
  have K5:=LH (Bx.of_below (g:=g) hb5 (Nat.le_refl _))
  have Rr5:=LH (K5.out.row Rr4.out (by omega))
  have Rt5:=LH (K5.out.row Rt4.out (by omega))
  have M5:=LH (M4.out.below hb5)
  clear Rr4 Rt4 M4
  clear hb5
  have hcu5:=fun i=>M5.out.row.cell i
  have hlu5:=M5.out.row.lt
  have hcr5:=fun i=>Rr5.out.cell i
  have hfr5:=fun i=>Rr5.out.frozen i
  have hlr5:=Rr5.out.lt
  have hct5:=fun i=>Rt5.out.cell i
  have hlt5:=Rt5.out.lt
  cases hc:pCon ts st
  case' true=>
   simp [pAtom, *,HT.out] at hp
   obtain⟨rfl,rfl⟩:=hp
   go_wp2_with fail
   refine(l3Next ts g L cl V cv st w5 (M5.out.cur HC.out)).mono ?_
   clear hcu5 hlu5 hcr5 hlr5 hct5 hlt5
   rintro e w6 ⟨rfl,hm6⟩
   replace hm6:Mv ts g L cl V cv st.vars (pNext ts st) w5 w6:=hm6
   have hz6:=hm6.size
   have K6:=LH hm6.bx
   have Rr6:=LH (K6.out.row Rr5.out (by omega))
   have Rt6:=LH (K6.out.row Rt5.out (by omega))
   have M6:=LH (M5.out.trans hm6)
   clear Rr5 Rt5 M5
   clear hm6
   have hcu6:=fun i=>M6.out.row.cell i
   have hlu6:=M6.out.row.lt
   have hcr6:=fun i=>Rr6.out.cell i
   have hfr6:=fun i=>Rr6.out.frozen i
   have hlr6:=Rr6.out.lt
   have hct6:=fun i=>Rt6.out.cell i
   have hlt6:=Rt6.out.lt
   go_wp2_with fail
   clear hcu6 hlu6 hcr6 hlr6 hct6 hlt6
   obtain⟨w7,e7,RN7,hz7,K7⟩:=stored5 Rr6.out (.int .i64 15) (.int .i64 0) (.string t.text) (.string ⟨#[]⟩) (.slice none 0 0)
   have Rt7:=LH (K7.out.row Rt6.out (by omega))
   have M7:=LH (M6.out.chg K7.out (by omega) (by omega))
   clear Rt6 M6
   clear Rr6
   rw [<- e7]
   clear e7
   have hcu7:=fun i=>M7.out.row.cell i
   have hlu7:=M7.out.row.lt
   have hct7:=fun i=>Rt7.out.cell i
   have hlt7:=Rt7.out.lt
   have hcr7:=fun i=>RN7.out.cell i
   have hlr7:=RN7.out.lt
   refine bodyPost_ret (v:=.agg #[.int .i64 15,.int .i64 0,.string t.text,.string ⟨#[]⟩,.slice none 0 0]) (by simp [results,Tryz.results105,go_sem,hcr7]) rfl ?_
   exact⟨none,0,rfl,GNode.leaf (by decide) (by decide) HAT.out.2.1 empty_le,M7.out⟩
  go_wp2_with fail
  obtain⟨s1,hs1⟩:∃ s1,pTake ts [40] st=s1:=⟨_,rfl⟩
  refine(l3Take ts g L cl V cv st w5 (M5.out.cur HC.out) ⟨#[40]⟩).mono ?_
  clear hcu5 hlu5 hcr5 hlr5 hct5 hlt5
  rintro e w6 ⟨rfl,hm6⟩
  replace hm6:Mv ts g L cl V cv st.vars (pTake ts [40] st) w5 w6:=hm6
  have hz6:=hm6.size
  have K6:=LH hm6.bx
  have Rr6:=LH (K6.out.row Rr5.out (by omega))
  have Rt6:=LH (K6.out.row Rt5.out (by omega))
  have M6:=LH (M5.out.trans hm6)
  clear Rr5 Rt5 M5
  clear hm6
  have hcu6:=fun i=>M6.out.row.cell i
  have hlu6:=M6.out.row.lt
  have hcr6:=fun i=>Rr6.out.cell i
  have hfr6:=fun i=>Rr6.out.frozen i
  have hlr6:=Rr6.out.lt
  have hct6:=fun i=>Rt6.out.cell i
  have hlt6:=Rt6.out.lt
  rw [hs1] at M6
  clear hcu6 hlu6 hcr6 hlr6 hct6 hlt6
  have hcu6:=fun i=>M6.out.row.cell i
  have hlu6:=M6.out.row.lt
  have hcr6:=fun i=>Rr6.out.cell i
  have hfr6:=fun i=>Rr6.out.frozen i
  have hlr6:=Rr6.out.lt
  have hct6:=fun i=>Rt6.out.cell i
  have hlt6:=Rt6.out.lt
  have HS1:=LH hs1
  by_cases hb1:0<=s1.bad
  ·
   simp [pAtom, *,HT.out] at hp
   obtain⟨rfl,rfl⟩:=hp
   have d1:decide (0<=s1.bad)=true:=decide_eq_true hb1
   go_wp2_with fail
   clear hcu6 hlu6 hcr6 hlr6 hct6 hlt6
   obtain⟨w7,e7,RN7,hz7,K7⟩:=stored5 Rr6.out (.int .i64 0) (.int .i64 0) (.string ⟨#[]⟩) (.string ⟨#[]⟩) (.slice none 0 0)
   have Rt7:=LH (K7.out.row Rt6.out (by omega))
   have M7:=LH (M6.out.chg K7.out (by omega) (by omega))
   clear Rt6 M6
   clear Rr6
   rw [<- e7]
   clear e7
   have hcu7:=fun i=>M7.out.row.cell i
   have hlu7:=M7.out.row.lt
   have hct7:=fun i=>Rt7.out.cell i
   have hlt7:=Rt7.out.lt
   have hcr7:=fun i=>RN7.out.cell i
   have hlr7:=RN7.out.lt
   refine bodyPost_ret (v:=.agg #[.int .i64 0,.int .i64 0,.string ⟨#[]⟩,.string ⟨#[]⟩,.slice none 0 0]) (by simp [results,Tryz.results105,go_sem,hcr7]) rfl ?_
   exact⟨none,0,rfl,GNode.leaf (by decide) (by decide) empty_le empty_le,M7.out⟩
  ·
   simp [pAtom, *,HT.out] at hp
   obtain⟨n1,s2,hq,rfl,rfl⟩:=hp
   have d1:decide (0<=s1.bad)=false:=decide_eq_false hb1
   clear hb1 hs1
   go_wp2_with fail
   refine(HE.out ts g L cl V cv s1 w6 (M6.out.cur HC.out) n1 s2 hq).mono ?_
   clear hcu6 hlu6 hcr6 hlr6 hct6 hlt6
   rintro e w7 ⟨Ax,cx,rfl,ha7,hm7⟩
   have hz7:=hm7.size
   have K7:=LH hm7.bx
   have DN7:=LH ha7
   have Rr7:=LH (K7.out.row Rr6.out (by omega))
   have Rt7:=LH (K7.out.row Rt6.out (by omega))
   have M7:=LH (M6.out.trans hm7)
   clear Rr6 Rt6 M6
   clear hm7 ha7
   have hcu7:=fun i=>M7.out.row.cell i
   have hlu7:=M7.out.row.lt
   have hcr7:=fun i=>Rr7.out.cell i
   have hlr7:=Rr7.out.lt
   have hct7:=fun i=>Rt7.out.cell i
   have hlt7:=Rt7.out.lt
   go_wp2_with fail
   clear hcu7 hlu7 hcr7 hlr7 hct7 hlt7
   obtain⟨w8,e8,Rx8,hz8,K8⟩:=boxed w7 45 #[.int .i64 n1.op,.int .i64 n1.n,.string n1.s,.string n1.t,.slice Ax n1.kids.length cx]
   have Rr8:=LH (K8.out.row Rr7.out (by omega))
   have Rt8:=LH (K8.out.row Rt7.out (by omega))
   have Dx8:=LH (DN7.out.keep fun b hb=>K8.out.kq hb (by have h1:=hb.1;have h2:=hb.2;omega))
   have M8:=LH (M7.out.chg K8.out (by omega) (by omega))
   clear Rr7 Rt7 DN7 M7
   rw [<- e8]
   clear e8
   have hcu8:=fun i=>M8.out.row.cell i
   have hlu8:=M8.out.row.lt
   have hcr8:=fun i=>Rr8.out.cell i
   have hlr8:=Rr8.out.lt
   have hct8:=fun i=>Rt8.out.cell i
   have hlt8:=Rt8.out.lt
   have hcx8:=fun i=>Rx8.out.cell i
   have hlx8:=Rx8.out.lt
   refine(l3Take ts g L cl V cv s2 w8 (M8.out.cur HC.out) ⟨#[41]⟩).mono ?_
   clear hcu8 hlu8 hcr8 hlr8 hct8 hlt8 hcx8 hlx8
   rintro e w9 ⟨rfl,hm9⟩
   replace hm9:Mv ts g L cl V cv s2.vars (pTake ts [41] s2) w8 w9:=hm9
   have hz9:=hm9.size
   have K9:=LH hm9.bx
   have Rr9:=LH (K9.out.row Rr8.out (by omega))
   have Rt9:=LH (K9.out.row Rt8.out (by omega))
   have Rx9:=LH (K9.out.row Rx8.out (by omega))
   have Dx9:=LH (Dx8.out.keep fun b hb=>K9.out.kq hb (by have h1:=hb.1;have h2:=hb.2;omega))
   have M9:=LH (M8.out.trans hm9)
   clear Rr8 Rt8 Rx8 Dx8 M8
   clear hm9
   have hcu9:=fun i=>M9.out.row.cell i
   have hlu9:=M9.out.row.lt
   have hcr9:=fun i=>Rr9.out.cell i
   have hfr9:=fun i=>Rr9.out.frozen i
   have hlr9:=Rr9.out.lt
   have hct9:=fun i=>Rt9.out.cell i
   have hlt9:=Rt9.out.lt
   have hcx9:=fun i=>Rx9.out.cell i
   have hlx9:=Rx9.out.lt
   go_wp2_with fail
   clear hcu9 hlu9 hcr9 hfr9 hlr9 hct9 hlt9 hcx9 hlx9
   obtain⟨w10,e10,RN10,hz10,K10⟩:=stored5 Rr9.out (.int .i64 n1.op) (.int .i64 n1.n) (.string n1.s) (.string n1.t) (.slice Ax n1.kids.length cx)
   have Rt10:=LH (K10.out.row Rt9.out (by omega))
   have Rx10:=LH (K10.out.row Rx9.out (by omega))
   have Dx10:=LH (Dx9.out.keep fun b hb=>K10.out.kq hb (by have h1:=hb.1;have h2:=hb.2;omega))
   have M10:=LH (M9.out.chg K10.out (by omega) (by omega))
   clear Rt9 Rx9 Dx9 M9
   clear Rr9
   rw [<- e10]
   clear e10
   have hcu10:=fun i=>M10.out.row.cell i
   have hlu10:=M10.out.row.lt
   have hct10:=fun i=>Rt10.out.cell i
   have hlt10:=Rt10.out.lt
   have hcx10:=fun i=>Rx10.out.cell i
   have hlx10:=Rx10.out.lt
   have hcr10:=fun i=>RN10.out.cell i
   have hlr10:=RN10.out.lt
   refine bodyPost_ret (v:=.agg #[.int .i64 n1.op,.int .i64 n1.n,.string n1.s,.string n1.t,.slice Ax n1.kids.length cx]) (by simp [results,Tryz.results105,go_sem,hcr10]) rfl ?_
   exact⟨Ax,cx,rfl,Dx10.out.keep fun b hb=>⟨⟨by have:=hb.1;omega,by have:=hb.2;omega⟩,rfl⟩,M10.out⟩
theorem ndOf {X:Nat->Prop} {w:World} {B:Nat} {T:TypeId} {A:Option Addr} {c:Nat} {op:Int} {ks:List GNode} (h:Grx X w B T 5 (.slice A ks.length c) ks.length (ks.map GNode.toD)) (hX:∀ b,B<=b->X b) (ho:(Lit.int .i64 op).wf=true):GNode.At w (fun b=>b<w.heap.size/\X b) A c (nd op ks):=by
 obtain⟨A',c',e,hs⟩:=h.sl hX
 obtain⟨rfl,rfl⟩:A=A'/\c=c':=by simpa using e
 exact⟨ho,(show(Lit.int .i64 0).wf=true by decide),empty_le,empty_le,hs⟩
theorem l3Product (k:Nat) (hA:∀ j,j<=k->Ok1 104 pApply j):Ok1 102 pProduct (k+1):=by
 intro ts g L cl V cv st w h n st' hp
 simp [pProduct,Option.bind_eq_some_iff] at hp
 obtain⟨n0,s0,hp0,hp1⟩:=hp
 have HA:=LH hA
 have HL:=LH hp1
 clear hA hp1
 have HC:=LH h
 have M0:=LH h.mv
 have hgl:=h.row.lt
 clear h
 go_enter Tryz.func102,Tryz.ntmps102
 go_wp2_with fail
 obtain⟨w1,e1,Rr1,hz1,K1⟩:=boxed w 45 #[.int .i64 0,.int .i64 0,.string ⟨#[]⟩,.string ⟨#[]⟩,.slice none 0 0]
 have M1:=LH (M0.out.chg K1.out (by omega) (by omega))
 rw [<- e1]
 clear e1
 have hlu1:=M1.out.row.lt
 have hcr1:=fun i=>Rr1.out.cell i
 have hlr1:=Rr1.out.lt
 refine(HA.out k (Nat.le_refl _) ts g L cl V cv st w1 (M1.out.cur HC.out) n0 s0 hp0).mono ?_
 clear hlu1 hcr1 hlr1
 rintro e w2 ⟨A0,c0,rfl,ha2,hm2⟩
 have hz2:=hm2.size
 have K2:=LH hm2.bx
 have DN2:=LH ha2
 have Rr2:=LH (K2.out.row Rr1.out (by omega))
 have M2:=LH (M1.out.trans hm2)
 clear Rr1 M1
 clear hm2 ha2
 have hlu2:=M2.out.row.lt
 have hcr2:=fun i=>Rr2.out.cell i
 have hlr2:=Rr2.out.lt
 clear hp0
 go_wp2_with fail
 clear hlu2 hcr2 hlr2
 obtain⟨w3,e3,Ra3,hz3,K3⟩:=boxed w2 45 #[.int .i64 n0.op,.int .i64 n0.n,.string n0.s,.string n0.t,.slice A0 n0.kids.length c0]
 have Rr3:=LH (K3.out.row Rr2.out (by omega))
 have D03:=LH (DN2.out.keep fun b hb=>K3.out.kq hb (by have h1:=hb.1;have h2:=hb.2;omega))
 have M3:=LH (M2.out.chg K3.out (by omega) (by omega))
 clear Rr2 DN2 M2
 rw [<- e3]
 clear e3
 have hlu3:=M3.out.row.lt
 have hcr3:=fun i=>Rr3.out.cell i
 have hlr3:=Rr3.out.lt
 have hca3:=fun i=>Ra3.out.cell i
 have hla3:=Ra3.out.lt
 clear hlu3 hcr3 hlr3 hca3 hla3
 have hINV:∃ I:Nat->World->Prop,I=fun j wr=>∃ (x:GNode) (s:PSt) (A:Option Addr) (c:Nat),pMuls ts j s x=some (n,st')/\j<=k/\Row wr w2.heap.size 45 #[.int .i64 x.op,.int .i64 x.n,.string x.s,.string x.t,.slice A x.kids.length c]/\Row wr w.heap.size 45 #[.int .i64 0,.int .i64 0,.string ⟨#[]⟩,.string ⟨#[]⟩,.slice none 0 0]/\GNode.At wr (fun b=>b<wr.heap.size/\w.heap.size<=b/\b≠w2.heap.size/\b≠w.heap.size) A c x/\Mv ts g L cl V cv st.vars s w wr/\w2.heap.size<wr.heap.size:=⟨_,rfl⟩
 obtain⟨I,hI⟩:=hINV
 have HI:=LH hI
 have I0:I k w3:=by
  rw [hI]
  exact⟨n0,s0,A0,c0,HL.out,Nat.le_refl _,Ra3.out,Rr3.out,D03.out.keep fun b hb=>⟨⟨by have h1:=hb.1;have h2:=hb.2;omega,by have h1:=hb.1;have h2:=hb.2;omega⟩,rfl⟩,M3.out,Ra3.out.lt⟩
 have hnw:w.heap.size<w2.heap.size:=by omega
 have hzw:w.heap.size<=w3.heap.size:=M3.out.size
 go_loopw [4] (fun v wr=>∃ j,I j wr) (fun _ wr=>leastK (fun j=>I j wr))
 case atStart=>exact⟨k,I0⟩
 case round=>
  have hex:=hrel
  have hleast:=leastK_spec (I:=fun j=>I j wr) hex
  obtain⟨j,hj⟩:∃ j,leastK (fun j=>I j wr)=j:=⟨_,rfl⟩
  rw [hj] at hleast
  have HJ:=LH hj
  clear hj hex hrel I0
  rw [hI] at hleast
  obtain⟨x,s,A,c,hx,hjk,ra,rr,da,hm,hnl⟩:=hleast
  clear Ra3 Rr3 D03 M3 hI
  have RA0:=LH ra
  have RR0:=LH rr
  have DA0:=LH da
  have MR0:=LH hm
  have hzr:=hm.size
  clear ra rr da hm
  have hlu3:=MR0.out.row.lt
  have hcr3:=fun i=>RR0.out.cell i
  have hlr3:=RR0.out.lt
  have hca3:=fun i=>RA0.out.cell i
  have hla3:=RA0.out.lt
  cases j with
  | zero=>simp [pMuls] at hx
  | succ j=>
   go_wp2_with fail
   refine(l3Sign ts g L cl V cv s wr (MR0.out.cur HC.out) ⟨#[42]⟩).mono ?_
   clear hlu3 hcr3 hlr3 hca3 hla3
   rintro e w4 ⟨rfl,hb4⟩
   have hz4:=hb4.size
   have K4:=LH (Bx.of_below (g:=g) hb4 (Nat.le_refl _))
   have Rr4:=LH (K4.out.row RR0.out (by omega))
   have Ra4:=LH (K4.out.row RA0.out (by omega))
   have Da4:=LH (DA0.out.keep fun b hb=>K4.out.kq hb (by have h1:=hb.1;have h2:=hb.2;omega))
   have M4:=LH (MR0.out.below hb4)
   clear RR0 RA0 DA0 MR0
   clear hb4
   have hlu4:=M4.out.row.lt
   have hcr4:=fun i=>Rr4.out.cell i
   have hfr4:=fun i=>Rr4.out.frozen i
   have hlr4:=Rr4.out.lt
   have hca4:=fun i=>Ra4.out.cell i
   have hla4:=Ra4.out.lt
   cases hs:pSign ts [42] s
   ·
    simp [pMuls,hs,Option.bind_eq_some_iff] at hx
    obtain⟨rfl,rfl⟩:=hx
    go_wp2_with fail
    clear hlu4 hcr4 hfr4 hlr4 hca4 hla4
    obtain⟨w5,e5,RN5,hz5,K5⟩:=stored5 Rr4.out (.int .i64 x.op) (.int .i64 x.n) (.string x.s) (.string x.t) (.slice A x.kids.length c)
    have Ra5:=LH (K5.out.row Ra4.out (by omega))
    have Da5:=LH (Da4.out.keep fun b hb=>K5.out.kq hb (by have h1:=hb.1;have h2:=hb.2;omega))
    have M5:=LH (M4.out.chg K5.out (by omega) (by omega))
    clear Ra4 Da4 M4
    clear Rr4
    rw [<- e5]
    clear e5
    have hlu5:=M5.out.row.lt
    have hca5:=fun i=>Ra5.out.cell i
    have hla5:=Ra5.out.lt
    have hcr5:=fun i=>RN5.out.cell i
    have hlr5:=RN5.out.lt
    refine bodyPost_ret (v:=.agg #[.int .i64 x.op,.int .i64 x.n,.string x.s,.string x.t,.slice A x.kids.length c]) (by simp [results,Tryz.results102,go_sem,hcr5]) rfl ?_
    exact⟨A,c,rfl,Da5.out.keep fun b hb=>⟨⟨by have h1:=hb.1;have h2:=hb.2;omega,by have h1:=hb.1;have h2:=hb.2;omega⟩,rfl⟩,M5.out⟩
   ·
    simp [pMuls,hs,Option.bind_eq_some_iff] at hx
    obtain⟨n1,s1,hq,hr⟩:=hx
    have HR:=LH hr
    clear hr
    go_wp2_with fail
    refine(l3Next ts g L cl V cv s w4 (M4.out.cur HC.out)).mono ?_
    clear hlu4 hcr4 hfr4 hlr4 hca4 hla4
    rintro e w5 ⟨rfl,hm5⟩
    replace hm5:Mv ts g L cl V cv s.vars (pNext ts s) w4 w5:=hm5
    have hz5:=hm5.size
    have K5:=LH hm5.bx
    have Rr5:=LH (K5.out.row Rr4.out (by omega))
    have Ra5:=LH (K5.out.row Ra4.out (by omega))
    have Da5:=LH (Da4.out.keep fun b hb=>K5.out.kq hb (by have h1:=hb.1;have h2:=hb.2;omega))
    have M5:=LH (M4.out.trans hm5)
    clear Rr4 Ra4 Da4 M4
    clear hm5
    have hlu5:=M5.out.row.lt
    have hcr5:=fun i=>Rr5.out.cell i
    have hlr5:=Rr5.out.lt
    have hca5:=fun i=>Ra5.out.cell i
    have hla5:=Ra5.out.lt
    go_wp2_with fail
    refine(HA.out j (by omega) ts g L cl V cv (pNext ts s) w5 (M5.out.cur HC.out) n1 s1 hq).mono ?_
    clear hlu5 hcr5 hlr5 hca5 hla5
    rintro e w6 ⟨A1,c1,rfl,ha6,hm6⟩
    have hz6:=hm6.size
    have K6:=LH hm6.bx
    have DN6:=LH ha6
    have Rr6:=LH (K6.out.row Rr5.out (by omega))
    have Ra6:=LH (K6.out.row Ra5.out (by omega))
    have Da6:=LH (Da5.out.keep fun b hb=>K6.out.kq hb (by have h1:=hb.1;have h2:=hb.2;omega))
    have M6:=LH (M5.out.trans hm6)
    clear Rr5 Ra5 Da5 M5
    clear hm6 ha6
    have hlu6:=M6.out.row.lt
    have hcr6:=fun i=>Rr6.out.cell i
    have hlr6:=Rr6.out.lt
    have hca6:=fun i=>Ra6.out.cell i
    have hla6:=Ra6.out.lt
    clear hq
    go_wp2_with fail
    clear hlu6 hcr6 hlr6 hca6 hla6
    obtain⟨w7,e7,Rb7,hz7,K7⟩:=boxed w6 45 #[.int .i64 n1.op,.int .i64 n1.n,.string n1.s,.string n1.t,.slice A1 n1.kids.length c1]
    have Rr7:=LH (K7.out.row Rr6.out (by omega))
    have Ra7:=LH (K7.out.row Ra6.out (by omega))
    have Da7:=LH (Da6.out.keep fun b hb=>K7.out.kq hb (by have h1:=hb.1;have h2:=hb.2;omega))
    have D17:=LH (DN6.out.keep fun b hb=>K7.out.kq hb (by have h1:=hb.1;have h2:=hb.2;omega))
    have M7:=LH (M6.out.chg K7.out (by omega) (by omega))
    clear Rr6 Ra6 Da6 DN6 M6
    obtain⟨w8,e8,Rrow8,hz8,K8⟩:=boxed w7 45 #[.int .i64 x.op,.int .i64 x.n,.string x.s,.string x.t,.slice A x.kids.length c,.int .i64 n1.op,.int .i64 n1.n,.string n1.s,.string n1.t,.slice A1 n1.kids.length c1]
    have hy8:w7.heap.size=(w6.heap.size+1):=by omega
    rw [hy8] at Rrow8 K8
    have Rr8:=LH (K8.out.row Rr7.out (by omega))
    have Ra8:=LH (K8.out.row Ra7.out (by omega))
    have Rb8:=LH (K8.out.row Rb7.out (by omega))
    have Da8:=LH (Da7.out.keep fun b hb=>K8.out.kq hb (by have h1:=hb.1;have h2:=hb.2;omega))
    have D18:=LH (D17.out.keep fun b hb=>K8.out.kq hb (by have h1:=hb.1;have h2:=hb.2;omega))
    have M8:=LH (M7.out.chg K8.out (by omega) (by omega))
    clear Rr7 Ra7 Rb7 Da7 D17 M7
    have SL8:=LH (show Sl w8 (fun b=>b<w8.heap.size/\w.heap.size<=b/\b≠w2.heap.size/\b≠w.heap.size) 5 (some ⟨(w6.heap.size+1),0,none⟩) 2 ([x,n1].map GNode.toD) from Sl.ofRow Rrow8.out (rdC_cons (GNode.rd_mk (Da8.out.keep (w':=w8) (S':=fun b=>b<w8.heap.size/\w.heap.size<=b/\b≠w2.heap.size/\b≠w.heap.size) fun b hb=>⟨⟨by have h1:=hb.1;have h2:=hb.2;omega,by have h1:=hb.1;have h2:=hb.2;omega⟩,rfl⟩)) rfl (rdC_one1 (GNode.rd_mk (D18.out.keep (w':=w8) (S':=fun b=>b<w8.heap.size/\w.heap.size<=b/\b≠w2.heap.size/\b≠w.heap.size) fun b hb=>⟨⟨by have h1:=hb.1;have h2:=hb.2;omega,by have h1:=hb.1;have h2:=hb.2;omega⟩,rfl⟩)) rfl)) ⟨by omega,by omega⟩ (by simp) (by unfold maxLen;omega))
    rw [<- e7,<- e8]
    clear e7 e8
    have hlu8:=M8.out.row.lt
    have hcr8:=fun i=>Rr8.out.cell i
    have hlr8:=Rr8.out.lt
    have hca8:=fun i=>Ra8.out.cell i
    have hla8:=Ra8.out.lt
    have hcb8:=fun i=>Rb8.out.cell i
    have hlb8:=Rb8.out.lt
    have hcrow8:=fun i=>Rrow8.out.cell i
    have hlrow8:=Rrow8.out.lt
    refine(l3Node (fun b=>w.heap.size<=b/\b≠w2.heap.size/\b≠w.heap.size) (12) [x,n1] (some ⟨(w6.heap.size+1),0,none⟩) 2 w8 SL8.out (by simp)).mono ?_
    clear hlu8 hcr8 hlr8 hca8 hla8 hcb8 hlb8 hcrow8 hlrow8
    rintro e w9 ⟨A2,c2,rfl,hG9,hb9⟩
    have hz9:=hb9.size
    have K9:=LH (Bx.of_below (g:=g) hb9 (Nat.le_refl _))
    have GN9:=LH hG9
    have Rr9:=LH (K9.out.row Rr8.out (by omega))
    have Ra9:=LH (K9.out.row Ra8.out (by omega))
    have Rb9:=LH (K9.out.row Rb8.out (by omega))
    have Rrow9:=LH (K9.out.row Rrow8.out (by omega))
    have Da9:=LH (Da8.out.keep fun b hb=>K9.out.kq hb (by have h1:=hb.1;have h2:=hb.2;omega))
    have D19:=LH (D18.out.keep fun b hb=>K9.out.kq hb (by have h1:=hb.1;have h2:=hb.2;omega))
    have M9:=LH (M8.out.below hb9)
    clear Rr8 Ra8 Rb8 Rrow8 Da8 D18 M8
    clear hb9 hG9
    have hlu9:=M9.out.row.lt
    have hcr9:=fun i=>Rr9.out.cell i
    have hlr9:=Rr9.out.lt
    have hca9:=fun i=>Ra9.out.cell i
    have hfa9:=fun i=>Ra9.out.frozen i
    have hla9:=Ra9.out.lt
    have hcb9:=fun i=>Rb9.out.cell i
    have hlb9:=Rb9.out.lt
    have hcrow9:=fun i=>Rrow9.out.cell i
    have hlrow9:=Rrow9.out.lt
    have DD:=LH (ndOf (op:=12) GN9.out (fun b h=>by omega) (by decide))
    go_wp2_with fail
    clear hlu9 hcr9 hlr9 hca9 hfa9 hla9 hcb9 hlb9 hcrow9 hlrow9
    obtain⟨w10,e10,RN10,hz10,K10⟩:=stored5 Ra9.out (.int .i64 12) (.int .i64 0) (.string ⟨#[]⟩) (.string ⟨#[]⟩) (.slice A2 2 c2)
    have Rr10:=LH (K10.out.row Rr9.out (by omega))
    have Rb10:=LH (K10.out.row Rb9.out (by omega))
    have D210:=LH (DD.out.keep fun b hb=>K10.out.kq hb (by have h1:=hb.1;have h2:=hb.2;omega))
    have M10:=LH (M9.out.chg K10.out (by omega) (by omega))
    clear Rr9 Rb9 DD M9
    clear Ra9
    rw [<- e10]
    clear e10
    have hlu10:=M10.out.row.lt
    have hcr10:=fun i=>Rr10.out.cell i
    have hlr10:=Rr10.out.lt
    have hcb10:=fun i=>Rb10.out.cell i
    have hlb10:=Rb10.out.lt
    have hca10:=fun i=>RN10.out.cell i
    have hla10:=RN10.out.lt
    have HN:I j w10:=by
     rw [HI.out]
     exact⟨nd (12) [x,n1],s1,A2,c2,HR.out,by omega,RN10.out,Rr10.out,D210.out.keep fun b hb=>⟨⟨by have h1:=hb.1;have h2:=hb.2;omega,hb.2⟩,rfl⟩,M10.out,RN10.out.lt⟩
    go_roundw
    case rel=>exact⟨j,HN⟩
    case measure=>rw [HJ.out];exact Nat.lt_succ_of_le (leastK_le (I:=fun j=>I j w10) HN)
end Go.Proofs.YtgbjdhfaklmjcaaGreat
