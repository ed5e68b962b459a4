/- Texts of the claim LTreesRight in one: App AppS Grow AppM Grx PaK PaE. Conditions: none but bounds on sizes. -/
import Derived.Test.YtamfolaicncblaaGreatZLTreesRight0
import Derived.Deep.AppendLies
import Derived.Maps.Range
import Derived.Maps.AppendAt
import Derived.Deep.AppendSrc
import Derived.Test.YtamfolaicncblaaGreatZLTreesRight3
import Derived.Test.YtamfolaicncblaaGreatZLTreesRight2
namespace Go.Proofs.YtamfolaicncblaaGreat
set_option maxRecDepth 20000
set_option linter.unusedVariables false
set_option linter.unusedSimpArgs false
open Go.RowKit
def ownC (w:World) (size:Nat):List D->(Nat->Prop)->List Value->Prop
 | [],_,cs=>cs= []
 | d::r,S,cs=>∃ (S1 S2:Nat->Prop) (c1 c2:List Value),(∀ x,S1 x->S x/\¬ S2 x)/\(∀ x,S2 x->S x)/\cs=c1++c2/\c1.length=size/\d.own w S1 c1/\ownC w size r S2 c2
theorem ownC_keep {w w':World} {size:Nat}:∀ (xs:List D) (S S':Nat->Prop) (cs:List Value),(∀ b,S b->S' b/\w'.heap[b]? =w.heap[b]?)->ownC w size xs S cs->ownC w' size xs S' cs
 | [],_,_,_,_,h=>h
 | d::r,S,S',cs,hk,h=>by
  simp only [ownC] at h ⊢
  obtain⟨S1,S2,c1,c2,g1,g2,e,hl,h1,h2⟩:=h
  exact⟨S1,S2,c1,c2,fun x hx=>⟨(hk x (g1 x hx).1).1,(g1 x hx).2⟩,fun x hx=>(hk x (g2 x hx)).1,e,hl,D.own_keep d S1 S1 c1 (fun b hb=>⟨hb,(hk b (g1 b hb).1).2⟩) h1,ownC_keep r S2 S2 c2 (fun b hb=>⟨hb,(hk b (g2 b hb)).2⟩) h2⟩
theorem ownC_snoc {w:World} {size:Nat} {d:D} {c:List Value} {T S:Nat->Prop} (hd:d.own w T c) (hc:c.length=size) (hT:∀ x,T x->S x):
 ∀ (xs:List D) (U:Nat->Prop) (cs:List Value),(∀ x,U x->S x/\¬ T x)->ownC w size xs U cs->ownC w size (xs++[d]) (fun x=>U x\/T x) (cs++c)
 | [],U,cs,_,h=>by
  simp only [ownC] at h
  subst h
  simp only [List.nil_append,ownC]
  exact⟨T,fun _=>False,c,[],fun x hx=>⟨.inr hx,fun h=>h⟩,fun x hx=>hx.elim,by simp,hc,hd,rfl⟩
 | e::r,U,cs,hU,h=>by
  simp only [ownC,List.cons_append] at h ⊢
  obtain⟨S1,S2,c1,c2,g1,g2,rfl,hl,h1,h2⟩:=h
  refine⟨S1,fun x=>S2 x\/T x,c1,c2++c,fun x hx=>⟨.inl (g1 x hx).1,fun h=>?_⟩,fun x hx=>hx.elim (fun h=>.inl (g2 x h)) .inr,by simp,hl,h1,ownC_snoc hd hc hT r S2 c2 (fun x hx=>hU x (g2 x hx)) h2⟩
  rcases h with h | h
  · exact(g1 x hx).2 h
  · exact(hU x (g1 x hx).1).2 h
theorem ownC_row {w:World} {size b:Nat}:∀ (xs:List D) (S:Nat->Prop) (cs:List Value) (off:Nat),(∀ j v,cs[j]? =some v->w.cell? ⟨b,off+j,none⟩=some v)->ownC w size xs S cs->D.ownR w size b xs S off
 | [],_,_,_,_,_=>by simp only [D.ownR]
 | d::r,S,cs,off,hc,h=>by
  simp only [ownC,D.ownR] at h ⊢
  obtain⟨S1,S2,c1,c2,g1,g2,rfl,hl,h1,h2⟩:=h
  refine⟨S1,S2,c1,g1,g2,hl,fun j v hj=>hc j v ?_,h1,ownC_row r S2 c2 (off+size) (fun j v hj=>?_) h2⟩
  · have:j<c1.length:=(List.getElem?_eq_some_iff.1 hj).1
    rw [List.getElem?_append_left this];exact hj
  · have:=hc (size+j) v (by rw [List.getElem?_append_right (by omega),hl];simpa using hj)
    rwa [<- Nat.add_assoc] at this
def Gow (w:World) (B m:Nat) (e:TypeId) (size:Nat) (v:Value) (n:Nat) (xs:List D):Prop:=
 xs.length=n/\∃ cs,w.ownsRow B e size v n cs/\(∀ g,v.ownBlock=some g->g<m)/\ownC w size xs (fun b=>B<=b/\b<m/\v.ownBlock≠some b) cs
theorem Gow.nil (w:World) (B m:Nat) (e:TypeId) (size:Nat):Gow w B m e size (.slice none 0 0) 0 []:=
 ⟨rfl,[],World.ownsRow_nil w B e size,fun g h=>by simp [Value.ownBlock] at h,rfl⟩
theorem Gow.keep {w w':World} {B m m':Nat} {e:TypeId} {size:Nat} {v:Value} {n:Nat} {xs:List D} (h:Gow w B m e size v n xs) (hm:m<=m') (hk:∀ b,B<=b->b<m->w'.heap[b]? =w.heap[b]?):Gow w' B m' e size v n xs:=by
 obtain⟨h1,cs,h2,h3,h4⟩:=h
 refine⟨h1,cs,?_,fun g hg=>Nat.lt_of_lt_of_le (h3 g hg) hm,ownC_keep xs _ _ cs (fun b hb=>⟨⟨hb.1,Nat.lt_of_lt_of_le hb.2.1 hm,hb.2.2⟩,hk b hb.1 hb.2.1⟩) h4⟩
 refine⟨h2.1,?_⟩
 rcases h2.2 with h | ⟨g,cap,cur,rfl,a1,a2,a3⟩
 · exact .inl h
 · exact .inr ⟨g,cap,cur,rfl,a1,(hk g a1 (h3 g rfl)).trans a2,a3⟩
theorem Gow.below {w w':World} {B m m':Nat} {e:TypeId} {size:Nat} {v:Value} {n:Nat} {xs:List D} (h:Gow w B m e size v n xs) (hb:Below m w w') (hm:m<=m'):Gow w' B m' e size v n xs:=
 h.keep hm fun b _ hb'=>hb.block b hb'
theorem Gow.made {w:World} {B m g:Nat} {e:TypeId} {size:Nat} (hr:Row w g e #[]) (hB:B<=g) (hm:g<m):Gow w B m e size (.slice (some ⟨g,0,none⟩) 0 0) 0 []:=
 ⟨rfl,[],⟨by simp,.inr ⟨g,0,#[],rfl,hB,hr,Nat.le_refl _,by unfold maxLen;omega,by simp,by simp⟩⟩,fun g' h=>by simp [Value.ownBlock] at h;omega,rfl⟩
theorem Gow.osl {w:World} {B m:Nat} {e:TypeId} {size:Nat} {v:Value} {n:Nat} {xs:List D} (h:Gow w B m e size v n xs):∃ A c,v= .slice A n c/\Osl w (Btw B m) size A c xs:=by
 obtain⟨h1,cs,h2,h3,h4⟩:=h
 rcases h2.2 with ⟨rfl,h⟩ | ⟨g,cap,cur,rfl,a1,a2,a3,a4,a5,a6⟩
 · have:xs= []:=List.eq_nil_of_length_eq_zero (by omega)
   subst this
   exact⟨none,0,by rw [h],Osl.nil (by unfold maxLen;omega)⟩
 ·
  refine⟨_,cap,rfl,by omega,a4,.inr ⟨g,rfl,⟨a1,h3 g rfl⟩,fun o=>Row.frozen (t:=e) (cs:=cur) a2 o,?_⟩⟩
  refine ownC_row xs _ cs 0 (fun j v hj=>?_) (ownC_keep xs _ _ cs (fun b hb=>⟨⟨⟨hb.1,hb.2.1⟩,fun e=>hb.2.2 (by rw [e];rfl)⟩,rfl⟩) h4)
  rw [Nat.zero_add,Row.cell (t:=e) (cs:=cur) a2]
  rw [<- a6,List.getElem?_take] at hj
  split at hj
  · simpa using hj
  · cases hj
theorem Gow.step {w w':World} {B m g cap H:Nat} {e e':TypeId} {size:Nat} {v:Value} {n:Nat} {xs:List D} {d:D} {cs:List Value} {cells:List Value} (hB:B<=m) (hm:m<=w.heap.size)
 (hxs:xs.length=n) (hlt0:∀ g,v.ownBlock=some g->g<m) (hoc:ownC w size xs (fun b=>B<=b/\b<m/\v.ownBlock≠some b) cells) (hd:d.own w (Btw m w.heap.size) cs) (hcs:cs.length=size)
 (hH:H=w.heap.size+1) (hown:w'.ownsRow B e size (.slice (some ⟨g,0,none⟩) (n+1) cap) (n+1) (cells++cs)) (hgrow:(w.alloc (.cells cs.toArray e')).grownBy w' v.ownBlock) (hat:v.ownBlock=some g\/g=H) (hlt:g<w'.heap.size):
 Gow w' B w'.heap.size e size (.slice (some ⟨g,0,none⟩) (n+1) cap) (n+1) (xs++[d]):=by
 have hsz:(w.alloc (.cells cs.toArray e')).heap.size<=w'.heap.size:=hgrow.size
 have hsz':w.heap.size+1<=w'.heap.size:=by simpa using hsz
 have hne:∀ b,b<w.heap.size->v.ownBlock≠some b->w'.heap[b]? =w.heap[b]?:=fun b hb hb2=>
  (hgrow.block b (by simp;omega) (fun e=>hb2 e.symm)).trans (Below.heap_alloc w _ b hb)
 refine⟨by simp [hxs],cells++cs,hown,fun g' hg'=>by simp [Value.ownBlock] at hg';omega,?_⟩
 have hgm:g<m\/g=H:=by
  rcases hat with h | h
  · exact .inl (hlt0 g h)
  · exact .inr h
 have k1:=ownC_keep (w':=w') xs _ (fun b=>B<=b/\b<m/\v.ownBlock≠some b) cells (fun b hb=>⟨hb,hne b (by omega) hb.2.2⟩) hoc
 have k2:=D.own_keep (w':=w') d _ (Btw m w.heap.size) cs (fun b hb=>⟨hb,hne b hb.2 (fun e=>by have:=hlt0 b e;have:=hb.1;omega)⟩) hd
 have k3:=ownC_snoc (S:=fun b=>B<=b) k2 hcs (fun x hx=>Nat.le_trans hB hx.1) xs _ cells (fun x hx=>⟨hx.1,fun h=>by have:=h.1;omega⟩) k1
 refine ownC_keep _ _ _ _ (fun b hb=>⟨?_,rfl⟩) k3
 rcases hb with ⟨b1,b2,b3⟩ | ⟨b1,b2⟩
 ·
  refine⟨b1,by omega,fun e=>?_⟩
  simp only [Value.ownBlock,Option.some.injEq] at e
  subst e
  rcases hat with h | h
  · exact b3 h
  · omega
 · refine⟨by omega,by omega,fun e=>?_⟩
   simp only [Value.ownBlock,Option.some.injEq] at e
   omega
theorem Gow.grown {w w':World} {B m:Nat} {e:TypeId} {size:Nat} {v:Value} {n:Nat} {xs:List D} (h:Gow w B m e size v n xs) (hg:w.grownBy w' v.ownBlock) (hm:B<=w.heap.size):Below B w w':=by
 refine⟨hg.os,hg.tape,hg.output,hg.size,fun b hb=>hg.block b (by omega) (fun e=>?_)⟩
 obtain⟨_,cs,h2,_,_⟩:=h
 have:=h2.lt b e.symm
 omega
theorem wpList_append_D {P:Program} (w:World) {ops:Array Oper} {rest:List Oper} {o:Oper} {a:Act} {Q:Exit->Act->World->Prop} (hgd:o.guard=none) (s x:Operand) (t:TypeId) (ho:o.op= .call {callee:=.builtin .append,args:=#[s,x],argTypes:=#[t,t]})
 (e:TypeId) (z:Value) (size bytes:Nat) (ht:P.underlying t=some (.slice e)) (hi:(P.info? e).map (fun i=>(i.zero,i.size,i.bytes))=some (some z,size,bytes)) (hzs:z.cells.size=size) (hsz:0<size)
 (B m:Nat) (v:Value) (n:Nat) (xs:List D) (hg:Gow w B m e size v n xs) (d:D) (cs:List Value) (hd:d.own w (Btw m w.heap.size) cs) (hB:B<=m) (hm:m<=w.heap.size) (hcs:cs.length=size) (h1:∀ u∈cs,u.oneCell'=true)
 (hn:n<1048577) (hby:bytes<=1048576) (e':TypeId) (hs:a.eval s=v) (A:Nat) (hA:A=w.heap.size) (hx:a.eval x= .slice (some ⟨A,0,none⟩) 1 1)
 (h:∀ g cap w',Gow w' B w'.heap.size e size (.slice (some ⟨g,0,none⟩) (n+1) cap) (n+1) (xs++[d])->Below B w w'->w.heap.size<=w'.heap.size->B<=g->g<w'.heap.size->wpList P ops Q rest (a.put o.dst (.slice (some ⟨g,0,none⟩) (n+1) cap)) w'):wpList P ops Q (o::rest) a (w.alloc (.cells cs.toArray e')):=by
 obtain⟨i,i1,i2,i3,i4⟩:=info_parts hi
 obtain⟨hxs,cells,g2,g3,g4⟩:=id hg
 have e1:w.heap.size<(w.alloc (.cells cs.toArray e')).heap.size:=by simp
 have hga:=g2.alloc (.cells cs.toArray e')
 have hnews:∀ j u,cs[j]? =some u->(w.alloc (.cells cs.toArray e')).cell? ((⟨A,0,none⟩:Addr).add j)=some u:=fun j u hu=>by
  subst hA
  exact World.news_of_block (cs:=cs.toArray) (heap_alloc_new w _) j u (by simpa using hu)
 have hbt:(n+1)*bytes<=140737488355328:=Nat.le_trans (Nat.mul_le_mul (show n+1<=1048577 by omega) hby) (by omega)
 exact wpList_append_lies (w.alloc (.cells cs.toArray e')) hgd s x t ho B e i z size bytes ht i1 i2 i3 i4 hzs hsz v n cells hs hga ⟨A,0,none⟩ 1 1 cs hx (by omega) hnews h1 (by omega) (by unfold maxLen;omega) hbt (by simp;omega) _ rfl fun g cap w' h2 h3 h4 h5=>h g cap w' (Gow.step (e':=e') hB hm hxs g3 g4 hd hcs (by simp) h2 h3 h4 h5)
  (((Below.refl _ _).alloc (by omega) _).trans (Gow.grown (hg.below (m:=m) (m':=m) ((Below.refl _ _).alloc hm _) (Nat.le_refl _)) h3 (by omega))) (Nat.le_trans (Nat.le_of_lt e1) h3.size) (h2.lt g rfl).1 h5
theorem step_append_D {P:Program} (w:World) {ops:Array Oper} {o:Oper} {a:Act} {K:Act->World->Prop} {Q:Exit->Act->World->Prop} {E:Prop} (hgd:o.guard=none) (s x:Operand) (t:TypeId) (ho:o.op= .call {callee:=.builtin .append,args:=#[s,x],argTypes:=#[t,t]})
 (e:TypeId) (z:Value) (size bytes:Nat) (ht:P.underlying t=some (.slice e)) (hi:(P.info? e).map (fun i=>(i.zero,i.size,i.bytes))=some (some z,size,bytes)) (hzs:z.cells.size=size) (hsz:0<size)
 (B m:Nat) (v:Value) (n:Nat) (xs:List D) (hg:Gow w B m e size v n xs) (d:D) (cs:List Value) (hd:d.own w (Btw m w.heap.size) cs) (hB:B<=m) (hm:m<=w.heap.size) (hcs:cs.length=size) (h1:∀ u∈cs,u.oneCell'=true)
 (hn:n<1048577) (hby:bytes<=1048576) (e':TypeId) (hs:a.eval s=v) (A:Nat) (hA:A=w.heap.size) (hx:a.eval x= .slice (some ⟨A,0,none⟩) 1 1)
 (h:∀ g cap w',Gow w' B w'.heap.size e size (.slice (some ⟨g,0,none⟩) (n+1) cap) (n+1) (xs++[d])->Below B w w'->w.heap.size<=w'.heap.size->B<=g->g<w'.heap.size->K (a.put o.dst (.slice (some ⟨g,0,none⟩) (n+1) cap)) w'):if Region.wanted o (yielded ops a.tmps)=true then Oper.wp P o a (w.alloc (.cells cs.toArray e')) K Q else E:=by
 obtain⟨i,i1,i2,i3,i4⟩:=info_parts hi
 obtain⟨hxs,cells,g2,g3,g4⟩:=id hg
 have e1:w.heap.size<(w.alloc (.cells cs.toArray e')).heap.size:=by simp
 have hga:=g2.alloc (.cells cs.toArray e')
 have hnews:∀ j u,cs[j]? =some u->(w.alloc (.cells cs.toArray e')).cell? ((⟨A,0,none⟩:Addr).add j)=some u:=fun j u hu=>by
  subst hA
  exact World.news_of_block (cs:=cs.toArray) (heap_alloc_new w _) j u (by simpa using hu)
 have hbt:(n+1)*bytes<=140737488355328:=Nat.le_trans (Nat.mul_le_mul (show n+1<=1048577 by omega) hby) (by omega)
 exact step_append_lies (w.alloc (.cells cs.toArray e')) hgd s x t ho B e i z size bytes ht i1 i2 i3 i4 hzs hsz v n cells hs hga ⟨A,0,none⟩ 1 1 cs hx (by omega) hnews h1 (by omega) (by unfold maxLen;omega) hbt (by simp;omega) _ rfl fun g cap w' h2 h3 h4 h5=>h g cap w' (Gow.step (e':=e') hB hm hxs g3 g4 hd hcs (by simp) h2 h3 h4 h5)
  (((Below.refl _ _).alloc (by omega) _).trans (Gow.grown (hg.below (m:=m) (m':=m) ((Below.refl _ _).alloc hm _) (Nat.le_refl _)) h3 (by omega))) (Nat.le_trans (Nat.le_of_lt e1) h3.size) (h2.lt g rfl).1 h5
def rdC (w:World) (size:Nat) (S:Nat->Prop):List D->List Value->Prop
 | [],cs=>cs= []
 | d::r,cs=>∃ c1 c2,cs=c1++c2/\c1.length=size/\d.rd w S c1/\rdC w size S r c2
theorem rdC_keep {w w':World} {size:Nat} {S S':Nat->Prop} (hk:∀ b,S b->S' b/\w'.heap[b]? =w.heap[b]?):∀ (xs:List D) (cs:List Value),rdC w size S xs cs->rdC w' size S' xs cs
 | [],_,h=>h
 | d::r,cs,h=>by
  simp only [rdC] at h ⊢
  obtain⟨c1,c2,e,hl,h1,h2⟩:=h
  exact⟨c1,c2,e,hl,D.rd_keep hk d c1 h1,rdC_keep hk r c2 h2⟩
theorem rdC_row {w:World} {size b:Nat} {S:Nat->Prop}:∀ (xs:List D) (cs:List Value) (off:Nat),(∀ j v,cs[j]? =some v->w.cell? ⟨b,off+j,none⟩=some v)->rdC w size S xs cs->D.rdR w S size b xs off
 | [],_,_,_,_=>by simp only [D.rdR]
 | d::r,cs,off,hc,h=>by
  simp only [rdC,D.rdR] at h ⊢
  obtain⟨c1,c2,rfl,hl,h1,h2⟩:=h
  refine⟨⟨c1,hl,fun j v hj=>hc j v ?_,h1⟩,rdC_row r c2 (off+size) (fun j v hj=>?_) h2⟩
  · have:j<c1.length:=(List.getElem?_eq_some_iff.1 hj).1
    rw [List.getElem?_append_left this];exact hj
  · have:=hc (size+j) v (by rw [List.getElem?_append_right (by omega),hl];simpa using hj)
    rwa [<- Nat.add_assoc] at this
structure Gr (w w':World) (v v':Value):Prop where
 grow:w.grownBy w' v.ownBlock
 own:v'.ownBlock=v.ownBlock\/∃ g,v'.ownBlock=some g/\w.heap.size<=g
theorem Gr.size {w w':World} {v v':Value} (h:Gr w w' v v'):w.heap.size<=w'.heap.size:=h.grow.size
theorem Gr.trans {a b c:World} {v v1 v2:Value} (h:Gr a b v v1) (k:Gr b c v1 v2):Gr a c v v2:=by
 refine⟨h.grow.andThen k.grow fun j e=>?_,?_⟩
 · rcases h.own with h1 | ⟨g,h1,h2⟩
   · exact .inr (h1.symm.trans e)
   · rw [h1] at e;cases e;exact .inl h2
 · rcases k.own with h1 | ⟨g,h1,h2⟩
   · rw [h1];exact h.own
   · exact .inr ⟨g,h1,Nat.le_trans h.size h2⟩
theorem Gr.of_below {w w':World} {v:Value} (h:Below w.heap.size w w'):Gr w w' v v:=⟨⟨h.os,h.tape,h.output,h.size,fun b hb _=>h.block b hb⟩,.inl rfl⟩
theorem Gr.below {B:Nat} {w w':World} {v v':Value} (h:Gr w w' v v') (hB:B<=w.heap.size) (hv:∀ g,v.ownBlock=some g->B<=g):Below B w w':=
 ⟨h.grow.os,h.grow.tape,h.grow.output,h.size,fun b hb=>h.grow.block b (by omega) fun e=>by have:=hv b e.symm;omega⟩
theorem Gr.row {w w':World} {v v':Value} {b:Nat} {T:TypeId} {cs:Array Value} (h:Gr w w' v v') (hr:Row w b T cs) (hne:v.ownBlock≠some b):Row w' b T cs:=
 (h.grow.block b hr.lt fun e=>hne e.symm).trans hr
theorem Gr.ne {w w':World} {v v':Value} {b:Nat} (h:Gr w w' v v') (hv:v.ownBlock≠some b) (hb:b<w.heap.size):v'.ownBlock≠some b:=by
 rcases h.own with h1 | ⟨g,h1,h2⟩
 · rw [h1];exact hv
 · rw [h1];intro e;cases e;omega
theorem run_append_many {P:Program} (w:World) (base:Nat) (t ty e:TypeId) (i:TypeInfo) (z:Value) (size bytes:Nat) (ht:P.underlying t=some (.slice e)) (hi:P.info? e=some i) (hz:i.zero=some z)
 (hsize:i.size=size) (hby:i.bytes=bytes) (hzs:z.cells.size=size) (hsz:0<size)
 (v:Value) (n:Nat) (xs:List Value) (hown:w.ownsRow base e size v n xs)
 (A:Option Addr) (m c:Nat) (news:List Value) (hA:A=none->m=0) (hl:news.length=m*size) (hnews:∀ a,A=some a->∀ j u,news[j]? =some u->w.cell? (a.add j)=some u) (h1:∀ u∈news,u.oneCell'=true)
 (h63:n+m<=maxLen) (hbytes:(n+m)*bytes<=140737488355328) (hbase:base<=w.heap.size):
 ∃ v' w',(Builtin.append_ #[t,t] ty #[v,.slice A m c]).run P w= .ok v' w'/\w'.ownsRow base e size v' (n+m) (xs++news)/\w.grownBy w' v.ownBlock/\(v'.ownBlock=v.ownBlock\/v'.ownBlock=some w.heap.size):=by
 match A with
 | some a=>
  obtain⟨v',w',a1,a2,a3,_,a4⟩:=run_append_own_at (P:=P) w base t ty e i z size bytes ht hi hz hsize hby hzs hsz v n xs hown a m c news hl (hnews a rfl) h1 h63 hbytes hbase
  exact⟨v',w',a1,a2,a3,a4⟩
 | none=>
  have hm:=hA rfl
  subst hm
  have hn:news= []:=List.eq_nil_of_length_eq_zero (by simpa using hl)
  subst hn
  subst hsize
  subst hby
  refine⟨v,w,?_,by simpa using hown,⟨rfl,rfl,rfl,Nat.le_refl _,fun _ _ _=>rfl⟩,.inl rfl⟩
  rcases hown.2 with ⟨rfl,rfl⟩ | ⟨g,cap,cur,rfl,hbg,hg,hnc,hcm,hcs,htake⟩
  · simp [Builtin.append_,run_underlying ht,sizeOf,typeInfo,hi,Builtin.lenOf,Builtin.firstCells,loadCells,loadCellsFrom]
  · have hr:=run_append_room_src (P:=P) w t t ty e i ht hi g 0 n cap (.slice none 0 c) 0 [] (Src.ofNil w ht c) (by omega) (by simp) (by simp)
    simpa [World.setCells] using hr
mutual
theorem D.rd_one {w:World} {S:Nat->Prop}:∀ (d:D) (cs:List Value),d.rd w S cs->∀ u∈cs,u.oneCell'=true
 | .num k n,cs,h,u,hu=>by obtain⟨rfl,_⟩:=D.rd_num.1 h;simp at hu;subst hu;rfl
 | .str s,cs,h,u,hu=>by obtain⟨rfl,_⟩:=D.rd_str.1 h;simp at hu;subst hu;rfl
 | .bool b,cs,h,u,hu=>by obtain rfl:=D.rd_bool.1 h;simp at hu;subst hu;rfl
 | .agg fs,cs,h,u,hu=>D.rdF_one fs cs (D.rd_agg.1 h) u hu
 | .sl size xs,cs,h,u,hu=>by obtain⟨A,c,rfl,_⟩:=D.rd_sl.1 h;simp at hu;subst hu;rfl
theorem D.rdF_one {w:World} {S:Nat->Prop}:∀ (fs:List D) (cs:List Value),D.rdF w S fs cs->∀ u∈cs,u.oneCell'=true
 | [],cs,h,u,hu=>by obtain rfl:=D.rdF_nil.1 h;simp at hu
 | d::r,cs,h,u,hu=>by
  obtain⟨c1,c2,rfl,h1,h2⟩:=D.rdF_cons.1 h
  rcases List.mem_append.1 hu with hu | hu
  · exact D.rd_one d c1 h1 u hu
  · exact D.rdF_one r c2 h2 u hu
end
theorem rdC_one {w:World} {size:Nat} {S:Nat->Prop}:∀ (xs:List D) (cs:List Value),rdC w size S xs cs->∀ u∈cs,u.oneCell'=true
 | [],cs,h,u,hu=>by simp only [rdC] at h;subst h;simp at hu
 | d::r,cs,h,u,hu=>by
  simp only [rdC] at h
  obtain⟨c1,c2,rfl,hl,h1,h2⟩:=h
  rcases List.mem_append.1 hu with hu | hu
  · exact D.rd_one d c1 h1 u hu
  · exact rdC_one r c2 h2 u hu
theorem rdC_length {w:World} {size:Nat} {S:Nat->Prop}:∀ (xs:List D) (cs:List Value),rdC w size S xs cs->cs.length=xs.length*size
 | [],cs,h=>by simp only [rdC] at h;simp [h]
 | d::r,cs,h=>by
  simp only [rdC] at h
  obtain⟨c1,c2,rfl,hl,_,h2⟩:=h
  have:=rdC_length r c2 h2
  rw [List.length_append,hl,this,List.length_cons,Nat.add_mul];omega
theorem rdC_append {w:World} {size:Nat} {S:Nat->Prop} {ys:List D} {es:List Value} (hy:rdC w size S ys es):∀ (xs:List D) (cs:List Value),rdC w size S xs cs->rdC w size S (xs++ys) (cs++es)
 | [],cs,h=>by simp only [rdC] at h;subst h;simpa using hy
 | d::r,cs,h=>by
  simp only [rdC,List.cons_append] at h ⊢
  obtain⟨c1,c2,rfl,hl,h1,h2⟩:=h
  exact⟨c1,c2++es,by simp,hl,h1,rdC_append hy r c2 h2⟩
theorem rdR_cells {w:World} {size b:Nat} {S:Nat->Prop}:∀ (xs:List D) (off:Nat),D.rdR w S size b xs off->∃ cs,rdC w size S xs cs/\∀ j u,cs[j]? =some u->w.cell? ⟨b,off+j,none⟩=some u
 | [],off,_=>⟨[],rfl,fun j u h=>by simp at h⟩
 | d::r,off,h=>by
  simp only [D.rdR] at h
  obtain⟨⟨c1,hl,hc,h1⟩,h2⟩:=h
  obtain⟨c2,k1,k2⟩:=rdR_cells r (off+size) h2
  refine⟨c1++c2,by simp only [rdC];exact⟨c1,c2,rfl,hl,h1,k1⟩,fun j u hj=>?_⟩
  by_cases hlt:j<c1.length
  · rw [List.getElem?_append_left hlt] at hj;exact hc j u hj
  · rw [List.getElem?_append_right (by omega)] at hj
    have:=k2 (j - c1.length) u hj
    rwa [show off+size+(j - c1.length)=off+j by omega] at this
theorem rdR_take {w:World} {size b:Nat} {S:Nat->Prop}:∀ (xs:List D) (off j:Nat),D.rdR w S size b xs off->D.rdR w S size b (xs.take j) off
 | [],_,j,h=>by simpa using h
 | x::r,off,0,h=>by simp only [List.take_zero,D.rdR]
 | x::r,off,j+1,h=>by
  simp only [List.take_succ_cons,D.rdR] at h ⊢
  exact⟨h.1,rdR_take r (off+size) j h.2⟩
theorem rdR_drop {w:World} {size b:Nat} {S:Nat->Prop}:∀ (xs:List D) (off j:Nat),D.rdR w S size b xs off->D.rdR w S size b (xs.drop j) (off+j*size)
 | [],_,j,h=>by simp only [List.drop_nil,D.rdR]
 | x::r,off,0,h=>by simpa using h
 | x::r,off,j+1,h=>by
  simp only [D.rdR] at h
  have:=rdR_drop r (off+size) j h.2
  rw [List.drop_succ_cons,Nat.add_mul,Nat.one_mul,show off+(j*size+size)=off+size+j*size by omega]
  exact this
theorem Sl.take {w:World} {S:Nat->Prop} {size:Nat} {A:Option Addr} {c:Nat} {xs:List D} (h:Sl w S size A c xs) (j:Nat):Sl w S size A c (xs.take j):=by
 obtain⟨h1,h2,h3⟩:=h
 refine⟨by rw [List.length_take];omega,h2,?_⟩
 rcases h3 with rfl | ⟨b,off,e,hS,hr⟩
 · exact .inl (by simp)
 · exact .inr ⟨b,off,e,hS,rdR_take xs off j hr⟩
theorem Sl.drop {w:World} {S:Nat->Prop} {size b off c:Nat} {xs:List D} (h:Sl w S size (some ⟨b,off,none⟩) c xs) (j:Nat) (hj:j<=xs.length):Sl w S size (some ⟨b,off+j*size,none⟩) (c - j) (xs.drop j):=by
 obtain⟨h1,h2,h3⟩:=h
 refine⟨by rw [List.length_drop];omega,by omega,?_⟩
 rcases h3 with rfl | ⟨b',off',e,hS,hr⟩
 · exact .inl (by simp)
 · obtain⟨rfl,rfl⟩:b=b'/\off=off':=by simpa using e
   exact .inr ⟨b,off+j*size,rfl,hS,rdR_drop xs off j hr⟩
def Grx (X:Nat->Prop) (w:World) (B:Nat) (e:TypeId) (size:Nat) (v:Value) (n:Nat) (xs:List D):Prop:=
 xs.length=n/\∃ cs,w.ownsRow B e size v n cs/\rdC w size (fun b=>b<w.heap.size/\v.ownBlock≠some b/\X b) xs cs
theorem Grx.nil (X:Nat->Prop) (w:World) (B:Nat) (e:TypeId) (size:Nat):Grx X w B e size (.slice none 0 0) 0 []:=⟨rfl,[],World.ownsRow_nil w B e size,rfl⟩
theorem Grx.made {X:Nat->Prop} {w:World} {B g:Nat} {e:TypeId} {size:Nat} (hr:Row w g e #[]) (hB:B<=g):Grx X w B e size (.slice (some ⟨g,0,none⟩) 0 0) 0 []:=
 ⟨rfl,[],⟨by simp,.inr ⟨g,0,#[],rfl,hB,hr,Nat.le_refl _,by unfold maxLen;omega,by simp,by simp⟩⟩,rfl⟩
theorem Grx.roomy {X:Nat->Prop} {w:World} {B g c:Nat} {e:TypeId} {size:Nat} {cs:Array Value} (hr:Row w g e cs) (hB:B<=g) (hc:c<=maxLen) (hs:cs.size=c*size):Grx X w B e size (.slice (some ⟨g,0,none⟩) 0 c) 0 []:=
 ⟨rfl,[],⟨by simp,.inr ⟨g,c,cs,rfl,hB,hr,Nat.zero_le _,hc,hs,by simp⟩⟩,rfl⟩
theorem Grx.own {X:Nat->Prop} {w:World} {B:Nat} {e:TypeId} {size:Nat} {v:Value} {n:Nat} {xs:List D} (h:Grx X w B e size v n xs):∀ g,v.ownBlock=some g->B<=g/\g<w.heap.size:=by
 obtain⟨h1,cs,h2,h4⟩:=h
 exact fun g hg=>h2.lt g hg
theorem Grx.keep {X:Nat->Prop} {w w':World} {B:Nat} {e:TypeId} {size:Nat} {v:Value} {n:Nat} {xs:List D} (h:Grx X w B e size v n xs) (hs:w.heap.size<=w'.heap.size) (hk:∀ b,b<w.heap.size->w'.heap[b]? =w.heap[b]?):Grx X w' B e size v n xs:=by
 have ho:=h.own
 obtain⟨h1,cs,h2,h4⟩:=h
 refine⟨h1,cs,⟨h2.1,?_⟩,rdC_keep (fun b hb=>⟨⟨Nat.lt_of_lt_of_le hb.1 hs,hb.2⟩,hk b hb.1⟩) xs cs h4⟩
 rcases h2.2 with h | ⟨g,cap,cur,rfl,a1,a2,a3⟩
 · exact .inl h
 · exact .inr ⟨g,cap,cur,rfl,a1,(hk g (ho g rfl).2).trans a2,a3⟩
theorem Grx.below {X:Nat->Prop} {w w':World} {B:Nat} {e:TypeId} {size:Nat} {v:Value} {n:Nat} {xs:List D} (h:Grx X w B e size v n xs) (hb:Below w.heap.size w w'):Grx X w' B e size v n xs:=h.keep hb.size hb.block
theorem Grx.sl {X:Nat->Prop} {w:World} {B:Nat} {e:TypeId} {size:Nat} {v:Value} {n:Nat} {xs:List D} (h:Grx X w B e size v n xs) (hX:∀ b,B<=b->X b):∃ A c,v= .slice A n c/\Sl w (fun b=>b<w.heap.size/\X b) size A c xs:=by
 have hlt:=h.own
 obtain⟨h1,cs,h2,h4⟩:=h
 rcases h2.2 with ⟨rfl,h⟩ | ⟨g,cap,cur,rfl,a1,a2,a3,a4,a5,a6⟩
 · have:xs= []:=List.eq_nil_of_length_eq_zero (by omega)
   subst this
   exact⟨none,0,by rw [h],Sl.nil (by unfold maxLen;omega)⟩
 ·
  refine⟨_,cap,rfl,by omega,a4,.inr ⟨g,0,rfl,⟨(hlt g rfl).2,hX g (hlt g rfl).1⟩,?_⟩⟩
  refine rdC_row xs cs 0 (fun j v hj=>?_) (rdC_keep (fun b hb=>⟨⟨hb.1,hb.2.2⟩,rfl⟩) xs cs h4)
  rw [Nat.zero_add,Row.cell (t:=e) (cs:=cur) a2]
  rw [<- a6,List.getElem?_take] at hj
  split at hj
  · simpa using hj
  · cases hj
theorem Grx.step {P:Program} {X:Nat->Prop} (w:World) (t ty e:TypeId) (z:Value) (size bytes:Nat) (ht:P.underlying t=some (.slice e)) (hi:(P.info? e).map (fun i=>(i.zero,i.size,i.bytes))=some (some z,size,bytes)) (hzs:z.cells.size=size) (hsz:0<size)
 (B:Nat) (v:Value) (n:Nat) (xs:List D) (hg:Grx X w B e size v n xs) (A:Option Addr) (c m:Nat) (ys:List D) (hm:ys.length=m) (hy:Sl w (fun b=>b<w.heap.size/\v.ownBlock≠some b/\X b) size A c ys) (hB:B<=w.heap.size)
 (hn:n+m<=maxLen) (hbt:(n+m)*bytes<=140737488355328):
 ∃ A' c' w',(Builtin.append_ #[t,t] ty #[v,.slice A m c]).run P w= .ok (.slice A' (n+m) c') w'/\Grx X w' B e size (.slice A' (n+m) c') (n+m) (xs++ys)/\Gr w w' v (.slice A' (n+m) c'):=by
 obtain⟨i,i1,i2,i3,i4⟩:=info_parts hi
 obtain⟨hxs,cells,g2,g4⟩:=id hg
 obtain⟨es,k1,k2,k3⟩:∃ es,rdC w size (fun b=>b<w.heap.size/\v.ownBlock≠some b/\X b) ys es/\(A=none->m=0)/\∀ a,A=some a->∀ j u,es[j]? =some u->w.cell? (a.add j)=some u:=by
  rcases hy.2.2 with rfl | ⟨b,off,rfl,hS,hr⟩
  · exact⟨[],rfl,fun _=>by simpa using hm.symm,fun _ _ j u h=>by simp at h⟩
  · obtain⟨es,h1,h2⟩:=rdR_cells ys off hr
    refine⟨es,h1,fun h=>by simp at h,fun a ha j u hj=>?_⟩
    obtain rfl:⟨b,off,none⟩=a:=by simpa using ha
    have hadd:(⟨b,off,none⟩:Addr).add j=⟨b,off+j,none⟩:=by unfold Addr.add;split<;>simp_all
    rw [hadd];exact h2 j u hj
 obtain⟨v',w',hr,hown,hgr,hat⟩:=run_append_many (P:=P) w B t ty e i z size bytes ht i1 i2 i3 i4 hzs hsz v n cells g2 A m c es k2 (by rw [rdC_length _ _ k1,hm]) k3 (rdC_one _ _ k1) hn hbt hB
 have hfm:∃ A' c',v'= .slice A' (n+m) c':=by
  rcases hown.2 with ⟨rfl,h0⟩ | ⟨g,cap,cur,rfl,_⟩
  · exact⟨none,0,by rw [h0]⟩
  · exact⟨_,cap,rfl⟩
 obtain⟨A',c',rfl⟩:=hfm
 have hG:Gr w w' v (.slice A' (n+m) c'):=⟨hgr,hat.imp id fun h=>⟨_,h,Nat.le_refl _⟩⟩
 refine⟨A',c',w',hr,⟨by simp [hxs,hm],cells++es,hown,rdC_keep (fun b hb=>⟨⟨Nat.lt_of_lt_of_le hb.1 hgr.size,hG.ne hb.2.1 hb.1,hb.2.2⟩,hgr.block b hb.1 fun e=>hb.2.1 e.symm⟩) _ _ (rdC_append k1 _ _ g4)⟩,hG⟩
theorem wp_append_X {P:Program} {X:Nat->Prop} {o:Oper} {a:Act} {K:Act->World->Prop} {Q:Exit->Act->World->Prop} (w:World) (s x:Operand) (t:TypeId) (ho:o.op= .call {callee:=.builtin .append,args:=#[s,x],argTypes:=#[t,t]})
 (e:TypeId) (z:Value) (size bytes:Nat) (ht:P.underlying t=some (.slice e)) (hi:(P.info? e).map (fun i=>(i.zero,i.size,i.bytes))=some (some z,size,bytes)) (hzs:z.cells.size=size) (hsz:0<size)
 (B:Nat) (v:Value) (n:Nat) (xs:List D) (hg:Grx X w B e size v n xs) (A:Option Addr) (c m:Nat) (ys:List D) (hm:ys.length=m) (hy:Sl w (fun b=>b<w.heap.size/\v.ownBlock≠some b/\X b) size A c ys) (hB:B<=w.heap.size)
 (hn:n+m<=maxLen) (hbt:(n+m)*bytes<=140737488355328) (hs:a.eval s=v) (hx:a.eval x= .slice A m c)
 (h:∀ A' c' w',Grx X w' B e size (.slice A' (n+m) c') (n+m) (xs++ys)->Gr w w' v (.slice A' (n+m) c')->K (a.put o.dst (.slice A' (n+m) c')) w'):o.wp P a w K Q:=by
 obtain⟨A',c',w',hr,h2,h3⟩:=Grx.step (P:=P) w t o.type e z size bytes ht hi hzs hsz B v n xs hg A c m ys hm hy hB hn hbt
 unfold Oper.wp execOp
 simp only [ho,resolve,invoke,builtin,Sem.run_bind,Sem.run_pure,Result.andThen_ok,List.map_toArray,List.map_cons,List.map_nil,hs,hx,hr]
 exact h A' c' w' h2 h3
theorem wpList_append_X {P:Program} {X:Nat->Prop} {ops:Array Oper} {rest:List Oper} {o:Oper} {a:Act} {Q:Exit->Act->World->Prop} (w:World) (hgd:o.guard=none) (s x:Operand) (t:TypeId) (ho:o.op= .call {callee:=.builtin .append,args:=#[s,x],argTypes:=#[t,t]})
 (e:TypeId) (z:Value) (size bytes:Nat) (ht:P.underlying t=some (.slice e)) (hi:(P.info? e).map (fun i=>(i.zero,i.size,i.bytes))=some (some z,size,bytes)) (hzs:z.cells.size=size) (hsz:0<size)
 (B:Nat) (v:Value) (n:Nat) (xs:List D) (hg:Grx X w B e size v n xs) (A:Option Addr) (c m:Nat) (ys:List D) (hm:ys.length=m) (hy:Sl w (fun b=>b<w.heap.size/\v.ownBlock≠some b/\X b) size A c ys) (hB:B<=w.heap.size)
 (hn:n+m<=maxLen) (hbt:(n+m)*bytes<=140737488355328) (hs:a.eval s=v) (hx:a.eval x= .slice A m c)
 (h:∀ A' c' w',Grx X w' B e size (.slice A' (n+m) c') (n+m) (xs++ys)->Gr w w' v (.slice A' (n+m) c')->wpList P ops Q rest (a.put o.dst (.slice A' (n+m) c')) w'):wpList P ops Q (o::rest) a w:=
 wpList_plain hgd fun _ hK=>wp_append_X w s x t ho e z size bytes ht hi hzs hsz B v n xs hg A c m ys hm hy hB hn hbt hs hx fun A' c' w' h2 h3=>hK _ _ (h A' c' w' h2 h3)
theorem step_append_X {P:Program} {X:Nat->Prop} {ops:Array Oper} {o:Oper} {a:Act} {K:Act->World->Prop} {Q:Exit->Act->World->Prop} {E:Prop} (w:World) (hgd:o.guard=none) (s x:Operand) (t:TypeId) (ho:o.op= .call {callee:=.builtin .append,args:=#[s,x],argTypes:=#[t,t]})
 (e:TypeId) (z:Value) (size bytes:Nat) (ht:P.underlying t=some (.slice e)) (hi:(P.info? e).map (fun i=>(i.zero,i.size,i.bytes))=some (some z,size,bytes)) (hzs:z.cells.size=size) (hsz:0<size)
 (B:Nat) (v:Value) (n:Nat) (xs:List D) (hg:Grx X w B e size v n xs) (A:Option Addr) (c m:Nat) (ys:List D) (hm:ys.length=m) (hy:Sl w (fun b=>b<w.heap.size/\v.ownBlock≠some b/\X b) size A c ys) (hB:B<=w.heap.size)
 (hn:n+m<=maxLen) (hbt:(n+m)*bytes<=140737488355328) (hs:a.eval s=v) (hx:a.eval x= .slice A m c)
 (h:∀ A' c' w',Grx X w' B e size (.slice A' (n+m) c') (n+m) (xs++ys)->Gr w w' v (.slice A' (n+m) c')->K (a.put o.dst (.slice A' (n+m) c')) w'):if Region.wanted o (yielded ops a.tmps)=true then Oper.wp P o a w K Q else E:=by
 have hw:Region.wanted o (yielded ops a.tmps)=true:=by simp [Region.wanted,hgd]
 rw [if_pos hw]
 exact wp_append_X w s x t ho e z size bytes ht hi hzs hsz B v n xs hg A c m ys hm hy hB hn hbt hs hx h
set_option maxHeartbeats 1000000
theorem least_ex {I:Nat->Prop}:∀ n,(∃ k,k<=n/\I k)->∃ m,I m/\∀ k,I k->m<=k
 | 0,⟨k,hk,h⟩=>⟨k,h,fun j _=>by omega⟩
 | n+1,⟨k,hk,h⟩=>by
  by_cases hn:∃ k,k<=n/\I k
  · exact least_ex n hn
  · exact⟨k,h,fun j hj=>by
      rcases Nat.lt_or_ge j k with hlt | hge
      · exact(hn ⟨j,by omega,hj⟩).elim
      · exact hge⟩
open Classical in
noncomputable def leastK (I:Nat->Prop):Nat:=if h:∃ m,I m/\∀ k,I k->m<=k then Classical.choose h else 0
theorem leastK_both {I:Nat->Prop} (h:∃ k,I k):I (leastK I)/\∀ k,I k->leastK I<=k:=by
 obtain⟨k,hk⟩:=h
 have h':∃ m,I m/\∀ k,I k->m<=k:=least_ex k ⟨k,Nat.le_refl _,hk⟩
 unfold leastK
 rw [dif_pos h']
 exact Classical.choose_spec h'
theorem leastK_spec {I:Nat->Prop} (h:∃ k,I k):I (leastK I):=(leastK_both h).1
theorem leastK_le {I:Nat->Prop} {k:Nat} (h:I k):leastK I<=k:=(leastK_both ⟨k,h⟩).2 k h
theorem Grx.keepP {X:Nat->Prop} {w w':World} {B:Nat} {e:TypeId} {size:Nat} {v:Value} {n:Nat} {xs:List D} (h:Grx X w B e size v n xs) (hs:w.heap.size<=w'.heap.size) (hk:∀ b,b<w.heap.size->(v.ownBlock=some b\/X b)->w'.heap[b]? =w.heap[b]?):Grx X w' B e size v n xs:=by
 have ho:=h.own
 obtain⟨h1,cs,h2,h4⟩:=h
 refine⟨h1,cs,⟨h2.1,?_⟩,rdC_keep (fun b hb=>⟨⟨Nat.lt_of_lt_of_le hb.1 hs,hb.2⟩,hk b hb.1 (.inr hb.2.2)⟩) xs cs h4⟩
 rcases h2.2 with h | ⟨g,cap,cur,rfl,a1,a2,a3⟩
 · exact .inl h
 · exact .inr ⟨g,cap,cur,rfl,a1,(hk g (ho g rfl).2 (.inl rfl)).trans a2,a3⟩
theorem Grx.wide {X Y:Nat->Prop} {w:World} {B B':Nat} {e:TypeId} {size:Nat} {v:Value} {n:Nat} {xs:List D} (h:Grx X w B e size v n xs) (hB:B'<=B) (hX:∀ b,X b->Y b):Grx Y w B' e size v n xs:=by
 obtain⟨h1,cs,h2,h4⟩:=h
 refine⟨h1,cs,⟨h2.1,?_⟩,rdC_keep (fun b hb=>⟨⟨hb.1,hb.2.1,hX b hb.2.2⟩,rfl⟩) xs cs h4⟩
 rcases h2.2 with h | ⟨g,cap,cur,rfl,a1,a2,a3⟩
 · exact .inl h
 · exact .inr ⟨g,cap,cur,rfl,Nat.le_trans hB a1,a2,a3⟩
theorem own_is {b:Nat} {o n c q:Nat} (h:(Value.slice (some ⟨b,o,none⟩) n c).ownBlock=some q):q=b:=by simp [Value.ownBlock] at h;omega
theorem Gr.keepB {w w':World} {v v':Value} (h:Gr w w' v v') {b:Nat} (hb:b<w.heap.size) (hv:v.ownBlock≠some b):w'.heap[b]? =w.heap[b]?:=h.grow.block b hb fun e=>hv e.symm
theorem Sl.ofRow {w:World} {b:Nat} {T:TypeId} {cs:Array Value} {size c:Nat} {S:Nat->Prop} {xs:List D} (hr:Row w b T cs) (hc:rdC w size S xs cs.toList) (hS:S b) (hl:xs.length<=c) (hm:c<=maxLen):Sl w S size (some ⟨b,0,none⟩) c xs:=
 ⟨hl,hm,.inr ⟨b,0,rfl,hS,rdC_row xs cs.toList 0 (fun j v hj=>by rw [Nat.zero_add,hr.cell];simpa using hj) hc⟩⟩
theorem rdC_one1 {w:World} {size:Nat} {S:Nat->Prop} {d1:D} {c1:List Value} (h1:d1.rd w S c1) (l1:c1.length=size):rdC w size S [d1] c1:=⟨c1,[],by simp,l1,h1,rfl⟩
theorem rdC_cons {w:World} {size:Nat} {S:Nat->Prop} {d1:D} {xs:List D} {c1 cs:List Value} (h1:d1.rd w S c1) (l1:c1.length=size) (h:rdC w size S xs cs):rdC w size S (d1::xs) (c1++cs):=⟨c1,cs,rfl,l1,h1,h⟩
def zNd:Value:=.agg #[.int .i64 0,.int .i64 0,.string ⟨#[]⟩,.string ⟨#[]⟩,.slice none 0 0]
def zTyv:Value:=.agg #[.int .i64 0,.int .i64 0,.string ⟨#[]⟩,.slice none 0 0]
def zCn:Value:=.agg #[.string ⟨#[]⟩,.slice none 0 0]
def zDt:Value:=.agg #[.string ⟨#[]⟩,.int .i64 0,.slice none 0 0]
theorem Mv.chg {ts:List GToken} {g:Nat} {L:Option Addr} {cl:Nat} {V:Option Addr} {cv:Nat} {vs:List ByteArray} {st:PSt} {q:Nat} {a b c:World} (h:Mv ts g L cl V cv vs st a b) (k:Bx q b c) (hq:a.heap.size<=q) (hg:g<a.heap.size):Mv ts g L cl V cv vs st a c:=by
 have hz:=h.size
 exact⟨⟨k.os.trans h.bx.os,k.tape.trans h.bx.tape,k.output.trans h.bx.output,Nat.le_trans hz k.size,fun x hx hxg=>(k.block x (by omega) (by omega)).trans (h.bx.block x hx hxg)⟩,(k.block g (by omega) (by omega)).trans h.row,h.vs,h.pos⟩
theorem boxed (w:World) (T:TypeId) (cs:Array Value):∃ x,x=w.alloc (.cells cs T)/\Hid (Row x w.heap.size T cs)/\x.heap.size=w.heap.size+1/\Hid (Bx w.heap.size w x):=
 ⟨_,rfl,LH (Row.new _ _ _),by simp,LH ((Bx.refl _ _).alloc _)⟩
theorem storedF {w:World} {n:Nat} {T:TypeId} {cs:Array Value} (h:Row w n T cs) (i:Nat) (v:Value):∃ x,x=w.setCell ⟨n,i,none⟩ v/\Hid (Row x n T (cs.setIfInBounds i v))/\x.heap.size=w.heap.size/\Hid (Bx n w x):=
 ⟨_,rfl,LH (h.set i v),by simp [World.setCell],LH ((Bx.refl _ _).set (p:=⟨n,i,none⟩) (.inl rfl) _)⟩
theorem stored2 {w:World} {n:Nat} {T:TypeId} {a0 a1:Value} (h:Row w n T #[a0,a1]) (v0 v1:Value):∃ x,x=((w.setCell ⟨n,0,none⟩ v0).setCell ⟨n,1,none⟩ v1)/\Hid (Row x n T #[v0,v1])/\x.heap.size=w.heap.size/\Hid (Bx n w x):=
 ⟨_,rfl,LH ((h.set 0 v0).set 1 v1),by simp [World.setCell],LH (((Bx.refl _ _).set (p:=⟨n,0,none⟩) (.inl rfl) _).set (p:=⟨n,1,none⟩) (.inl rfl) _)⟩
theorem stored3 {w:World} {n:Nat} {T:TypeId} {a0 a1 a2:Value} (h:Row w n T #[a0,a1,a2]) (v0 v1 v2:Value):∃ x,x=(((w.setCell ⟨n,0,none⟩ v0).setCell ⟨n,1,none⟩ v1).setCell ⟨n,2,none⟩ v2)/\Hid (Row x n T #[v0,v1,v2])/\x.heap.size=w.heap.size/\Hid (Bx n w x):=
 ⟨_,rfl,LH (((h.set 0 v0).set 1 v1).set 2 v2),by simp [World.setCell],LH ((((Bx.refl _ _).set (p:=⟨n,0,none⟩) (.inl rfl) _).set (p:=⟨n,1,none⟩) (.inl rfl) _).set (p:=⟨n,2,none⟩) (.inl rfl) _)⟩
theorem stored4 {w:World} {n:Nat} {T:TypeId} {a0 a1 a2 a3:Value} (h:Row w n T #[a0,a1,a2,a3]) (v0 v1 v2 v3:Value):∃ x,x=((((w.setCell ⟨n,0,none⟩ v0).setCell ⟨n,1,none⟩ v1).setCell ⟨n,2,none⟩ v2).setCell ⟨n,3,none⟩ v3)/\Hid (Row x n T #[v0,v1,v2,v3])/\x.heap.size=w.heap.size/\Hid (Bx n w x):=
 ⟨_,rfl,LH ((((h.set 0 v0).set 1 v1).set 2 v2).set 3 v3),by simp [World.setCell],LH (((((Bx.refl _ _).set (p:=⟨n,0,none⟩) (.inl rfl) _).set (p:=⟨n,1,none⟩) (.inl rfl) _).set (p:=⟨n,2,none⟩) (.inl rfl) _).set (p:=⟨n,3,none⟩) (.inl rfl) _)⟩
theorem stored5 {w:World} {n:Nat} {T:TypeId} {a0 a1 a2 a3 a4:Value} (h:Row w n T #[a0,a1,a2,a3,a4]) (v0 v1 v2 v3 v4:Value):∃ x,x=(((((w.setCell ⟨n,0,none⟩ v0).setCell ⟨n,1,none⟩ v1).setCell ⟨n,2,none⟩ v2).setCell ⟨n,3,none⟩ v3).setCell ⟨n,4,none⟩ v4)/\Hid (Row x n T #[v0,v1,v2,v3,v4])/\x.heap.size=w.heap.size/\Hid (Bx n w x):=
 ⟨_,rfl,LH (((((h.set 0 v0).set 1 v1).set 2 v2).set 3 v3).set 4 v4),by simp [World.setCell],LH ((((((Bx.refl _ _).set (p:=⟨n,0,none⟩) (.inl rfl) _).set (p:=⟨n,1,none⟩) (.inl rfl) _).set (p:=⟨n,2,none⟩) (.inl rfl) _).set (p:=⟨n,3,none⟩) (.inl rfl) _).set (p:=⟨n,4,none⟩) (.inl rfl) _)⟩
def PToNode (ts:List GToken) (g:Nat) (L:Option Addr) (cl:Nat) (V:Option Addr) (cv:Nat) (vs:List ByteArray) (n:GNode) (st:PSt) (w:World) (e:Ending) (w':World):Prop:=
 ∃ A c,e= .returned (.agg #[.int .i64 n.op,.int .i64 n.n,.string n.s,.string n.t,.slice A n.kids.length c])/\GNode.At w' (fun b=>w.heap.size<=b/\b<w'.heap.size) A c n/\Mv ts g L cl V cv vs st w w'
def PToTy (ts:List GToken) (g:Nat) (L:Option Addr) (cl:Nat) (V:Option Addr) (cv:Nat) (vs:List ByteArray) (n:GTy) (st:PSt) (w:World) (e:Ending) (w':World):Prop:=
 ∃ A c,e= .returned (.agg #[.int .i64 n.op,.int .i64 n.n,.string n.s,.slice A n.kids.length c])/\GTy.At w' (fun b=>w.heap.size<=b/\b<w'.heap.size) A c n/\Mv ts g L cl V cv vs st w w'
theorem l3Node (X:Nat->Prop) (op:Int) (ks:List GNode) (A:Option Addr) (c:Nat) (w:World) (hs:Sl w (fun b=>b<w.heap.size/\X b) 5 A c (ks.map GNode.toD)) (hn:ks.length<=1000):
 Calls Tryz.prog 108 #[.int .i64 op,.slice A ks.length c] w fun e w'=>∃ A' c',e= .returned (.agg #[.int .i64 op,.int .i64 0,.string ⟨#[]⟩,.string ⟨#[]⟩,.slice A' ks.length c'])/\
  Grx X w' w.heap.size 49 5 (.slice A' ks.length c') ks.length (ks.map GNode.toD)/\Below w.heap.size w w':=by
 have HS:=LH hs
 clear hs
 obtain⟨w1,e1⟩:∃ w1,w1=w.alloc (.cells #[.int .i64 0,.int .i64 0,.string ⟨#[]⟩,.string ⟨#[]⟩,.slice none 0 0] 49):=⟨_,rfl⟩
 obtain⟨w2,e2⟩:∃ w2,w2=w1.alloc (.cells #[] 49):=⟨_,rfl⟩
 have hz1:w1.heap.size=w.heap.size+1:=by rw [e1];simp
 have hz2:w2.heap.size=w.heap.size+2:=by rw [e2];simp [hz1]
 have E2:=LH (show Below w.heap.size w w2 by rw [e2,e1];exact((Below.refl _ _).alloc (Nat.le_refl _) _).alloc (by simp) _)
 have RR:=LH (show Row w2 w.heap.size 49 #[.int .i64 0,.int .i64 0,.string ⟨#[]⟩,.string ⟨#[]⟩,.slice none 0 0] by rw [e2,e1];exact(Row.new _ _ _).alloc _)
 have G2:=LH (show Grx (fun b=>X b/\b<w.heap.size) w2 (w.heap.size+1) 49 5 (.slice (some ⟨w.heap.size+1,0,none⟩) 0 0) 0 [] from Grx.made (by rw [e2];exact Row.new' _ _ _ hz1.symm) (by omega))
 have T2:=LH (show Sl w2 (fun b=>b<w2.heap.size/\(Value.slice (some ⟨w.heap.size+1,0,none⟩) 0 0).ownBlock≠some b/\(X b/\b<w.heap.size)) 5 A c (ks.map GNode.toD) from HS.out.keep fun b hb=>⟨⟨by have:=hb.1;omega,fun e=>by have:=own_is e;have:=hb.1;omega,hb.2,hb.1⟩,E2.out.block b hb.1⟩)
 go_enter Tryz.func108,Tryz.ntmps108
 go_wp2_with (first | (at_builtin;rw [<- e1,<- e2];refine wpList_append_X w2 rfl (.tmp 6) (.tmp 7) 25 rfl 49 zNd 5 72 Tryz.underlying25 (by kernel_rfl) rfl (by omega) (w.heap.size+1) (.slice (some ⟨w.heap.size+1,0,none⟩) 0 0) 0 _ G2.out A c ks.length _ (by simp) T2.out (by omega) (by unfold maxLen;omega) (by omega) rfl rfl ?_;intro A4 c4 w4 G4 hGr4;rw [Nat.zero_add] at G4 hGr4;have HE4:=LH (show Value.slice A4 (0+ks.length) c4= .slice A4 ks.length c4 by rw [Nat.zero_add]);rw [HE4.out];have G4h:=LH (show Grx (fun b=>X b/\b<w.heap.size) w4 (w.heap.size+1) 49 5 (.slice A4 ks.length c4) ks.length (ks.map GNode.toD) by simpa using G4);have GR4:=LH hGr4;have R4:=LH (show Row w4 w.heap.size 49 #[.int .i64 0,.int .i64 0,.string ⟨#[]⟩,.string ⟨#[]⟩,.slice none 0 0] from(hGr4.keepB (by omega) (by simp [Value.ownBlock])).trans RR.out);have hc4:=fun i=>R4.out.cell i;have hf4:=fun i=>R4.out.frozen i;have hz4:=hGr4.size;clear G4 hGr4))
 obtain⟨w5,e5,R5,z5,K5⟩:=stored5 R4.out (.int .i64 op) (.int .i64 0) (.string ⟨#[]⟩) (.string ⟨#[]⟩) (.slice A4 ks.length c4)
 rw [<- e5]
 have G5:=LH (G4h.out.keepP (w':=w5) (by omega) fun b hb h=>K5.out.block b hb (by
   rcases h with h | h
   · have:=G4h.out.own b h;omega
   · have:=h.2;omega))
 have hc5:=fun i=>R5.out.cell i
 clear hc4 hf4 e5
 refine bodyPost_ret (v:=.agg #[.int .i64 op,.int .i64 0,.string ⟨#[]⟩,.string ⟨#[]⟩,.slice A4 ks.length c4]) (by simp [results,Tryz.results108,go_sem,hc5]) rfl ?_
 exact⟨A4,c4,rfl,G5.out.wide (by omega) fun b h=>h.1,(E2.out.trans (GR4.out.below (by omega) fun q hq=>by have:=own_is hq;omega)).trans (K5.out.below (by omega) (by omega))⟩
set_option maxHeartbeats 2000000
def Ok1 (F:FuncId) (p:List GToken->Nat->PSt->Option (GNode × PSt)) (k:Nat):Prop:=
 ∀ (ts:List GToken) (g:Nat) (L:Option Addr) (cl:Nat) (V:Option Addr) (cv:Nat) (st:PSt) (w:World),PCur ts g L cl V cv st w->∀ (n:GNode) (st':PSt),p ts k st=some (n,st')->
  Calls Tryz.prog F #[.pointer (some ⟨g,0,none⟩)] w (PToNode ts g L cl V cv st.vars n st' w)
def OkT (F:FuncId) (p:List GToken->Nat->PSt->Option (GTy × PSt)) (k:Nat):Prop:=
 ∀ (ts:List GToken) (g:Nat) (L:Option Addr) (cl:Nat) (V:Option Addr) (cv:Nat) (st:PSt) (w:World),PCur ts g L cl V cv st w->∀ (n:GTy) (st':PSt),p ts k st=some (n,st')->
  Calls Tryz.prog F #[.pointer (some ⟨g,0,none⟩)] w (PToTy ts g L cl V cv st.vars n st' w)
theorem GNode.leaf {w:World} {S:Nat->Prop} {op n:Int} {s t:ByteArray} (h1:(Lit.int .i64 op).wf=true) (h2:(Lit.int .i64 n).wf=true) (h3:s.size<=maxLen) (h4:t.size<=maxLen):GNode.At w S none 0 (.mk op n s t []):=⟨h1,h2,h3,h4,Sl.nil (by unfold maxLen;omega)⟩
theorem empty_le:(⟨#[]⟩:ByteArray).size<=maxLen:=by simp [ByteArray.size,maxLen]
theorem l3Atom (k:Nat) (hE:Ok1 75 pE k):Ok1 142 pAtom (k+1):=by
 intro ts g L cl V cv st w h n st' hp
 have HE:=LH hE
 clear hE
 obtain⟨b0,off0,hL,hbt,-,-,-,-,hat⟩:=h.now
 clear hL hbt
 obtain⟨t,ht⟩:∃ t,pNow ts st=t:=⟨_,rfl⟩
 rw [ht] at hat
 have HAT:=LH hat
 have HT:=LH ht
 clear hat
 have HC:=LH h
 have M0:=LH h.mv
 have hgl:=h.row.lt
 clear h
 have HN:=LH (l3Now ts g L cl V cv st w HC.out)
 rw [ht] at HN
 clear ht
 go_enter Tryz.func142,Tryz.ntmps142
 go_wp2_with fail
 obtain⟨w1,e1,Rr1,hz1,K1⟩:=boxed w 49 #[.int .i64 0,.int .i64 0,.string ⟨#[]⟩,.string ⟨#[]⟩,.slice none 0 0]
 have M1:=LH (M0.out.chg K1.out (by omega) (by omega))
 rw [<- e1]
 clear e1
 have HN1:=LH (l3Now ts g L cl V cv st w1 (M1.out.cur HC.out))
 rw [HT.out] at HN1
 clear HN
 refine(HN1.out).mono ?_
 rintro e w2 ⟨rfl,hb2⟩
 have hz2:=hb2.size
 have K2:=LH (Bx.of_below (g:=g) hb2 (Nat.le_refl _))
 have Rr2:=LH (K2.out.row Rr1.out (by omega))
 have M2:=LH (M1.out.below hb2)
 clear Rr1 M1
 clear hb2
 have hcu2:=fun i=>M2.out.row.cell i
 have hlu2:=M2.out.row.lt
 clear HN1
 cases hb:decide (st.bad<0)
 case' true=>cases hk:(t.kind ==3)
 case' true.true=>
  simp [pAtom,hb,hk,HT.out] at hp
  obtain⟨rfl,rfl⟩:=hp
  go_wp2_with fail
  clear hcu2 hlu2
  obtain⟨w3,e3,Rt3,hz3,K3⟩:=boxed w2 135 #[.int .i64 t.kind,.string t.text,.int .i64 t.n,.int .i64 t.pos]
  have Rr3:=LH (K3.out.row Rr2.out (by omega))
  have M3:=LH (M2.out.chg K3.out (by omega) (by omega))
  clear Rr2 M2
  rw [<- e3]
  clear e3
  refine(l3Next ts g L cl V cv st w3 (M3.out.cur HC.out)).mono ?_
  rintro e w4 ⟨rfl,hm4⟩
  replace hm4:Mv ts g L cl V cv st.vars (pNext ts st) w3 w4:=hm4
  have hz4:=hm4.size
  have K4:=LH hm4.bx
  have Rr4:=LH (K4.out.row Rr3.out (by omega))
  have Rt4:=LH (K4.out.row Rt3.out (by omega))
  have M4:=LH (M3.out.trans hm4)
  clear Rr3 Rt3 M3
  clear hm4
  have hcr4:=fun i=>Rr4.out.cell i
  have hfr4:=fun i=>Rr4.out.frozen i
  have hct4:=fun i=>Rt4.out.cell i
  go_wp2_with fail
  clear hcr4 hfr4 hct4
  obtain⟨w5,e5,RN5,hz5,K5⟩:=stored5 Rr4.out (.int .i64 1) (.int .i64 t.n) (.string ⟨#[]⟩) (.string ⟨#[]⟩) (.slice none 0 0)
  have Rt5:=LH (K5.out.row Rt4.out (by omega))
  have M5:=LH (M4.out.chg K5.out (by omega) (by omega))
  clear Rt4 M4
  clear Rr4
  rw [<- e5]
  clear e5
  have hct5:=fun i=>Rt5.out.cell i
  have hcr5:=fun i=>RN5.out.cell i
  refine bodyPost_ret (v:=.agg #[.int .i64 1,.int .i64 t.n,.string ⟨#[]⟩,.string ⟨#[]⟩,.slice none 0 0]) (by simp [results,Tryz.results142,go_sem,hcr5]) rfl ?_
  exact⟨none,0,rfl,GNode.leaf (by decide) HAT.out.2.2.1 empty_le empty_le,M5.out⟩
 all_goals
  go_wp2_with fail
  clear hcu2 hlu2
  obtain⟨w3,e3,Rt3,hz3,K3⟩:=boxed w2 135 #[.int .i64 t.kind,.string t.text,.int .i64 t.n,.int .i64 t.pos]
  have Rr3:=LH (K3.out.row Rr2.out (by omega))
  have M3:=LH (M2.out.chg K3.out (by omega) (by omega))
  clear Rr2 M2
  rw [<- e3]
  clear e3
  refine(l3Name ts g L cl V cv st w3 (M3.out.cur HC.out)).mono ?_
  rintro e w4 ⟨rfl,hb4⟩
  have hz4:=hb4.size
  have K4:=LH (Bx.of_below (g:=g) hb4 (Nat.le_refl _))
  have Rr4:=LH (K4.out.row Rr3.out (by omega))
  have Rt4:=LH (K4.out.row Rt3.out (by omega))
  have M4:=LH (M3.out.below hb4)
  clear Rr3 Rt3 M3
  clear hb4
  have hcr4:=fun i=>Rr4.out.cell i
  have hfr4:=fun i=>Rr4.out.frozen i
  have hct4:=fun i=>Rt4.out.cell i
  cases hn:pName ts st
  case' true=>
   simp [pAtom, *,HT.out] at hp
   obtain⟨rfl,rfl⟩:=hp
   go_wp2_with fail
   refine(l3Next ts g L cl V cv st w4 (M4.out.cur HC.out)).mono ?_
   clear hcr4 hfr4 hct4
   rintro e w5 ⟨rfl,hm5⟩
   replace hm5:Mv ts g L cl V cv st.vars (pNext ts st) w4 w5:=hm5
   have hz5:=hm5.size
   have K5:=LH hm5.bx
   have Rr5:=LH (K5.out.row Rr4.out (by omega))
   have Rt5:=LH (K5.out.row Rt4.out (by omega))
   have M5:=LH (M4.out.trans hm5)
   clear Rr4 Rt4 M4
   clear hm5
   have hcr5:=fun i=>Rr5.out.cell i
   have hfr5:=fun i=>Rr5.out.frozen i
   have hct5:=fun i=>Rt5.out.cell i
   go_wp2_with fail
   clear hcr5 hct5
   obtain⟨w6,e6,RN6,hz6,K6⟩:=stored5 Rr5.out (.int .i64 2) (.int .i64 0) (.string t.text) (.string ⟨#[]⟩) (.slice none 0 0)
   have Rt6:=LH (K6.out.row Rt5.out (by omega))
   have M6:=LH (M5.out.chg K6.out (by omega) (by omega))
   clear Rt5 M5
   clear Rr5
   rw [<- e6]
   clear e6
   have hcu6:=fun i=>M6.out.row.cell i
   have hct6:=fun i=>Rt6.out.cell i
   have hcr6:=fun i=>RN6.out.cell i
   refine bodyPost_ret (v:=.agg #[.int .i64 2,.int .i64 0,.string t.text,.string ⟨#[]⟩,.slice none 0 0]) (by simp [results,Tryz.results142,go_sem,hcr6]) rfl ?_
   exact⟨none,0,rfl,GNode.leaf (by decide) (by decide) HAT.out.2.1 empty_le,M6.out⟩
  go_wp2_with fail
  refine(l3Con ts g L cl V cv st w4 (M4.out.cur HC.out)).mono ?_
  clear hcr4 hfr4 hct4
  rintro e w5 ⟨rfl,hb5⟩
  have hz5:=hb5.size
  have K5:=LH (Bx.of_below (g:=g) hb5 (Nat.le_refl _))
  have Rr5:=LH (K5.out.row Rr4.out (by omega))
  have Rt5:=LH (K5.out.row Rt4.out (by omega))
  have M5:=LH (M4.out.below hb5)
  clear Rr4 Rt4 M4
  clear hb5
  have hcr5:=fun i=>Rr5.out.cell i
  have hfr5:=fun i=>Rr5.out.frozen i
  have hct5:=fun i=>Rt5.out.cell i
  cases hc:pCon ts st
  case' true=>
   simp [pAtom, *,HT.out] at hp
   obtain⟨rfl,rfl⟩:=hp
   go_wp2_with fail
   refine(l3Next ts g L cl V cv st w5 (M5.out.cur HC.out)).mono ?_
   clear hcr5 hct5
   rintro e w6 ⟨rfl,hm6⟩
   replace hm6:Mv ts g L cl V cv st.vars (pNext ts st) w5 w6:=hm6
   have hz6:=hm6.size
   have K6:=LH hm6.bx
   have Rr6:=LH (K6.out.row Rr5.out (by omega))
   have Rt6:=LH (K6.out.row Rt5.out (by omega))
   have M6:=LH (M5.out.trans hm6)
   clear Rr5 Rt5 M5
   clear hm6
   have hcu6:=fun i=>M6.out.row.cell i
   have hcr6:=fun i=>Rr6.out.cell i
   have hfr6:=fun i=>Rr6.out.frozen i
   have hct6:=fun i=>Rt6.out.cell i
   go_wp2_with fail
   clear hcu6 hcr6 hct6
   obtain⟨w7,e7,RN7,hz7,K7⟩:=stored5 Rr6.out (.int .i64 15) (.int .i64 0) (.string t.text) (.string ⟨#[]⟩) (.slice none 0 0)
   have M7:=LH (M6.out.chg K7.out (by omega) (by omega))
   clear Rt6 M6
   clear Rr6
   rw [<- e7]
   clear e7
   have hcr7:=fun i=>RN7.out.cell i
   refine bodyPost_ret (v:=.agg #[.int .i64 15,.int .i64 0,.string t.text,.string ⟨#[]⟩,.slice none 0 0]) (by simp [results,Tryz.results142,go_sem,hcr7]) rfl ?_
   exact⟨none,0,rfl,GNode.leaf (by decide) (by decide) HAT.out.2.1 empty_le,M7.out⟩
  go_wp2_with fail
  obtain⟨s1,hs1⟩:∃ s1,pTake ts [40] st=s1:=⟨_,rfl⟩
  refine(l3Take ts g L cl V cv st w5 (M5.out.cur HC.out) ⟨#[40]⟩).mono ?_
  clear hcr5 hct5
  rintro e w6 ⟨rfl,hm6⟩
  replace hm6:Mv ts g L cl V cv st.vars (pTake ts [40] st) w5 w6:=hm6
  have hz6:=hm6.size
  have K6:=LH hm6.bx
  have Rr6:=LH (K6.out.row Rr5.out (by omega))
  have Rt6:=LH (K6.out.row Rt5.out (by omega))
  have M6:=LH (M5.out.trans hm6)
  clear Rr5 Rt5 M5
  clear hm6
  have hcu6:=fun i=>M6.out.row.cell i
  have hcr6:=fun i=>Rr6.out.cell i
  have hfr6:=fun i=>Rr6.out.frozen i
  have hct6:=fun i=>Rt6.out.cell i
  rw [hs1] at M6
  clear hcu6 hcr6 hct6
  have hcu6:=fun i=>M6.out.row.cell i
  have hcr6:=fun i=>Rr6.out.cell i
  have hfr6:=fun i=>Rr6.out.frozen i
  have hct6:=fun i=>Rt6.out.cell i
  by_cases hb1:0<=s1.bad
  ·
   simp [pAtom, *,HT.out] at hp
   obtain⟨rfl,rfl⟩:=hp
   have d1:decide (0<=s1.bad)=true:=decide_eq_true hb1
   go_wp2_with fail
   clear hcu6 hcr6 hct6
   obtain⟨w7,e7,RN7,hz7,K7⟩:=stored5 Rr6.out (.int .i64 0) (.int .i64 0) (.string ⟨#[]⟩) (.string ⟨#[]⟩) (.slice none 0 0)
   have M7:=LH (M6.out.chg K7.out (by omega) (by omega))
   clear Rt6 M6
   clear Rr6
   rw [<- e7]
   clear e7
   have hcr7:=fun i=>RN7.out.cell i
   refine bodyPost_ret (v:=.agg #[.int .i64 0,.int .i64 0,.string ⟨#[]⟩,.string ⟨#[]⟩,.slice none 0 0]) (by simp [results,Tryz.results142,go_sem,hcr7]) rfl ?_
   exact⟨none,0,rfl,GNode.leaf (by decide) (by decide) empty_le empty_le,M7.out⟩
  ·
   simp [pAtom, *,HT.out] at hp
   obtain⟨n1,s2,hq,rfl,rfl⟩:=hp
   have d1:decide (0<=s1.bad)=false:=decide_eq_false hb1
   clear hb1 hs1
   go_wp2_with fail
   refine(HE.out ts g L cl V cv s1 w6 (M6.out.cur HC.out) n1 s2 hq).mono ?_
   clear hcu6 hcr6 hct6
   rintro e w7 ⟨Ax,cx,rfl,ha7,hm7⟩
   have hz7:=hm7.size
   have K7:=LH hm7.bx
   have DN7:=LH ha7
   have Rr7:=LH (K7.out.row Rr6.out (by omega))
   have M7:=LH (M6.out.trans hm7)
   clear Rr6 Rt6 M6
   clear hm7 ha7
   have hcr7:=fun i=>Rr7.out.cell i
   go_wp2_with fail
   clear hcr7
   obtain⟨w8,e8,Rx8,hz8,K8⟩:=boxed w7 49 #[.int .i64 n1.op,.int .i64 n1.n,.string n1.s,.string n1.t,.slice Ax n1.kids.length cx]
   have Rr8:=LH (K8.out.row Rr7.out (by omega))
   have Dx8:=LH (DN7.out.keep fun b hb=>K8.out.kq hb (by omega))
   have M8:=LH (M7.out.chg K8.out (by omega) (by omega))
   clear Rr7 DN7 M7
   rw [<- e8]
   clear e8
   refine(l3Take ts g L cl V cv s2 w8 (M8.out.cur HC.out) ⟨#[41]⟩).mono ?_
   rintro e w9 ⟨rfl,hm9⟩
   replace hm9:Mv ts g L cl V cv s2.vars (pTake ts [41] s2) w8 w9:=hm9
   have hz9:=hm9.size
   have K9:=LH hm9.bx
   have Rr9:=LH (K9.out.row Rr8.out (by omega))
   have Rx9:=LH (K9.out.row Rx8.out (by omega))
   have Dx9:=LH (Dx8.out.keep fun b hb=>K9.out.kq hb (by omega))
   have M9:=LH (M8.out.trans hm9)
   clear Rr8 Rx8 Dx8 M8
   clear hm9
   have hcr9:=fun i=>Rr9.out.cell i
   have hfr9:=fun i=>Rr9.out.frozen i
   have hcx9:=fun i=>Rx9.out.cell i
   go_wp2_with fail
   clear hcr9 hfr9 hcx9
   obtain⟨w10,e10,RN10,hz10,K10⟩:=stored5 Rr9.out (.int .i64 n1.op) (.int .i64 n1.n) (.string n1.s) (.string n1.t) (.slice Ax n1.kids.length cx)
   have Dx10:=LH (Dx9.out.keep fun b hb=>K10.out.kq hb (by omega))
   have M10:=LH (M9.out.chg K10.out (by omega) (by omega))
   clear Rx9 Dx9 M9
   clear Rr9
   rw [<- e10]
   clear e10
   have hcr10:=fun i=>RN10.out.cell i
   refine bodyPost_ret (v:=.agg #[.int .i64 n1.op,.int .i64 n1.n,.string n1.s,.string n1.t,.slice Ax n1.kids.length cx]) (by simp [results,Tryz.results142,go_sem,hcr10]) rfl ?_
   exact⟨Ax,cx,rfl,Dx10.out.keep fun b hb=>⟨⟨by omega,by omega⟩,rfl⟩,M10.out⟩
end Go.Proofs.YtamfolaicncblaaGreat
