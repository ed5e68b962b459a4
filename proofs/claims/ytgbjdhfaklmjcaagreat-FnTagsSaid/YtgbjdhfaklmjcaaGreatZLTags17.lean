/- Texts of the claim LTags in one: Ng Nc Prg Dg ATy CTy. Conditions: none but bounds on sizes. -/
import Derived.Test.YtgbjdhfaklmjcaaGreatZLTags3
import Derived.Test.YtgbjdhfaklmjcaaGreatZLTags1
import Derived.OwnWalk
import Derived.Deep.RegionLaw
import Derived.Test.YtgbjdhfaklmjcaaGreatZLTags16
import Derived.Test.YtgbjdhfaklmjcaaGreatRows
import Derived.Test.YtgbjdhfaklmjcaaGreatZLTags0
import Derived.Lib.Hide
import Derived.StillTailTactics
import Derived.Test.YtgbjdhfaklmjcaaGreatZLTags2
namespace Go.Proofs.YtgbjdhfaklmjcaaGreat
set_option maxRecDepth 20000
set_option linter.unusedVariables false
set_option linter.unusedSimpArgs false
open Go.RowKit
theorem own_kp {w w':World} {B:Nat} {e:TypeId} {size:Nat} {v:Value} {n:Nat} {cs:List Value} (h:w.ownsRow B e size v n cs) (hk:∀ b,v.ownBlock=some b->B<=b->b<w.heap.size->w'.heap[b]? =w.heap[b]?):w'.ownsRow B e size v n cs:=by
 have hlt:=h.lt
 refine⟨h.1,?_⟩
 rcases h.2 with h | ⟨g,cap,cur,rfl,a1,a2,a3⟩
 · exact .inl h
 · exact .inr ⟨g,cap,cur,rfl,a1,(hk g rfl a1 (hlt g rfl).2).trans a2,a3⟩
theorem own_mono {w:World} {B B':Nat} {e:TypeId} {size:Nat} {v:Value} {n:Nat} {cs:List Value} (h:w.ownsRow B e size v n cs) (hb:B'<=B):w.ownsRow B' e size v n cs:=
 ⟨h.1,h.2.imp id fun⟨g,cap,cur,e,a1,a2⟩=>⟨g,cap,cur,e,Nat.le_trans hb a1,a2⟩⟩
mutual
def gwN (w:World) (S:Nat->Prop):GNode->Value->Prop
 | .mk _ _ _ _ kids,v=>∃ cells,w.ownsRow 0 45 5 v kids.length cells/\(∀ b,v.ownBlock=some b->S b)/\kids.length<=250/\gwL w (fun b=>S b/\v.ownBlock≠some b) kids cells
def gwL (w:World) (S:Nat->Prop):List GNode->List Value->Prop
 | [],cs=>cs= []
 | k::r,cs=>∃ v rest,cs= [.int .i64 k.op,.int .i64 k.n,.string k.s,.string k.t,v]++rest/\gwN w S k v/\gwL w S r rest
end
theorem gwN_eq {w:World} {S:Nat->Prop} {n:GNode} {v:Value}:gwN w S n v ↔ ∃ cells,w.ownsRow 0 45 5 v n.kids.length cells/\(∀ b,v.ownBlock=some b->S b)/\n.kids.length<=250/\gwL w (fun b=>S b/\v.ownBlock≠some b) n.kids cells:=by
 cases n;simp only [gwN,GNode.kids]
mutual
theorem gwN_keep {w w':World} {S S':Nat->Prop} (hk:∀ b,S b->S' b/\w'.heap[b]? =w.heap[b]?):∀ (n:GNode) (v:Value),gwN w S n v->gwN w' S' n v
 | .mk op m s t kids,v,h=>by
  simp only [gwN] at h ⊢
  obtain⟨cells,h1,h2,h3,h4⟩:=h
  exact⟨cells,own_kp h1 fun b hb _ _=>(hk b (h2 b hb)).2,fun b hb=>(hk b (h2 b hb)).1,h3,gwL_keep (fun b hb=>⟨⟨(hk b hb.1).1,hb.2⟩,(hk b hb.1).2⟩) kids cells h4⟩
theorem gwL_keep {w w':World} {S S':Nat->Prop} (hk:∀ b,S b->S' b/\w'.heap[b]? =w.heap[b]?):∀ (l:List GNode) (cs:List Value),gwL w S l cs->gwL w' S' l cs
 | [],cs,h=>by simp only [gwL] at h ⊢;exact h
 | k::r,cs,h=>by
  simp only [gwL] at h ⊢
  obtain⟨v,rest,h1,h2,h3⟩:=h
  exact⟨v,rest,h1,gwN_keep hk k v h2,gwL_keep hk r rest h3⟩
end
theorem gwL_snoc {w:World} {S:Nat->Prop} {k:GNode} {v:Value} (hv:gwN w S k v):∀ (l:List GNode) (cs:List Value),gwL w S l cs->gwL w S (l++[k]) (cs++[.int .i64 k.op,.int .i64 k.n,.string k.s,.string k.t,v])
 | [],cs,h=>by
  simp only [gwL] at h
  subst h
  show gwL w S [k] _
  simp only [gwL]
  exact⟨v,[],rfl,hv,rfl⟩
 | k'::r,cs,h=>by
  simp only [gwL] at h
  obtain⟨v',rest,rfl,h2,h3⟩:=h
  show gwL w S (k'::(r++[k])) _
  simp only [gwL]
  exact⟨v',rest++[.int .i64 k.op,.int .i64 k.n,.string k.s,.string k.t,v],by simp,h2,gwL_snoc hv r rest h3⟩
theorem gwL_get {w:World} {S:Nat->Prop}:∀ (l:List GNode) (cs:List Value),gwL w S l cs->∀ i (hi:i<l.length),∃ v,(cs[i*5]? =some (.int .i64 l[i].op)/\cs[i*5+1]? =some (.int .i64 l[i].n)/\cs[i*5+2]? =some (.string l[i].s)/\cs[i*5+3]? =some (.string l[i].t)/\cs[i*5+4]? =some v)/\gwN w S l[i] v
 | [],cs,h,i,hi=>absurd hi (Nat.not_lt_zero _)
 | k::r,cs,h,0,hi=>by
  simp only [gwL] at h
  obtain⟨v,rest,rfl,h2,h3⟩:=h
  exact⟨v,⟨rfl,rfl,rfl,rfl,rfl⟩,h2⟩
 | k::r,cs,h,i+1,hi=>by
  simp only [gwL] at h
  obtain⟨v,rest,rfl,h2,h3⟩:=h
  obtain⟨u,⟨e0,e1,e2,e3,e4⟩,hu⟩:=gwL_get r rest h3 i (by simpa using hi)
  have hs:∀ j,([.int .i64 k.op,.int .i64 k.n,.string k.s,.string k.t,v]++rest)[(i+1)*5+j]? =rest[i*5+j]?:=fun j=>by
   rw [List.getElem?_append_right (by simp;omega)]
   congr 1
   simp;omega
  exact⟨u,⟨(hs 0).trans e0,(hs 1).trans e1,(hs 2).trans e2,(hs 3).trans e3,(hs 4).trans e4⟩,hu⟩
structure NAt (w:World) (S:Nat->Prop) (b off:Nat) (n:GNode) (v:Value):Prop where
 c0:w.cell? ⟨b,off,none⟩=some (.int .i64 n.op)
 c1:w.cell? ⟨b,off+1,none⟩=some (.int .i64 n.n)
 c2:w.cell? ⟨b,off+2,none⟩=some (.string n.s)
 c3:w.cell? ⟨b,off+3,none⟩=some (.string n.t)
 c4:w.cell? ⟨b,off+4,none⟩=some v
 fr:∀ o,w.frozen? ⟨b,o,none⟩=false
 lt:b<w.heap.size
 ne:v.ownBlock≠some b
 kids:gwN w S n v
theorem gwN_form {w:World} {S:Nat->Prop} {n:GNode} {v:Value} (h:gwN w S n v):∃ A c,v= .slice A n.kids.length c:=by
 obtain⟨cells,h1,-⟩:=gwN_eq.1 h
 rcases h1.2 with ⟨rfl,h0⟩ | ⟨g,cap,cur,rfl,_⟩
 · exact⟨none,0,by rw [h0]⟩
 · exact⟨_,cap,rfl⟩
theorem gwN_kid {w:World} {S:Nat->Prop} {n:GNode} {v:Value} (h:gwN w S n v) (i:Nat) (hi:i<n.kids.length):∃ b c u,v= .slice (some ⟨b,0,none⟩) n.kids.length c/\S b/\NAt w S b (i*5) n.kids[i] u:=by
 obtain⟨cells,h1,h2,h3,h4⟩:=gwN_eq.1 h
 have hlt:=h1.lt
 obtain⟨u,⟨e0,e1,e2,e3,e4⟩,hu⟩:=gwL_get n.kids cells h4 i hi
 rcases h1.2 with ⟨rfl,h0⟩ | ⟨g,cap,cur,rfl,a1,a2,a3,a4,a5,a6⟩
 · omega
 ·
  have hc:∀ (j:Nat) (x:Value),cells[j]? =some x->w.cell? ⟨g,j,none⟩=some x:=fun j x hx=>by
   rw [Row.cell (t:=45) (cs:=cur) a2]
   rw [<- a6,List.getElem?_take] at hx
   split at hx
   · simpa using hx
   · cases hx
  exact⟨g,cap,u,rfl,h2 g rfl,⟨hc _ _ e0,hc _ _ e1,hc _ _ e2,hc _ _ e3,hc _ _ e4,fun o=>Row.frozen (t:=45) (cs:=cur) a2 o,(hlt g rfl).2,(fun e=>by obtain⟨-,-,k2,-⟩:=gwN_eq.1 hu;exact(k2 g e).2 rfl),gwN_keep (fun b hb=>⟨hb.1,rfl⟩) _ _ hu⟩⟩
theorem NAt.keep {w w':World} {S S':Nat->Prop} {b off:Nat} {n:GNode} {v:Value} (h:NAt w S b off n v) (hs:w.heap.size<=w'.heap.size) (hb:w'.heap[b]? =w.heap[b]?) (hk:∀ b,S b->S' b/\w'.heap[b]? =w.heap[b]?):NAt w' S' b off n v:=by
 have hc:∀ o,w'.cell? ⟨b,o,none⟩=w.cell? ⟨b,o,none⟩:=fun o=>by unfold World.cell?;rw [hb]
 have hf:∀ o,w'.frozen? ⟨b,o,none⟩=w.frozen? ⟨b,o,none⟩:=fun o=>by unfold World.frozen?;rw [hb]
 exact⟨(hc _).trans h.c0,(hc _).trans h.c1,(hc _).trans h.c2,(hc _).trans h.c3,(hc _).trans h.c4,fun o=>(hf o).trans (h.fr o),Nat.lt_of_lt_of_le h.lt hs,h.ne,gwN_keep hk n v h.kids⟩
theorem run_append_C {P:Program} (w:World) (t ty e:TypeId) (z:Value) (size bytes:Nat) (ht:P.underlying t=some (.slice e)) (hi:(P.info? e).map (fun i=>(i.zero,i.size,i.bytes))=some (some z,size,bytes)) (hzs:z.cells.size=size) (hsz:0<size)
 (B:Nat) (v:Value) (n:Nat) (cells:List Value) (hg:w.ownsRow B e size v n cells) (b c m:Nat) (T:TypeId) (es:List Value) (hm:es.length=m*size) (h1:∀ u∈es,u.oneCell'=true) (hr:Row w b T es.toArray) (hB:B<=w.heap.size)
 (hn:n+m<=maxLen) (hbt:(n+m)*bytes<=140737488355328):
 ∃ A' c' w',(Builtin.append_ #[t,t] ty #[v,.slice (some ⟨b,0,none⟩) m c]).run P w= .ok (.slice A' (n+m) c') w'/\w'.ownsRow B e size (.slice A' (n+m) c') (n+m) (cells++es)/\Gr w w' v (.slice A' (n+m) c'):=by
 obtain⟨i,i1,i2,i3,i4⟩:=info_parts hi
 have k3:∀ a,(some ⟨b,0,none⟩:Option Addr)=some a->∀ j u,es[j]? =some u->w.cell? (a.add j)=some u:=fun a ha j u hj=>by
  obtain rfl:(⟨b,0,none⟩:Addr)=a:=by simpa using ha
  have hadd:(⟨b,0,none⟩:Addr).add j=⟨b,0+j,none⟩:=by unfold Addr.add;split<;>simp_all
  rw [hadd,Nat.zero_add,Row.cell (t:=T) (cs:=es.toArray) hr]
  simpa using hj
 obtain⟨v',w',hr,hown,hgr,hat⟩:=run_append_many (P:=P) w B t ty e i z size bytes ht i1 i2 i3 i4 hzs hsz v n cells hg (some ⟨b,0,none⟩) m c es (fun h=>by cases h) hm k3 h1 hn hbt hB
 have hfm:∃ A' c',v'= .slice A' (n+m) c':=by
  rcases hown.2 with ⟨rfl,h0⟩ | ⟨g,cap,cur,rfl,_⟩
  · exact⟨none,0,by rw [h0]⟩
  · exact⟨_,cap,rfl⟩
 obtain⟨A',c',rfl⟩:=hfm
 exact⟨A',c',w',hr,hown,hgr,hat.imp id fun h=>⟨_,h,Nat.le_refl _⟩⟩
theorem wp_append_C {P:Program} {o:Oper} {a:Act} {K:Act->World->Prop} {Q:Exit->Act->World->Prop} (w:World) (s x:Operand) (t:TypeId) (ho:o.op= .call {callee:=.builtin .append,args:=#[s,x],argTypes:=#[t,t]})
 (e:TypeId) (z:Value) (size bytes:Nat) (ht:P.underlying t=some (.slice e)) (hi:(P.info? e).map (fun i=>(i.zero,i.size,i.bytes))=some (some z,size,bytes)) (hzs:z.cells.size=size) (hsz:0<size)
 (B:Nat) (v:Value) (n:Nat) (cells:List Value) (hg:w.ownsRow B e size v n cells) (b c m:Nat) (T:TypeId) (es:List Value) (hm:es.length=m*size) (h1:∀ u∈es,u.oneCell'=true) (hr:Row w b T es.toArray) (hB:B<=w.heap.size)
 (hn:n+m<=maxLen) (hbt:(n+m)*bytes<=140737488355328) (hs:a.eval s=v) (hx:a.eval x= .slice (some ⟨b,0,none⟩) m c)
 (h:∀ A' c' w',w'.ownsRow B e size (.slice A' (n+m) c') (n+m) (cells++es)->Gr w w' v (.slice A' (n+m) c')->K (a.put o.dst (.slice A' (n+m) c')) w'):o.wp P a w K Q:=by
 obtain⟨A',c',w',hr2,h2,h3⟩:=run_append_C (P:=P) w t o.type e z size bytes ht hi hzs hsz B v n cells hg b c m T es hm h1 hr hB hn hbt
 unfold Oper.wp execOp
 simp only [ho,resolve,invoke,builtin,Sem.run_bind,Sem.run_pure,Result.andThen_ok,List.map_toArray,List.map_cons,List.map_nil,hs,hx,hr2]
 exact h A' c' w' h2 h3
theorem wpList_append_C {P:Program} {ops:Array Oper} {rest:List Oper} {o:Oper} {a:Act} {Q:Exit->Act->World->Prop} (w:World) (hgd:o.guard=none) (s x:Operand) (t:TypeId) (ho:o.op= .call {callee:=.builtin .append,args:=#[s,x],argTypes:=#[t,t]})
 (e:TypeId) (z:Value) (size bytes:Nat) (ht:P.underlying t=some (.slice e)) (hi:(P.info? e).map (fun i=>(i.zero,i.size,i.bytes))=some (some z,size,bytes)) (hzs:z.cells.size=size) (hsz:0<size)
 (B:Nat) (v:Value) (n:Nat) (cells:List Value) (hg:w.ownsRow B e size v n cells) (b c m:Nat) (T:TypeId) (es:List Value) (hm:es.length=m*size) (h1:∀ u∈es,u.oneCell'=true) (hr:Row w b T es.toArray) (hB:B<=w.heap.size)
 (hn:n+m<=maxLen) (hbt:(n+m)*bytes<=140737488355328) (hs:a.eval s=v) (hx:a.eval x= .slice (some ⟨b,0,none⟩) m c)
 (h:∀ A' c' w',w'.ownsRow B e size (.slice A' (n+m) c') (n+m) (cells++es)->Gr w w' v (.slice A' (n+m) c')->wpList P ops Q rest (a.put o.dst (.slice A' (n+m) c')) w'):wpList P ops Q (o::rest) a w:=
 wpList_plain hgd fun _ hK=>wp_append_C w s x t ho e z size bytes ht hi hzs hsz B v n cells hg b c m T es hm h1 hr hB hn hbt hs hx fun A' c' w' h2 h3=>hK _ _ (h A' c' w' h2 h3)
theorem step_append_C {P:Program} {ops:Array Oper} {o:Oper} {a:Act} {K:Act->World->Prop} {Q:Exit->Act->World->Prop} {E:Prop} (w:World) (hgd:o.guard=none) (s x:Operand) (t:TypeId) (ho:o.op= .call {callee:=.builtin .append,args:=#[s,x],argTypes:=#[t,t]})
 (e:TypeId) (z:Value) (size bytes:Nat) (ht:P.underlying t=some (.slice e)) (hi:(P.info? e).map (fun i=>(i.zero,i.size,i.bytes))=some (some z,size,bytes)) (hzs:z.cells.size=size) (hsz:0<size)
 (B:Nat) (v:Value) (n:Nat) (cells:List Value) (hg:w.ownsRow B e size v n cells) (b c m:Nat) (T:TypeId) (es:List Value) (hm:es.length=m*size) (h1:∀ u∈es,u.oneCell'=true) (hr:Row w b T es.toArray) (hB:B<=w.heap.size)
 (hn:n+m<=maxLen) (hbt:(n+m)*bytes<=140737488355328) (hs:a.eval s=v) (hx:a.eval x= .slice (some ⟨b,0,none⟩) m c)
 (h:∀ A' c' w',w'.ownsRow B e size (.slice A' (n+m) c') (n+m) (cells++es)->Gr w w' v (.slice A' (n+m) c')->K (a.put o.dst (.slice A' (n+m) c')) w'):if Region.wanted o (yielded ops a.tmps)=true then Oper.wp P o a w K Q else E:=by
 have hw:Region.wanted o (yielded ops a.tmps)=true:=by simp [Region.wanted,hgd]
 rw [if_pos hw]
 exact wp_append_C w s x t ho e z size bytes ht hi hzs hsz B v n cells hg b c m T es hm h1 hr hB hn hbt hs hx h
set_option maxHeartbeats 2000000
mutual
def wideN:GNode->Bool | .mk _ _ _ _ kids=>decide (kids.length<=250)&&wideL kids
def wideL:List GNode->Bool | []=>true | k::r=>wideN k&&wideL r
end
theorem wideN_eq {n:GNode}:wideN n=true ↔ n.kids.length<=250/\wideL n.kids=true:=by cases n;simp [wideN,GNode.kids]
theorem wideL_get:∀ (l:List GNode),wideL l=true->∀ i (h:i<l.length),wideN l[i]=true
 | [],_,i,h=>absurd h (Nat.not_lt_zero _)
 | k::r,hw,0,h=>by simp only [wideL,Bool.and_eq_true] at hw;exact hw.1
 | k::r,hw,i+1,h=>by simp only [wideL,Bool.and_eq_true] at hw;simpa using wideL_get r hw.2 i (by simpa using h)
theorem nd_one {op n:Int} {s t:ByteArray} {v:Value} (h:v.oneCell'=true):∀ u∈[Value.int .i64 op,.int .i64 n,.string s,.string t,v],u.oneCell'=true:=by
 intro u hu
 simp only [List.mem_cons,List.not_mem_nil,or_false] at hu
 rcases hu with rfl | rfl | rfl | rfl | rfl
 · rfl
 · rfl
 · rfl
 · rfl
 · exact h
def ToGw (t:GNode) (w:World) (e:Ending) (w':World):Prop:=∃ v,e= .returned (.agg #[.int .i64 t.op,.int .i64 t.n,.string t.s,.string t.t,v])/\gwN w' (fun b=>w.heap.size<=b/\b<w'.heap.size) t v/\Below w.heap.size w w'
def gwA (w:World) (B:Nat) (v:Value) (l:List GNode):Prop:=∃ cells,w.ownsRow 0 45 5 v l.length cells/\(∀ q,v.ownBlock=some q->B<=q)/\gwL w (fun q=>B<=q/\q<w.heap.size/\v.ownBlock≠some q) l cells
theorem gwA.keep {w w':World} {B:Nat} {v:Value} {l:List GNode} (h:gwA w B v l) (hs:w.heap.size<=w'.heap.size) (hk:∀ q,B<=q->q<w.heap.size->w'.heap[q]? =w.heap[q]?):gwA w' B v l:=by
 obtain⟨cells,h1,h2,h3⟩:=h
 exact⟨cells,own_kp h1 fun b hb _ hl=>hk b (h2 b hb) hl,h2,gwL_keep (fun b hb=>⟨⟨hb.1,Nat.lt_of_lt_of_le hb.2.1 hs,hb.2.2⟩,hk b hb.1 hb.2.1⟩) _ _ h3⟩
theorem gwA.below {w w':World} {B:Nat} {v:Value} {l:List GNode} (h:gwA w B v l) (hb:Below w.heap.size w w'):gwA w' B v l:=h.keep hb.size fun q _ hq=>hb.block q hq
theorem specNodeCopy (k:Nat):∀ (t:GNode) (A1:Option Addr) (c1:Nat) (w:World),t.bulk<k->wideN t=true->GNode.At w (Lt w.heap.size) A1 c1 t->
 Calls Tryz.prog 45 #[.agg #[.int .i64 t.op,.int .i64 t.n,.string t.s,.string t.t,.slice A1 t.kids.length c1]] w (ToGw t w):=by
 induction k with
 | zero=>intro t A1 c1 w hk;omega
 | succ k ih=>
  intro t A1 c1 w hk h1 hat
  have hbe:=t.bulk_eq
  have hw:=wideN_eq.1 h1
  have hlen:t.kids.length<=250:=hw.1
  have HH:=LH (fun(j:Nat) (h:j<t.kids.length) (A1:Option Addr) (c1:Nat) (w:World)=>ih t.kids[j] A1 c1 w (by have:=bulkL_mem GNode.bulk t.kids _ (List.getElem_mem h);omega) (wideL_get t.kids hw.2 j h))
  have T0:=LH hat
  clear ih hbe hk h1 hat hw
  obtain⟨w0,e0⟩:∃ w0,w0=((w.alloc (.cells #[.int .i64 t.op,.int .i64 t.n,.string t.s,.string t.t,.slice A1 t.kids.length c1] 45)).alloc (.cells #[.int .i64 0,.int .i64 0,.string ⟨#[]⟩,.string ⟨#[]⟩,.slice none 0 0] 45)).alloc (.cells #[.int .i64 t.op,.int .i64 t.n,.string t.s,.string t.t,.slice none 0 0] 45):=⟨_,rfl⟩
  have B0:Below w.heap.size w w0:=by rw [e0];exact(((Below.refl _ _).alloc (Nat.le_refl _) _).alloc (by simp) _).alloc (by simp;omega) _
  have S0:w0.heap.size=w.heap.size+3:=by rw [e0];simp
  have Ra0:Row w0 w.heap.size 45 #[.int .i64 t.op,.int .i64 t.n,.string t.s,.string t.t,.slice A1 t.kids.length c1]:=by rw [e0];exact((Row.new' _ _ _ rfl).alloc _).alloc _
  have Rz0:Row w0 (w.heap.size+1) 45 #[.int .i64 0,.int .i64 0,.string ⟨#[]⟩,.string ⟨#[]⟩,.slice none 0 0]:=by rw [e0];exact(Row.new' _ _ _ (by simp)).alloc _
  have Ro0:Row w0 (w.heap.size+1+1) 45 #[.int .i64 t.op,.int .i64 t.n,.string t.s,.string t.t,.slice none 0 0]:=by rw [e0];exact Row.new' _ _ _ (by simp)
  have HB0:=LH B0
  have HRa0:=LH Ra0
  have HRz0:=LH Rz0
  have HRo0:=LH Ro0
  have hs0:w.heap.size+3<=w0.heap.size:=by omega
  clear B0 S0 Ra0 Rz0 Ro0
  go_enter Tryz.func45,Tryz.ntmps45
  go_wp2_with fail
  rw [<- e0]
  clear e0
  go_loopw [4] (fun i wr=>∃ (j:Nat) (A:Option Addr) (c:Nat),j<=t.kids.length/\i= .int .i64 j/\Hid (gwA wr (w.heap.size+3) (.slice A j c) (t.kids.take j))/\Hid (Row wr w.heap.size 45 #[.int .i64 t.op,.int .i64 t.n,.string t.s,.string t.t,.slice A1 t.kids.length c1])/\Hid (Row wr (w.heap.size+1) 45 #[.int .i64 0,.int .i64 0,.string ⟨#[]⟩,.string ⟨#[]⟩,.slice none 0 0])/\Hid (Row wr (w.heap.size+1+1) 45 #[.int .i64 t.op,.int .i64 t.n,.string t.s,.string t.t,.slice A j c])/\w.heap.size+3<=wr.heap.size/\Below w.heap.size w wr) (fun i _=>t.kids.length - (intOf i).toNat)
  case atStart=>exact⟨0,none,0,by omega,by go_num,LH ⟨[],World.ownsRow_nil _ _ _ _,(fun q h=>by cases h),by simp [gwL]⟩,HRa0,HRz0,HRo0,hs0,HB0.out⟩
  case round=>
   clear HRa0 HRz0 HRo0 HB0 hs0
   obtain⟨j,A,c,hj,rfl,HG,HRa,HRz,HRo,hs3,hbl⟩:=hrel
   have hsz:=hbl.size
   have hca:=fun i=>HRa.out.cell i
   have hco:=fun i=>HRo.out.cell i
   by_cases hlt:j<t.kids.length
   ·
    obtain⟨b,off,A2,c2,eA,hSb,g0,g1,g2,g3,g4,hat⟩:=GNode.elem (T0.out.below hbl (Nat.le_refl _)).2.2.2.2 j hlt
    subst eA
    have hblt:b<wr.heap.size:=Nat.lt_of_lt_of_le hSb hsz
    have hSb':b<w.heap.size:=hSb
    have HA:=LH (hat.keep (S':=Lt wr.drew.heap.size) (w':=wr.drew) fun q hq=>⟨Nat.lt_of_lt_of_le hq hsz,rfl⟩)
    have hlj:(t.kids.take j).length=j:=by rw [List.length_take];omega
    obtain⟨cells,ho,hge,hgl⟩:=HG.out
    rw [hlj] at ho
    have HO:=LH ho
    have HGE:=LH hge
    have HOL:=LH ho.lt
    have HGL:=LH hgl
    clear hat ho hge hgl hlj
    go_wp2_with fail
    go_region_law (first
      | (refine step_append_C (w1.alloc (.cells #[.int .i64 (t.kids[j]).op,.int .i64 (t.kids[j]).n,.string (t.kids[j]).s,.string (t.kids[j]).t,v3] 45)) rfl (.tmp 22) (.tmp 29) 43 rfl 45 zNd 5 72 Tryz.underlying43 (by kernel_rfl) rfl (by omega) 0 (.slice A j c) j cells (HO1.out.alloc _) w1.heap.size 1 1 45 [.int .i64 (t.kids[j]).op,.int .i64 (t.kids[j]).n,.string (t.kids[j]).s,.string (t.kids[j]).t,v3] rfl (nd_one HV3.out) (Row.new' _ _ _ rfl) (Nat.zero_le _) (by unfold maxLen;omega) (by omega) rfl rfl ?_
         intro A4 c4 w2 G2 hGr
         have HG2:=LH G2
         have HGr:=LH hGr
         have Ro3:=LH (hGr.row (Ro1.out.alloc _) (fun e=>by have:=HGE.out _ e;omega))
         have hco3:=fun i=>Ro3.out.cell i
         have hfo3:=fun i=>Ro3.out.frozen i
         clear G2 hGr)
      | (go_simp
         go_at_call 45
         refine(HH.out j hlt A2 c2 _ HA.out).mono ?_
         rintro e w1 ⟨v3,rfl,how,hb1⟩
         have B1:=LH (((Below.refl wr.heap.size wr).drew).trans hb1)
         have Ra1:=LH (HRa.out.below B1.out (by omega))
         have Ro1:=LH (HRo.out.below B1.out (by omega))
         have hca1:=fun i=>Ra1.out.cell i
         have hco1:=fun i=>Ro1.out.cell i
         have hco2:=Ro1.out.lt
         have HO1:=LH (own_kp HO.out fun q _ _ hq=>B1.out.block q hq)
         have HW1:=LH (show gwN w1 (fun q=>wr.heap.size<=q/\q<w1.heap.size) t.kids[j] v3 from how)
         have HV3:=LH (show v3.oneCell'=true by obtain⟨x,y,rfl⟩:=gwN_form how;rfl)
         have hv3:=HV3.out
         clear how hb1))
    all_goals
     go_wp2_with fail
     go_roundw
     case rel=>
      have z1:=B1.out.size
      have z2:w1.heap.size+1<=w2.heap.size:=by have:=HGr.out.size;simpa using this
      have hkg:∀ q,q<w1.heap.size->(Value.slice A j c).ownBlock≠some q->w2.heap[q]? =w1.heap[q]?:=fun q hq hne=>(HGr.out.grow.block q (by simp;omega) fun e=>hne e.symm).trans (Below.heap_alloc _ _ _ hq)
      have hng:∀ q,q<w1.heap.size->(Value.slice A j c).ownBlock≠some q->(Value.slice A4 (j+1) c4).ownBlock≠some q:=fun q hq hne=>HGr.out.ne hne (by simp;omega)
      have hge4:∀ q,(Value.slice A4 (j+1) c4).ownBlock=some q->w.heap.size+3<=q:=fun q hq=>by
       rcases HGr.out.own with h | ⟨g,h,h'⟩
       · exact HGE.out q (h.symm.trans hq)
       · rw [h] at hq
         cases hq
         simp at h'
         omega
      have hold:gwL w2 (fun q=>w.heap.size+3<=q/\q<w2.heap.size/\(Value.slice A4 (j+1) c4).ownBlock≠some q) (t.kids.take j) cells:=gwL_keep (fun q hq=>⟨⟨hq.1,by have:=hq.2.1;omega,hng q (by have:=hq.2.1;omega) hq.2.2⟩,(hkg q (by have:=hq.2.1;omega) hq.2.2).trans (B1.out.block q hq.2.1)⟩) _ _ HGL.out
      have hnew:gwN w2 (fun q=>w.heap.size+3<=q/\q<w2.heap.size/\(Value.slice A4 (j+1) c4).ownBlock≠some q) t.kids[j] v3:=gwN_keep (fun q hq=>by
        have hne:(Value.slice A j c).ownBlock≠some q:=fun e=>by have:=(HOL.out q e).2;have:=hq.1;omega
        exact⟨⟨by have:=hq.1;omega,by have:=hq.2;omega,hng q hq.2 hne⟩,hkg q hq.2 hne⟩) _ _ HW1.out
      have hA:gwA w2 (w.heap.size+3) (.slice A4 (j+1) c4) (t.kids.take (j+1)):=⟨cells++[.int .i64 (t.kids[j]).op,.int .i64 (t.kids[j]).n,.string (t.kids[j]).s,.string (t.kids[j]).t,v3],by rw [show(t.kids.take (j+1)).length=j+1 by rw [List.length_take];omega];exact HG2.out,hge4,by rw [take_snoc' t.kids j hlt];exact gwL_snoc hnew _ _ hold⟩
      have B2:Below (w.heap.size+3) w1 w2:=((Below.refl _ _).alloc (by omega) _).trans (HGr.out.below (B:=w.heap.size+3) (by simp;omega) (fun q hq=>HGE.out q hq))
      have B3:=(hbl.trans (B1.out.mono hsz)).trans (B2.mono (show w.heap.size<=w.heap.size+3 by omega))
      refine⟨j+1,_,_,by omega,by go_num,LH (hA.keep (w':=w2.setCell ⟨w.heap.size+1+1,4,none⟩ (.slice A4 (j+1) c4)) (by simp [World.setCell]) (fun q hq _=>Below.heap_setCell _ ⟨w.heap.size+1+1,4,none⟩ _ q (by simp<;>omega))),LH (((HRa.out.below B1.out (by omega)).below B2 (by omega)).far (p:=⟨w.heap.size+1+1,4,none⟩) (by simp<;>omega) _),LH (((HRz.out.below B1.out (by omega)).below B2 (by omega)).far (p:=⟨w.heap.size+1+1,4,none⟩) (by simp<;>omega) _),LH (Ro3.out.set 4 _),?_,B3.setCell (p:=⟨w.heap.size+1+1,4,none⟩) (by simp<;>omega) _⟩
      have:=B3.size;have:=B1.out.size;simp [World.setCell];omega
     case measure=>simp [intOf];omega
   ·
    have hjl:j=t.kids.length:=by omega
    subst hjl
    have how:=HG.out
    rw [List.take_length] at how
    clear HG hlt hj hca hco
    have hca:=fun i=>HRa.out.cell i
    have hco:=fun i=>HRo.out.cell i
    have hcz:=fun i=>HRz.out.cell i
    have hfz:=fun i=>HRz.out.frozen i
    have BF:=setCells_below hbl (w.heap.size+1) 0 (by omega) [.int .i64 t.op,.int .i64 t.n,.string t.s,.string t.t,.slice A t.kids.length c]
    have SF:(setCells wr (w.heap.size+1) 0 [.int .i64 t.op,.int .i64 t.n,.string t.s,.string t.t,.slice A t.kids.length c]).heap.size=wr.heap.size:=by rw [setCells_size]
    have how2:=how.keep (w':=setCells wr (w.heap.size+1) 0 [.int .i64 t.op,.int .i64 t.n,.string t.s,.string t.t,.slice A t.kids.length c]) (by rw [SF];exact Nat.le_refl _) fun q hq _=>setCells_block _ _ _ _ _ (by omega)
    have HOW:=LH (show gwN (setCells wr (w.heap.size+1) 0 [.int .i64 t.op,.int .i64 t.n,.string t.s,.string t.t,.slice A t.kids.length c]) (fun b=>w.heap.size<=b/\b<(setCells wr (w.heap.size+1) 0 [.int .i64 t.op,.int .i64 t.n,.string t.s,.string t.t,.slice A t.kids.length c]).heap.size) t (.slice A t.kids.length c) by
      obtain⟨cells,k1,k2,k3⟩:=how2
      exact gwN_eq.2 ⟨cells,k1,fun q hq=>⟨by have:=k2 q hq;omega,(k1.lt q hq).2⟩,hlen,gwL_keep (fun q hq=>⟨⟨⟨by have:=hq.1;omega,hq.2.1⟩,hq.2.2⟩,rfl⟩) _ _ k3⟩)
    have HBF:=LH BF
    clear how how2 BF SF
    go_wp2_with fail
    exact bodyPost_ret (v:=.agg #[.int .i64 t.op,.int .i64 t.n,.string t.s,.string t.t,.slice A t.kids.length c]) (by simp [results,Tryz.results45,go_sem,hca,hcz,hco]) rfl ⟨_,rfl,HOW.out,HBF.out⟩
set_option maxRecDepth 100000
def wideP (p:GProg):Bool:=wideN p.main&&decide (p.datas.length<=200)&&p.datas.all fun d=>decide (d.cons.length<=200)
def litW (l:List UInt8):Bool:=match litP l with | some p=>litB p&&wideP p | none=>false
def prg1:ByteArray:=⟨#[100,97,116,97,32,76,105,115,116,32,97,32,61,32,78,105,108,32,124,32,67,111,110,115,32,97,32,40,76,105,115,116,32,97,41,59,10,114,101,99,32,109,97,112,32,102,32,61,32,102,117,110,32,108,32,45,62,32,99,97,115,101,32,108,32,111,102,32,123,32,78,105,108,32,45,62,32,78,105,108,59,32,67,111,110,115,32,120,32,116,32,45,62,32,67,111,110,115,32,40,102,32,120,41,32,40,109,97,112,32,102,32,116,41,32,125,32,105,110,10,114,101,99,32,115,117,109,32,108,32,61,32,99,97,115,101,32,108,32,111,102,32,123,32,78,105,108,32,45,62,32,48,59,32,67,111,110,115,32,120,32,116,32,45,62,32,120,32,43,32,115,117,109,32,116,32,125,32,105,110,10,115,117,109,32,40,109,97,112,32,40,102,117,110,32,120,32,45,62,32,120,32,42,32,120,41,32,40,67,111,110,115,32,49,32,40,67,111,110,115,32,50,32,40,67,111,110,115,32,51,32,78,105,108,41,41,41,41,10]⟩
def prg2:ByteArray:=⟨#[100,97,116,97,32,80,97,105,114,32,97,32,98,32,61,32,80,97,105,114,32,97,32,98,59,10,100,97,116,97,32,66,111,111,108,32,61,32,84,114,117,101,32,124,32,70,97,108,115,101,59,10,108,101,116,32,105,100,32,61,32,102,117,110,32,120,32,45,62,32,120,32,105,110,10,108,101,116,32,112,32,61,32,80,97,105,114,32,40,105,100,32,51,41,32,40,105,100,32,84,114,117,101,41,32,105,110,10,99,97,115,101,32,112,32,111,102,32,123,32,80,97,105,114,32,110,32,84,114,117,101,32,45,62,32,112,117,116,32,40,110,32,43,32,49,41,59,32,80,97,105,114,32,95,32,70,97,108,115,101,32,45,62,32,48,32,125,10]⟩
def prg3:ByteArray:=⟨#[114,101,99,32,102,97,99,116,32,110,32,61,32,105,102,32,110,32,116,104,101,110,32,110,32,42,32,102,97,99,116,32,40,110,32,45,32,49,41,32,101,108,115,101,32,49,32,105,110,10,108,101,116,32,120,32,61,32,112,117,116,32,40,102,97,99,116,32,53,41,32,105,110,10,102,97,99,116,32,50,48,10]⟩
def prg4:ByteArray:=⟨#[100,97,116,97,32,84,114,101,101,32,61,32,76,101,97,102,32,124,32,78,111,100,101,32,84,114,101,101,32,73,110,116,32,84,114,101,101,59,10,114,101,99,32,105,110,115,32,120,32,61,32,102,117,110,32,116,32,45,62,32,99,97,115,101,32,116,32,111,102,32,123,32,76,101,97,102,32,45,62,32,78,111,100,101,32,76,101,97,102,32,120,32,76,101,97,102,59,32,78,111,100,101,32,108,32,121,32,114,32,45,62,32,105,102,32,120,32,60,32,121,32,116,104,101,110,32,78,111,100,101,32,40,105,110,115,32,120,32,108,41,32,121,32,114,32,101,108,115,101,32,78,111,100,101,32,108,32,121,32,40,105,110,115,32,120,32,114,41,32,125,32,105,110,10,114,101,99,32,119,97,108,107,32,116,32,61,32,99,97,115,101,32,116,32,111,102,32,123,32,76,101,97,102,32,45,62,32,48,59,32,78,111,100,101,32,108,32,121,32,114,32,45,62,32,108,101,116,32,97,32,61,32,119,97,108,107,32,108,32,105,110,32,108,101,116,32,98,32,61,32,112,117,116,32,121,32,105,110,32,97,32,43,32,119,97,108,107,32,114,32,43,32,49,32,125,32,105,110,10,119,97,108,107,32,40,105,110,115,32,51,32,40,105,110,115,32,57,32,40,105,110,115,32,49,32,40,105,110,115,32,53,32,76,101,97,102,41,41,41,41,10]⟩
def prg5:ByteArray:=⟨#[100,97,116,97,32,79,112,116,32,97,32,61,32,78,111,110,101,32,124,32,83,111,109,101,32,97,59,10,100,97,116,97,32,76,105,115,116,32,97,32,61,32,78,105,108,32,124,32,67,111,110,115,32,97,32,40,76,105,115,116,32,97,41,59,10,114,101,99,32,102,105,110,100,32,107,32,61,32,102,117,110,32,108,32,45,62,32,99,97,115,101,32,108,32,111,102,32,123,32,78,105,108,32,45,62,32,78,111,110,101,59,32,67,111,110,115,32,40,83,111,109,101,32,120,41,32,116,32,45,62,32,105,102,32,120,32,61,61,32,107,32,116,104,101,110,32,83,111,109,101,32,120,32,101,108,115,101,32,102,105,110,100,32,107,32,116,59,32,67,111,110,115,32,78,111,110,101,32,116,32,45,62,32,102,105,110,100,32,107,32,116,32,125,32,105,110,10,99,97,115,101,32,102,105,110,100,32,50,32,40,67,111,110,115,32,78,111,110,101,32,40,67,111,110,115,32,40,83,111,109,101,32,50,41,32,78,105,108,41,41,32,111,102,32,123,32,78,111,110,101,32,45,62,32,48,59,32,83,111,109,101,32,50,32,45,62,32,50,50,59,32,83,111,109,101,32,110,32,45,62,32,110,32,125,10]⟩
def prg6:ByteArray:=⟨#[114,101,99,32,108,111,111,112,32,110,32,61,32,105,102,32,110,32,116,104,101,110,32,108,111,111,112,32,40,110,32,45,32,49,41,32,101,108,115,101,32,55,32,105,110,32,108,111,111,112,32,54,48,10]⟩
def prg7:ByteArray:=⟨#[100,97,116,97,32,78,97,116,32,61,32,90,32,124,32,83,32,78,97,116,59,10,114,101,99,32,97,100,100,32,97,32,61,32,102,117,110,32,98,32,45,62,32,99,97,115,101,32,97,32,111,102,32,123,32,90,32,45,62,32,98,59,32,83,32,110,32,45,62,32,83,32,40,97,100,100,32,110,32,98,41,32,125,32,105,110,10,108,101,116,32,116,119,111,32,61,32,83,32,40,83,32,90,41,32,105,110,10,108,101,116,32,99,111,109,112,32,61,32,102,117,110,32,102,32,45,62,32,102,117,110,32,103,32,45,62,32,102,117,110,32,120,32,45,62,32,102,32,40,103,32,120,41,32,105,110,10,99,111,109,112,32,40,97,100,100,32,116,119,111,41,32,40,97,100,100,32,116,119,111,41,32,40,83,32,90,41,10]⟩
theorem prg1_ok:litW prg1.data.toList=true/\prg1.size<=3000:=by decide+kernel
theorem prg2_ok:litW prg2.data.toList=true/\prg2.size<=3000:=by decide+kernel
theorem prg3_ok:litW prg3.data.toList=true/\prg3.size<=3000:=by decide+kernel
theorem prg4_ok:litW prg4.data.toList=true/\prg4.size<=3000:=by decide+kernel
theorem prg5_ok:litW prg5.data.toList=true/\prg5.size<=3000:=by decide+kernel
theorem prg6_ok:litW prg6.data.toList=true/\prg6.size<=3000:=by decide+kernel
theorem prg7_ok:litW prg7.data.toList=true/\prg7.size<=3000:=by decide+kernel
def PrgT (s:ByteArray):Prop:=litW s.data.toList=true/\s.size<=3000
theorem prgs_ok:∀ s∈[prg1,prg2,prg3,prg4,prg5,prg6,prg7],PrgT s:=by
 intro s hs
 simp only [List.mem_cons,List.not_mem_nil,or_false] at hs
 rcases hs with rfl | rfl | rfl | rfl | rfl | rfl | rfl
 · exact prg1_ok
 · exact prg2_ok
 · exact prg3_ok
 · exact prg4_ok
 · exact prg5_ok
 · exact prg6_ok
 · exact prg7_ok
theorem parsePrg (s:ByteArray) (h:PrgT s) (w:World):Calls Tryz.prog 46 #[.string s] w fun e w'=>∃ p:GProg,(litB p=true/\wideP p=true)/\PToProg p w e w':=by
 have h1:=h.1
 unfold litW at h1
 split at h1
 · rename_i p hp
   simp only [Bool.and_eq_true] at h1
   exact(parseLit s p hp h1.1 h.2 w).mono fun e w' hh=>⟨p,h1,hh⟩
 · cases h1
theorem own_sl {w:World} {S:Nat->Prop} {B:Nat} {e:TypeId} {size:Nat} {v:Value} {n:Nat} {xs:List D} {cs:List Value} (h:w.ownsRow B e size v n cs) (hn:xs.length=n) (hS:∀ b,v.ownBlock=some b->S b) (hr:rdC w size S xs cs):∃ A c,v= .slice A n c/\Sl w S size A c xs:=by
 rcases h.2 with ⟨rfl,h0⟩ | ⟨g,cap,cur,rfl,a1,a2,a3,a4,a5,a6⟩
 · have:xs= []:=List.eq_nil_of_length_eq_zero (by omega)
   subst this
   exact⟨none,0,by rw [h0],Sl.nil (by unfold maxLen;omega)⟩
 ·
  refine⟨_,cap,rfl,by omega,a4,.inr ⟨g,0,rfl,hS g rfl,?_⟩⟩
  refine rdC_row xs cs 0 (fun j v hj=>?_) hr
  rw [Nat.zero_add,Row.cell (t:=e) (cs:=cur) a2]
  rw [<- a6,List.getElem?_take] at hj
  split at hj
  · simpa using hj
  · cases hj
def gdO (w:World) (S:Nat->Prop) (d:GData) (v:Value):Prop:=
 d.name.size<=maxLen/\(Lit.int .i64 d.vars).wf=true/\d.cons.length<=250/\∃ cells,w.ownsRow 0 37 2 v d.cons.length cells/\(∀ b,v.ownBlock=some b->S b)/\rdC w 2 (fun b=>S b/\v.ownBlock≠some b) (d.cons.map GCon.toD) cells
theorem gdO.keep {w w':World} {S S':Nat->Prop} {d:GData} {v:Value} (h:gdO w S d v) (hk:∀ b,S b->S' b/\w'.heap[b]? =w.heap[b]?):gdO w' S' d v:=by
 obtain⟨h1,h2,h3,cells,h4,h5,h6⟩:=h
 exact⟨h1,h2,h3,cells,own_kp h4 fun b hb _ _=>(hk b (h5 b hb)).2,fun b hb=>(hk b (h5 b hb)).1,rdC_keep (fun b hb=>⟨⟨(hk b hb.1).1,hb.2⟩,(hk b hb.1).2⟩) _ _ h6⟩
theorem gdO.at {w:World} {S:Nat->Prop} {d:GData} {v:Value} (h:gdO w S d v):∃ A c,v= .slice A d.cons.length c/\GData.At w S A c d:=by
 obtain⟨h1,h2,h3,cells,h4,h5,h6⟩:=h
 obtain⟨A,c,e,hs⟩:=own_sl h4 (xs:=d.cons.map GCon.toD) (by simp) h5 (rdC_keep (fun b hb=>⟨hb.1,rfl⟩) _ _ h6)
 exact⟨A,c,e,h1,h2,hs⟩
theorem gdO.rd {w:World} {S:Nat->Prop} {d:GData} {v:Value} (h:gdO w S d v):d.toD.rd w S [.string d.name,.int .i64 d.vars,v]:=by
 obtain⟨A,c,rfl,hat⟩:=h.at
 exact GData.rd_mk hat
def gdL (w:World):(Nat->Prop)->List GData->List Value->Prop
 | _,[],cs=>cs= []
 | S,d::r,cs=>∃ (S1 S2:Nat->Prop) (v:Value) (rest:List Value),(∀ x,S1 x->S x/\¬ S2 x)/\(∀ x,S2 x->S x)/\cs= [.string d.name,.int .i64 d.vars,v]++rest/\gdO w S1 d v/\gdL w S2 r rest
theorem gdL_keep {w w':World}:∀ (l:List GData) (S S':Nat->Prop) (cs:List Value),(∀ b,S b->S' b/\w'.heap[b]? =w.heap[b]?)->gdL w S l cs->gdL w' S' l cs
 | [],S,S',cs,hk,h=>h
 | d::r,S,S',cs,hk,h=>by
  obtain⟨S1,S2,v,rest,h1,h2,h3,h4,h5⟩:=h
  exact⟨S1,S2,v,rest,fun x hx=>⟨(hk x (h1 x hx).1).1,(h1 x hx).2⟩,fun x hx=>(hk x (h2 x hx)).1,h3,h4.keep fun b hb=>⟨hb,(hk b (h1 b hb).1).2⟩,gdL_keep r S2 S2 rest (fun b hb=>⟨hb,(hk b (h2 b hb)).2⟩) h5⟩
theorem gdL_rd {w:World}:∀ (l:List GData) (S:Nat->Prop) (cs:List Value),gdL w S l cs->rdC w 3 S (l.map GData.toD) cs
 | [],S,cs,h=>h
 | d::r,S,cs,h=>by
  obtain⟨S1,S2,v,rest,h1,h2,rfl,h4,h5⟩:=h
  exact rdC_cons ((h4.keep fun b hb=>⟨(h1 b hb).1,rfl⟩).rd) rfl (rdC_keep (fun b hb=>⟨h2 b hb,rfl⟩) _ _ (gdL_rd r S2 rest h5))
theorem gdL_snoc {w:World} {d:GData} {v:Value}:∀ (l:List GData) (S T S1:Nat->Prop) (cs:List Value),gdO w S1 d v->(∀ x,S x->T x/\¬ S1 x)->(∀ x,S1 x->T x)->gdL w S l cs->gdL w T (l++[d]) (cs++[.string d.name,.int .i64 d.vars,v])
 | [],S,T,S1,cs,hd,h1,h2,h=>by
  obtain rfl:cs= []:=h
  exact⟨S1,fun _=>False,v,[],fun x hx=>⟨h2 x hx,fun h=>h⟩,fun x hx=>hx.elim,rfl,hd,rfl⟩
 | a::r,S,T,S1,cs,hd,h1,h2,h=>by
  obtain⟨Sa,Sb,u,rest,k1,k2,rfl,k4,k5⟩:=h
  exact⟨Sa,fun x=>Sb x\/S1 x,u,rest++[.string d.name,.int .i64 d.vars,v],fun x hx=>⟨(h1 x (k1 x hx).1).1,fun hh=>hh.elim (k1 x hx).2 (h1 x (k1 x hx).1).2⟩,fun x hx=>hx.elim (fun h=>(h1 x (k2 x h)).1) (h2 x),by simp,k4,
    gdL_snoc r Sb (fun x=>Sb x\/S1 x) S1 rest hd (fun x hx=>⟨.inl hx,(h1 x (k2 x hx)).2⟩) (fun x hx=>.inr hx) k5⟩
theorem gdL_length {w:World}:∀ (l:List GData) (S:Nat->Prop) (cs:List Value),gdL w S l cs->cs.length=l.length*3
 | [],S,cs,h=>by obtain rfl:cs= []:=h;rfl
 | d::r,S,cs,h=>by
  obtain⟨S1,S2,v,rest,h1,h2,rfl,h4,h5⟩:=h
  have:=gdL_length r S2 rest h5
  simp;omega
theorem gdL_set {w:World}:∀ (l:List GData) (S:Nat->Prop) (cs:List Value),gdL w S l cs->∀ i (hi:i<l.length),∃ (v:Value) (S1:Nat->Prop),(∀ x,S1 x->S x)/\(cs[i*3]? =some (.string l[i].name)/\cs[i*3+1]? =some (.int .i64 l[i].vars)/\cs[i*3+2]? =some v)/\gdO w S1 l[i] v/\
 ∀ (w':World) (S':Nat->Prop) (d':GData) (v':Value) (cs':List Value),d'.toD.rd w' S' [.string d'.name,.int .i64 d'.vars,v']->(∀ b,S b->¬ S1 b->S' b/\w'.heap[b]? =w.heap[b]?)->cs'.length=cs.length->(∀ j,¬ (i*3<=j/\j<i*3+3)->cs'[j]? =cs[j]?)->
  cs'[i*3]? =some (.string d'.name)->cs'[i*3+1]? =some (.int .i64 d'.vars)->cs'[i*3+2]? =some v'->rdC w' 3 S' ((l.set i d').map GData.toD) cs'
 | [],S,cs,h,i,hi=>absurd hi (Nat.not_lt_zero _)
 | d::r,S,cs,h,0,hi=>by
  obtain⟨S1,S2,v,rest,h1,h2,rfl,h4,h5⟩:=h
  refine⟨v,S1,fun x hx=>(h1 x hx).1,⟨rfl,rfl,rfl⟩,h4,fun w' S' d' v' cs' hd hk hl hj e0 e1 e2=>?_⟩
  have hc:cs'= [.string d'.name,.int .i64 d'.vars,v']++rest:=by
   refine List.ext_getElem? fun j=>?_
   match j with
   | 0=>exact e0
   | 1=>exact e1
   | 2=>exact e2
   | j+3=>exact(hj (j+3) (by omega)).trans (by rfl)
  rw [hc]
  exact rdC_cons hd rfl (rdC_keep (fun b hb=>hk b (h2 b hb) fun hb1=>(h1 b hb1).2 hb) _ _ (gdL_rd r S2 rest h5))
 | d::r,S,cs,h,i+1,hi=>by
  obtain⟨S1,S2,v,rest,h1,h2,rfl,h4,h5⟩:=h
  obtain⟨u,T,k1,⟨f0,f1,f2⟩,k3,k4⟩:=gdL_set r S2 rest h5 i (by simpa using hi)
  have hs:∀ j,([.string d.name,.int .i64 d.vars,v]++rest:List Value)[(i+1)*3+j]? =rest[i*3+j]?:=fun j=>by
   rw [show(i+1)*3+j=i*3+j+3 by omega];rfl
  refine⟨u,T,fun x hx=>h2 x (k1 x hx),⟨(hs 0).trans f0,(hs 1).trans f1,(hs 2).trans f2⟩,k3,fun w' S' d' v' cs' hd hk hl hj e0 e1 e2=>?_⟩
  have hc:cs'= [.string d.name,.int .i64 d.vars,v]++cs'.drop 3:=by
   refine List.ext_getElem? fun j=>?_
   match j with
   | 0=>exact hj 0 (by omega)
   | 1=>exact hj 1 (by omega)
   | 2=>exact hj 2 (by omega)
   | j+3=>
    show cs'[j+3]? =(cs'.drop 3)[j]?
    rw [List.getElem?_drop]
    congr 1
    omega
  rw [hc]
  have hd3:∀ j,(cs'.drop 3)[j]? =cs'[j+3]?:=fun j=>by rw [List.getElem?_drop];congr 1;omega
  refine rdC_cons (((h4.keep (w':=w') (S':=S') fun b hb=>hk b (h1 b hb).1 fun hb2=>(h1 b hb).2 (k1 b hb2))).rd) rfl (k4 w' S' d' v' (cs'.drop 3) hd (fun b hb hn=>hk b (h2 b hb) hn) (by simp at hl ⊢;omega) (fun j hjj=>?_) ?_ ?_ ?_)
  · rw [hd3,hj (j+3) (by omega)];rfl
  · rw [hd3,<- e0];congr 1;omega
  · rw [hd3,<- e1];congr 1;omega
  · rw [hd3,<- e2];congr 1;omega
set_option maxHeartbeats 400000
def ToTy (t:GTy) (w:World) (e:Ending) (w':World):Prop:=∃ A1 c1,e= .returned (.agg #[.int .i64 t.op,.int .i64 t.n,.string t.s,.slice A1 t.kids.length c1])/\GTy.Ow w' (Btw w.heap.size w'.heap.size) A1 c1 t/\Below w.heap.size w w'
def zTy:Value:=.agg #[.int .i64 0,.int .i64 0,.string ⟨#[]⟩,.slice none 0 0]
set_option maxHeartbeats 1000000
theorem specTyCopy (k:Nat):∀ (t:GTy) (A1:Option Addr) (c1:Nat) (w:World),t.bulk<k->t.bulk<=1048576->GTy.At w (Lt w.heap.size) A1 c1 t->
 Calls Tryz.prog 52 #[.agg #[.int .i64 t.op,.int .i64 t.n,.string t.s,.slice A1 t.kids.length c1]] w (ToTy t w):=by
 induction k with
 | zero=>intro t A1 c1 w hk;omega
 | succ k ih=>
  intro t A1 c1 w hk h1 hat
  have hbe:=t.bulk_eq
  have hlen:t.kids.length<=1048576:=by have:=bulkL_len GTy.bulk t.kids;omega
  have HH:=LH (fun(j:Nat) (h:j<t.kids.length) (A1:Option Addr) (c1:Nat) (w:World)=>ih t.kids[j] A1 c1 w (by have:=bulkL_mem GTy.bulk t.kids _ (List.getElem_mem h);omega) (by have:=bulkL_mem GTy.bulk t.kids _ (List.getElem_mem h);omega))
  have T0:=LH hat
  clear ih hbe hk h1 hat
  obtain⟨w0,e0⟩:∃ w0,w0=((w.alloc (.cells #[.int .i64 t.op,.int .i64 t.n,.string t.s,.slice A1 t.kids.length c1] 59)).alloc (.cells #[.int .i64 0,.int .i64 0,.string ⟨#[]⟩,.slice none 0 0] 59)).alloc (.cells #[.int .i64 t.op,.int .i64 t.n,.string t.s,.slice none 0 0] 59):=⟨_,rfl⟩
  have B0:Below w.heap.size w w0:=by rw [e0];exact(((Below.refl _ _).alloc (Nat.le_refl _) _).alloc (by simp) _).alloc (by simp;omega) _
  have S0:w0.heap.size=w.heap.size+3:=by rw [e0];simp
  have Ra0:Row w0 w.heap.size 59 #[.int .i64 t.op,.int .i64 t.n,.string t.s,.slice A1 t.kids.length c1]:=by rw [e0];exact((Row.new' _ _ _ rfl).alloc _).alloc _
  have Rz0:Row w0 (w.heap.size+1) 59 #[.int .i64 0,.int .i64 0,.string ⟨#[]⟩,.slice none 0 0]:=by rw [e0];exact(Row.new' _ _ _ (by simp)).alloc _
  have Ro0:Row w0 (w.heap.size+1+1) 59 #[.int .i64 t.op,.int .i64 t.n,.string t.s,.slice none 0 0]:=by rw [e0];exact Row.new' _ _ _ (by simp)
  have HB0:=LH B0
  have HRa0:=LH Ra0
  have HRz0:=LH Rz0
  have HRo0:=LH Ro0
  have hs0:w.heap.size+3<=w0.heap.size:=by omega
  clear B0 S0 Ra0 Rz0 Ro0
  go_enter Tryz.func52,Tryz.ntmps52
  go_wp2_with fail
  rw [<- e0]
  clear e0
  go_loopw [4] (fun i wr=>∃ (j:Nat) (A:Option Addr) (c:Nat),j<=t.kids.length/\i= .int .i64 j/\Hid (Gow wr (w.heap.size+3) wr.heap.size 59 4 (.slice A j c) j ((t.kids.take j).map GTy.toD))/\Hid (Row wr w.heap.size 59 #[.int .i64 t.op,.int .i64 t.n,.string t.s,.slice A1 t.kids.length c1])/\Hid (Row wr (w.heap.size+1) 59 #[.int .i64 0,.int .i64 0,.string ⟨#[]⟩,.slice none 0 0])/\Hid (Row wr (w.heap.size+1+1) 59 #[.int .i64 t.op,.int .i64 t.n,.string t.s,.slice A j c])/\w.heap.size+3<=wr.heap.size/\Below w.heap.size w wr) (fun i _=>t.kids.length - (intOf i).toNat)
  case atStart=>exact⟨0,none,0,by omega,by go_num,LH (Gow.nil _ _ _ _ _),HRa0,HRz0,HRo0,hs0,HB0.out⟩
  case round=>
   clear HRa0 HRz0 HRo0 HB0 hs0
   obtain⟨j,A,c,hj,rfl,HG,HRa,HRz,HRo,hs3,hbl⟩:=hrel
   have hsz:=hbl.size
   have hca:=fun i=>HRa.out.cell i
   have hco:=fun i=>HRo.out.cell i
   by_cases hlt:j<t.kids.length
   ·
    obtain⟨b,off,A2,c2,eA,hSb,g0,g1,g2,g3,hat⟩:=GTy.elem (T0.out.below hbl (Nat.le_refl _)).2.2.2 j hlt
    subst eA
    have hblt:b<wr.heap.size:=Nat.lt_of_lt_of_le hSb hsz
    have hSb':b<w.heap.size:=hSb
    have HA:=LH (hat.keep (S':=Lt wr.drew.heap.size) (w':=wr.drew) fun q hq=>⟨Nat.lt_of_lt_of_le hq hsz,rfl⟩)
    clear hat
    go_wp2_with fail
    go_region_law (first
      | (refine step_append_D w1 rfl (.tmp 20) (.tmp 27) 35 rfl 59 zTy 4 56 Tryz.underlying35 (by kernel_rfl) rfl (by omega) (w.heap.size+3) wr.heap.size _ j _ HG1.out (t.kids[j]).toD [.int .i64 (t.kids[j]).op,.int .i64 (t.kids[j]).n,.string (t.kids[j]).s,.slice A3 (t.kids[j]).kids.length c3] how1.out (by omega) B1.out.size rfl (by simp [Value.oneCell']) (by omega) (by omega) 59 rfl w1.heap.size rfl rfl ?_
         intro g cap w2 G2 Bq2 hs2 hg2 hgl2
         have G3:=LH G2
         have B2:=LH Bq2
         have Ro3:=LH (Ro1.out.below Bq2 (by omega))
         have hco3:=fun i=>Ro3.out.cell i
         have hfo3:=fun i=>Ro3.out.frozen i
         clear G2 Bq2)
      | (go_simp
         go_at_call 52
         refine(HH.out j hlt A2 c2 _ HA.out).mono ?_
         rintro e w1 ⟨A3,c3,rfl,how,hb1⟩
         have B1:=LH (((Below.refl wr.heap.size wr).drew).trans hb1)
         have Ra1:=LH (HRa.out.below B1.out (by omega))
         have Ro1:=LH (HRo.out.below B1.out (by omega))
         have hca1:=fun i=>Ra1.out.cell i
         have hco1:=fun i=>Ro1.out.cell i
         have hco2:=Ro1.out.lt
         have HG1:=LH (HG.out.below B1.out (Nat.le_refl _))
         have how1:=LH (GTy.own_mk (how.keep (S':=Btw wr.heap.size w1.heap.size) (w':=w1) fun q hq=>⟨hq,rfl⟩))
         clear how hb1))
    all_goals
     go_wp2_with fail
     go_roundw
     case rel=>
      have B3:=(hbl.trans (B1.out.mono hsz)).trans (B2.out.mono (show w.heap.size<=w.heap.size+3 by omega))
      refine⟨j+1,_,_,by omega,by go_num,LH (show Gow (w2.setCell ⟨w.heap.size+1+1,3,none⟩ (.slice (some ⟨g,0,none⟩) (j+1) cap)) (w.heap.size+3) (w2.setCell ⟨w.heap.size+1+1,3,none⟩ (.slice (some ⟨g,0,none⟩) (j+1) cap)).heap.size 59 4 (.slice (some ⟨g,0,none⟩) (j+1) cap) (j+1) ((t.kids.take (j+1)).map GTy.toD) from ?_),LH (((HRa.out.below B1.out (by omega)).below B2.out (by omega)).far (p:=⟨w.heap.size+1+1,3,none⟩) (by simp<;>omega) _),LH (((HRz.out.below B1.out (by omega)).below B2.out (by omega)).far (p:=⟨w.heap.size+1+1,3,none⟩) (by simp<;>omega) _),LH (Ro3.out.set 3 _),?_,B3.setCell (p:=⟨w.heap.size+1+1,3,none⟩) (by simp<;>omega) _⟩
      · rw [take_snoc' t.kids j hlt,List.map_append]
        exact G3.out.keep (by simp [World.setCell]) (fun q hq _=>Below.heap_setCell _ ⟨w.heap.size+1+1,3,none⟩ _ q (by simp<;>omega))
      · have:=B3.size;have:=B1.out.size;simp [World.setCell];omega
     case measure=>simp [intOf];omega
   ·
    have hjl:j=t.kids.length:=by omega
    obtain⟨A',c',eV,how⟩:=HG.out.osl
    obtain⟨rfl,rfl⟩:A=A'/\c=c':=by simpa using eV
    subst hjl
    rw [List.take_length] at how
    clear eV HG hlt hj hca hco
    obtain⟨p0,p1,p2,-⟩:=T0.out
    have hca:=fun i=>HRa.out.cell i
    have hco:=fun i=>HRo.out.cell i
    have hcz:=fun i=>HRz.out.cell i
    have hfz:=fun i=>HRz.out.frozen i
    have BF:=setCells_below hbl (w.heap.size+1) 0 (by omega) [.int .i64 t.op,.int .i64 t.n,.string t.s,.slice A t.kids.length c]
    have SF:(setCells wr (w.heap.size+1) 0 [.int .i64 t.op,.int .i64 t.n,.string t.s,.slice A t.kids.length c]).heap.size=wr.heap.size:=by rw [setCells_size]
    have how2:=how.keep (S':=Btw w.heap.size (setCells wr (w.heap.size+1) 0 [.int .i64 t.op,.int .i64 t.n,.string t.s,.slice A t.kids.length c]).heap.size) (w':=setCells wr (w.heap.size+1) 0 [.int .i64 t.op,.int .i64 t.n,.string t.s,.slice A t.kids.length c]) fun q hq=>⟨⟨by have:=hq.1;omega,by rw [SF];exact hq.2⟩,setCells_block _ _ _ _ _ (by have:=hq.1;omega)⟩
    have HOW:=LH how2
    have HBF:=LH BF
    clear how how2 BF SF
    go_wp2_with fail
    exact bodyPost_ret (v:=.agg #[.int .i64 t.op,.int .i64 t.n,.string t.s,.slice A t.kids.length c]) (by simp [results,Tryz.results52,go_sem,hca,hcz,hco]) rfl ⟨A,c,rfl,⟨p0,p1,p2,HOW.out⟩,HBF.out⟩
theorem specTyCopy' (t:GTy) (A1:Option Addr) (c1:Nat) (w:World) (h1:t.bulk<=1048576) (hat:GTy.At w (Lt w.heap.size) A1 c1 t):
 Calls Tryz.prog 52 #[.agg #[.int .i64 t.op,.int .i64 t.n,.string t.s,.slice A1 t.kids.length c1]] w (ToTy t w):=specTyCopy (t.bulk+1) t A1 c1 w (by omega) h1 hat
end Go.Proofs.YtgbjdhfaklmjcaaGreat
