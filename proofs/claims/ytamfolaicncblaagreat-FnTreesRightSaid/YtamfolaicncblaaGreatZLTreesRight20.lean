/- Texts of the claim LTreesRight in one: TrF TiA TiB TiC. Conditions: none but bounds on sizes. -/
import Derived.Test.YtamfolaicncblaaGreatZLTreesRight19
import Derived.Test.YtamfolaicncblaaGreatZLTreesRight2
import Derived.Test.YtamfolaicncblaaGreatZLTreesRight0
import Derived.Test.YtamfolaicncblaaGreatZLTreesRight17
import Derived.Deep.RegionHeld3
import Derived.Lib.SliceRun
namespace Go.Proofs.YtamfolaicncblaaGreat
set_option maxRecDepth 20000
set_option linter.unusedVariables false
set_option linter.unusedSimpArgs false
open Go.RowKit
set_option maxHeartbeats 1000000
theorem growV_over {k many:Nat} {rows:List GTrow} (h:300<many+1):growV k many rows=(zeroT,many+1):=by
 cases k with
 | zero=>rfl
 | succ k=>show growB (growV k) many rows=_;unfold growB;rw [if_pos h]
theorem growV_none {k many:Nat} {rows:List GTrow} (h:¬ 300<many+1) (hr:rows.length=0):growV (k+1) many rows=(.mk 2 0 [] ⟨#[]⟩ [],many+1):=by
 obtain rfl:=List.eq_nil_of_length_eq_zero hr
 show growB (growV k) many []=_;unfold growB;rw [if_neg h]
theorem growV_done {k many:Nat} {rows:List GTrow} (h:¬ 300<many+1) (hr:0<rows.length) (ha:rows[0].asks.length=0):growV (k+1) many rows=(.mk 1 rows[0].alt [] ⟨#[]⟩ [],many+1):=by
 match rows,hr with
 | r::rest,_=>
  have ha2:r.asks= []:=List.eq_nil_of_length_eq_zero ha
  show growB (growV k) many (r::rest)=_;unfold growB;rw [if_neg h];simp only [ha2];rfl
theorem growV_ask {k many:Nat} {rows:List GTrow} (h:¬ 300<many+1) (hr:0<rows.length) (ha:0<rows[0].asks.length):
 growV (k+1) many rows=(askT rows[0].asks[0] [(growV k (many+1) (yesR rows[0].asks[0] rows)).1,(growV k (growV k (many+1) (yesR rows[0].asks[0] rows)).2 (noR rows[0].asks[0] rows)).1],(growV k (growV k (many+1) (yesR rows[0].asks[0] rows)).2 (noR rows[0].asks[0] rows)).2):=by
 match rows,hr with
 | r::rest,_=>
  show growB (growV k) many (r::rest)=_
  unfold growB
  rw [if_neg h]
  simp only [List.getElem_cons_zero] at ha ⊢
  split
  · rename_i e;rw [e] at ha;cases ha
  · rename_i a t e;simp [e]
theorem growV_le:∀ (k many:Nat) (rows:List GTrow),(growV k many rows).2<=max (many+1) (301+k)
 | 0,many,rows=>Nat.le_max_left _ _
 | k+1,many,rows=>by
  by_cases h:300<many+1
  · rw [growV_over h];exact Nat.le_max_left _ _
  ·
   by_cases hr:0<rows.length
   · by_cases ha:0<rows[0].asks.length
     · rw [growV_ask h hr ha]
       have h1:=growV_le k (many+1) (yesR rows[0].asks[0] rows)
       have h2:=growV_le k (growV k (many+1) (yesR rows[0].asks[0] rows)).2 (noR rows[0].asks[0] rows)
       show(growV k (growV k (many+1) (yesR rows[0].asks[0] rows)).2 (noR rows[0].asks[0] rows)).2<=_
       omega
     · rw [growV_done h hr (by omega)];exact Nat.le_max_left _ _
   · rw [growV_none h (by omega)];exact Nat.le_max_left _ _
def askO (a:GAsk):Int:=if a.pat.op=20 then 3 else 4
def askN (a:GAsk):Int:=if a.pat.op=20 then 0 else a.pat.n
def askS (a:GAsk):ByteArray:=if a.pat.op=20 then a.pat.s else⟨#[]⟩
theorem askT_eq (a:GAsk) (kids:List GTree):askT a kids= .mk (askO a) (askN a) a.path (askS a) kids:=by
 unfold askT askO askN askS;split<;>rfl
theorem yesR_len (a:GAsk) (rows:List GTrow):(yesR a rows).length<=rows.length:=List.length_filterMap_le _ _
theorem noR_len (a:GAsk) (rows:List GTrow):(noR a rows).length<=rows.length:=List.length_filter_le _ _
theorem ownR_ints {w:World} {S T:Nat->Prop} {b:Nat}:∀ (l:List Int) (off:Nat),D.rdR w S 1 b (l.map (D.num .i64)) off->D.ownR w 1 b (l.map (D.num .i64)) T off
 | [],_,_=>by simp only [List.map_nil,D.ownR]
 | d::r,off,h=>by
  simp only [List.map_cons,D.rdR,D.ownR] at h ⊢
  obtain⟨⟨cs,h1,h2,h3⟩,h4⟩:=h
  exact⟨fun _=>False,T,cs,fun x hx=>hx.elim,fun x hx=>hx,h1,h2,D.own_num.2 (D.rd_num.1 h3),ownR_ints r (off+1) h4⟩
theorem Grx.oslOwn {X:Nat->Prop} {w:World} {B:Nat} {e:TypeId} {v:Value} {n:Nat} {l:List Int} (h:Grx X w B e 1 v n (l.map (D.num .i64))):∃ A c,v= .slice A n c/\Osl w (fun b=>v.ownBlock=some b) 1 A c (l.map (D.num .i64)):=by
 obtain⟨h1,cs,h2,h4⟩:=h
 rw [List.length_map] at h1
 rcases h2.2 with ⟨rfl,h⟩ | ⟨g,cap,cur,rfl,a1,a2,a3,a4,a5,a6⟩
 · have:l= []:=List.eq_nil_of_length_eq_zero (by omega)
   subst this
   exact⟨none,0,by rw [h],Osl.nil (by unfold maxLen;omega)⟩
 ·
  refine⟨_,cap,rfl,by rw [List.length_map];omega,a4,.inr ⟨g,rfl,rfl,fun o=>Row.frozen (t:=e) (cs:=cur) a2 o,ownR_ints (S:=fun _=>True) l 0 ?_⟩⟩
  refine rdC_row (l.map (D.num .i64)) cs 0 (fun j v hj=>?_) (rdC_ints l cs h4)
  rw [Nat.zero_add,Row.cell (t:=e) (cs:=cur) a2]
  rw [<- a6,List.getElem?_take] at hj
  split at hj
  · simpa using hj
  · cases hj
def Gxo (w:World) (S:Nat->Prop) (A:Option Addr) (c:Nat) (l:List Int):Prop:=Grx AnyB w 0 3 1 (.slice A l.length c) l.length (l.map (D.num .i64))/\∀ b,(Value.slice A l.length c).ownBlock=some b->S b
theorem Gxo.of {w w':World} {B:Nat} {S:Nat->Prop} {A:Option Addr} {c:Nat} {l:List Int} (h:Grx AnyB w B 3 1 (.slice A l.length c) l.length (l.map (D.num .i64))) (hk:∀ b,(Value.slice A l.length c).ownBlock=some b->S b/\w'.heap[b]? =w.heap[b]?):Gxo w' S A c l:=by
 refine⟨?_,fun b hb=>(hk b hb).1⟩
 obtain⟨h1,cs,h2,h4⟩:=h
 refine⟨h1,cs,⟨h2.1,?_⟩,rdC_ints l cs h4⟩
 rcases h2.2 with h | ⟨g,cap,cur,e,a1,a2,a3⟩
 · exact .inl h
 · exact .inr ⟨g,cap,cur,e,Nat.zero_le _,((hk g (by rw [e];rfl)).2).trans a2,a3⟩
theorem Gxo.keep {w w':World} {S S':Nat->Prop} {A:Option Addr} {c:Nat} {l:List Int} (h:Gxo w S A c l) (hk:∀ b,S b->S' b/\w'.heap[b]? =w.heap[b]?):Gxo w' S' A c l:=Gxo.of h.1 fun b hb=>hk b (h.2 b hb)
theorem Gxo.osl {w:World} {S:Nat->Prop} {A:Option Addr} {c:Nat} {l:List Int} (h:Gxo w S A c l):Osl w S 1 A c (l.map (D.num .i64)):=by
 obtain⟨A5,c5,e5,h5⟩:=h.1.oslOwn
 obtain⟨rfl,rfl⟩:A=A5/\c=c5:=by simpa using e5
 exact h5.keep fun b hb=>⟨h.2 b hb,rfl⟩
theorem Gxo.nil (w:World) (S:Nat->Prop):Gxo w S none 0 []:=⟨Grx.nil _ _ _ _ _,fun b hb=>by cases hb⟩
def TGx (w:World) (S:Nat->Prop) (A1:Option Addr) (c1:Nat) (A2:Option Addr) (c2:Nat) (t:GTree):Prop:=Gxo w S A1 c1 t.path/\Sl w (fun b=>S b/\(Value.slice A1 t.path.length c1).ownBlock≠some b) 5 A2 c2 (t.kids.map GTree.toD)
theorem TGx.keep {w w':World} {S S':Nat->Prop} {A1:Option Addr} {c1:Nat} {A2:Option Addr} {c2:Nat} {t:GTree} (h:TGx w S A1 c1 A2 c2 t) (hk:∀ b,S b->S' b/\w'.heap[b]? =w.heap[b]?):TGx w' S' A1 c1 A2 c2 t:=
 ⟨h.1.keep hk,h.2.keep fun b hb=>⟨⟨(hk b hb.1).1,hb.2⟩,(hk b hb.1).2⟩⟩
theorem TGx.leaf {w:World} {S:Nat->Prop} {op n:Int} {s:ByteArray}:TGx w S none 0 none 0 (.mk op n [] s []):=⟨Gxo.nil _ _,Sl.nil (by unfold maxLen;omega)⟩
theorem oslTwoTree {w:World} {S S1 S2:Nat->Prop} {g:Nat} {T:TypeId} {t1 t2:GTree} {A1 A2 A3 A4:Option Addr} {c1 c2 c3 c4:Nat}
 (hr:Row w g T #[.int .i64 t1.op,.int .i64 t1.n,.slice A1 t1.path.length c1,.string t1.s,.slice A2 t1.kids.length c2,.int .i64 t2.op,.int .i64 t2.n,.slice A3 t2.path.length c3,.string t2.s,.slice A4 t2.kids.length c4])
 (h1:GTree.Ow w S1 A1 c1 A2 c2 t1) (h2:GTree.Ow w S2 A3 c3 A4 c4 t2) (g1:∀ x,S1 x->(S x/\x≠g)/\¬ S2 x) (g2:∀ x,S2 x->S x/\x≠g) (hg:S g):
 Osl w S 5 (some ⟨g,0,none⟩) 2 ([t1,t2].map GTree.toD):=by
 refine⟨by simp,by unfold maxLen;omega,.inr ⟨g,rfl,hg,fun o=>hr.frozen o,?_⟩⟩
 simp only [List.map_cons,List.map_nil,D.ownR]
 refine⟨S1,S2,_,g1,g2,rfl,fun j v hj=>?_,GTree.own_mk h1,S2,fun _=>False,_,fun x hx=>⟨hx,fun h=>h⟩,fun x hx=>hx.elim,rfl,fun j v hj=>?_,GTree.own_mk h2,trivial⟩
 · rw [hr.cell]
   rcases j with _ | _ | _ | _ | _ | j<;>simp at hj ⊢<;>exact hj
 · rw [hr.cell]
   rcases j with _ | _ | _ | _ | _ | j<;>simp at hj ⊢<;>exact hj
theorem indexFuncAsk (K:Nat) (hK:∀ (args:Array Value) (w:World),(callFunc K args).run Tryz.prog w= .ok (.enter K args) w) (caps:Array Value) (p:GAsk->Bool) (l:List GAsk) (A:Option Addr) (c:Nat) (w:World) (hs:Sl w (Lt w.heap.size) 6 A c (l.map GAsk.toD))
 (H:∀ x,x∈l->∀ (A1:Option Addr) (c1:Nat) (A2:Option Addr) (c2:Nat) (w2:World),Below w.heap.size w w2->GAsk.At w2 (Lt w2.heap.size) A1 c1 A2 c2 x->
   Calls Tryz.prog K (#[.agg #[.slice A1 x.path.length c1,.int .i64 x.pat.op,.int .i64 x.pat.n,.string x.pat.s,.string x.pat.t,.slice A2 x.pat.kids.length c2]]++caps) w2 fun e w'=>e= .returned (.bool (p x))/\Below w2.heap.size w2 w'):
 Calls Tryz.prog 83 #[.slice A l.length c,.func (.func K) #[] caps] w fun e w'=>e= .returned (.int .i64 (idxI p l))/\Below w.heap.size w w':=by
 have hlen:l.length<=9223372036854775807:=by simpa using hs.len
 have HH:=LH H
 clear H
 go_enter Tryz.func83,Tryz.ntmps83
 go_wp2_with fail
 go_loopw [8] (fun i wr=>∃ j:Nat,j<=l.length/\i= .int .i64 j/\noneTo p l j/\Below w.heap.size w wr) (fun i _=>l.length - (intOf i).toNat)
 case atStart=>exact⟨0,by omega,by go_num,noneTo_zero p l,Below.refl _ _⟩
 case round=>
  obtain⟨j,hj,rfl,hno,hbl⟩:=hrel
  have Hno:=LH hno
  clear hno
  have hsz:=hbl.size
  by_cases hlt:j<l.length
  ·
   have htr:=GAsk.elem (hs.below hbl (Nat.le_refl _)) j hlt
   obtain⟨b,off,A1,c1,A2,c2,rfl,hSb,g0,g1,g2,g3,g4,g5,hat⟩:=htr
   have hmem:l[j]∈l:=List.getElem_mem hlt
   go_wp2_with fail
   refine(HH.out _ hmem _ _ _ _ _ hbl (hat.below (Below.refl _ _) hsz)).mono ?_
   rintro e w1 ⟨rfl,hb1⟩
   cases he:p l[j]
   · have hn:=LH (noneTo_succ Hno.out hlt he)
     go_wp2_with fail
     go_roundw
     case rel=>exact⟨j+1,by omega,by go_num,hn.out,hbl.trans (hb1.mono hsz)⟩
     case measure=>simp [intOf];omega
   · have hn:=LH (idxI_at Hno.out hlt he)
     go_wp2_with fail
     go_ret
     exact⟨ret_int hn.out.symm,hbl.trans (hb1.mono hsz)⟩
  ·
   have hjl:j=l.length:=by omega
   have Hj:=LH hjl
   clear hjl
   go_wp2_with fail
   go_ret
   exact⟨ret_int (idxI_none (by have:=Hno.out;rw [Hj.out] at this;exact this)).symm,hbl⟩
theorem equalInts (a b:List Int) (A:Option Addr) (c:Nat) (B:Option Addr) (d:Nat) (w:World) (ha:Sl w (Lt w.heap.size) 1 A c (a.map (D.num .i64))) (hb:Sl w (Lt w.heap.size) 1 B d (b.map (D.num .i64))):
 Calls Tryz.prog 85 #[.slice A a.length c,.slice B b.length d] w fun e w'=>e= .returned (.bool (a ==b))/\Below w.heap.size w w':=by
 have SA:=LH ha
 have SB:=LH hb
 have hla:a.length<=9223372036854775807:=by simpa using ha.len
 clear ha hb
 by_cases hl:a.length=b.length
 ·
  have HLE:=LH hl
  have d0:((a.length:Int) != (b.length:Int))=false:=by rw [bne,hl];simp
  clear hl
  go_enter Tryz.func85,Tryz.ntmps85
  go_wp2_with fail
  go_loopw [13] (fun i wr=>∃ (j:Nat),j<=a.length/\i= .int .i64 j/\Hid (∀ i,(h1:i<a.length)->(h2:i<b.length)->i<j->a[i]=b[i])/\Hid (Below w.heap.size w wr)) (fun i _=>a.length - (intOf i).toNat)
  case atStart=>exact⟨0,by omega,by go_num,LH (fun i _ _ h=>by omega),LH (Below.refl _ _)⟩
  case round=>
   obtain⟨j,hj,rfl,HE,HB⟩:=hrel
   by_cases hlt:j<a.length
   ·
    have hlt2:j<b.length:=by have:=HLE.out;omega
    have d1:decide ((j:Int)<(a.length:Int))=true:=decide_eq_true (by omega)
    obtain⟨b1,f1,rfl,hS1,g1,_⟩:=int_elem (SA.out.below HB.out (Nat.le_refl _)) j hlt
    obtain⟨b2,f2,rfl,hS2,g2,_⟩:=int_elem (SB.out.below HB.out (Nat.le_refl _)) j hlt2
    cases he:(a[j] ==b[j])
    ·
     have he2:(a[j] != b[j])=true:=by rw [bne,he];rfl
     have HV:=LH (show(a ==b)=false by
       rw [beq_eq_false_iff_ne]
       intro e
       rw [beq_eq_false_iff_ne] at he
       exact he (by simp [e]))
     go_wp2_with fail
     go_quiet (fail)
     go_wp2_with fail
     go_ret
     exact⟨ret_bool HV.out.symm,HB.out.os,HB.out.tape,HB.out.output,HB.out.size,HB.out.block⟩
    ·
     have he2:(a[j] != b[j])=false:=by rw [bne,he];rfl
     have HE2:=LH (fun i (h1:i<a.length) (h2:i<b.length) (hij:i<j+1)=>show a[i]=b[i] by
       by_cases hh:i<j
       · exact HE.out i h1 h2 hh
       · obtain rfl:i=j:=by omega
         simpa using he)
     go_wp2_with fail
     go_quiet (fail)
     go_wp2_with fail
     go_roundw
     case rel=>exact⟨j+1,by omega,by go_num,HE2,LH ⟨HB.out.os,HB.out.tape,HB.out.output,HB.out.size,HB.out.block⟩⟩
     case measure=>simp [intOf];omega
   · have HV:=LH (show(a ==b)=true by
       rw [beq_iff_eq]
       exact List.ext_getElem HLE.out fun i h1 h2=>HE.out i h1 h2 (by omega))
     go_wp2_with fail
     go_ret
     exact⟨ret_bool HV.out.symm,HB.out⟩
 ·
  have d0:((a.length:Int) != (b.length:Int))=true:=by rw [bne,show((a.length:Int) ==(b.length:Int))=false from by rw [beq_eq_false_iff_ne];omega];rfl
  have HV:=LH (show(a ==b)=false by
    rw [beq_eq_false_iff_ne]
    intro e
    exact hl (by rw [e]))
  clear hl
  go_enter Tryz.func85,Tryz.ntmps85
  go_wp2_with fail
  go_ret
  exact⟨ret_bool HV.out.symm,Below.refl _ _⟩
theorem implSameAsk (p q:GNode) (A:Option Addr) (c:Nat) (B:Option Addr) (d:Nat) (w:World):
 Calls Tryz.prog 86 #[.agg #[.int .i64 p.op,.int .i64 p.n,.string p.s,.string p.t,.slice A p.kids.length c],.agg #[.int .i64 q.op,.int .i64 q.n,.string q.s,.string q.t,.slice B q.kids.length d]] w fun e w'=>e= .returned (.bool (sameP p q))/\Below w.heap.size w w':=by
 have B:=LH (show Below w.heap.size w ((w.alloc (.cells #[.int .i64 p.op,.int .i64 p.n,.string p.s,.string p.t,.slice A p.kids.length c] 49)).alloc (.cells #[.int .i64 q.op,.int .i64 q.n,.string q.s,.string q.t,.slice B q.kids.length d] 49)) from((Below.refl _ _).alloc (Nat.le_refl _) _).alloc (by simp) _)
 cases h1:(p.op ==q.op)
 case' true=>cases h2:(p.s.toList ==q.s.toList)
 case' true.true=>cases h3:(p.n ==q.n)
 all_goals
  go_enter Tryz.func86,Tryz.ntmps86
  go_wp2_with fail
  go_ret
  exact⟨ret_bool (by rw [sameP_def];simp [*]),B.out⟩
theorem implLasting1 (x:GAsk) (A1:Option Addr) (c1:Nat) (A2:Option Addr) (c2:Nat) (w:World):
 Calls Tryz.prog 54 #[.agg #[.slice A1 x.path.length c1,.int .i64 x.pat.op,.int .i64 x.pat.n,.string x.pat.s,.string x.pat.t,.slice A2 x.pat.kids.length c2]] w fun e w'=>e= .returned (.bool (isAnyB x.pat))/\Below w.heap.size w w':=by
 obtain⟨w0,e0⟩:∃ w0,w0=w.alloc (.cells #[.slice A1 x.path.length c1,.int .i64 x.pat.op,.int .i64 x.pat.n,.string x.pat.s,.string x.pat.t,.slice A2 x.pat.kids.length c2] 68):=⟨_,rfl⟩
 have E0:=LH (show Below w.heap.size w w0 by rw [e0];exact(Below.refl _ _).alloc (Nat.le_refl _) _)
 go_enter Tryz.func54,Tryz.ntmps54
 go_wp2_with fail
 rw [<- e0]
 refine(implIsAny x.pat A2 c2 w0).mono ?_
 rintro e w1 ⟨rfl,hb1⟩
 go_wp2_with fail
 go_ret
 exact⟨rfl,E0.out.trans (hb1.mono E0.out.size)⟩
theorem rdC_get {w:World} {size:Nat} {S:Nat->Prop}:∀ (xs:List D) (cs:List Value) (i:Nat) (h:i<xs.length),rdC w size S xs cs->∃ c6:List Value,c6.length=size/\(∀ t v,c6[t]? =some v->cs[i*size+t]? =some v)/\(xs[i]).rd w S c6
 | [],_,i,h,_=>absurd h (by simp)
 | d::r,cs,0,h,hr=>by
  simp only [rdC] at hr
  obtain⟨c1,c2,rfl,hl,h1,h2⟩:=hr
  refine⟨c1,hl,fun t v ht=>?_,h1⟩
  have:=(List.getElem?_eq_some_iff.1 ht).1
  rw [Nat.zero_mul,Nat.zero_add,List.getElem?_append_left this];exact ht
 | d::r,cs,i+1,h,hr=>by
  simp only [rdC] at hr
  obtain⟨c1,c2,rfl,hl,h1,h2⟩:=hr
  obtain⟨c6,k1,k2,k3⟩:=rdC_get r c2 i (by simpa using h) h2
  refine⟨c6,k1,fun t v ht=>?_,by simpa using k3⟩
  have:=k2 t v ht
  rw [List.getElem?_append_right (by rw [hl,Nat.add_mul];omega),hl]
  rw [<- this];congr 1;rw [Nat.add_mul];omega
theorem rdC_mk {w:World} {size:Nat} {S:Nat->Prop}:∀ (xs:List D) (cs:List Value),cs.length=xs.length*size->(∀ i (h:i<xs.length),∃ c6:List Value,c6.length=size/\(∀ t v,c6[t]? =some v->cs[i*size+t]? =some v)/\(xs[i]).rd w S c6)->rdC w size S xs cs
 | [],cs,hl,_=>by simp only [rdC];exact List.eq_nil_of_length_eq_zero (by simpa using hl)
 | d::r,cs,hl,h=>by
  simp only [rdC]
  rw [List.length_cons,Nat.add_mul,Nat.one_mul] at hl
  obtain⟨c6,k1,k2,k3⟩:=h 0 (by simp)
  have e6:cs.take size=c6:=by
   refine List.ext_getElem? fun t=>?_
   by_cases ht:t<size
   · rw [List.getElem?_take_of_lt ht]
     have:=k2 t (c6[t]'(by omega)) (List.getElem?_eq_getElem (by omega))
     rw [Nat.zero_mul,Nat.zero_add] at this
     rw [this,List.getElem?_eq_getElem (by omega)]
   · rw [List.getElem?_eq_none (by rw [List.length_take];omega),List.getElem?_eq_none (by omega)]
  refine⟨cs.take size,cs.drop size,(List.take_append_drop _ _).symm,by rw [List.length_take];omega,by rw [e6];exact k3,rdC_mk r (cs.drop size) (by rw [List.length_drop];omega) fun i hi=>?_⟩
  obtain⟨d6,m1,m2,m3⟩:=h (i+1) (by simpa using hi)
  refine⟨d6,m1,fun t v ht=>?_,by simpa using m3⟩
  rw [List.getElem?_drop,<- m2 t v ht]
  congr 1;rw [Nat.add_mul];omega
def GP (X:Nat->Prop) (w:World) (B:Nat) (e:TypeId) (g c n:Nat) (l:List GAsk):Prop:=
 B<=g/\n<=c/\c<=maxLen/\l.length=n/\∃ cur:Array Value,Row w g e cur/\cur.size=c*6/\∀ i (h:i<l.length),∃ c6:List Value,c6.length=6/\(∀ t v,c6[t]? =some v->cur[i*6+t]? =some v)/\(l[i]).toD.rd w (fun b=>b<w.heap.size/\b≠g/\X b) c6
theorem Grx.gp {X:Nat->Prop} {w:World} {B:Nat} {e:TypeId} {g c n:Nat} {l:List GAsk} (h:Grx X w B e 6 (.slice (some ⟨g,0,none⟩) n c) n (l.map GAsk.toD)):GP X w B e g c n l:=by
 obtain⟨h1,cs,h2,h4⟩:=h
 rw [List.length_map] at h1
 rcases h2.2 with ⟨h,-⟩ | ⟨g',cap,cur,hv,a1,a2,a3,a4,a5,a6⟩
 · cases h
 ·
  simp only [Value.slice.injEq,Option.some.injEq,Addr.mk.injEq,and_true,true_and] at hv
  obtain⟨rfl,rfl⟩:=hv
  refine⟨a1,a3,a4,h1,cur,a2,a5,fun i hi=>?_⟩
  obtain⟨c6,k1,k2,k3⟩:=rdC_get _ cs i (by simpa using hi) h4
  refine⟨c6,k1,fun t v ht=>?_,?_⟩
  · have:=k2 t v ht
    rw [<- a6,List.getElem?_take] at this
    split at this
    · simpa using this
    · cases this
  · rw [List.getElem_map] at k3
    exact D.rd_keep (fun b hb=>⟨⟨hb.1,fun e=>hb.2.1 (by rw [e];rfl),hb.2.2⟩,rfl⟩) _ _ k3
theorem GP.grx {X:Nat->Prop} {w:World} {B:Nat} {e:TypeId} {g c n:Nat} {l:List GAsk} (h:GP X w B e g c n l):Grx X w B e 6 (.slice (some ⟨g,0,none⟩) n c) n (l.map GAsk.toD):=by
 obtain⟨h1,h2,h3,h4,cur,h5,h6,h7⟩:=h
 have hlen:(cur.toList.take (n*6)).length=n*6:=by rw [List.length_take,Array.length_toList,h6];omega
 refine⟨by simpa using h4,cur.toList.take (n*6),⟨hlen,.inr ⟨g,c,cur,rfl,h1,h5,h2,h3,h6,rfl⟩⟩,rdC_mk _ _ (by rw [hlen,List.length_map,h4]) fun i hi=>?_⟩
 obtain⟨c6,k1,k2,k3⟩:=h7 i (by simpa using hi)
 refine⟨c6,k1,fun t v ht=>?_,?_⟩
 · have ht6:=(List.getElem?_eq_some_iff.1 ht).1
   rw [List.length_map] at hi
   rw [List.getElem?_take_of_lt (by omega)]
   simpa using k2 t v ht
 · rw [List.getElem_map]
   exact D.rd_keep (fun b hb=>⟨⟨hb.1,fun e=>hb.2.1 (by have:some g=some b:=e;cases this;rfl),hb.2.2⟩,rfl⟩) _ _ k3
theorem GP.below {X:Nat->Prop} {w w':World} {B:Nat} {e:TypeId} {g c n:Nat} {l:List GAsk} (h:GP X w B e g c n l) (hb:Below w.heap.size w w'):GP X w' B e g c n l:=by
 obtain⟨h1,h2,h3,h4,cur,h5,h6,h7⟩:=h
 refine⟨h1,h2,h3,h4,cur,h5.below hb h5.lt,h6,fun i hi=>?_⟩
 obtain⟨c6,k1,k2,k3⟩:=h7 i hi
 exact⟨c6,k1,k2,D.rd_keep (fun b hb2=>⟨⟨Nat.lt_of_lt_of_le hb2.1 hb.size,hb2.2⟩,hb.block b hb2.1⟩) _ _ k3⟩
theorem GP.set {X:Nat->Prop} {w:World} {B:Nat} {e:TypeId} {g c n:Nat} {l:List GAsk} (h:GP X w B e g c n l) (i:Nat) (hi:i<l.length) (x:GAsk) (cs:List Value) (hcs:cs.length=6) (hx:x.toD.rd w (fun b=>b<w.heap.size/\b≠g/\X b) cs):GP X (setCells w g (i*6) cs) B e g c n (l.set i x):=by
 obtain⟨h1,h2,h3,h4,cur,h5,h6,h7⟩:=h
 obtain⟨cur',r1,r2,r3,r4⟩:=setCells_row h5 (i*6) cs
 have hk:∀ (d:D) (v:List Value),d.rd w (fun b=>b<w.heap.size/\b≠g/\X b) v->d.rd (setCells w g (i*6) cs) (fun b=>b<(setCells w g (i*6) cs).heap.size/\b≠g/\X b) v:=fun d v hd=>
  D.rd_keep (fun b hb=>⟨by rw [setCells_size];exact hb,setCells_block w g (i*6) cs b hb.2.1⟩) d v hd
 refine⟨h1,h2,h3,by rw [List.length_set];exact h4,cur',r1,by rw [r2];exact h6,fun j hj=>?_⟩
 rw [List.length_set] at hj
 by_cases hij:i=j
 · subst hij
   refine⟨cs,hcs,fun t v ht=>r4 t v ht ?_,by rw [List.getElem_set_self];exact hk _ _ hx⟩
   have:=(List.getElem?_eq_some_iff.1 ht).1
   omega
 · obtain⟨c6,k1,k2,k3⟩:=h7 j hj
   refine⟨c6,k1,fun t v ht=>?_,by rw [List.getElem_set_ne hij];exact hk _ _ k3⟩
   have:=(List.getElem?_eq_some_iff.1 ht).1
   rw [r3 _ (by omega)]
   exact k2 t v ht
theorem GP.cut {X:Nat->Prop} {w:World} {B:Nat} {e:TypeId} {g c n:Nat} {l:List GAsk} (h:GP X w B e g c n l) (i:Nat) (hi:i<=n) (vs:List Value):GP X (setCells w g (i*6) vs) B e g c i (l.take i):=by
 obtain⟨h1,h2,h3,h4,cur,h5,h6,h7⟩:=h
 obtain⟨cur',r1,r2,r3,r4⟩:=setCells_row h5 (i*6) vs
 refine⟨h1,by omega,h3,by rw [List.length_take];omega,cur',r1,by rw [r2];exact h6,fun j hj=>?_⟩
 rw [List.length_take] at hj
 obtain⟨c6,k1,k2,k3⟩:=h7 j (by omega)
 refine⟨c6,k1,fun t v ht=>?_,?_⟩
 · have:=(List.getElem?_eq_some_iff.1 ht).1
   rw [r3 _ (by omega)]
   exact k2 t v ht
 · rw [List.getElem_take]
   exact D.rd_keep (fun b hb=>⟨by rw [setCells_size];exact hb,setCells_block w g (i*6) vs b hb.2.1⟩) _ _ k3
theorem setCells_kit (g:Nat):∀ (vs:List Value) (k:Nat) (w:World),w.setCells g k vs=setCells w g k vs
 | [],_,_=>rfl
 | v::r,k,w=>by simp only [World.setCells,setCells,setCells_kit g r (k+1)]
theorem setCells_gr (w:World) (g k:Nat) (vs:List Value) (n c:Nat):Gr w (setCells w g k vs) (.slice (some ⟨g,0,none⟩) n c) (.slice (some ⟨g,0,none⟩) n c):=by
 have hb:=setCells_below (Below.refl 0 w) g k (Nat.zero_le _) vs
 exact⟨⟨hb.os,hb.tape,hb.output,hb.size,fun b hb2 hne=>setCells_block w g k vs b fun e=>hne (by rw [e];rfl)⟩,.inl rfl⟩
theorem GP.elem {X:Nat->Prop} {w:World} {B:Nat} {e:TypeId} {g c n:Nat} {l:List GAsk} (h:GP X w B e g c n l) (i:Nat) (hi:i<l.length):
 ∃ A1 c1 A2 c2,w.cell? ⟨g,i*6,none⟩=some (.slice A1 l[i].path.length c1)/\w.cell? ⟨g,i*6+1,none⟩=some (.int .i64 l[i].pat.op)/\w.cell? ⟨g,i*6+2,none⟩=some (.int .i64 l[i].pat.n)/\w.cell? ⟨g,i*6+3,none⟩=some (.string l[i].pat.s)/\w.cell? ⟨g,i*6+4,none⟩=some (.string l[i].pat.t)/\w.cell? ⟨g,i*6+5,none⟩=some (.slice A2 l[i].pat.kids.length c2)/\GAsk.At w (fun b=>b<w.heap.size/\b≠g/\X b) A1 c1 A2 c2 l[i]:=by
 obtain⟨h1,h2,h3,h4,cur,h5,h6,h7⟩:=h
 obtain⟨c6,k1,k2,k3⟩:=h7 i hi
 obtain⟨A1,c1,A2,c2,rfl,hat⟩:=GAsk.rd k3
 exact⟨A1,c1,A2,c2,(h5.cell _).trans (k2 0 _ rfl),(h5.cell _).trans (k2 1 _ rfl),(h5.cell _).trans (k2 2 _ rfl),(h5.cell _).trans (k2 3 _ rfl),(h5.cell _).trans (k2 4 _ rfl),(h5.cell _).trans (k2 5 _ rfl),hat⟩
theorem GP.frozen {X:Nat->Prop} {w:World} {B:Nat} {e:TypeId} {g c n:Nat} {l:List GAsk} (h:GP X w B e g c n l) (o:Nat):w.frozen? ⟨g,o,none⟩=false:=by
 obtain⟨h1,h2,h3,h4,cur,h5,h6,h7⟩:=h
 exact h5.frozen o
theorem GP.some {X:Nat->Prop} {w:World} {B:Nat} {e:TypeId} {g c n:Nat} {l:List GAsk} (h:GP X w B e g c n l) (o:Nat) (ho:o<n*6):(w.cell? ⟨g,o,none⟩).isSome=true:=by
 obtain⟨h1,h2,h3,h4,cur,h5,h6,h7⟩:=h
 rw [h5.cell,Array.getElem?_eq_getElem (by omega)];rfl
theorem GP.lt {X:Nat->Prop} {w:World} {B:Nat} {e:TypeId} {g c n:Nat} {l:List GAsk} (h:GP X w B e g c n l):B<=g/\g<w.heap.size:=by
 obtain⟨h1,h2,h3,h4,cur,h5,h6,h7⟩:=h
 exact⟨h1,h5.lt⟩
theorem run_clear_any {P:Program} (w:World) (t e ty:TypeId) (z:Value) (ht:P.underlying t=some (.slice e)) (hv:∀ w,(zeroValue e).run P w= .ok z w) (b o n c:Nat) (hn:0<n) (h1:∀ v∈(Builtin.zeroCells z.cells n).toList,v.oneCell'=true)
 (hc:∀ j,j<(Builtin.zeroCells z.cells n).toList.length->(w.cell? ⟨b,o+j,none⟩).isSome=true) (hf:∀ j,j<(Builtin.zeroCells z.cells n).toList.length->w.frozen? ⟨b,o+j,none⟩=false):
 (Builtin.clear_ #[t] ty #[.slice (some ⟨b,o,none⟩) n c]).run P w= .ok (.tuple #[]) (setCells w b o (Builtin.zeroCells z.cells n).toList):=by
 have hst:=run_storeCells_cells (P:=P) b o (Builtin.zeroCells z.cells n).toList 0 w (by simpa using hc) (by simpa using hf) h1
 simp only [Nat.add_zero] at hst
 rw [setCells_kit] at hst
 obtain⟨m,rfl⟩:∃ m,n=m+1:=⟨n - 1,by omega⟩
 simp [Builtin.clear_,run_underlying ht,hv,hst]
theorem zeroAsk6 (n:Nat):(Builtin.zeroCells zAsk.cells n).toList.length=n*6:=by
 rw [Array.length_toList,size_zeroCells];rfl
theorem zeroAsk_one (n:Nat):∀ v∈(Builtin.zeroCells zAsk.cells n).toList,v.oneCell'=true:=by
 intro v hv
 have h:∀ k,k<6->(zAsk.cells[k]!).oneCell'=true:=by decide
 simp only [Builtin.zeroCells,Array.toList_map,List.mem_map] at hv
 obtain⟨k,-,rfl⟩:=hv
 exact h _ (Nat.mod_lt _ (by decide))
theorem deleteFuncAsk (X:Nat->Prop) (B K:Nat) (hK:∀ (args:Array Value) (w:World),(callFunc K args).run Tryz.prog w= .ok (.enter K args) w) (caps:Array Value) (p:GAsk->Bool) (l:List GAsk) (A:Option Addr) (c:Nat) (w:World) (hl:l.length<=1048577)
 (hG:Grx X w B 68 6 (.slice A l.length c) l.length (l.map GAsk.toD))
 (H:∀ (x:GAsk) (A1:Option Addr) (c1:Nat) (A2:Option Addr) (c2:Nat) (w2:World),Calls Tryz.prog K (#[.agg #[.slice A1 x.path.length c1,.int .i64 x.pat.op,.int .i64 x.pat.n,.string x.pat.s,.string x.pat.t,.slice A2 x.pat.kids.length c2]]++caps) w2 fun e w'=>e= .returned (.bool (p x))/\Below w2.heap.size w2 w'):
 Calls Tryz.prog 53 #[.slice A l.length c,.func (.func K) #[] caps] w fun e w'=>e= .returned (.slice A (l.filter fun x=>!p x).length c)/\Grx X w' B 68 6 (.slice A (l.filter fun x=>!p x).length c) (l.filter fun x=>!p x).length ((l.filter fun x=>!p x).map GAsk.toD)/\Gr w w' (.slice A l.length c) (.slice A (l.filter fun x=>!p x).length c):=by
 have HG:=LH hG
 have HH:=LH H
 have SL:=LH (show Sl w (Lt w.heap.size) 6 A c (l.map GAsk.toD) from by
   obtain⟨A',c',e,h⟩:=hG.slX
   obtain⟨rfl,rfl⟩:A=A'/\c=c':=by simpa using e
   exact h)
 have hcm:l.length<=c:=by simpa using SL.out.1
 have hcm2:c<=9223372036854775807:=by have:=SL.out.2.1;unfold maxLen at this;omega
 clear hG H
 cases ha:l.any p
 ·
  have hi:=idxI_any_false ha
  have HF:=LH (show(l.filter fun x=>!p x)=l from List.filter_eq_self.2 fun x hx=>by rw [List.any_eq_false] at ha;simpa using ha x hx)
  clear ha
  go_enter Tryz.func53,Tryz.ntmps53
  go_wp2_with fail
  refine(indexFuncAsk K hK caps p l A c _ SL.out (fun x hx A1 c1 A2 c2 w2 hb2 _=>HH.out x A1 c1 A2 c2 w2)).mono ?_
  rintro e w1 ⟨rfl,hb1⟩
  rw [hi]
  clear hi
  go_wp2_with fail
  go_ret
  rw [HF.out]
  exact⟨rfl,HG.out.below hb1,Gr.of_below hb1⟩
 ·
  have hi:=idxI_any_true ha
  obtain⟨k0,hk0,e0,hp0,hn0⟩:=idxI_spec (p:=p) (l:=l) (by omega)
  obtain⟨g,off,A1,c1,A2,c2,rfl,-⟩:=GAsk.elem SL.out k0 hk0
  have hoff:off=0:=by
   obtain⟨h1,cs,h2,h4⟩:=HG.out
   rcases h2.2 with ⟨h,-⟩ | ⟨g',cap,cur,hv,-⟩
   · cases h
   · simp only [Value.slice.injEq,Option.some.injEq,Addr.mk.injEq] at hv
     exact hv.1.2.1
  subst hoff
  have HP:=LH hp0
  have HN:=LH hn0
  have GP0:=LH HG.out.gp
  clear ha hi hp0 hn0
  go_enter Tryz.func53,Tryz.ntmps53
  go_wp2_with fail
  refine(indexFuncAsk K hK caps p l _ c _ SL.out (fun x hx A1 c1 A2 c2 w2 hb2 _=>HH.out x A1 c1 A2 c2 w2)).mono ?_
  rintro e w1 ⟨rfl,hb1⟩
  rw [e0]
  clear e0
  have G1:=LH (GP0.out.below hb1)
  have GR1:=LH (Gr.of_below (v:=.slice (some ⟨g,0,none⟩) l.length c) hb1)
  clear hb1
  have hne:((k0:Int) == -1)=false:=beq_eq_false_iff_ne.2 (by omega)
  go_wp2_with fail
  clear hne
  go_loopw [5,6] (fun s5 s6 wr=>∃ (i j:Nat) (zs:List GAsk),s5= .int .i64 i/\s6= .int .i64 j/\i<j/\j<=l.length/\Hid (zs.length=l.length)/\Hid (zs.take i=(l.take j).filter fun x=>!p x)/\Hid (∀ k,j<=k->zs[k]? =l[k]?)/\Hid (GP X wr B 68 g c l.length zs)/\Hid (Gr w wr (.slice (some ⟨g,0,none⟩) l.length c) (.slice (some ⟨g,0,none⟩) l.length c))) (fun _ s6 _=>l.length - (intOf s6).toNat)
  case atStart=>exact⟨k0,k0+1,l,by go_num,by go_num,by omega,by omega,LH rfl,LH (by
    rw [take_snoc' l k0 hk0,List.filter_append,List.filter_eq_self.2 (fun x hx=>by
      obtain⟨i,hi,rfl⟩:=List.getElem_of_mem hx
      rw [List.getElem_take,HN.out i (by simp at hi;omega) (by simp at hi;omega)];rfl)]
    simp [HP.out]),LH (fun _ _=>rfl),G1,GR1⟩
  case round=>
   obtain⟨i,j,zs,rfl,rfl,hij,hj,HL,HT,HX,HGr,HR⟩:=hrel
   by_cases hlt:j<l.length
   ·
    obtain⟨A1,c1,A2,c2,q0,q1,q2,q3,q4,q5,hat⟩:=HGr.out.elem j (by rw [HL.out];exact hlt)
    have hzj:zs[j]'(by rw [HL.out];exact hlt)=l[j]:=by
     have:=HX.out j (Nat.le_refl _)
     rw [List.getElem?_eq_getElem (by rw [HL.out];exact hlt),List.getElem?_eq_getElem hlt] at this
     simpa using this
    rw [hzj] at q0 q1 q2 q3 q4 q5 hat
    clear hzj
    obtain⟨x,hx⟩:∃ x,l[j]=x:=⟨_,rfl⟩
    rw [hx] at q0 q1 q2 q3 q4 q5 hat
    have HXJ:=LH hx
    obtain⟨w2,e2⟩:∃ w2,w2=wr.alloc (.cells #[.slice A1 x.path.length c1,.int .i64 x.pat.op,.int .i64 x.pat.n,.string x.pat.s,.string x.pat.t,.slice A2 x.pat.kids.length c2] 68):=⟨_,rfl⟩
    have E2:=LH (show Below wr.heap.size wr w2 by rw [e2];exact(Below.refl _ _).alloc (Nat.le_refl _) _)
    have R2:=LH (show Row w2 wr.heap.size 68 #[.slice A1 x.path.length c1,.int .i64 x.pat.op,.int .i64 x.pat.n,.string x.pat.s,.string x.pat.t,.slice A2 x.pat.kids.length c2] by rw [e2];exact Row.new _ _ _)
    have HAT:=LH (hat.keep (w':=w2) (S':=fun b=>b<w2.heap.size/\b≠g/\X b) fun b hb=>⟨⟨Nat.lt_of_lt_of_le hb.1 E2.out.size,hb.2⟩,E2.out.block b hb.1⟩)
    have HCL:=LH (fun w3=>HH.out x A1 c1 A2 c2 w3)
    clear hx hat
    go_upto_region 8 with (fail)
    rw [<- e2]
    clear e2 q0 q1 q2 q3 q4 q5
    have hca:=fun i=>R2.out.cell i
    go_wp2_with fail
    refine(HCL.out _).mono ?_
    rintro e w3 ⟨rfl,hb3⟩
    have E3:=LH (E2.out.trans (hb3.mono E2.out.size))
    have R3:=LH (R2.out.below hb3 R2.out.lt)
    have HAT3:=LH (HAT.out.keep (w':=w3) (S':=fun b=>b<w3.heap.size/\b≠g/\X b) fun b hb=>⟨⟨Nat.lt_of_lt_of_le hb.1 hb3.size,hb.2⟩,hb3.block b hb.1⟩)
    have G3:=LH (HGr.out.below E3.out)
    have GR3:=LH (HR.out.trans (Gr.of_below (v:=.slice (some ⟨g,0,none⟩) l.length c) E3.out))
    clear hb3 hca
    cases hp:p x
    ·
     have hc3:=fun i=>R3.out.cell i
     obtain⟨D1,d1,D2,d2,m0,m1,m2,m3,m4,m5,-⟩:=G3.out.elem i (by rw [HL.out];omega)
     have hfz:=fun o=>G3.out.frozen o
     have G4:=LH (G3.out.set i (by rw [HL.out];omega) x [.slice A1 x.path.length c1,.int .i64 x.pat.op,.int .i64 x.pat.n,.string x.pat.s,.string x.pat.t,.slice A2 x.pat.kids.length c2] rfl (GAsk.rd_mk HAT3.out))
     have GR4:=LH (GR3.out.trans (setCells_gr w3 g (i*6) [.slice A1 x.path.length c1,.int .i64 x.pat.op,.int .i64 x.pat.n,.string x.pat.s,.string x.pat.t,.slice A2 x.pat.kids.length c2] l.length c))
     have HN2:=LH (show(zs.set i x).take (i+1)=(l.take (j+1)).filter fun x=>!p x from by
       rw [take_snoc' l j hlt,List.filter_append,<- HT.out,take_snoc' _ i (by simp [HL.out];omega),List.take_set_of_le (Nat.le_refl _),HXJ.out]
       simp [hp])
     have HX2:=LH (show ∀ k,j+1<=k->(zs.set i x)[k]? =l[k]? from fun k hk=>by rw [List.getElem?_set_ne (by omega)];exact HX.out k (by omega))
     clear hp
     go_wp2_with fail
     go_roundw
     case rel=>exact⟨i+1,j+1,zs.set i x,by go_num,by go_num,by omega,by omega,LH (by rw [List.length_set];exact HL.out),HN2,HX2,G4,GR4⟩
     case measure=>simp [intOf];omega
    · have HN2:=LH (show zs.take i=(l.take (j+1)).filter fun x=>!p x from by
        rw [take_snoc' l j hlt,List.filter_append,<- HT.out,HXJ.out]
        simp [hp])
      clear hp
      go_wp2_with fail
      go_roundw
      case rel=>exact⟨i,j+1,zs,by go_num,by go_num,by omega,by omega,HL,HN2,LH (fun k hk=>HX.out k (by omega)),G3,GR3⟩
      case measure=>simp [intOf];omega
   ·
    have HJ:=LH (show j=l.length by omega)
    have HE:=LH (show zs.take i=l.filter fun x=>!p x from by rw [HT.out,HJ.out,List.take_length])
    have HEL:=LH (show(l.filter fun x=>!p x).length=i from by rw [<- HE.out,List.length_take,HL.out];omega)
    have G3:=LH (HGr.out.cut i (by omega) (Builtin.zeroCells zAsk.cells (l.length - i)).toList)
    have GR3:=LH (HR.out.trans (setCells_gr wr g (i*6) (Builtin.zeroCells zAsk.cells (l.length - i)).toList l.length c))
    have hcl:∀ ty,(Builtin.clear_ #[65] ty #[.slice (some ⟨g,i*6,none⟩) (l.length - i) (c - i)]).run Tryz.prog wr= .ok (.tuple #[]) (setCells wr g (i*6) (Builtin.zeroCells zAsk.cells (l.length - i)).toList):=
     fun ty=>run_clear_any wr _ 68 ty zAsk Tryz.underlying65 Tryz.zeroValue68 g (i*6) _ _ (by omega) (zeroAsk_one _)
      (fun t ht=>by rw [zeroAsk6] at ht;exact HGr.out.some _ (by have:=HGr.out.2.2.2.1;omega))
      (fun t ht=>HGr.out.frozen _)
    obtain⟨vs,hvs⟩:∃ vs,(Builtin.zeroCells zAsk.cells (l.length - i)).toList=vs:=⟨_,rfl⟩
    rw [hvs] at G3 GR3 hcl
    clear hvs
    go_wp2_with fail
    go_ret
    rw [HEL.out,<- HE.out]
    exact⟨rfl,G3.out.grx,GR3.out.grow,.inl rfl⟩
theorem implLasting (X:Nat->Prop) (B:Nat) (l:List GAsk) (A:Option Addr) (c:Nat) (w:World) (hl:l.length<=1048577) (hG:Grx X w B 68 6 (.slice A l.length c) l.length (l.map GAsk.toD)):
 Calls Tryz.prog 30 #[.slice A l.length c] w fun e w'=>e= .returned (.slice A (bareA l).length c)/\Grx X w' B 68 6 (.slice A (bareA l).length c) (bareA l).length ((bareA l).map GAsk.toD)/\Gr w w' (.slice A l.length c) (.slice A (bareA l).length c):=by
 have HD:=LH (deleteFuncAsk X B 54 (enters Tryz.func54 (by kernel_rfl) (by kernel_rfl)) #[] (fun x=>isAnyB x.pat) l A c w hl hG (fun x A1 c1 A2 c2 w2=>implLasting1 x A1 c1 A2 c2 w2))
 clear hG
 go_enter Tryz.func30,Tryz.ntmps30
 go_wp2_with fail
 refine HD.out.mono ?_
 rintro e w1 ⟨rfl,hg,hgr⟩
 have HG:=LH hg
 have HR:=LH hgr
 clear hg hgr
 go_wp2_with fail
 go_ret
 exact⟨rfl,HG.out,HR.out⟩
end Go.Proofs.YtamfolaicncblaaGreat
