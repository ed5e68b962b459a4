/- Texts of the claim LTags in one: CheckP. Conditions: none but bounds on sizes. -/
import Derived.Test.YtgbjdhfaklmjcaaGreatZLTags23
import Derived.Test.YtgbjdhfaklmjcaaGreatZLTags13
namespace Go.Proofs.YtgbjdhfaklmjcaaGreat
set_option maxRecDepth 20000
set_option linter.unusedVariables false
set_option linter.unusedSimpArgs false
open Go.RowKit
set_option maxHeartbeats 1000000
def dataI (s:ByteArray) (l:List GData):Int:=idxI (fun d=>d.name.toList ==s.toList) l
theorem tagIn_none {s:ByteArray} {cs:List GCon}:∀ {n:Nat},tagIn s cs n=none ↔ ∀ c∈cs,¬ c.name=s:=by
 induction cs with
 | nil=>simp [tagIn]
 | cons c r ih=>
  intro n
  by_cases h:c.name=s
  · simp [tagIn,h]
  · simp [tagIn,h,ih]
theorem tagIn_at {s:ByteArray}:∀ {cs:List GCon} {n k:Nat} (h:k<cs.length),cs[k].name=s->(tagIn s cs n=some (n+k) ↔ ∀ c∈cs.take k,¬ c.name=s)
 | [],_,_,h,_=>by simp at h
 | c::r,n,0,h,e=>by simp at e;simp [tagIn,e]
 | c::r,n,k+1,h,e=>by
  by_cases hc:c.name=s
  · simp [tagIn,hc]
  · have:=tagIn_at (s:=s) (cs:=r) (n:=n+1) (k:=k) (by simpa using h) (by simpa using e)
    rw [show n+1+k=n+(k+1) by omega] at this
    simp [tagIn,hc,this]
def namesD:List GData->List ByteArray
 | []=>[]
 | d::r=>d.cons.map GCon.name++namesD r
theorem namesD_append (a b:List GData):namesD (a++b)=namesD a++namesD b:=by
 induction a with
 | nil=>rfl
 | cons d r ih=>simp only [List.cons_append,namesD,ih,List.append_assoc]
theorem namesD_take {l:List GData} {j:Nat} (h:j<l.length):namesD (l.take (j+1))=namesD (l.take j)++l[j].cons.map GCon.name:=by
 rw [take_snoc' l j h,namesD_append];simp [namesD]
theorem namesD_length (l:List GData):(namesD l).length=consN l:=by
 induction l with
 | nil=>rfl
 | cons d r ih=>simp [namesD,consN,ih]
theorem conOf_at {s:ByteArray}:∀ {l:List GData} {n j k:Nat} (h:j<l.length) (hk:k<l[j].cons.length),l[j].cons[k].name=s->
 (conOf s l n=some (n+j,k) ↔ (∀ x∈namesD (l.take j),¬ x=s)/\∀ c∈l[j].cons.take k,¬ c.name=s)
 | [],_,_,_,h,_,_=>by simp at h
 | d::r,n,0,k,h,hk,e=>by
  simp only [List.getElem_cons_zero] at hk e
  have:=tagIn_at (s:=s) (cs:=d.cons) (n:=0) (k:=k) hk e
  simp only [List.take_zero,namesD,List.getElem_cons_zero,conOf]
  cases ht:tagIn s d.cons 0 with
  | none=>exact absurd e (tagIn_none.1 ht _ (List.getElem_mem hk))
  | some m=>
   rw [ht] at this
   simp only [Nat.zero_add] at this
   simp only [Option.some.injEq,Prod.mk.injEq,Nat.add_zero,true_and,List.not_mem_nil,false_implies,implies_true]
   rw [<- this];simp
 | d::r,n,j+1,k,h,hk,e=>by
  simp only [List.getElem_cons_succ] at hk e
  have ih:=conOf_at (s:=s) (l:=r) (n:=n+1) (j:=j) (k:=k) (by simpa using h) hk e
  rw [show n+1+j=n+(j+1) by omega] at ih
  simp only [List.take_succ_cons,namesD,List.getElem_cons_succ,conOf,List.mem_append,List.mem_map]
  cases ht:tagIn s d.cons 0 with
  | none=>
   have hn:=tagIn_none.1 ht
   rw [ih]
   constructor
   · rintro⟨a,b⟩
     refine⟨fun x hx=>?_,b⟩
     rcases hx with ⟨c,hc,rfl⟩ | hx
     · exact hn c hc
     · exact a x hx
   · rintro⟨a,b⟩
     exact⟨fun x hx=>a x (.inr hx),b⟩
  | some m=>
   constructor
   · intro h
     simp only [Option.some.injEq,Prod.mk.injEq] at h
     omega
   ·
    rintro⟨a,b⟩
    have:∃ c∈d.cons,c.name=s:=by
     have h1:¬ tagIn s d.cons 0=none:=by rw [ht];simp
     rw [tagIn_none] at h1
     simpa using h1
    obtain⟨c,hc,he⟩:=this
    exact absurd he (a c.name (.inl ⟨c,hc,rfl⟩))
def before (l:List GData) (j k:Nat):List ByteArray:=namesD (l.take j)++match l[j]? with
 | some d=>(d.cons.take k).map GCon.name
 | none=>[]
theorem before_eq {l:List GData} {j k:Nat} (h:j<l.length):before l j k=namesD (l.take j)++(l[j].cons.take k).map GCon.name:=by
 unfold before;rw [List.getElem?_eq_getElem h]
theorem before_zero {l:List GData} {j:Nat} (h:j<l.length):before l j 0=namesD (l.take j):=by
 rw [before_eq h];simp
theorem before_succ {l:List GData} {j k:Nat} (h:j<l.length) (hk:k<l[j].cons.length):before l j (k+1)=before l j k++[l[j].cons[k].name]:=by
 rw [before_eq h,before_eq h,take_snoc' _ k hk,List.map_append,List.append_assoc];rfl
theorem before_end {l:List GData} {j:Nat} (h:j<l.length):before l j l[j].cons.length=namesD (l.take (j+1)):=by
 rw [before_eq h,namesD_take h,List.take_length]
theorem before_len {l:List GData} {j k:Nat} (h:j<l.length) (hk:k<=l[j].cons.length):(before l j k).length=consN (l.take j)+k:=by
 rw [before_eq h];simp [namesD_length];omega
theorem consN_append (a b:List GData):consN (a++b)=consN a+consN b:=by
 induction a with
 | nil=>simp [consN]
 | cons d r ih=>simp only [List.cons_append,consN,ih];omega
theorem consN_take {l:List GData} {j:Nat} (h:j<l.length):consN (l.take (j+1))=consN (l.take j)+l[j].cons.length:=by
 rw [take_snoc' l j h,consN_append];simp [consN]
theorem consN_le (l:List GData) (j:Nat):consN (l.take j)<=consN l:=by
 have:consN l=consN (l.take j)+consN (l.drop j):=by rw [<- consN_append,List.take_append_drop]
 omega
theorem inStrs_before {l:List GData} {j k:Nat} (h:j<l.length) (hk:k<l[j].cons.length):inStrs (before l j k) l[j].cons[k].name= !decide (conOf l[j].cons[k].name l 0=some (j,k)):=by
 have e:=conOf_at (n:=0) h hk rfl
 rw [Nat.zero_add] at e
 rw [Bool.eq_iff_iff]
 simp only [Bool.not_eq_true',decide_eq_false_iff_not]
 rw [e,before_eq h]
 unfold inStrs
 rw [List.any_eq_true]
 simp only [List.mem_append,List.mem_map]
 constructor
 · rintro⟨x,hx,he⟩ ⟨a,b⟩
   have he:x=l[j].cons[k].name:=Classical.byContradiction fun hn=>by rw [name_ne hn] at he;cases he
   rcases hx with hx | ⟨c,hc,rfl⟩
   · exact a x hx he
   · exact b c hc he
 ·
  intro h
  apply Classical.byContradiction
  intro hn
  apply h
  refine⟨fun x hx he=>hn ⟨x,.inl hx,by rw [he];simp⟩,fun c hc he=>hn ⟨c.name,.inr ⟨c,hc,rfl⟩,by rw [he];simp⟩⟩
def Twice (l:List GData):Prop:=∃ j,∃ h:j<l.length,dataI l[j].name l≠j\/∃ k,∃ hk:k<l[j].cons.length,¬ conOf l[j].cons[k].name l 0=some (j,k)
def twiceB (l:List GData):Bool:=(List.range l.length).any fun j=>match l[j]? with
 | some d=>!decide (dataI d.name l=j)||(List.range d.cons.length).any fun k=>match d.cons[k]? with
  | some c=>!decide (conOf c.name l 0=some (j,k))
  | none=>false
 | none=>false
theorem twiceB_iff (l:List GData):twiceB l=true ↔ Twice l:=by
 unfold twiceB Twice
 rw [List.any_eq_true]
 constructor
 ·
  rintro⟨j,hj,h⟩
  have hj:j<l.length:=List.mem_range.1 hj
  rw [List.getElem?_eq_getElem hj] at h
  simp only [Bool.or_eq_true,Bool.not_eq_true',decide_eq_false_iff_not,List.any_eq_true] at h
  refine⟨j,hj,h.imp id ?_⟩
  rintro⟨k,hk,h⟩
  have hk:k<l[j].cons.length:=List.mem_range.1 hk
  rw [List.getElem?_eq_getElem hk] at h
  exact⟨k,hk,by simpa using h⟩
 ·
  rintro⟨j,hj,h⟩
  refine⟨j,List.mem_range.2 hj,?_⟩
  rw [List.getElem?_eq_getElem hj]
  simp only [Bool.or_eq_true,Bool.not_eq_true',decide_eq_false_iff_not,List.any_eq_true]
  refine h.imp id ?_
  rintro⟨k,hk,h⟩
  refine⟨k,List.mem_range.2 hk,?_⟩
  rw [List.getElem?_eq_getElem hk]
  simpa using h
def OnceTo (l:List GData) (j k:Nat):Prop:=(∀ i (h:i<l.length),i<j->dataI l[i].name l=i/\∀ m (hm:m<l[i].cons.length),conOf l[i].cons[m].name l 0=some (i,m))/\∀ h:j<l.length,∀ m (hm:m<l[j].cons.length),m<k->conOf l[j].cons[m].name l 0=some (j,m)
theorem OnceTo.zero (l:List GData):OnceTo l 0 0:=⟨fun i _ h=>by omega,fun _ m _ h=>by omega⟩
theorem OnceTo.con {l:List GData} {j k:Nat} (o:OnceTo l j k) (h:j<l.length) (hk:k<l[j].cons.length) (e:conOf l[j].cons[k].name l 0=some (j,k)):OnceTo l j (k+1):=
 ⟨o.1,fun h m hm hlt=>by
   rcases Nat.lt_or_ge m k with h1 | h1
   · exact o.2 h m hm h1
   · obtain rfl:m=k:=by omega
     exact e⟩
theorem OnceTo.data {l:List GData} {j:Nat} (h:j<l.length) (o:OnceTo l j l[j].cons.length) (e:dataI l[j].name l=j):OnceTo l (j+1) 0:=
 ⟨fun i hi hlt=>by
   rcases Nat.lt_or_ge i j with h1 | h1
   · exact o.1 i hi h1
   · obtain rfl:i=j:=by omega
     exact⟨e,fun m hm=>o.2 hi m hm hm⟩,fun _ m _ h=>by omega⟩
theorem OnceTo.done {l:List GData} (o:OnceTo l l.length 0):twiceB l=false:=by
 rw [<- Bool.not_eq_true,twiceB_iff]
 rintro⟨j,h,e | ⟨k,hk,e⟩⟩
 · exact e (o.1 j h h).1
 · exact e ((o.1 j h h).2 k hk)
theorem twice_data {l:List GData} {j:Nat} (h:j<l.length) (e:¬ dataI l[j].name l=j):twiceB l=true:=(twiceB_iff l).2 ⟨j,h,.inl e⟩
theorem twice_con {l:List GData} {j k:Nat} (h:j<l.length) (hk:k<l[j].cons.length) (e:¬ conOf l[j].cons[k].name l 0=some (j,k)):twiceB l=true:=(twiceB_iff l).2 ⟨j,h,.inr ⟨k,hk,e⟩⟩
mutual
def holdsB (p:GTy->Bool):GTy->Bool | .mk op n s kids=>p (.mk op n s kids)||holdsL p kids
def holdsL (p:GTy->Bool):List GTy->Bool | []=>false | t::r=>holdsB p t||holdsL p r
end
theorem holdsL_any (p:GTy->Bool):∀ l:List GTy,holdsL p l=l.any (holdsB p)
 | []=>rfl
 | t::r=>by simp only [holdsL,List.any_cons,holdsL_any p r]
theorem holdsB_eq (p:GTy->Bool) (t:GTy):holdsB p t=(p t||t.kids.any (holdsB p)):=by
 cases t;simp only [holdsB,GTy.kids,holdsL_any]
theorem holdsB_kid {p:GTy->Bool} {t:GTy} (h:holdsB p t=false):∀ k∈t.kids,holdsB p k=false:=by
 rw [holdsB_eq,Bool.or_eq_false_iff] at h
 intro k hk
 have:=List.any_eq_false.1 h.2 k hk
 simpa using this
def someB (p:GTy->Bool) (l:List GData):Bool:=l.any fun d=>d.cons.any fun c=>c.args.any (holdsB p)
def varsAt (l:List GData) (i:Int):Int:=match l[i.toNat]? with
 | some d=>d.vars
 | none=>0
def badT (l:List GData) (many:Bool) (t:GTy):Bool:=t.op ==4&&(decide (dataI t.s l<0)||(many&&!decide (varsAt l (dataI t.s l)=t.kids.length)))
def badV (l:List GData) (t:GTy):Bool:=t.op ==4&&!decide ((t.kids.length:Int)=varsAt l (dataI t.s l))
theorem bad_vars {l:List GData} (bulk:Nat):∀ (t:GTy),t.bulk<bulk->holdsB (badT l false) t=false->holdsB (badV l) t=holdsB (badT l true) t:=by
 induction bulk with
 | zero=>intro t h;omega
 | succ bulk ih=>
  intro t hb h
  have hk:=holdsB_kid h
  rw [holdsB_eq,Bool.or_eq_false_iff] at h
  rw [holdsB_eq,holdsB_eq]
  have e1:badV l t=badT l true t:=by
   have h1:=h.1
   unfold badT at h1
   unfold badV badT
   cases ho:(t.op ==4)
   · rfl
   · rw [ho] at h1
     have h2:¬ dataI t.s l<0:=by simpa using h1
     simp only [Bool.true_and,decide_eq_false h2,Bool.false_or]
     congr 1
     rw [Bool.eq_iff_iff];simp only [decide_eq_true_eq];omega
  have e2:t.kids.any (holdsB (badV l))=t.kids.any (holdsB (badT l true)):=by
   have hbe:=t.bulk_eq
   rw [Bool.eq_iff_iff,List.any_eq_true,List.any_eq_true]
   have:∀ x∈t.kids,holdsB (badV l) x=holdsB (badT l true) x:=fun x hx=>ih x (by have:=bulkL_mem GTy.bulk t.kids x hx;omega) (hk x hx)
   exact⟨fun⟨x,hx,e⟩=>⟨x,hx,this x hx ▸ e⟩,fun⟨x,hx,e⟩=>⟨x,hx,(this x hx).symm ▸ e⟩⟩
  rw [e1,e2]
theorem someB_arg {p:GTy->Bool} {l:List GData} (h:someB p l=false) {d:GData} (hd:d∈l) {c:GCon} (hc:c∈d.cons) {t:GTy} (ht:t∈c.args):holdsB p t=false:=by
 unfold someB at h
 have h1:=List.any_eq_false.1 h d hd
 have h2:=List.any_eq_false.1 (Bool.not_eq_true _ ▸ h1) c hc
 have h3:=List.any_eq_false.1 (Bool.not_eq_true _ ▸ h2) t ht
 simpa using h3
theorem some_vars {l:List GData} (h:someB (badT l false) l=false):someB (badV l) l=someB (badT l true) l:=by
 have:∀ d∈l,∀ c∈d.cons,∀ t∈c.args,holdsB (badV l) t=holdsB (badT l true) t:=fun d hd c hc t ht=>bad_vars (t.bulk+1) t (by omega) (someB_arg h hd hc ht)
 unfold someB
 rw [Bool.eq_iff_iff]
 simp only [List.any_eq_true]
 constructor
 · rintro⟨d,hd,c,hc,t,ht,e⟩;exact⟨d,hd,c,hc,t,ht,this d hd c hc t ht ▸ e⟩
 · rintro⟨d,hd,c,hc,t,ht,e⟩;exact⟨d,hd,c,hc,t,ht,(this d hd c hc t ht).symm ▸ e⟩
theorem idxI_ge {α:Type} (p:α->Bool):∀ l:List α,-1<=idxI p l
 | []=>by simp [idxI]
 | x::r=>by have:=idxI_ge p r;unfold idxI;split;omega;split<;>omega
theorem dataI_at (s:ByteArray) (l:List GData):dataI s l= -1\/∃ j,∃ h:j<l.length,dataI s l=j:=by
 by_cases h:0<=dataI s l
 · obtain⟨j,hj,e,_⟩:=idxI_spec h
   exact .inr ⟨j,hj,e⟩
 · have:=idxI_ge (fun d:GData=>d.name.toList ==s.toList) l
   unfold dataI at*
   exact .inl (by omega)
theorem varsAt_at {l:List GData} {j:Nat} (h:j<l.length):varsAt l (j:Int)=l[j].vars:=by
 unfold varsAt;rw [Int.toNat_natCast,List.getElem?_eq_getElem h]
theorem any_take {α:Type} {p:α->Bool} {l:List α} {j:Nat} (h:j<l.length):(l.take (j+1)).any p=((l.take j).any p||p l[j]):=by
 rw [take_snoc' l j h,List.any_append];simp
theorem any_hit {α:Type} {p:α->Bool} {l:List α} {j:Nat} (h:j<l.length) (e:p l[j]=true):l.any p=true:=List.any_eq_true.2 ⟨_,List.getElem_mem h,e⟩
def checkD (l:List GData):Int:=
 if twiceB l then 1 else if someB (badT l false) l then 2 else if(decide (60<consN l)||someB (badT l true) l) then 3 else 0
end Go.Proofs.YtgbjdhfaklmjcaaGreat
