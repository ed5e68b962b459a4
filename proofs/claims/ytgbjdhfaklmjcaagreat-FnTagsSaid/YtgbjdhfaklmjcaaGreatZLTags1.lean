/- Texts of the claim LTags in one: Keyword PaP Bx Take PaC Within. Conditions: none but bounds on sizes. -/
import Derived.Test.YtgbjdhfaklmjcaaGreatRows
import Derived.Test.YtgbjdhfaklmjcaaGreatZLTags0
import Derived.Lib.Hide
import Derived.Deep.RegionHeld3
import Derived.WalkKit
import Derived.BigQuiet
namespace Go.Proofs.YtgbjdhfaklmjcaaGreat
open Go Go.RowKit
theorem LH {p:Prop} (h:p):Hid p:=Lib.hid h
theorem nA {α : Type} {a : List α} {i : Nat} (h : i < a.toArray.size) : a.toArray[i] = a[i]'h := rfl
theorem nB {α : Type} (a : α) (t : List α) (i : Nat) (h : i + 1 < (a :: t).length) : (a :: t)[i+1] = t[i]'(Nat.lt_of_succ_lt_succ h) := rfl
theorem nC {α : Type} (a : α) (t : List α) (h : 0 < (a :: t).length) : (a :: t)[0] = a := rfl
theorem nD {α : Type} (l : List α) (i : Nat) (a : α) : l.toArray.setIfInBounds i a = (l.set i a).toArray := List.setIfInBounds_toArray l i a
theorem nE {α : Type} {x : α} {xs : List α} {a : α} : (x :: xs).set 0 a = a :: xs := rfl
theorem nF {α : Type} {x : α} {xs : List α} {i : Nat} {a : α} : (x :: xs).set (i + 1) a = x :: xs.set i a := rfl
end Go.Proofs.YtgbjdhfaklmjcaaGreat
namespace Go.Proofs.YtgbjdhfaklmjcaaGreat
set_option maxRecDepth 20000
set_option linter.unusedVariables false
set_option linter.unusedSimpArgs false
open Go.RowKit
set_option maxHeartbeats 400000
def inStrs (l:List ByteArray) (s:ByteArray):Bool:=l.any fun k=>k.toList ==s.toList
theorem inStrs_take (l:List ByteArray) (s:ByteArray) (j:Nat) (h:j<l.length):inStrs (l.take (j+1)) s=(inStrs (l.take j) s||(l[j].toList ==s.toList)):=by
 unfold inStrs;rw [take_snoc' l j h];simp only [List.any_append,List.any_cons,List.any_nil,Bool.or_false]
theorem inStrs_mem {l:List ByteArray} {s:ByteArray} {j:Nat} (h:j<l.length) (he:(l[j].toList ==s.toList)=true):inStrs l s=true:=by
 unfold inStrs;rw [List.any_eq_true];exact⟨l[j],List.getElem_mem h,he⟩
theorem Sl.strAt {w:World} {S:Nat->Prop} {A:Option Addr} {c:Nat} {l:List ByteArray} (h:Sl w S 1 A c (l.map D.str)) (i:Nat) (hi:i<l.length):
 ∃ b off,A=some ⟨b,off,none⟩/\S b/\w.cell? ⟨b,off+i,none⟩=some (.string l[i])/\l[i].size<=maxLen:=by
 obtain⟨b,off,cs,e,hb,hl,hc,hr⟩:=Sl.get h i (by simpa using hi)
 rw [List.getElem_map] at hr
 obtain⟨rfl,h1⟩:=D.rd_str.1 hr
 have:=hc 0 _ rfl
 exact⟨b,off,e,hb,by simpa using this,h1⟩
theorem specWithin (l:List ByteArray) (s:ByteArray) (A:Option Addr) (c:Nat) (w:World) (hs:Sl w (Lt w.heap.size) 1 A c (l.map D.str)):
 Calls Tryz.prog 97 #[.slice A l.length c,.string s] w fun e w'=>e= .returned (.bool (inStrs l s))/\w=w':=by
 have hlen:l.length<=9223372036854775807:=by simpa using hs.len
 go_enter Tryz.func97,Tryz.ntmps97
 go_wp2_with fail
 go_loop [5] (fun i=>∃ (j:Nat),j<=l.length/\i= .int .i64 j/\inStrs (l.take j) s=false) (fun i=>l.length - (intOf i).toNat)
 case atStart=>exact⟨0,by omega,by go_num,by simp [inStrs]⟩
 case round=>
  obtain⟨j,hj,rfl,hn⟩:=hrel
  have Hn:=LH hn
  clear hn
  by_cases hlt:j<l.length
  ·
   obtain⟨b,off,rfl,hSb,g0,k0⟩:=hs.strAt j hlt
   cases he:(l[j].toList ==s.toList)
   · have hst:=LH (inStrs_take l s j hlt)
     have he2:=LH he
     go_wp2_with fail
     go_round
     case rel=>exact⟨j+1,by omega,by go_num,by rw [hst.out,Hn.out,he2.out];rfl⟩
     case measure=>simp [intOf];omega
   · have hm:=LH (inStrs_mem hlt he)
     go_wp2_with fail
     go_ret
     exact⟨ret_bool hm.out.symm,rfl⟩
  ·
   have hjl:j=l.length:=by omega
   have Hj:=LH hjl
   clear hjl
   go_wp2_with fail
   go_ret
   refine⟨ret_bool ?_,rfl⟩
   have:=Hn.out
   rw [Hj.out,List.take_length] at this
   exact this.symm
def IdxStr (l:List ByteArray) (s:ByteArray) (w:World) (e:Ending) (w':World):Prop:=∃ i:Int,e= .returned (.int .i64 i)/\(inStrs l s=true->0<=i)/\(inStrs l s=false->i= -1)/\w=w'
theorem slicesIndexStr (l:List ByteArray) (s:ByteArray) (A:Option Addr) (c:Nat) (w:World) (hs:Sl w (Lt w.heap.size) 1 A c (l.map D.str)):
 Calls Tryz.prog 49 #[.slice A l.length c,.string s] w (IdxStr l s w):=by
 have hlen:l.length<=9223372036854775807:=by simpa using hs.len
 go_enter Tryz.func49,Tryz.ntmps49
 go_wp2_with fail
 go_loop [8] (fun i=>∃ (j:Nat),j<=l.length/\i= .int .i64 j/\inStrs (l.take j) s=false) (fun i=>l.length - (intOf i).toNat)
 case atStart=>exact⟨0,by omega,by go_num,by simp [inStrs]⟩
 case round=>
  obtain⟨j,hj,rfl,hn⟩:=hrel
  have Hn:=LH hn
  clear hn
  by_cases hlt:j<l.length
  ·
   obtain⟨b,off,rfl,hSb,g0,k0⟩:=hs.strAt j hlt
   cases he:(l[j].toList ==s.toList)
   ·
    have hst:=LH (inStrs_take l s j hlt)
    have he2:=LH he
    have he3:(s.toList ==l[j].toList)=false:=by rw [<- he];exact Bool.beq_comm
    clear he
    go_wp2_with fail
    go_round
    case rel=>exact⟨j+1,by omega,by go_num,by rw [hst.out,Hn.out,he2.out];rfl⟩
    case measure=>simp [intOf];omega
   · have hm:=LH (inStrs_mem hlt he)
     have he3:(s.toList ==l[j].toList)=true:=by rw [<- he];exact Bool.beq_comm
     clear he
     go_wp2_with fail
     go_ret
     exact⟨j,rfl,fun _=>by omega,fun h=>(by rw [hm.out] at h;cases h),rfl⟩
  ·
   have hjl:j=l.length:=by omega
   have Hj:=LH hjl
   clear hjl
   go_wp2_with fail
   go_ret
   refine⟨-1,rfl,fun h=>?_,fun _=>rfl,rfl⟩
   have:=Hn.out
   rw [Hj.out,List.take_length] at this
   rw [this] at h;cases h
theorem slicesContainsStr (l:List ByteArray) (s:ByteArray) (A:Option Addr) (c:Nat) (w:World) (hs:Sl w (Lt w.heap.size) 1 A c (l.map D.str)):
 Calls Tryz.prog 37 #[.slice A l.length c,.string s] w fun e w'=>e= .returned (.bool (inStrs l s))/\w=w':=by
 go_enter Tryz.func37,Tryz.ntmps37
 go_wp2_with fail
 refine(slicesIndexStr l s A c w hs).mono ?_
 rintro e w1 ⟨i,rfl,h1,h2,rfl⟩
 cases hb:inStrs l s
 ·
  have hi:=h2 hb
  subst hi
  clear h1 h2
  have hb2:=LH hb
  clear hb
  go_wp2_with fail
  go_ret
  exact⟨ret_bool hb2.out.symm,rfl⟩
 ·
  have hi:=h1 hb
  clear h1 h2
  have hb2:=LH hb
  clear hb
  go_wp2_with fail
  go_ret
  exact⟨ret_bool hb2.out.symm,rfl⟩
def kws:List ByteArray:=[⟨#[100,97,116,97]⟩,⟨#[108,101,116]⟩,⟨#[114,101,99]⟩,⟨#[105,110]⟩,⟨#[102,117,110]⟩,⟨#[99,97,115,101]⟩,⟨#[111,102]⟩,⟨#[105,102]⟩,⟨#[116,104,101,110]⟩,⟨#[101,108,115,101]⟩,⟨#[112,117,116]⟩]
theorem kws_sl (w:World) (t:TypeId):Sl (w.alloc (.cells (kws.map Value.string).toArray t)) (Lt (w.heap.size+1)) 1 (some ⟨w.heap.size,0,none⟩) 11 (kws.map D.str):=by
 have hr:=Row.new w t (kws.map Value.string).toArray
 refine⟨by decide,by unfold maxLen;omega,.inr ⟨w.heap.size,0,rfl,by unfold Lt;omega,D.rdR_mk fun i hi=>?_⟩⟩
 have hi':i<kws.length:=by simpa using hi
 refine⟨[.string kws[i]],rfl,fun j v hj=>?_,?_⟩
 ·
  match j with
  | 0=>
   have hv:Value.string kws[i]=v:=by simpa using hj
   subst hv
   rw [hr.cell]
   simp [hi']
  | j+1=>simp at hj
 ·
  rw [List.getElem_map]
  refine D.rd_str.2 ⟨rfl,?_⟩
  have hall:∀ k∈kws,k.size<=maxLen:=by
   intro k hk
   have:∀ k∈kws,k.size<=5:=by decide
   have:=this k hk
   unfold maxLen;omega
  exact hall _ (List.getElem_mem hi')
theorem specKeyword (s:ByteArray) (w:World):Calls Tryz.prog 86 #[.string s] w fun e w'=>e= .returned (.bool (inStrs kws s))/\Below w.heap.size w w':=by
 go_enter Tryz.func86,Tryz.ntmps86
 go_wp2_with fail
 refine(specWithin kws s _ 11 (w.alloc (.cells (kws.map Value.string).toArray 9)) ((kws_sl w 9).keep fun b hb=>⟨by simpa using hb,rfl⟩)).mono ?_
 rintro e w1 ⟨rfl,rfl⟩
 go_wp2_with fail
 go_ret
 exact⟨rfl,(Below.refl _ _).alloc (Nat.le_refl _) _⟩
set_option maxRecDepth 100000
def inKw (s:ByteArray):Bool:=kws.any fun k=>k.data.toList ==s.data.toList
theorem bytes_beq (a b:ByteArray):(a.toList ==b.toList)=(a.data.toList ==b.data.toList):=by rw [ByteArray.toList_eq,ByteArray.toList_eq]
theorem inKw_eq (s:ByteArray):inStrs kws s=inKw s:=by unfold inStrs inKw;simp only [bytes_beq]
def smallB (b:UInt8):Bool:=decide (97<=b.toNat)&&decide (b.toNat<=122)
def largeB (b:UInt8):Bool:=decide (65<=b.toNat)&&decide (b.toNat<=90)
def digitB (b:UInt8):Bool:=decide (48<=b.toNat)&&decide (b.toNat<=57)
def spanN (p:UInt8->Bool):List UInt8->Nat
 | []=>0
 | b::r=>if p b then spanN p r+1 else 0
def pSigns:List UInt8:=[40,41,123,125,59,61,124,43,45,42,60,95]
def pSignAt (l:List UInt8):List UInt8:=
 match l with
 | 45::62::_=>[45,62]
 | 61::61::_=>[61,61]
 | b::_=>if pSigns.contains b then [b] else []
 | []=>[]
def tokN:Nat->List UInt8->Nat->List GToken->Option (List GToken)
 | 0,_,_,_=>none
 | k+1,[],at0,acc=>some (acc++[⟨0,⟨#[]⟩,0,at0⟩])
 | k+1,b::r,at0,acc=>
  if b ==32||b ==10 then tokN k r (at0+1) acc
  else if smallB b||largeB b then
   let n:=spanN (fun c=>smallB c||largeB c) (b::r)
   if n<=8 then tokN k ((b::r).drop n) (at0+n) (acc++[⟨if largeB b then 2 else 1,⟨((b::r).take n).toArray⟩,0,at0⟩]) else none
  else if digitB b then
   let n:=spanN digitB (b::r)
   if(numI ⟨((b::r).take n).toArray⟩).2 then tokN k ((b::r).drop n) (at0+n) (acc++[⟨3,⟨#[]⟩,(numI ⟨((b::r).take n).toArray⟩).1,at0⟩]) else none
  else
   let s:=pSignAt (b::r)
   if s.isEmpty then none else tokN k ((b::r).drop s.length) (at0+s.length) (acc++[⟨4,⟨s.toArray⟩,0,at0⟩])
structure PSt where
 pos:Nat
 bad:Int
 vars:List ByteArray
 nov:Bool
def pNow (ts:List GToken) (st:PSt):GToken:=ts.getD st.pos ⟨0,⟨#[]⟩,0,0⟩
def pBad (ts:List GToken) (st:PSt):PSt:=if st.bad<0 then {st with bad:=(pNow ts st).pos} else st
def pSign (ts:List GToken) (s:List UInt8) (st:PSt):Bool:=decide (st.bad<0)&&((pNow ts st).kind ==4&&(pNow ts st).text.data.toList ==s)
def pIs (ts:List GToken) (s:List UInt8) (st:PSt):Bool:=decide (st.bad<0)&&((pNow ts st).kind ==1&&(pNow ts st).text.data.toList ==s)
def pName (ts:List GToken) (st:PSt):Bool:=decide (st.bad<0)&&((pNow ts st).kind ==1&&!inKw (pNow ts st).text)
def pCon (ts:List GToken) (st:PSt):Bool:=decide (st.bad<0)&&((pNow ts st).kind ==2&&(pNow ts st).text.data.toList != [73,110,116])
def pNext (ts:List GToken) (st:PSt):PSt:=if st.pos+1<ts.length then {st with pos:=st.pos+1} else st
def pTake (ts:List GToken) (s:List UInt8) (st:PSt):PSt:=if pSign ts s st then pNext ts st else pBad ts st
def pWord (ts:List GToken) (s:List UInt8) (st:PSt):PSt:=if pIs ts s st then pNext ts st else pBad ts st
def pText (ts:List GToken) (con:Bool) (st:PSt):ByteArray × PSt:=
 if(con&&!pCon ts st)||(!con&&!pName ts st) then(⟨#[]⟩,pBad ts st) else((pNow ts st).text,pNext ts st)
def pVar (s:ByteArray) (st:PSt):Int × PSt:=
 match st.vars.findIdx? (fun v=>v.data.toList ==s.data.toList) with
 | some i=>(i,st)
 | none=>(0,{st with nov:=true})
def pSmall (ts:List GToken) (st:PSt):Bool:=pName ts st||(decide (st.bad<0)&&(pNow ts st).kind ==2)||pSign ts [40] st
mutual
def pTyAtom (ts:List GToken):Nat->PSt->Option (GTy × PSt)
 | 0,_=>none
 | k+1,st=>
  if pName ts st then let v:=pVar (pNow ts st).text (pNext ts st);some (.mk 2 v.1 ⟨#[]⟩ [],v.2)
  else if pCon ts st then some (.mk 4 0 (pNow ts st).text [],pNext ts st)
  else if decide (st.bad<0)&&(pNow ts st).kind ==2 then some (.mk 1 0 ⟨#[]⟩ [],pNext ts st)
  else let st1:=pTake ts [40] st
   if 0<=st1.bad then some (.mk 0 0 ⟨#[]⟩ [],st1) else(pTy ts k st1).map fun r=>(r.1,pTake ts [41] r.2)
def pTy (ts:List GToken):Nat->PSt->Option (GTy × PSt)
 | 0,_=>none
 | k+1,st=>
  (if pCon ts st then(pTyKids ts k (pText ts true st).2 []).map fun r=>(GTy.mk 4 0 (pText ts true st).1 r.1,r.2) else pTyAtom ts k st).bind fun a=>
   if pSign ts [45,62] a.2 then(pTy ts k (pNext ts a.2)).map fun b=>(.mk 3 0 ⟨#[]⟩ [a.1,b.1],b.2) else some a
def pTyKids (ts:List GToken):Nat->PSt->List GTy->Option (List GTy × PSt)
 | 0,_,_=>none
 | k+1,st,acc=>if pSmall ts st then(pTyAtom ts k st).bind fun r=>pTyKids ts k r.2 (acc++[r.1]) else some (acc,st)
end
def pAlt (ts:List GToken) (k:Nat) (st:PSt):Option (GCon × PSt):=(pTyKids ts k (pText ts true st).2 []).map fun r=>(⟨(pText ts true st).1,r.1⟩,r.2)
def pVars (ts:List GToken):Nat->PSt->Option PSt
 | 0,_=>none
 | k+1,st=>if pName ts st then pVars ts k {(pText ts false st).2 with vars:=st.vars++[(pText ts false st).1]} else some st
def pCons (ts:List GToken):Nat->PSt->List GCon->Option (List GCon × PSt)
 | 0,_,_=>none
 | k+1,st,acc=>if pSign ts [124] st then(pAlt ts k (pNext ts st)).bind fun r=>pCons ts k r.2 (acc++[r.1]) else some (acc,st)
def pData (ts:List GToken) (k:Nat) (st:PSt):Option (GData × PSt):=
 let a:=pText ts true (pWord ts [100,97,116,97] st)
 (pVars ts k {a.2 with vars:=[]}).bind fun st2=>
  (pAlt ts k (pTake ts [61] st2)).bind fun c=>(pCons ts k c.2 [c.1]).map fun r=>(⟨a.1,(st2.vars.length:Nat),r.1⟩,pTake ts [59] r.2)
def pAtomic (ts:List GToken) (st:PSt):Bool:=pName ts st||pCon ts st||pSign ts [40] st||(decide (st.bad<0)&&(pNow ts st).kind ==3)
def nd (op:Int) (kids:List GNode):GNode:=.mk op 0 ⟨#[]⟩ ⟨#[]⟩ kids
mutual
def pPatAtom (ts:List GToken):Nat->PSt->Option (GNode × PSt)
 | 0,_=>none
 | k+1,st=>
  if pSign ts [95] st then some (nd 17 [],pNext ts st)
  else if decide (st.bad<0)&&(pNow ts st).kind ==3 then some (.mk 19 (pNow ts st).n ⟨#[]⟩ ⟨#[]⟩ [],pNext ts st)
  else if pName ts st then some (.mk 18 0 (pNow ts st).text ⟨#[]⟩ [],pNext ts st)
  else if pCon ts st then some (.mk 20 0 (pNow ts st).text ⟨#[]⟩ [],pNext ts st)
  else let st1:=pTake ts [40] st
   if 0<=st1.bad then some (nd 0 [],st1) else(pPat ts k st1).map fun r=>(r.1,pTake ts [41] r.2)
def pPat (ts:List GToken):Nat->PSt->Option (GNode × PSt)
 | 0,_=>none
 | k+1,st=>if pCon ts st then(pPatKids ts k (pText ts true st).2 []).map fun r=>(.mk 20 0 (pText ts true st).1 ⟨#[]⟩ r.1,r.2) else pPatAtom ts k st
def pPatKids (ts:List GToken):Nat->PSt->List GNode->Option (List GNode × PSt)
 | 0,_,_=>none
 | k+1,st,acc=>if pAtomic ts st||pSign ts [95] st then(pPatAtom ts k st).bind fun r=>pPatKids ts k r.2 (acc++[r.1]) else some (acc,st)
end
mutual
def pAtom (ts:List GToken):Nat->PSt->Option (GNode × PSt)
 | 0,_=>none
 | k+1,st=>
  if decide (st.bad<0)&&(pNow ts st).kind ==3 then some (.mk 1 (pNow ts st).n ⟨#[]⟩ ⟨#[]⟩ [],pNext ts st)
  else if pName ts st then some (.mk 2 0 (pNow ts st).text ⟨#[]⟩ [],pNext ts st)
  else if pCon ts st then some (.mk 15 0 (pNow ts st).text ⟨#[]⟩ [],pNext ts st)
  else let st1:=pTake ts [40] st
   if 0<=st1.bad then some (nd 0 [],st1) else(pE ts k st1).map fun r=>(r.1,pTake ts [41] r.2)
def pApply (ts:List GToken):Nat->PSt->Option (GNode × PSt)
 | 0,_=>none
 | k+1,st=>
  if pIs ts [112,117,116] st then(pAtom ts k (pNext ts st)).map fun r=>(nd 16 [r.1],r.2)
  else if pCon ts st then(pKids ts k (pText ts true st).2 []).map fun r=>(.mk 15 0 (pText ts true st).1 ⟨#[]⟩ r.1,r.2)
  else(pAtom ts k st).bind fun a=>pApps ts k a.2 a.1
def pKids (ts:List GToken):Nat->PSt->List GNode->Option (List GNode × PSt)
 | 0,_,_=>none
 | k+1,st,acc=>if pAtomic ts st then(pAtom ts k st).bind fun r=>pKids ts k r.2 (acc++[r.1]) else some (acc,st)
def pApps (ts:List GToken):Nat->PSt->GNode->Option (GNode × PSt)
 | 0,_,_=>none
 | k+1,st,a=>if pAtomic ts st then(pAtom ts k st).bind fun b=>pApps ts k b.2 (nd 4 [a,b.1]) else some (a,st)
def pProduct (ts:List GToken):Nat->PSt->Option (GNode × PSt)
 | 0,_=>none
 | k+1,st=>(pApply ts k st).bind fun a=>pMuls ts k a.2 a.1
def pMuls (ts:List GToken):Nat->PSt->GNode->Option (GNode × PSt)
 | 0,_,_=>none
 | k+1,st,a=>if pSign ts [42] st then(pApply ts k (pNext ts st)).bind fun b=>pMuls ts k b.2 (nd 12 [a,b.1]) else some (a,st)
def pSum (ts:List GToken):Nat->PSt->Option (GNode × PSt)
 | 0,_=>none
 | k+1,st=>(pProduct ts k st).bind fun a=>pAdds ts k a.2 a.1
def pAdds (ts:List GToken):Nat->PSt->GNode->Option (GNode × PSt)
 | 0,_,_=>none
 | k+1,st,a=>if pSign ts [43] st||pSign ts [45] st then(pProduct ts k (pNext ts st)).bind fun b=>pAdds ts k b.2 (nd (if pSign ts [45] st then 11 else 10) [a,b.1]) else some (a,st)
def pCompare (ts:List GToken):Nat->PSt->Option (GNode × PSt)
 | 0,_=>none
 | k+1,st=>(pSum ts k st).bind fun a=>
  if pSign ts [60] a.2 then(pSum ts k (pNext ts a.2)).map fun b=>(nd 13 [a.1,b.1],b.2)
  else if pSign ts [61,61] a.2 then(pSum ts k (pNext ts a.2)).map fun b=>(nd 14 [a.1,b.1],b.2)
  else some a
def pCaseAlts (ts:List GToken):Nat->PSt->List GNode->Option (List GNode × PSt)
 | 0,_,_=>none
 | k+1,st,acc=>if st.bad<0 then(pPat ts k st).bind fun p=>(pE ts k (pTake ts [45,62] p.2)).bind fun b=>
  if pSign ts [59] b.2 then pCaseAlts ts k (pNext ts b.2) (acc++[nd 8 [p.1,b.1]]) else some (acc++[nd 8 [p.1,b.1]],b.2)
  else some (acc,st)
def pE (ts:List GToken):Nat->PSt->Option (GNode × PSt)
 | 0,_=>none
 | k+1,st=>
  if pIs ts [102,117,110] st then let a:=pText ts false (pNext ts st);(pE ts k (pTake ts [45,62] a.2)).map fun e=>(.mk 3 0 a.1 ⟨#[]⟩ [e.1],e.2)
  else if pIs ts [108,101,116] st then let a:=pText ts false (pNext ts st);(pE ts k (pTake ts [61] a.2)).bind fun e=>(pE ts k (pWord ts [105,110] e.2)).map fun b=>(.mk 5 0 a.1 ⟨#[]⟩ [e.1,b.1],b.2)
  else if pIs ts [114,101,99] st then let a:=pText ts false (pNext ts st);let a2:=pText ts false a.2;(pE ts k (pTake ts [61] a2.2)).bind fun e=>(pE ts k (pWord ts [105,110] e.2)).map fun b=>(.mk 6 0 a.1 a2.1 [e.1,b.1],b.2)
  else if pIs ts [99,97,115,101] st then(pE ts k (pNext ts st)).bind fun e=>(pCaseAlts ts k (pTake ts [123] (pWord ts [111,102] e.2)) [e.1]).map fun r=>(nd 7 r.1,pTake ts [125] r.2)
  else if pIs ts [105,102] st then(pE ts k (pNext ts st)).bind fun a=>(pE ts k (pWord ts [116,104,101,110] a.2)).bind fun b=>(pE ts k (pWord ts [101,108,115,101] b.2)).map fun d=>(nd 9 [a.1,b.1,d.1],d.2)
  else pCompare ts k st
end
def pDatas (ts:List GToken):Nat->PSt->List GData->Option (List GData × PSt)
 | 0,_,_=>none
 | k+1,st,acc=>if pIs ts [100,97,116,97] st then(pData ts k st).bind fun r=>pDatas ts k r.2 (acc++[r.1]) else some (acc,st)
structure Bx (g:Nat) (w w':World):Prop where
 os:w'.os=w.os
 tape:w'.tape=w.tape
 output:w'.output=w.output
 size:w.heap.size<=w'.heap.size
 block:∀ b,b<w.heap.size->b≠g->w'.heap[b]? =w.heap[b]?
theorem Bx.refl (g:Nat) (w:World):Bx g w w:=⟨rfl,rfl,rfl,Nat.le_refl _,fun _ _ _=>rfl⟩
theorem Bx.trans {g:Nat} {a b c:World} (h:Bx g a b) (k:Bx g b c):Bx g a c:=
 ⟨k.os.trans h.os,k.tape.trans h.tape,k.output.trans h.output,Nat.le_trans h.size k.size,fun i hi hg=>(k.block i (Nat.lt_of_lt_of_le hi h.size) hg).trans (h.block i hi hg)⟩
theorem Bx.of_below {g B:Nat} {w w':World} (h:Below B w w') (hB:w.heap.size<=B):Bx g w w':=⟨h.os,h.tape,h.output,h.size,fun b hb _=>h.block b (Nat.lt_of_lt_of_le hb hB)⟩
theorem Bx.alloc {g:Nat} {w w':World} (h:Bx g w w') (o:Obj):Bx g w (w'.alloc o):=h.trans (Bx.of_below ((Below.refl w'.heap.size w').alloc (Nat.le_refl _) o) (Nat.le_refl _))
theorem Bx.set {g:Nat} {w w':World} (h:Bx g w w') {p:Addr} (hp:p.block=g\/w.heap.size<=p.block) (u:Value):Bx g w (w'.setCell p u):=
 ⟨h.os,h.tape,h.output,by simp [World.setCell];exact h.size,fun b hb hg=>(Below.heap_setCell w' p u b (by rcases hp with hp | hp<;>omega)).trans (h.block b hb hg)⟩
theorem Bx.below {g B:Nat} {w w':World} (h:Bx g w w') (hB:B<=w.heap.size) (hg:B<=g):Below B w w':=⟨h.os,h.tape,h.output,h.size,fun b hb=>h.block b (by omega) (by omega)⟩
theorem Bx.kq {q:Nat} {w w':World} (k:Bx q w w') {b:Nat} {p:Prop} (hb:p) (h:b<w.heap.size/\b≠q):p/\w'.heap[b]? =w.heap[b]?:=⟨hb,k.block b h.1 h.2⟩
theorem Bx.row {g b:Nat} {w w':World} {T:TypeId} {cs:Array Value} (h:Bx g w w') (hr:Row w b T cs) (hne:b≠g):Row w' b T cs:=(h.block b hr.lt hne).trans hr
theorem Bx.sl {g:Nat} {w w':World} {size:Nat} {A:Option Addr} {c:Nat} {xs:List D} (h:Bx g w w') (hs:Sl w (fun b=>b<w.heap.size/\b≠g) size A c xs):Sl w' (fun b=>b<w'.heap.size/\b≠g) size A c xs:=
 hs.keep fun b hb=>⟨⟨Nat.lt_of_lt_of_le hb.1 h.size,hb.2⟩,h.block b hb.1 hb.2⟩
end Go.Proofs.YtgbjdhfaklmjcaaGreat
namespace Go.Proofs.YtgbjdhfaklmjcaaGreat
set_option maxRecDepth 20000
set_option linter.unusedVariables false
set_option linter.unusedSimpArgs false
open Go Go.RowKit
section
variable {P:Program} {ops:Array Oper} {Q:Exit->Act->World->Prop} {md:Region.Mode} {S:World->Prop} {n:Nat}
def wpAnyT (P:Program) (md:Region.Mode) (ops:Array Oper) (Q:Exit->Act->World->Prop) (S:World->Prop) (n:Nat):Nat->Array Bool->Act->World->Prop
 | 0,listed,a,w=>Region.ready md ops listed= []/\Q .normal a w
 | fuel+1,listed,a,w=>
  (Region.ready md ops listed= []->Q .normal a w)/\
  ∀ i∈Region.ready md ops listed,wpOp P ops Q i (fun a' w'=>(i=n\/S w')/\wpAnyT P md ops Q S n fuel (listed.setIfInBounds i true) a' w') a w
theorem wpAny_of_T:∀ (fuel:Nat) (listed:Array Bool) (a:Act) (w:World),wpAnyT P md ops Q S n fuel listed a w->wpAny P md ops Q fuel listed a w
 | 0,_,_,_,h=>h
 | fuel+1,_,_,_,h=>⟨h.1,fun i hi=>wpOp_mono (fun a' w' h'=>wpAny_of_T fuel _ a' w' h'.2) (h.2 i hi)⟩
def lastWaits (md:Region.Mode) (ops:Array Oper) (n i:Nat):Bool:=
 match ops[n]? with
 | some o=>o.after.any fun e=>Region.binds md e&&e.on ==i
 | none=>true
theorem lastWaits_spec {i:Nat} (h:lastWaits md ops n i=true) (oj:Oper) (hj:ops[n]? =some oj) (hno:∀ e∈oj.after,Region.binds md e=true->e.on≠i):False:=by
 unfold lastWaits at h
 simp only [hj] at h
 obtain⟨e,he,hb⟩:=Array.any_eq_true'.1 h
 simp only [Bool.and_eq_true,beq_iff_eq] at hb
 exact hno e he hb.1 hb.2
theorem wpAnyT_first {i:Nat} {oi:Oper} {v:Value} (hi:ops[i]? =some oi) (hsel:∀ (j:Nat) (o:Oper) cs b,ops[j]? =some o->o.op≠ .select cs b)
 (hQ:∀ c a w,Q (.panic c) (a.put oi.dst v) w->Q (.panic c) a w) (hn:lastWaits md ops n i=true):
 ∀ (fuel:Nat) (listed:Array Bool) (a:Act) (w:World),
  (∀ j oj,ops[j]? =some oj->j≠i->listed.getD j true=false->(∀ e∈oj.after,Region.binds md e=true->e.on≠i)->oi.apart ops oj=true)->
  i∈Region.ready md ops listed->YieldsIf P ops S oi v a->S w->
  wpAnyT P md ops Q S n fuel (listed.setIfInBounds i true) (a.put oi.dst v) w->wpAnyT P md ops Q S n (fuel+1) listed a w:=by
 intro fuel
 induction fuel with
 | zero=>
  intro listed a w _ hr hy hS H
  refine⟨fun h=>(by rw [h] at hr;cases hr),fun j hj=>?_⟩
  by_cases hji:j=i
  · subst hji;exact hy.wpOp hi hS ⟨.inr hS,H⟩
  · have:=ready_mono hj hji
    rw [H.1] at this
    cases this
 | succ fuel ih=>
  intro listed a w hfree hr hy hS H
  refine⟨fun h=>(by rw [h] at hr;cases hr),fun j hj=>?_⟩
  by_cases hji:j=i
  · subst hji;exact hy.wpOp hi hS ⟨.inr hS,H⟩
  ·
   have h1:=H.2 j (ready_mono hj hji)
   obtain⟨hjun,oj,hoj,hall⟩:=mem_ready.1 hj
   have hnot:∀ e∈oj.after,Region.binds md e=true->e.on≠i:=fun e he hb heq=>by
    have h1:=hall e he hb
    have h0:=(mem_ready.1 hr).1
    rw [heq] at h1
    rcases Nat.lt_or_ge i listed.size with h' | h'
    · simp [h'] at h0 h1;rw [h0] at h1;cases h1
    · simp [Array.getElem?_eq_none h'] at h1
   have hjn:j≠n:=fun e=>lastWaits_spec hn oj (e ▸ hoj) hnot
   have h2:=wpOp_putIf hoj (hfree j oj hoj hji hjun hnot) (fun cs b=>hsel i oi cs b hi) (fun cs b=>hsel j oj cs b hoj) hQ hy h1
   have hfree':∀ k ok,ops[k]? =some ok->k≠i->(listed.setIfInBounds j true).getD k true=false->
    (∀ e∈ok.after,Region.binds md e=true->e.on≠i)->oi.apart ops ok=true:=fun k ok hk hki hun hno=>by
    refine hfree k ok hk hki ?_ hno
    by_cases hjk:j=k
    · subst hjk;exact hjun
    · rw [getD_set_ne true hjk] at hun;exact hun
   refine wpOp_mono (fun a' w' h3=>?_) h2
   have hS':=h3.2.1.resolve_left hjn
   refine⟨.inr hS',ih (listed.setIfInBounds j true) a' w' hfree' (ready_mono hr (Ne.symm hji)) h3.1 hS' ?_⟩
   rw [Array.setIfInBounds_comm _ _ hji]
   exact h3.2.2
theorem wpAnyT_take {i:Nat} {oi:Oper} {v:Value} {fuel:Nat} {listed:Array Bool} {a:Act} {w:World} (hi:ops[i]? =some oi)
 (hs:Region.noSelect ops=true) (hf:Region.free md ops listed i=true) (hr:(Region.ready md ops listed).contains i=true) (hn:lastWaits md ops n i=true)
 (hQ:∀ c a w,Q (.panic c) (a.put oi.dst v) w->Q (.panic c) a w) (hy:YieldsIf P ops S oi v a) (hS:S w)
 (h:wpAnyT P md ops Q S n fuel (listed.setIfInBounds i true) (a.put oi.dst v) w):wpAnyT P md ops Q S n (fuel+1) listed a w:=
 wpAnyT_first hi (Region.noSelect_spec hs) hQ hn fuel listed a w (Region.free_spec hi hf) (by simpa using hr) hy hS h
theorem wpAnyT_tk {i:Nat} {oi:Oper} {v:Value} {fuel:Nat} {listed:Array Bool} {a:Act} {w:World} (hi:ops[i]? =some oi)
 (hy:YieldsIf P ops S oi v a) (hS:S w)
 (h:wpAnyT P md ops Q S n fuel (listed.setIfInBounds i true) (a.put oi.dst v) w)
 (hs:Region.noSelect ops=true:=by kernel_rfl) (hf:Region.free md ops listed i=true:=by kernel_rfl) (hr:(Region.ready md ops listed).contains i=true:=by kernel_rfl) (hn:lastWaits md ops n i=true:=by kernel_rfl)
 (hQ:∀ c a w,Q (.panic c) (a.put oi.dst v) w->Q (.panic c) a w:=by exact fun _ _ _ h=>h):wpAnyT P md ops Q S n (fuel+1) listed a w:=
 wpAnyT_take hi hs hf hr hn hQ hy hS h
theorem wpAnyT_step {i:Nat} {o:Oper} {fuel:Nat} {listed:Array Bool} {a:Act} {w:World} (hr:Region.ready md ops listed= [i]) (ho:ops[i]? =some o)
 (h:∀ K':Act->World->Prop,Shut (∀ a w,S w->(S w->wpAnyT P md ops Q S n fuel (listed.setIfInBounds i true) a w)->K' a w)->if Region.wanted o (yielded ops a.tmps)=true then Oper.wp P o a w K' Q else K' (a.put o.dst undef) w):wpAnyT P md ops Q S n (fuel+1) listed a w:=
 ⟨fun h0=>(by rw [hr] at h0;cases h0),fun j hj=>by
   rw [hr] at hj
   obtain rfl:=List.mem_singleton.1 hj
   exact wpOp_step ho (fun K' hK=>h K' (fun a w hS hW=>hK a w ⟨.inr hS,hW hS⟩))⟩
theorem wpAnyT_two {i j:Nat} {o o':Oper} {fuel:Nat} {listed:Array Bool} {a:Act} {w:World} (hr:Region.ready md ops listed= [i,j]) (ho:ops[i]? =some o) (ho':ops[j]? =some o')
 (h:∀ K':Act->World->Prop,Shut (∀ a w,S w->(S w->wpAnyT P md ops Q S n fuel (listed.setIfInBounds i true) a w)->K' a w)->if Region.wanted o (yielded ops a.tmps)=true then Oper.wp P o a w K' Q else K' (a.put o.dst undef) w)
 (h':∀ K':Act->World->Prop,Shut (∀ a w,S w->(S w->wpAnyT P md ops Q S n fuel (listed.setIfInBounds j true) a w)->K' a w)->if Region.wanted o' (yielded ops a.tmps)=true then Oper.wp P o' a w K' Q else K' (a.put o'.dst undef) w):wpAnyT P md ops Q S n (fuel+1) listed a w:=
 ⟨fun h0=>(by rw [hr] at h0;cases h0),fun q hq=>by
   rw [hr] at hq
   rcases List.mem_cons.1 hq with rfl | hq
   · exact wpOp_step ho (fun K' hK=>h K' (fun a w hS hW=>hK a w ⟨.inr hS,hW hS⟩))
   · obtain rfl:=List.mem_singleton.1 hq
     exact wpOp_step ho' (fun K' hK=>h' K' (fun a w hS hW=>hK a w ⟨.inr hS,hW hS⟩))⟩
theorem wpAnyT_done {listed:Array Bool} {a:Act} {w:World} (hr:Region.ready md ops listed= []) (h:Q .normal a w):∀ fuel,wpAnyT P md ops Q S n fuel listed a w
 | 0=>⟨hr,h⟩
 | _+1=>⟨fun _=>h,by rw [hr];simp⟩
theorem wpAnyT_last {o:Oper} {fuel:Nat} {listed:Array Bool} {a:Act} {w:World} (hr:Region.ready md ops listed= [n]) (hr2:Region.ready md ops (listed.setIfInBounds n true)= []) (ho:ops[n]? =some o)
 (h:∀ K':Act->World->Prop,Shut (∀ a w,Q .normal a w->K' a w)->if Region.wanted o (yielded ops a.tmps)=true then Oper.wp P o a w K' Q else K' (a.put o.dst undef) w):wpAnyT P md ops Q S n (fuel+1) listed a w:=
 ⟨fun h0=>(by rw [hr] at h0;cases h0),fun j hj=>by
   rw [hr] at hj
   obtain rfl:=List.mem_singleton.1 hj
   refine wpOp_step ho (fun K' hK=>h K' (fun a w hq=>hK a w ⟨.inl rfl,?_⟩))
   cases fuel with
   | zero=>exact⟨hr2,hq⟩
   | succ f=>exact⟨fun _=>hq,by rw [hr2];simp⟩⟩
theorem wp_region_T (S:World->Prop) (n:Nat) {id:Nat} {a:Act} {w:World} (hm:P.follows .mixedOrders=true)
 (h:wpAnyT P .any ops Q S n ops.size (Array.replicate ops.size false) a w.drew):(Code.region id ops true).wp P Q a w:=
 wp_region_any hm (wpAny_of_T _ _ _ _ h)
end
end Go.Proofs.YtgbjdhfaklmjcaaGreat
namespace Go.Proofs.YtgbjdhfaklmjcaaGreat
set_option maxRecDepth 20000
set_option linter.unusedVariables false
set_option linter.unusedSimpArgs false
open Go.RowKit
set_option maxHeartbeats 1000000
structure PCur (ts:List GToken) (g:Nat) (L:Option Addr) (cl:Nat) (V:Option Addr) (cv:Nat) (st:PSt) (w:World):Prop where
 row:Row w g 90 #[.slice L ts.length cl,.int .i64 st.pos,.int .i64 st.bad,.slice V st.vars.length cv,.bool st.nov]
 toks:Sl w (fun b=>b<w.heap.size/\b≠g) 4 L cl (ts.map GToken.toD)
 vars:Sl w (fun b=>b<w.heap.size/\b≠g) 1 V cv (st.vars.map D.str)
 pos:st.pos<ts.length
 few:ts.length<=1048576
theorem PCur.below {ts:List GToken} {g:Nat} {L:Option Addr} {cl:Nat} {V:Option Addr} {cv:Nat} {st:PSt} {w w':World} (h:PCur ts g L cl V cv st w) (hb:Below w.heap.size w w'):PCur ts g L cl V cv st w':=
 ⟨h.row.below hb h.row.lt,h.toks.keep fun b hx=>⟨⟨Nat.lt_of_lt_of_le hx.1 hb.size,hx.2⟩,hb.block b hx.1⟩,h.vars.keep fun b hx=>⟨⟨Nat.lt_of_lt_of_le hx.1 hb.size,hx.2⟩,hb.block b hx.1⟩,h.pos,h.few⟩
theorem PCur.now {ts:List GToken} {g:Nat} {L:Option Addr} {cl:Nat} {V:Option Addr} {cv:Nat} {st:PSt} {w:World} (h:PCur ts g L cl V cv st w):∃ b off,L=some ⟨b,off,none⟩/\b<w.heap.size/\w.cell? ⟨b,off+st.pos*4,none⟩=some (.int .i64 (pNow ts st).kind)/\w.cell? ⟨b,off+st.pos*4+1,none⟩=some (.string (pNow ts st).text)/\w.cell? ⟨b,off+st.pos*4+2,none⟩=some (.int .i64 (pNow ts st).n)/\w.cell? ⟨b,off+st.pos*4+3,none⟩=some (.int .i64 (pNow ts st).pos)/\(Lit.int .i64 (pNow ts st).kind).wf=true/\(pNow ts st).text.size<=maxLen/\(Lit.int .i64 (pNow ts st).n).wf=true/\(Lit.int .i64 (pNow ts st).pos).wf=true:=by
 obtain⟨b,off,e,hb,h0,h1,h2,h3,hat⟩:=GToken.elem h.toks st.pos h.pos
 have hn:ts[st.pos]'h.pos=pNow ts st:=by unfold pNow;simp [List.getD,h.pos]
 rw [hn] at h0 h1 h2 h3 hat
 exact⟨b,off,e,hb.1,h0,h1,h2,h3,hat⟩
theorem l3Now (ts:List GToken) (g:Nat) (L:Option Addr) (cl:Nat) (V:Option Addr) (cv:Nat) (st:PSt) (w:World) (h:PCur ts g L cl V cv st w):
 Calls Tryz.prog 57 #[.pointer (some ⟨g,0,none⟩)] w fun e w'=>e= .returned (.agg #[.int .i64 (pNow ts st).kind,.string (pNow ts st).text,.int .i64 (pNow ts st).n,.int .i64 (pNow ts st).pos])/\Below w.heap.size w w':=by
 obtain⟨b,off,rfl,hb,c0,c1,c2,c3,-⟩:=h.now
 have hp:st.pos<ts.length:=h.pos
 have hf:ts.length<=1048576:=h.few
 have HR:=LH h.row
 have hca:=fun i=>HR.out.cell i
 have hgl:=HR.out.lt
 clear h
 obtain⟨t,ht⟩:∃ t,pNow ts st=t:=⟨_,rfl⟩
 rw [ht] at c0 c1 c2 c3 ⊢
 clear ht
 have hp2:((st.pos:Nat):Int)<(ts.length:Int):=by omega
 obtain⟨w0,e0⟩:∃ w0,w0=w.alloc (.cells #[.int .i64 0,.string ⟨#[]⟩,.int .i64 0,.int .i64 0] 95):=⟨_,rfl⟩
 have E0:=LH (show Below w.heap.size w w0 by rw [e0];exact(Below.refl _ _).alloc (Nat.le_refl _) _)
 have RZ:=LH (show Row w0 w.heap.size 95 #[.int .i64 0,.string ⟨#[]⟩,.int .i64 0,.int .i64 0] by rw [e0];exact Row.new _ _ _)
 have F0:=LH (fun(x:World) (hx:∀ q,q<w.heap.size->x.heap[q]? =w.heap[q]?)=>show(∀ i,x.cell? ⟨g,i,none⟩=(#[.slice (some ⟨b,off,none⟩) ts.length cl,.int .i64 st.pos,.int .i64 st.bad,.slice V st.vars.length cv,.bool st.nov]:Array Value)[i]?)/\x.cell? ⟨b,off+st.pos*4,none⟩=some (.int .i64 t.kind)/\x.cell? ⟨b,off+st.pos*4+1,none⟩=some (.string t.text)/\x.cell? ⟨b,off+st.pos*4+2,none⟩=some (.int .i64 t.n)/\x.cell? ⟨b,off+st.pos*4+3,none⟩=some (.int .i64 t.pos) from
   ⟨fun i=>(World.cell?_of_block (hx _ hgl)).trans (hca i),(World.cell?_of_block (hx _ hb)).trans c0,(World.cell?_of_block (hx _ hb)).trans c1,(World.cell?_of_block (hx _ hb)).trans c2,(World.cell?_of_block (hx _ hb)).trans c3⟩)
 go_enter Tryz.func57,Tryz.ntmps57
 go_wp2_with fail
 rw [<- e0]
 clear e0 c0 c1 c2 c3 hca
 refine wp_region_T (fun x=>(∀ i,x.cell? ⟨g,i,none⟩=(#[.slice (some ⟨b,off,none⟩) ts.length cl,.int .i64 st.pos,.int .i64 st.bad,.slice V st.vars.length cv,.bool st.nov]:Array Value)[i]?)/\x.cell? ⟨b,off+st.pos*4,none⟩=some (.int .i64 t.kind)/\x.cell? ⟨b,off+st.pos*4+1,none⟩=some (.string t.text)/\x.cell? ⟨b,off+st.pos*4+2,none⟩=some (.int .i64 t.n)/\x.cell? ⟨b,off+st.pos*4+3,none⟩=some (.int .i64 t.pos)) 10 (by kernel_rfl) ?_
 obtain⟨w1,e1⟩:∃ w1,w1=w0.drew:=⟨_,rfl⟩
 rw [<- e1]
 have E1:=LH (show Below w.heap.size w w1 by rw [e1];exact E0.out.trans ((Below.refl _ _).drew))
 have RZ1:=LH (show Row w1 w.heap.size 95 #[.int .i64 0,.string ⟨#[]⟩,.int .i64 0,.int .i64 0] by rw [e1];exact RZ.out)
 clear e1
 have hS1:=F0.out w1 (fun q hq=>E1.out.block q hq)
 refine wpAnyT_tk (i:=0) (oi:=_) (v:=?tv1) rfl (Or.inl ⟨by rfl,?th1⟩) hS1 ?_
 case th1=>(intro x hSx;(try dsimp only at hSx);go_simp;(try with_reducible rfl))
 try simp only [nA,nB,nC,Act.put,nD,nE,nF]
 refine wpAnyT_tk (i:=1) (oi:=_) (v:=?tv2) rfl (Or.inl ⟨by rfl,?th2⟩) hS1 ?_
 case th2=>(intro x hSx;(try dsimp only at hSx);go_simp;(try with_reducible rfl))
 try simp only [nA,nB,nC,Act.put,nD,nE,nF]
 refine wpAnyT_tk (i:=2) (oi:=_) (v:=?tv3) rfl (Or.inl ⟨by rfl,?th3⟩) hS1 ?_
 case th3=>(intro x hSx;(try dsimp only at hSx);go_simp;(try with_reducible rfl))
 try simp only [nA,nB,nC,Act.put,nD,nE,nF]
 refine wpAnyT_tk (i:=3) (oi:=_) (v:=?tv4) rfl (Or.inl ⟨by rfl,?th4⟩) hS1 ?_
 case th4=>(intro x hSx;(try dsimp only at hSx);go_simp;(try with_reducible rfl))
 try simp only [nA,nB,nC,Act.put,nD,nE,nF]
 refine wpAnyT_tk (i:=4) (oi:=_) (v:=?tv5) rfl (Or.inl ⟨by rfl,?th5⟩) hS1 ?_
 case th5=>(intro x hSx;(try dsimp only at hSx);go_simp;(try with_reducible rfl))
 try simp only [nA,nB,nC,Act.put,nD,nE,nF]
 refine wpAnyT_tk (i:=5) (oi:=_) (v:=?tv6) rfl (Or.inl ⟨by rfl,?th6⟩) hS1 ?_
 case th6=>(intro x hSx;(try dsimp only at hSx);go_simp;(try with_reducible rfl))
 try simp only [nA,nB,nC,Act.put,nD,nE,nF]
 refine wpAnyT_tk (i:=6) (oi:=_) (v:=?tv7) rfl (Or.inl ⟨by rfl,?th7⟩) hS1 ?_
 case th7=>(intro x hSx;(try dsimp only at hSx);go_simp;(try with_reducible rfl))
 try simp only [nA,nB,nC,Act.put,nD,nE,nF]
 refine wpAnyT_tk (i:=7) (oi:=_) (v:=?tv8) rfl (Or.inl ⟨by rfl,?th8⟩) hS1 ?_
 case th8=>(intro x hSx;(try dsimp only at hSx);go_simp;(try with_reducible rfl))
 try simp only [nA,nB,nC,Act.put,nD,nE,nF]
 refine wpAnyT_tk (i:=8) (oi:=_) (v:=?tv9) rfl (Or.inl ⟨by rfl,?th9⟩) hS1 ?_
 case th9=>(intro x hSx;(try dsimp only at hSx);go_simp;(try with_reducible rfl))
 try simp only [nA,nB,nC,Act.put,nD,nE,nF]
 refine wpAnyT_tk (i:=9) (oi:=_) (v:=?tv10) rfl (Or.inl ⟨by rfl,?th10⟩) hS1 ?_
 case th10=>(intro x hSx;(try dsimp only at hSx);go_simp;(try with_reducible rfl))
 try simp only [nA,nB,nC,Act.put,nD,nE,nF]
 have hcz:=fun i=>RZ1.out.cell i
 have hfz:=fun i=>RZ1.out.frozen i
 refine wpAnyT_last (by kernel_rfl) (by kernel_rfl) rfl (fun K hK=>?_)
 try simp only [nA,nB,nC]
 go_simp
 refine hK.out _ _ ?_
 clear hK K
 try simp only [nA,nB,nC,Act.put,nD,nE,nF]
 obtain⟨wf,ef⟩:∃ wf,wf=(((w1.setCell ⟨w.heap.size,0,none⟩ (.int .i64 t.kind)).setCell ⟨w.heap.size,1,none⟩ (.string t.text)).setCell ⟨w.heap.size,2,none⟩ (.int .i64 t.n)).setCell ⟨w.heap.size,3,none⟩ (.int .i64 t.pos):=⟨_,rfl⟩
 rw [<- ef]
 have RF:=LH (show Row wf w.heap.size 95 #[.int .i64 t.kind,.string t.text,.int .i64 t.n,.int .i64 t.pos] by rw [ef];exact(((RZ1.out.set 0 _).set 1 _).set 2 _).set 3 _)
 have BF:=LH (show Below w.heap.size w wf by rw [ef];exact((((E1.out).setCell (p:=⟨w.heap.size,0,none⟩) (Nat.le_refl _) _).setCell (p:=⟨w.heap.size,1,none⟩) (Nat.le_refl _) _).setCell (p:=⟨w.heap.size,2,none⟩) (Nat.le_refl _) _).setCell (p:=⟨w.heap.size,3,none⟩) (Nat.le_refl _) _)
 have hcf:=fun i=>RF.out.cell i
 clear hcz hfz hS1 ef
 go_wp2_with fail
 exact bodyPost_ret (v:=.agg #[.int .i64 t.kind,.string t.text,.int .i64 t.n,.int .i64 t.pos]) (by simp [results,Tryz.results57,go_sem,hcf]) rfl ⟨rfl,BF.out⟩
structure Mv (ts:List GToken) (g:Nat) (L:Option Addr) (cl:Nat) (V:Option Addr) (cv:Nat) (vs:List ByteArray) (st:PSt) (w w':World):Prop where
 bx:Bx g w w'
 row:Row w' g 90 #[.slice L ts.length cl,.int .i64 st.pos,.int .i64 st.bad,.slice V vs.length cv,.bool st.nov]
 vs:st.vars=vs
 pos:st.pos<ts.length
theorem PCur.mv {ts:List GToken} {g:Nat} {L:Option Addr} {cl:Nat} {V:Option Addr} {cv:Nat} {st:PSt} {w:World} (h:PCur ts g L cl V cv st w):Mv ts g L cl V cv st.vars st w w:=⟨Bx.refl _ _,h.row,rfl,h.pos⟩
theorem Mv.cur {ts:List GToken} {g:Nat} {L:Option Addr} {cl:Nat} {V:Option Addr} {cv:Nat} {st st':PSt} {w w':World} (m:Mv ts g L cl V cv st.vars st' w w') (h:PCur ts g L cl V cv st w):PCur ts g L cl V cv st' w':=
 ⟨by rw [m.vs];exact m.row,m.bx.sl h.toks,by rw [m.vs];exact m.bx.sl h.vars,m.pos,h.few⟩
theorem Mv.trans {ts:List GToken} {g:Nat} {L:Option Addr} {cl:Nat} {V:Option Addr} {cv:Nat} {vs:List ByteArray} {st st':PSt} {a b c:World} (h:Mv ts g L cl V cv vs st a b) (k:Mv ts g L cl V cv st.vars st' b c):Mv ts g L cl V cv vs st' a c:=
 ⟨h.bx.trans k.bx,by have:=k.row;rw [h.vs] at this;exact this,k.vs.trans h.vs,k.pos⟩
theorem Mv.below {ts:List GToken} {g:Nat} {L:Option Addr} {cl:Nat} {V:Option Addr} {cv:Nat} {vs:List ByteArray} {st:PSt} {a b c:World} (h:Mv ts g L cl V cv vs st a b) (k:Below b.heap.size b c):Mv ts g L cl V cv vs st a c:=
 ⟨h.bx.trans (Bx.of_below k (Nat.le_refl _)),h.row.below k h.row.lt,h.vs,h.pos⟩
theorem Mv.alloc {ts:List GToken} {g:Nat} {L:Option Addr} {cl:Nat} {V:Option Addr} {cv:Nat} {vs:List ByteArray} {st:PSt} {a b:World} (h:Mv ts g L cl V cv vs st a b) (o:Obj):Mv ts g L cl V cv vs st a (b.alloc o):=
 ⟨h.bx.alloc o,h.row.alloc o,h.vs,h.pos⟩
theorem Mv.drew {ts:List GToken} {g:Nat} {L:Option Addr} {cl:Nat} {V:Option Addr} {cv:Nat} {vs:List ByteArray} {st:PSt} {a b:World} (h:Mv ts g L cl V cv vs st a b):Mv ts g L cl V cv vs st a b.drew:=
 h.below ((Below.refl _ _).drew)
theorem Mv.set {ts:List GToken} {g:Nat} {L:Option Addr} {cl:Nat} {V:Option Addr} {cv:Nat} {vs:List ByteArray} {st:PSt} {a b:World} (h:Mv ts g L cl V cv vs st a b) {p:Addr} (hp:a.heap.size<=p.block) (hg:g<a.heap.size) (u:Value):Mv ts g L cl V cv vs st a (b.setCell p u):=
 ⟨h.bx.set (.inr hp) u,h.row.far (by omega) u,h.vs,h.pos⟩
theorem Mv.size {ts:List GToken} {g:Nat} {L:Option Addr} {cl:Nat} {V:Option Addr} {cv:Nat} {vs:List ByteArray} {st:PSt} {a b:World} (h:Mv ts g L cl V cv vs st a b):a.heap.size<=b.heap.size:=h.bx.size
theorem l3Bad (ts:List GToken) (g:Nat) (L:Option Addr) (cl:Nat) (V:Option Addr) (cv:Nat) (st:PSt) (w:World) (h:PCur ts g L cl V cv st w):
 Calls Tryz.prog 58 #[.pointer (some ⟨g,0,none⟩)] w fun e w'=>e= .returned (.tuple #[])/\Mv ts g L cl V cv st.vars (pBad ts st) w w':=by
 have HC:=LH h
 have HN:=LH (l3Now ts g L cl V cv st w h)
 have HR:=LH h.row
 have hca:=fun i=>HR.out.cell i
 have hgl:=HR.out.lt
 clear h
 obtain⟨t,ht⟩:∃ t,pNow ts st=t:=⟨_,rfl⟩
 rw [ht] at HN
 have HTN:=LH ht
 clear ht
 have hfd:∀ w:World,(Instr.field 95 (.agg #[.int .i64 t.kind,.string t.text,.int .i64 t.n,.int .i64 t.pos]) 3).run Tryz.prog w= .ok (.int .i64 t.pos) w:=fun _=>by kernel_rfl
 go_enter Tryz.func58,Tryz.ntmps58
 by_cases hb:st.bad<0
 ·
  have HV:=LH (show pBad ts st= {st with bad:=t.pos} by unfold pBad;rw [if_pos hb,HTN.out])
  have d1:decide (st.bad<0)=true:=decide_eq_true hb
  go_wp2_with fail
  refine HN.out.mono ?_
  rintro e w1 ⟨rfl,hb1⟩
  have E1:=LH hb1
  have R1:=LH (HR.out.below hb1 HR.out.lt)
  have hca1:=fun i=>R1.out.cell i
  have hfa1:=fun i=>R1.out.frozen i
  clear hca hb1 hb
  go_wp2_with fail
  have MF:=LH (show Mv ts g L cl V cv st.vars (pBad ts st) w (w1.setCell ⟨g,2,none⟩ (.int .i64 t.pos)) by
    rw [HV.out]
    exact⟨(Bx.of_below E1.out (Nat.le_refl _)).set (p:=⟨g,2,none⟩) (.inl rfl) _,R1.out.set 2 _,rfl,HC.out.pos⟩)
  (try simp only [Exit.inBlock,Exit.then]);first | (refine bodyPost_ret (results_tmp rfl _ _ _) rfl ?_) | (refine bodyPost_ret (results_none rfl _ _ _) rfl ?_) | (refine bodyPost_end (results_none rfl _ _ _) rfl ?_) | go_ret2 | go_ret3
  exact⟨rfl,MF.out⟩
 ·
  have HV:=LH (show pBad ts st=st by unfold pBad;rw [if_neg hb])
  have d1:decide (st.bad<0)=false:=decide_eq_false hb
  go_wp2_with fail
  (try simp only [Exit.inBlock,Exit.then]);first | (refine bodyPost_ret (results_tmp rfl _ _ _) rfl ?_) | (refine bodyPost_ret (results_none rfl _ _ _) rfl ?_) | (refine bodyPost_end (results_none rfl _ _ _) rfl ?_) | go_ret2 | go_ret3
  exact⟨rfl,by rw [HV.out];exact HC.out.mv⟩
theorem l3Sign (ts:List GToken) (g:Nat) (L:Option Addr) (cl:Nat) (V:Option Addr) (cv:Nat) (st:PSt) (w:World) (h:PCur ts g L cl V cv st w) (s:ByteArray):
 Calls Tryz.prog 67 #[.pointer (some ⟨g,0,none⟩),.string s] w fun e w'=>e= .returned (.bool (pSign ts s.data.toList st))/\Below w.heap.size w w':=by
 have HC:=LH h
 have HN:=LH (l3Now ts g L cl V cv st w h)
 have HR:=LH h.row
 have hca:=fun i=>HR.out.cell i
 have hgl:=HR.out.lt
 clear h
 obtain⟨t,ht⟩:∃ t,pNow ts st=t:=⟨_,rfl⟩
 rw [ht] at HN
 have HV:=LH (show(pSign ts s.data.toList st)=(decide (st.bad<0)&&(t.kind ==4&&t.text.toList ==s.toList)) by unfold pSign;rw [ht];simp only [bytes_beq])
 clear ht
 go_enter Tryz.func67,Tryz.ntmps67
 go_wp2_with fail
 refine HN.out.mono ?_
 rintro e w1 ⟨rfl,hb1⟩
 have E1:=LH hb1
 have R1:=LH (HR.out.below hb1 HR.out.lt)
 have hca1:=fun i=>R1.out.cell i
 have hgl1:=R1.out.lt
 have BF:=LH (show Below w.heap.size w (w1.alloc (.cells #[.int .i64 t.kind,.string t.text,.int .i64 t.n,.int .i64 t.pos] 95)) from E1.out.alloc E1.out.size _)
 clear hca hb1
 cases h1:decide (st.bad<0)
 case' true=>cases h2:(t.kind ==4)
 case' true.true=>cases h3:(t.text.toList ==s.toList)
 all_goals
  go_wp2_with fail
  (try simp only [Exit.inBlock,Exit.then]);first | (refine bodyPost_ret (results_tmp rfl _ _ _) rfl ?_) | (refine bodyPost_ret (results_none rfl _ _ _) rfl ?_) | (refine bodyPost_end (results_none rfl _ _ _) rfl ?_) | go_ret2 | go_ret3
  exact⟨congrArg (fun b=>Ending.returned (Value.bool b)) (by rw [HV.out];simp [*,bne]),BF.out⟩
theorem l3Is (ts:List GToken) (g:Nat) (L:Option Addr) (cl:Nat) (V:Option Addr) (cv:Nat) (st:PSt) (w:World) (h:PCur ts g L cl V cv st w) (s:ByteArray):
 Calls Tryz.prog 54 #[.pointer (some ⟨g,0,none⟩),.string s] w fun e w'=>e= .returned (.bool (pIs ts s.data.toList st))/\Below w.heap.size w w':=by
 have HC:=LH h
 have HN:=LH (l3Now ts g L cl V cv st w h)
 have HR:=LH h.row
 have hca:=fun i=>HR.out.cell i
 have hgl:=HR.out.lt
 clear h
 obtain⟨t,ht⟩:∃ t,pNow ts st=t:=⟨_,rfl⟩
 rw [ht] at HN
 have HV:=LH (show(pIs ts s.data.toList st)=(decide (st.bad<0)&&(t.kind ==1&&t.text.toList ==s.toList)) by unfold pIs;rw [ht];simp only [bytes_beq])
 clear ht
 go_enter Tryz.func54,Tryz.ntmps54
 go_wp2_with fail
 refine HN.out.mono ?_
 rintro e w1 ⟨rfl,hb1⟩
 have E1:=LH hb1
 have R1:=LH (HR.out.below hb1 HR.out.lt)
 have hca1:=fun i=>R1.out.cell i
 have hgl1:=R1.out.lt
 have BF:=LH (show Below w.heap.size w (w1.alloc (.cells #[.int .i64 t.kind,.string t.text,.int .i64 t.n,.int .i64 t.pos] 95)) from E1.out.alloc E1.out.size _)
 clear hca hb1
 cases h1:decide (st.bad<0)
 case' true=>cases h2:(t.kind ==1)
 case' true.true=>cases h3:(t.text.toList ==s.toList)
 all_goals
  go_wp2_with fail
  (try simp only [Exit.inBlock,Exit.then]);first | (refine bodyPost_ret (results_tmp rfl _ _ _) rfl ?_) | (refine bodyPost_ret (results_none rfl _ _ _) rfl ?_) | (refine bodyPost_end (results_none rfl _ _ _) rfl ?_) | go_ret2 | go_ret3
  exact⟨congrArg (fun b=>Ending.returned (Value.bool b)) (by rw [HV.out];simp [*,bne]),BF.out⟩
theorem l3Con (ts:List GToken) (g:Nat) (L:Option Addr) (cl:Nat) (V:Option Addr) (cv:Nat) (st:PSt) (w:World) (h:PCur ts g L cl V cv st w):
 Calls Tryz.prog 85 #[.pointer (some ⟨g,0,none⟩)] w fun e w'=>e= .returned (.bool (pCon ts st))/\Below w.heap.size w w':=by
 have HC:=LH h
 have HN:=LH (l3Now ts g L cl V cv st w h)
 have HR:=LH h.row
 have hca:=fun i=>HR.out.cell i
 have hgl:=HR.out.lt
 clear h
 obtain⟨t,ht⟩:∃ t,pNow ts st=t:=⟨_,rfl⟩
 rw [ht] at HN
 have HV:=LH (show(pCon ts st)=(decide (st.bad<0)&&(t.kind ==2&&t.text.toList != ByteArray.toList ⟨#[73,110,116]⟩)) by unfold pCon;rw [ht];simp only [bne,bytes_beq])
 clear ht
 go_enter Tryz.func85,Tryz.ntmps85
 go_wp2_with fail
 refine HN.out.mono ?_
 rintro e w1 ⟨rfl,hb1⟩
 have E1:=LH hb1
 have R1:=LH (HR.out.below hb1 HR.out.lt)
 have hca1:=fun i=>R1.out.cell i
 have hgl1:=R1.out.lt
 have BF:=LH (show Below w.heap.size w (w1.alloc (.cells #[.int .i64 t.kind,.string t.text,.int .i64 t.n,.int .i64 t.pos] 95)) from E1.out.alloc E1.out.size _)
 clear hca hb1
 cases h1:decide (st.bad<0)
 case' true=>cases h2:(t.kind ==2)
 case' true.true=>cases h3:(t.text.toList ==ByteArray.toList ⟨#[73,110,116]⟩)
 all_goals
  go_wp2_with fail
  (try simp only [Exit.inBlock,Exit.then]);first | (refine bodyPost_ret (results_tmp rfl _ _ _) rfl ?_) | (refine bodyPost_ret (results_none rfl _ _ _) rfl ?_) | (refine bodyPost_end (results_none rfl _ _ _) rfl ?_) | go_ret2 | go_ret3
  exact⟨congrArg (fun b=>Ending.returned (Value.bool b)) (by rw [HV.out];simp [*,bne]),BF.out⟩
theorem l3Name (ts:List GToken) (g:Nat) (L:Option Addr) (cl:Nat) (V:Option Addr) (cv:Nat) (st:PSt) (w:World) (h:PCur ts g L cl V cv st w):
 Calls Tryz.prog 64 #[.pointer (some ⟨g,0,none⟩)] w fun e w'=>e= .returned (.bool (pName ts st))/\Below w.heap.size w w':=by
 have HC:=LH h
 have HN:=LH (l3Now ts g L cl V cv st w h)
 have HR:=LH h.row
 have hca:=fun i=>HR.out.cell i
 have hgl:=HR.out.lt
 clear h
 obtain⟨t,ht⟩:∃ t,pNow ts st=t:=⟨_,rfl⟩
 rw [ht] at HN
 have HV:=LH (show(pName ts st)=(decide (st.bad<0)&&(t.kind ==1&&!inStrs kws t.text)) by unfold pName;rw [ht];rw [inKw_eq])
 clear ht
 go_enter Tryz.func64,Tryz.ntmps64
 go_wp2_with fail
 refine HN.out.mono ?_
 rintro e w1 ⟨rfl,hb1⟩
 have E1:=LH hb1
 have R1:=LH (HR.out.below hb1 HR.out.lt)
 have hca1:=fun i=>R1.out.cell i
 have hgl1:=R1.out.lt
 have BF:=LH (show Below w.heap.size w (w1.alloc (.cells #[.int .i64 t.kind,.string t.text,.int .i64 t.n,.int .i64 t.pos] 95)) from E1.out.alloc E1.out.size _)
 clear hca hb1
 cases h1:decide (st.bad<0)
 case' true=>cases h2:(t.kind ==1)
 case' true.true=>
  go_wp2_with fail
  refine(specKeyword t.text _).mono ?_
  rintro e w2 ⟨rfl,hb2⟩
  have BF2:=LH (BF.out.trans (hb2.mono BF.out.size))
  clear hb2
  cases h3:inStrs kws t.text
 all_goals
  go_wp2_with fail
  (try simp only [Exit.inBlock,Exit.then]);first | (refine bodyPost_ret (results_tmp rfl _ _ _) rfl ?_) | (refine bodyPost_ret (results_none rfl _ _ _) rfl ?_) | (refine bodyPost_end (results_none rfl _ _ _) rfl ?_) | go_ret2 | go_ret3
  first
  | exact⟨congrArg (fun b=>Ending.returned (Value.bool b)) (by rw [HV.out];simp [*,bne]),BF.out⟩
  | exact⟨congrArg (fun b=>Ending.returned (Value.bool b)) (by rw [HV.out];simp [*,bne]),BF2.out⟩
theorem belowN {B:Nat} {a w:World} (h:Below B a w) (n:Nat):Below B a (w.drewN n):=⟨h.os,h.tape,h.output,h.size,h.block⟩
def inB (n lo hi:Int):Bool:=decide (lo<=n/\n<=hi)
theorem inB_true {n lo hi:Int} (h:lo<=n/\n<=hi):inB n lo hi=true:=decide_eq_true h
theorem inB_false {n lo hi:Int} (h:¬ (lo<=n/\n<=hi)):inB n lo hi=false:=decide_eq_false h
theorem implWithin (n lo hi:Int) (w:World):Calls Tryz.prog 21 #[.int .i64 n,.int .i64 lo,.int .i64 hi] w fun e w'=>e= .returned (.bool (inB n lo hi))/\w=w':=by
 by_cases h1:lo<=n
 ·
  by_cases h2:n<=hi
  · go_enter Tryz.func21,Tryz.ntmps21
    go_wp2_with fail
    go_ret
    exact⟨ret_bool (by rw [inB_true ⟨h1,h2⟩]),rfl⟩
  · have h3:decide (n<=hi)=false:=by simpa using h2
    go_enter Tryz.func21,Tryz.ntmps21
    go_wp2_with fail
    go_ret
    exact⟨ret_bool (by rw [inB_false (by omega)]),rfl⟩
 ·
  have h3:decide (lo<=n)=false:=by simpa using h1
  go_enter Tryz.func21,Tryz.ntmps21
  go_wp2_with fail
  go_ret
  exact⟨ret_bool (by rw [inB_false (by omega)]),rfl⟩
theorem specIn (n lo hi:Int) (w:World):Calls Tryz.prog 75 #[.int .i64 n,.int .i64 lo,.int .i64 hi] w fun e w'=>e= .returned (.bool (inB n lo hi))/\w=w':=by
 by_cases h1:lo<=n
 ·
  by_cases h2:n<=hi
  · go_enter Tryz.func75,Tryz.ntmps75
    go_wp2_with fail
    go_ret
    exact⟨ret_bool (by rw [inB_true ⟨h1,h2⟩]),rfl⟩
  · have h3:decide (n<=hi)=false:=by simpa using h2
    go_enter Tryz.func75,Tryz.ntmps75
    go_wp2_with fail
    go_ret
    exact⟨ret_bool (by rw [inB_false (by omega)]),rfl⟩
 · have h3:decide (lo<=n)=false:=by simpa using h1
   go_enter Tryz.func75,Tryz.ntmps75
   go_wp2_with fail
   go_ret
   exact⟨ret_bool (by rw [inB_false (by omega)]),rfl⟩
end Go.Proofs.YtgbjdhfaklmjcaaGreat
