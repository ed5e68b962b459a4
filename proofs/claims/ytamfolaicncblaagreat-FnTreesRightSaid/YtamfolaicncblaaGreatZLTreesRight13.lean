/- Texts of the claim LTreesRight in one: NameOk FuncP FNode PatTidy NodeP FTy TyTidy. Conditions: none but bounds on sizes. -/
import Derived.Test.YtamfolaicncblaaGreatZLTreesRight7
import Derived.WalkKit
import Derived.Test.YtamfolaicncblaaGreatRows
import Derived.Test.YtamfolaicncblaaGreatZLTreesRight0
import Derived.Test.YtamfolaicncblaaGreatZLTreesRight2
import Derived.Lib.Hide
namespace Go.Proofs.YtamfolaicncblaaGreat
set_option maxRecDepth 20000
set_option linter.unusedVariables false
set_option linter.unusedSimpArgs false
open Go.RowKit
set_option maxHeartbeats 1000000
theorem intS_list:intS.toList= [73,110,116]:=by rw [ByteArray.toList_eq];rfl
theorem all_no {p:UInt8->Bool} {l:List UInt8} {k:Nat} (h:k<l.length) (hd:p l[k]=false):l.all p=false:=by
 rw [<- Bool.not_eq_true];intro hh
 have:=List.all_eq_true.1 hh _ (List.getElem_mem h)
 rw [hd] at this;cases this
theorem lettersB_size {f:UInt8->Bool} {s:ByteArray} (h:inB (s.size:Int) 1 8=false):lettersB f s=false:=by
 unfold lettersB inB at*
 have:decide (1<=s.size/\s.size<=8)=false:=by
  simp only [decide_eq_false_iff_not] at h ⊢;omega
 rw [this];rfl
theorem inB_size {s:ByteArray} (h:inB (s.size:Int) 1 8=true):0<s.size/\s.size<=8/\decide (1<=s.size/\s.size<=8)=true:=by
 unfold inB at h
 simp only [decide_eq_true_eq] at h
 exact⟨by omega,by omega,by simp;omega⟩
theorem specName (s:ByteArray) (w:World) (hs:s.size<=9223372036854775807):Calls Tryz.prog 130 #[.string s] w fun e w'=>e= .returned (.bool (nameB s))/\Below w.heap.size w w':=by
 have HSM:=LH (fun(c:UInt8) (v:Bool) (h:smB c=v)=>show Calls Tryz.prog 118 #[.int .u8 c.toNat] w fun e w'=>e= .returned (.bool v)/\w=w' from by rw [<- h];exact specSmall c w)
 have HLG:=LH (fun(c:UInt8) (v:Bool) (h:lgB c=v)=>show Calls Tryz.prog 119 #[.int .u8 c.toNat] w fun e w'=>e= .returned (.bool v)/\w=w' from by rw [<- h];exact specLarge c w)
 have HIN:=LH (fun(v:Bool) (h:inB (s.size:Int) 1 8=v)=>show Calls Tryz.prog 96 #[.int .i64 (s.size:Int),.int .i64 1,.int .i64 8] w fun e w'=>e= .returned (.bool v)/\w=w' from by rw [<- h];exact specIn (s.size:Int) 1 8 w)
 go_enter Tryz.func130,Tryz.ntmps130
 go_wp2_with fail
 go_loop [3] (fun i=>∃ k:Nat,k<=s.size/\i= .int .i64 k/\Hid ((s.data.toList.take k).all ltB=true)) (fun i=>s.size - (intOf i).toNat)
 case atStart=>exact⟨0,by omega,by go_num,LH (by simp)⟩
 case round=>
  obtain⟨k,hk,rfl,HA⟩:=hrel
  by_cases hlt:k<s.size
  ·
   have HSN:=LH (take_snoc_b s k hlt)
   cases hsm:smB s[k]
   case' false=>cases hlg:lgB s[k]
   case false.false=>
    have HNO:=LH (show s.data.toList.all ltB=false by
      have h:=all_no (p:=ltB) (l:=s.data.toList) (k:=k) (by rw [ba_len];exact hlt) (by show ltB s[k]=false;unfold ltB;rw [hsm,hlg];rfl)
      exact h)
    have HV:=LH (show nameB s=false by unfold nameB lettersB;rw [HNO.out];simp)
    have C1:=LH (HSM.out s[k] _ hsm)
    have C2:=LH (HLG.out s[k] _ hlg)
    clear hsm hlg
    go_wp2_with fail
    refine C1.out.mono ?_
    rintro e w1 ⟨rfl,rfl⟩
    go_wp2_with fail
    refine C2.out.mono ?_
    rintro e w1 ⟨rfl,rfl⟩
    go_wp2_with fail
    go_ret
    exact⟨ret_bool HV.out.symm,Below.refl _ _⟩
   case false.true=>
    have HA2:=LH (show(s.data.toList.take (k+1)).all ltB=true by rw [HSN.out,List.all_append,HA.out];simp [ltB,hlg])
    have C1:=LH (HSM.out s[k] _ hsm)
    have C2:=LH (HLG.out s[k] _ hlg)
    clear hsm hlg
    go_wp2_with fail
    refine C1.out.mono ?_
    rintro e w1 ⟨rfl,rfl⟩
    go_wp2_with fail
    refine C2.out.mono ?_
    rintro e w1 ⟨rfl,rfl⟩
    go_wp2_with fail
    go_round
    case rel=>exact⟨k+1,by omega,by go_num,HA2⟩
    case measure=>simp [intOf];omega
   case true=>
    have HA2:=LH (show(s.data.toList.take (k+1)).all ltB=true by rw [HSN.out,List.all_append,HA.out];simp [ltB,hsm])
    have C1:=LH (HSM.out s[k] _ hsm)
    clear hsm
    go_wp2_with fail
    refine C1.out.mono ?_
    rintro e w1 ⟨rfl,rfl⟩
    go_wp2_with fail
    go_round
    case rel=>exact⟨k+1,by omega,by go_num,HA2⟩
    case measure=>simp [intOf];omega
  ·
   have HALL:=LH (show s.data.toList.all ltB=true by
     have h1:=HA.out
     rw [List.take_of_length_le (by rw [ba_len];omega)] at h1
     exact h1)
   cases hin:inB (s.size:Int) 1 8
   ·
    have HV:=LH (show nameB s=false by unfold nameB;rw [lettersB_size hin];rfl)
    have C1:=LH (HIN.out _ hin)
    clear hin
    go_wp2_with fail
    refine C1.out.mono ?_
    rintro e w1 ⟨rfl,rfl⟩
    go_wp2_with fail
    go_ret
    exact⟨ret_bool HV.out.symm,Below.refl _ _⟩
   ·
    obtain⟨h0,h8,hd⟩:=inB_size hin
    have C1:=LH (HIN.out _ hin)
    have HF:=LH (firstB_at (f:=smB) h0)
    have HD:=LH hd
    clear hin hd
    cases hp:smB s[0]
    ·
     have HV:=LH (show nameB s=false by unfold nameB lettersB;rw [HD.out,HF.out,hp];rfl)
     have C2:=LH (HSM.out s[0] _ hp)
     clear hp
     go_wp2_with fail
     refine C1.out.mono ?_
     rintro e w1 ⟨rfl,rfl⟩
     go_wp2_with fail
     refine C2.out.mono ?_
     rintro e w1 ⟨rfl,rfl⟩
     go_wp2_with fail
     go_ret
     exact⟨ret_bool HV.out.symm,Below.refl _ _⟩
    ·
     have C2:=LH (HSM.out s[0] _ hp)
     have HV:=LH (show nameB s= !inStrs kws s by unfold nameB lettersB;rw [HD.out,HF.out,hp,HALL.out];rfl)
     clear hp
     go_wp2_with fail
     refine C1.out.mono ?_
     rintro e w1 ⟨rfl,rfl⟩
     go_wp2_with fail
     refine C2.out.mono ?_
     rintro e w1 ⟨rfl,rfl⟩
     go_wp2_with fail
     refine(specKeyword s _).mono ?_
     rintro e w2 ⟨rfl,hb⟩
     have HB:=LH hb
     clear hb
     go_wp2_with fail
     go_ret
     exact⟨ret_bool HV.out.symm,HB.out⟩
theorem specCon (s:ByteArray) (w:World) (hs:s.size<=9223372036854775807):Calls Tryz.prog 110 #[.string s] w fun e w'=>e= .returned (.bool (conB s))/\w=w':=by
 have HSM:=LH (fun(c:UInt8) (v:Bool) (h:smB c=v)=>show Calls Tryz.prog 118 #[.int .u8 c.toNat] w fun e w'=>e= .returned (.bool v)/\w=w' from by rw [<- h];exact specSmall c w)
 have HLG:=LH (fun(c:UInt8) (v:Bool) (h:lgB c=v)=>show Calls Tryz.prog 119 #[.int .u8 c.toNat] w fun e w'=>e= .returned (.bool v)/\w=w' from by rw [<- h];exact specLarge c w)
 have HIN:=LH (fun(v:Bool) (h:inB (s.size:Int) 1 8=v)=>show Calls Tryz.prog 96 #[.int .i64 (s.size:Int),.int .i64 1,.int .i64 8] w fun e w'=>e= .returned (.bool v)/\w=w' from by rw [<- h];exact specIn (s.size:Int) 1 8 w)
 go_enter Tryz.func110,Tryz.ntmps110
 go_wp2_with fail
 go_loop [3] (fun i=>∃ k:Nat,k<=s.size/\i= .int .i64 k/\Hid ((s.data.toList.take k).all ltB=true)) (fun i=>s.size - (intOf i).toNat)
 case atStart=>exact⟨0,by omega,by go_num,LH (by simp)⟩
 case round=>
  obtain⟨k,hk,rfl,HA⟩:=hrel
  by_cases hlt:k<s.size
  ·
   have HSN:=LH (take_snoc_b s k hlt)
   cases hsm:smB s[k]
   case' false=>cases hlg:lgB s[k]
   case false.false=>
    have HNO:=LH (show s.data.toList.all ltB=false by
      have h:=all_no (p:=ltB) (l:=s.data.toList) (k:=k) (by rw [ba_len];exact hlt) (by show ltB s[k]=false;unfold ltB;rw [hsm,hlg];rfl)
      exact h)
    have HV:=LH (show conB s=false by unfold conB lettersB;rw [HNO.out];simp)
    have C1:=LH (HSM.out s[k] _ hsm)
    have C2:=LH (HLG.out s[k] _ hlg)
    clear hsm hlg
    go_wp2_with fail
    refine C1.out.mono ?_
    rintro e w1 ⟨rfl,rfl⟩
    go_wp2_with fail
    refine C2.out.mono ?_
    rintro e w1 ⟨rfl,rfl⟩
    go_wp2_with fail
    go_ret
    exact⟨ret_bool HV.out.symm,rfl⟩
   case false.true=>
    have HA2:=LH (show(s.data.toList.take (k+1)).all ltB=true by rw [HSN.out,List.all_append,HA.out];simp [ltB,hlg])
    have C1:=LH (HSM.out s[k] _ hsm)
    have C2:=LH (HLG.out s[k] _ hlg)
    clear hsm hlg
    go_wp2_with fail
    refine C1.out.mono ?_
    rintro e w1 ⟨rfl,rfl⟩
    go_wp2_with fail
    refine C2.out.mono ?_
    rintro e w1 ⟨rfl,rfl⟩
    go_wp2_with fail
    go_round
    case rel=>exact⟨k+1,by omega,by go_num,HA2⟩
    case measure=>simp [intOf];omega
   case true=>
    have HA2:=LH (show(s.data.toList.take (k+1)).all ltB=true by rw [HSN.out,List.all_append,HA.out];simp [ltB,hsm])
    have C1:=LH (HSM.out s[k] _ hsm)
    clear hsm
    go_wp2_with fail
    refine C1.out.mono ?_
    rintro e w1 ⟨rfl,rfl⟩
    go_wp2_with fail
    go_round
    case rel=>exact⟨k+1,by omega,by go_num,HA2⟩
    case measure=>simp [intOf];omega
  ·
   have HALL:=LH (show s.data.toList.all ltB=true by
     have h1:=HA.out
     rw [List.take_of_length_le (by rw [ba_len];omega)] at h1
     exact h1)
   cases hin:inB (s.size:Int) 1 8
   ·
    have HV:=LH (show conB s=false by unfold conB;rw [lettersB_size hin];rfl)
    have C1:=LH (HIN.out _ hin)
    clear hin
    go_wp2_with fail
    refine C1.out.mono ?_
    rintro e w1 ⟨rfl,rfl⟩
    go_wp2_with fail
    go_ret
    exact⟨ret_bool HV.out.symm,rfl⟩
   ·
    obtain⟨h0,h8,hd⟩:=inB_size hin
    have C1:=LH (HIN.out _ hin)
    have HF:=LH (firstB_at (f:=lgB) h0)
    have HD:=LH hd
    clear hin hd
    cases hp:lgB s[0]
    ·
     have HV:=LH (show conB s=false by unfold conB lettersB;rw [HD.out,HF.out,hp];rfl)
     have C2:=LH (HLG.out s[0] _ hp)
     clear hp
     go_wp2_with fail
     refine C1.out.mono ?_
     rintro e w1 ⟨rfl,rfl⟩
     go_wp2_with fail
     refine C2.out.mono ?_
     rintro e w1 ⟨rfl,rfl⟩
     go_wp2_with fail
     go_ret
     exact⟨ret_bool HV.out.symm,rfl⟩
    ·
     have C2:=LH (HLG.out s[0] _ hp)
     have HV:=LH (show conB s= !(s.toList ==intS.toList) by unfold conB lettersB;rw [HD.out,HF.out,hp,HALL.out];rfl)
     clear hp
     go_wp2_with fail
     refine C1.out.mono ?_
     rintro e w1 ⟨rfl,rfl⟩
     go_wp2_with fail
     refine C2.out.mono ?_
     rintro e w1 ⟨rfl,rfl⟩
     go_wp2_with fail
     go_ret
     exact⟨ret_bool (by rw [HV.out,intS_list]),rfl⟩
end Go.Proofs.YtamfolaicncblaaGreat
namespace Go.Proofs.YtamfolaicncblaaGreat
set_option maxRecDepth 20000
set_option linter.unusedVariables false
set_option linter.unusedSimpArgs false
def idxI {α:Type} (p:α->Bool):List α->Int
 | []=> -1
 | x::r=>if p x then 0 else if idxI p r<0 then -1 else idxI p r+1
def noneTo {α:Type} (p:α->Bool) (l:List α) (j:Nat):Prop:=∀ i (h:i<l.length),i<j->p l[i]=false
theorem noneTo_zero {α:Type} (p:α->Bool) (l:List α):noneTo p l 0:=fun i _ h=>by omega
theorem noneTo_succ {α:Type} {p:α->Bool} {l:List α} {j:Nat} (h:noneTo p l j) (hj:j<l.length) (he:p l[j]=false):noneTo p l (j+1):=fun i hi hij=>by
 rcases Nat.lt_or_ge i j with h1 | h1
 · exact h i hi h1
 · obtain rfl:i=j:=by omega
   exact he
theorem noneTo_tail {α:Type} {p:α->Bool} {x:α} {r:List α} {j:Nat} (h:noneTo p (x::r) (j+1)):noneTo p r j:=fun i hi hij=>by
 have:=h (i+1) (by simpa using hi) (by omega)
 simpa using this
theorem idxI_none {α:Type} {p:α->Bool}:∀ {l:List α},noneTo p l l.length->idxI p l= -1
 | [],_=>rfl
 | x::r,h=>by
  have h0:=h 0 (by simp) (by simp)
  simp only [List.getElem_cons_zero] at h0
  have h1:=idxI_none (p:=p) (l:=r) (noneTo_tail (j:=r.length) (by simpa using h))
  simp [idxI,h0,h1]
theorem idxI_at {α:Type} {p:α->Bool}:∀ {l:List α} {j:Nat},noneTo p l j->(hj:j<l.length)->p l[j]=true->idxI p l=j
 | [],_,_,hj,_=>by simp at hj
 | x::r,0,_,_,he=>by simp only [List.getElem_cons_zero] at he;simp [idxI,he]
 | x::r,j+1,h,hj,he=>by
  have h0:=h 0 (by simp) (by omega)
  simp only [List.getElem_cons_zero] at h0
  have h1:=idxI_at (p:=p) (l:=r) (j:=j) (noneTo_tail h) (by simpa using hj) (by simpa using he)
  simp only [idxI,h0,h1]
  have:¬ ((j:Int)<0):=by omega
  simp [this]
theorem idxI_any_false {α:Type} {p:α->Bool}:∀ {l:List α},l.any p=false->idxI p l= -1
 | [],_=>rfl
 | x::r,h=>by
  simp only [List.any_cons,Bool.or_eq_false_iff] at h
  simp [idxI,h.1,idxI_any_false h.2]
theorem idxI_any_true {α:Type} {p:α->Bool}:∀ {l:List α},l.any p=true->0<=idxI p l
 | [],h=>by simp at h
 | x::r,h=>by
  simp only [List.any_cons,Bool.or_eq_true] at h
  unfold idxI
  split
  · omega
  · rename_i hx
    rcases h with h | h
    · exact absurd h hx
    · have:=idxI_any_true h
      split<;>omega
theorem idxI_spec {α:Type} {p:α->Bool}:∀ {l:List α},0<=idxI p l->∃ j,∃ h:j<l.length,idxI p l=j/\p l[j]=true/\noneTo p l j
 | [],h=>by simp [idxI] at h
 | x::r,h=>by
  unfold idxI at h ⊢
  by_cases hx:p x=true
  · rw [if_pos hx] at h ⊢
    exact⟨0,by simp,rfl,by simpa using hx,fun i _ h=>by omega⟩
  ·
   rw [if_neg hx] at h ⊢
   by_cases hr:idxI p r<0
   · rw [if_pos hr] at h;omega
   · rw [if_neg hr] at h ⊢
     obtain⟨j,hj,e,hp,hn⟩:=idxI_spec (p:=p) (l:=r) (by omega)
     refine⟨j+1,by simpa using hj,by rw [e];simp,by simpa using hp,fun i hi hij=>?_⟩
     match i with
     | 0=>simpa using hx
     | i+1=>have:=hn i (by simpa using hi) (by omega);simpa using this
end Go.Proofs.YtamfolaicncblaaGreat
namespace Go.Proofs.YtamfolaicncblaaGreat
set_option maxRecDepth 20000
set_option linter.unusedVariables false
set_option linter.unusedSimpArgs false
open Go.RowKit
set_option maxHeartbeats 400000
theorem indexFuncNode (K:Nat) (hK:∀ (args:Array Value) (w:World),(callFunc K args).run Tryz.prog w= .ok (.enter K args) w) (caps:Array Value) (p:GNode->Bool) (l:List GNode) (A:Option Addr) (c:Nat) (w:World) (hs:Sl w (Lt w.heap.size) 5 A c (l.map GNode.toD))
 (H:∀ x,x∈l->∀ (A1:Option Addr) (c1:Nat) (w2:World),Below w.heap.size w w2->GNode.At w2 (Lt w2.heap.size) A1 c1 x->
   Calls Tryz.prog K (#[.agg #[.int .i64 x.op,.int .i64 x.n,.string x.s,.string x.t,.slice A1 x.kids.length c1]]++caps) w2 fun e w'=>e= .returned (.bool (p x))/\Below w2.heap.size w2 w'):
 Calls Tryz.prog 115 #[.slice A l.length c,.func (.func K) #[] caps] w fun e w'=>e= .returned (.int .i64 (idxI p l))/\Below w.heap.size w w':=by
 have hlen:l.length<=9223372036854775807:=by simpa using hs.len
 have HH:=LH H
 clear H
 go_enter Tryz.func115,Tryz.ntmps115
 go_wp2_with fail
 go_loopw [8] (fun i wr=>∃ j:Nat,j<=l.length/\i= .int .i64 j/\noneTo p l j/\Below w.heap.size w wr) (fun i _=>l.length - (intOf i).toNat)
 case atStart=>exact⟨0,by omega,by go_num,noneTo_zero p l,Below.refl _ _⟩
 case round=>
  obtain⟨j,hj,rfl,hno,hbl⟩:=hrel
  have Hno:=LH hno
  clear hno
  have hsz:=hbl.size
  by_cases hlt:j<l.length
  ·
   have htr:=GNode.elem (hs.below hbl (Nat.le_refl _)) j hlt
   obtain⟨b,off,A1,c1,rfl,hSb,g0,g1,g2,g3,g4,hat⟩:=htr
   have hmem:l[j]∈l:=List.getElem_mem hlt
   go_wp2_with fail
   refine(HH.out _ hmem _ _ _ hbl (hat.below (Below.refl _ _) hsz)).mono ?_
   rintro e w1 ⟨rfl,hb1⟩
   cases he:p l[j]
   · have hn:=LH (noneTo_succ Hno.out hlt he)
     go_wp2_with fail
     go_roundw
     case rel=>exact⟨j+1,by omega,by go_num,hn.out,hbl.trans (hb1.mono hsz)⟩
     case measure=>simp [intOf];omega
   · have hn:=LH (idxI_at Hno.out hlt he)
     go_wp2_with fail
     go_ret
     exact⟨ret_int hn.out.symm,hbl.trans (hb1.mono hsz)⟩
  ·
   have hjl:j=l.length:=by omega
   have Hj:=LH hjl
   clear hjl
   go_wp2_with fail
   go_ret
   exact⟨ret_int (idxI_none (by have:=Hno.out;rw [Hj.out] at this;exact this)).symm,hbl⟩
theorem containsFuncNode (K:Nat) (hK:∀ (args:Array Value) (w:World),(callFunc K args).run Tryz.prog w= .ok (.enter K args) w) (caps:Array Value) (p:GNode->Bool) (l:List GNode) (A:Option Addr) (c:Nat) (w:World) (hs:Sl w (Lt w.heap.size) 5 A c (l.map GNode.toD))
 (H:∀ x,x∈l->∀ (A1:Option Addr) (c1:Nat) (w2:World),Below w.heap.size w w2->GNode.At w2 (Lt w2.heap.size) A1 c1 x->
   Calls Tryz.prog K (#[.agg #[.int .i64 x.op,.int .i64 x.n,.string x.s,.string x.t,.slice A1 x.kids.length c1]]++caps) w2 fun e w'=>e= .returned (.bool (p x))/\Below w2.heap.size w2 w'):
 Calls Tryz.prog 81 #[.slice A l.length c,.func (.func K) #[] caps] w fun e w'=>e= .returned (.bool (l.any p))/\Below w.heap.size w w':=by
 have HH:=LH H
 clear H
 go_enter Tryz.func81,Tryz.ntmps81
 go_wp2_with fail
 refine(indexFuncNode K hK caps p l A c w hs HH.out).mono ?_
 rintro e w1 ⟨rfl,hb1⟩
 cases ha:l.any p
 ·
  have hi:=idxI_any_false ha
  rw [hi]
  have Ha:=LH ha
  clear ha hi
  go_wp2_with fail
  go_ret
  exact⟨ret_bool Ha.out.symm,hb1⟩
 ·
  have hi:=idxI_any_true ha
  have Ha:=LH ha
  clear ha
  generalize idxI p l=x at*
  go_wp2_with fail
  go_ret
  exact⟨ret_bool Ha.out.symm,hb1⟩
set_option maxHeartbeats 1000000
def pat1 (op n:Int) (s t:ByteArray) (k:Nat):Bool:=
 t.toList.isEmpty&&(if op=17 then k ==0&&(n ==0&&s.toList.isEmpty)
 else if op=18 then k ==0&&(n ==0&&nameB s)
 else if op=19 then k ==0&&(inB n 0 1073741823&&s.toList.isEmpty)
 else if op=20 then n ==0&&conB s else false)
mutual
def GNode.pat:GNode->Bool | .mk op n s t kids=>pat1 op n s t kids.length&&GNode.patL kids
def GNode.patL:List GNode->Bool | []=>true | t::r=>t.pat&&GNode.patL r
end
theorem GNode.pat_eq (t:GNode):t.pat=(pat1 t.op t.n t.s t.t t.kids.length&&GNode.patL t.kids):=by
 cases t;simp only [GNode.pat,GNode.op,GNode.n,GNode.s,GNode.t,GNode.kids]
theorem GNode.patL_all:∀ l:List GNode,GNode.patL l=l.all GNode.pat
 | []=>rfl
 | t::r=>by simp only [GNode.patL,List.all_cons,GNode.patL_all r]
theorem all_not_any {α:Type} (p:α->Bool):∀ l:List α,(!l.any fun x=>!p x)=l.all p
 | []=>rfl
 | x::r=>by simp only [List.any_cons,List.all_cons,Bool.not_or,Bool.not_not,all_not_any p r]
theorem implAllNodes (K:Nat) (hK:∀ (args:Array Value) (w:World),(callFunc K args).run Tryz.prog w= .ok (.enter K args) w) (caps:Array Value) (p:GNode->Bool) (l:List GNode) (A:Option Addr) (c:Nat) (w:World) (hs:Sl w (Lt w.heap.size) 5 A c (l.map GNode.toD))
 (H:∀ x,x∈l->∀ (A1:Option Addr) (c1:Nat) (w2:World),Below w.heap.size w w2->GNode.At w2 (Lt w2.heap.size) A1 c1 x->
   Calls Tryz.prog K (#[.agg #[.int .i64 x.op,.int .i64 x.n,.string x.s,.string x.t,.slice A1 x.kids.length c1]]++caps) w2 fun e w'=>e= .returned (.bool (p x))/\Below w2.heap.size w2 w'):
 Calls Tryz.prog 51 #[.slice A l.length c,.func (.func K) #[] caps] w fun e w'=>e= .returned (.bool (l.all p))/\Below w.heap.size w w':=by
 have HH:=LH H
 have HS:=LH hs
 obtain⟨w0,e0⟩:∃ w0,w0=w.alloc (.cells #[.func (.func K) #[] caps] 112):=⟨_,rfl⟩
 have E0:=LH (show Below w.heap.size w w0 by rw [e0];exact(Below.refl _ _).alloc (Nat.le_refl _) _)
 have R0:=LH (show Row w0 w.heap.size 112 #[.func (.func K) #[] caps] by rw [e0];exact Row.new' _ _ _ rfl)
 have HC:∀ x,x∈l->∀ (A1:Option Addr) (c1:Nat) (w2:World),Below w0.heap.size w0 w2->GNode.At w2 (Lt w2.heap.size) A1 c1 x->
  Calls Tryz.prog 82 (#[.agg #[.int .i64 x.op,.int .i64 x.n,.string x.s,.string x.t,.slice A1 x.kids.length c1]]++#[.pointer (some ⟨w.heap.size,0,none⟩)]) w2 fun e w'=>e= .returned (.bool (!p x))/\Below w2.heap.size w2 w':=by
  intro x hx A1 c1 w2 hbw hx2
  obtain⟨w3,e3⟩:∃ w3,w3=w2.alloc (.cells #[.int .i64 x.op,.int .i64 x.n,.string x.s,.string x.t,.slice A1 x.kids.length c1] 49):=⟨_,rfl⟩
  have E3:=LH (show Below w2.heap.size w2 w3 by rw [e3];exact(Below.refl _ _).alloc (Nat.le_refl _) _)
  have R2:=R0.out.below hbw R0.out.lt
  have R3:=LH (R2.below E3.out R2.lt)
  have hc3:=fun i=>R3.out.cell i
  have HX:=LH (HH.out x hx A1 c1 w3 ((E0.out.trans (hbw.mono E0.out.size)).trans (E3.out.mono (Nat.le_trans E0.out.size hbw.size))) (hx2.below E3.out E3.out.size))
  rw [e3] at hc3
  have EQ:=LH e3
  clear hx2 hbw e3 R2 e0 hs H
  go_enter Tryz.func82,Tryz.ntmps82
  go_wp2_with fail
  rw [<- EQ.out]
  refine HX.out.mono ?_
  rintro e w4 ⟨rfl,hb4⟩
  go_wp2_with fail
  go_ret
  exact⟨rfl,E3.out.trans (hb4.mono E3.out.size)⟩
 have HC2:=LH HC
 have HA:=LH (all_not_any p l)
 have EQ:=LH e0
 clear HC e0 hs H
 go_enter Tryz.func51,Tryz.ntmps51
 go_wp2_with fail
 rw [<- EQ.out]
 refine(containsFuncNode 82 (enters Tryz.func82 (by kernel_rfl) (by kernel_rfl)) #[.pointer (some ⟨w.heap.size,0,none⟩)] (fun x=>!p x) l A c w0 (HS.out.below E0.out E0.out.size) (fun x hx A2 c2 w2 hb2 hx2=>HC2.out x hx A2 c2 w2 hb2 hx2)).mono ?_
 rintro e w1 ⟨rfl,hb1⟩
 go_wp2_with fail
 go_ret
 exact⟨ret_bool HA.out,E0.out.trans (hb1.mono E0.out.size)⟩
theorem specPatTidy (k:Nat):∀ (t:GNode) (A1:Option Addr) (c1:Nat) (w:World),t.bulk<k->GNode.At w (Lt w.heap.size) A1 c1 t->
 Calls Tryz.prog 140 #[.agg #[.int .i64 t.op,.int .i64 t.n,.string t.s,.string t.t,.slice A1 t.kids.length c1]] w fun e w'=>e= .returned (.bool t.pat)/\Below w.heap.size w w':=by
 induction k with
 | zero=>intro t A1 c1 w h;omega
 | succ k ih=>
  intro t A1 c1 w hk0 ht
  obtain⟨h0,h1,h2,h3,hs⟩:=id ht
  have hsz2:t.s.size<=9223372036854775807:=by unfold maxLen at h2;omega
  have hlen:t.kids.length<=9223372036854775807:=by simpa using hs.len
  have hte:=LH t.pat_eq
  have hbe:=t.bulk_eq
  go_enter Tryz.func140,Tryz.ntmps140
  go_wp2_with fail
  go_loopw [3] (fun i wr=>∃ j:Nat,j<=t.kids.length/\i= .int .i64 j/\Hid ((t.kids.take j).all GNode.pat=true)/\Hid (Below w.heap.size w wr)/\Hid (Row wr w.heap.size 49 #[.int .i64 t.op,.int .i64 t.n,.string t.s,.string t.t,.slice A1 t.kids.length c1])) (fun i _=>t.kids.length - (intOf i).toNat)
  case atStart=>exact⟨0,by omega,by go_num,LH (by simp),LH ((Below.refl _ _).alloc (Nat.le_refl _) _),LH (Row.new _ _ _)⟩
  case round=>
   obtain⟨j,hj,rfl,Hall,hbl,R⟩:=hrel
   have hsz:=hbl.out.size
   have hc:=fun i=>R.out.cell i
   by_cases hlt:j<t.kids.length
   ·
    have htr:=GNode.elem (hs.below hbl.out (Nat.le_refl _)) j hlt
    obtain⟨b,off,A2,c2,rfl,hSb,g0,g1,g2,g3,g4,hat⟩:=htr
    have hmem:t.kids[j]∈t.kids:=List.getElem_mem hlt
    have hxb:(t.kids[j]).bulk<k:=by have:=bulkL_mem GNode.bulk t.kids _ hmem;omega
    clear hbe
    go_wp2_with fail
    refine(ih _ A2 c2 _ hxb (hat.below (Below.refl _ _) hsz)).mono ?_
    rintro e w1 ⟨rfl,hb1⟩
    cases he:(t.kids[j]).pat
    · have hn:=LH (show t.kids.all GNode.pat=false from by rw [<- Bool.not_eq_true];intro h;have:=List.all_eq_true.1 h _ hmem;rw [he] at this;cases this)
      clear he
      go_wp2_with fail
      go_ret
      exact⟨ret_bool (by rw [hte.out,GNode.patL_all,hn.out];simp),hbl.out.trans (hb1.mono hsz)⟩
    · have he2:=LH he
      clear he
      go_wp2_with fail
      go_roundw
      case rel=>exact⟨j+1,by omega,by go_num,LH (by rw [take_snoc' _ j hlt,List.all_append,Hall.out];simp [he2.out]),LH (hbl.out.trans (hb1.mono hsz)),LH (R.out.below hb1 R.out.lt)⟩
      case measure=>simp [intOf];omega
   ·
    have hjl:j=t.kids.length:=by omega
    have hko:=LH (show GNode.patL t.kids=true from by rw [GNode.patL_all];have:=Hall.out;rwa [hjl,List.take_length] at this)
    clear hjl ih hbe Hall h0 h1 h2 h3 hs ht
    cases te:(t.t.toList.isEmpty)
    · skip
      have hv:=LH (show pat1 t.op t.n t.s t.t t.kids.length=false from by
        unfold pat1;simp [te])
      go_wp2_with fail
      go_ret
      exact⟨ret_bool (by rw [hte.out,hv.out,hko.out];rfl),hbl.out⟩
    ·
     skip
     by_cases o17:t.op=17
     ·
      skip
      by_cases hk:t.kids.length=0
      ·
       skip
       cases a:(t.n ==0)
       ·
        skip
        have hv:=LH (show pat1 t.op t.n t.s t.t t.kids.length=false from by
          unfold pat1;simp [te,o17,hk,a])
        have p17:(t.op ==17)=true:=by rw [o17];rfl
        have r17:(t.op != 17)=false:=by rw [o17];rfl
        have p18:(t.op ==18)=false:=by rw [o17];rfl
        have r18:(t.op != 18)=true:=by rw [o17];rfl
        have p19:(t.op ==19)=false:=by rw [o17];rfl
        have r19:(t.op != 19)=true:=by rw [o17];rfl
        have p20:(t.op ==20)=false:=by rw [o17];rfl
        have r20:(t.op != 20)=true:=by rw [o17];rfl
        clear o17
        have hk2:((t.kids.length:Int) ==0)=true:=by rw [beq_iff_eq];omega
        have hk4:decide (0<t.kids.length)=false:=by simp [hk]
        clear hk
        have an:(t.n != 0)=true:=by simp only [bne,a];rfl
        go_wp2_with fail
        go_ret
        exact⟨ret_bool (by rw [hte.out,hv.out,hko.out];rfl),hbl.out⟩
       ·
        skip
        cases b:(t.s.toList.isEmpty)
        ·
         skip
         have hv:=LH (show pat1 t.op t.n t.s t.t t.kids.length=false from by
           unfold pat1;simp [te,o17,hk,a,b])
         have p17:(t.op ==17)=true:=by rw [o17];rfl
         have r17:(t.op != 17)=false:=by rw [o17];rfl
         have p18:(t.op ==18)=false:=by rw [o17];rfl
         have r18:(t.op != 18)=true:=by rw [o17];rfl
         have p19:(t.op ==19)=false:=by rw [o17];rfl
         have r19:(t.op != 19)=true:=by rw [o17];rfl
         have p20:(t.op ==20)=false:=by rw [o17];rfl
         have r20:(t.op != 20)=true:=by rw [o17];rfl
         clear o17
         have hk2:((t.kids.length:Int) ==0)=true:=by rw [beq_iff_eq];omega
         have hk4:decide (0<t.kids.length)=false:=by simp [hk]
         clear hk
         have an:(t.n != 0)=false:=by simp only [bne,a];rfl
         go_wp2_with fail
         go_ret
         exact⟨ret_bool (by rw [hte.out,hv.out,hko.out];rfl),hbl.out⟩
        ·
         skip
         have hv:=LH (show pat1 t.op t.n t.s t.t t.kids.length=true from by
           unfold pat1;simp [te,o17,hk,a,b])
         have p17:(t.op ==17)=true:=by rw [o17];rfl
         have r17:(t.op != 17)=false:=by rw [o17];rfl
         have p18:(t.op ==18)=false:=by rw [o17];rfl
         have r18:(t.op != 18)=true:=by rw [o17];rfl
         have p19:(t.op ==19)=false:=by rw [o17];rfl
         have r19:(t.op != 19)=true:=by rw [o17];rfl
         have p20:(t.op ==20)=false:=by rw [o17];rfl
         have r20:(t.op != 20)=true:=by rw [o17];rfl
         clear o17
         have hk2:((t.kids.length:Int) ==0)=true:=by rw [beq_iff_eq];omega
         have hk4:decide (0<t.kids.length)=false:=by simp [hk]
         clear hk
         have an:(t.n != 0)=false:=by simp only [bne,a];rfl
         go_wp2_with fail
         go_ret
         exact⟨ret_bool (by rw [hte.out,hv.out,hko.out];rfl),hbl.out⟩
      ·
       skip
       have hv:=LH (show pat1 t.op t.n t.s t.t t.kids.length=false from by
         unfold pat1;simp [te,o17,hk])
       have p17:(t.op ==17)=true:=by rw [o17];rfl
       have r17:(t.op != 17)=false:=by rw [o17];rfl
       have p18:(t.op ==18)=false:=by rw [o17];rfl
       have r18:(t.op != 18)=true:=by rw [o17];rfl
       have p19:(t.op ==19)=false:=by rw [o17];rfl
       have r19:(t.op != 19)=true:=by rw [o17];rfl
       have p20:(t.op ==20)=false:=by rw [o17];rfl
       have r20:(t.op != 20)=true:=by rw [o17];rfl
       clear o17
       have hk2:((t.kids.length:Int) ==0)=false:=by rw [beq_eq_false_iff_ne];omega
       have hk3:(0:Int)<(t.kids.length:Int):=by omega
       have hk4:decide (0<t.kids.length)=true:=decide_eq_true (by omega)
       clear hk
       go_wp2_with fail
       go_ret
       exact⟨ret_bool (by rw [hte.out,hv.out,hko.out];rfl),hbl.out⟩
     ·
      skip
      by_cases o18:t.op=18
      ·
       skip
       by_cases hk:t.kids.length=0
       ·
        skip
        cases a:(t.n ==0)
        ·
         skip
         have hv:=LH (show pat1 t.op t.n t.s t.t t.kids.length=false from by
           unfold pat1;simp [te,o17,o18,hk,a])
         have p17:(t.op ==17)=false:=by rw [o18];rfl
         have r17:(t.op != 17)=true:=by rw [o18];rfl
         have p18:(t.op ==18)=true:=by rw [o18];rfl
         have r18:(t.op != 18)=false:=by rw [o18];rfl
         have p19:(t.op ==19)=false:=by rw [o18];rfl
         have r19:(t.op != 19)=true:=by rw [o18];rfl
         have p20:(t.op ==20)=false:=by rw [o18];rfl
         have r20:(t.op != 20)=true:=by rw [o18];rfl
         clear o17
         clear o18
         have hk2:((t.kids.length:Int) ==0)=true:=by rw [beq_iff_eq];omega
         have hk4:decide (0<t.kids.length)=false:=by simp [hk]
         clear hk
         have an:(t.n != 0)=true:=by simp only [bne,a];rfl
         go_wp2_with fail
         go_ret
         exact⟨ret_bool (by rw [hte.out,hv.out,hko.out];rfl),hbl.out⟩
        ·
         skip
         cases nb:(nameB t.s)
         ·
          skip
          have hv:=LH (show pat1 t.op t.n t.s t.t t.kids.length=false from by
            unfold pat1;simp [te,o17,o18,hk,a,nb])
          have p17:(t.op ==17)=false:=by rw [o18];rfl
          have r17:(t.op != 17)=true:=by rw [o18];rfl
          have p18:(t.op ==18)=true:=by rw [o18];rfl
          have r18:(t.op != 18)=false:=by rw [o18];rfl
          have p19:(t.op ==19)=false:=by rw [o18];rfl
          have r19:(t.op != 19)=true:=by rw [o18];rfl
          have p20:(t.op ==20)=false:=by rw [o18];rfl
          have r20:(t.op != 20)=true:=by rw [o18];rfl
          clear o17
          clear o18
          have hk2:((t.kids.length:Int) ==0)=true:=by rw [beq_iff_eq];omega
          have hk4:decide (0<t.kids.length)=false:=by simp [hk]
          clear hk
          have an:(t.n != 0)=false:=by simp only [bne,a];rfl
          have HNM:=LH (fun(wx:World)=>specName t.s wx hsz2)
          rw [nb] at HNM
          clear nb
          go_wp2_with (first | (go_at_call 130;refine(HNM.out _).mono ?_;rintro e w9 ⟨rfl,hb9⟩;have B9:=LH hb9;clear hb9))
          go_ret
          exact⟨ret_bool (by rw [hte.out,hv.out,hko.out];rfl),hbl.out.trans (B9.out.mono hsz)⟩
         ·
          skip
          have hv:=LH (show pat1 t.op t.n t.s t.t t.kids.length=true from by
            unfold pat1;simp [te,o17,o18,hk,a,nb])
          have p17:(t.op ==17)=false:=by rw [o18];rfl
          have r17:(t.op != 17)=true:=by rw [o18];rfl
          have p18:(t.op ==18)=true:=by rw [o18];rfl
          have r18:(t.op != 18)=false:=by rw [o18];rfl
          have p19:(t.op ==19)=false:=by rw [o18];rfl
          have r19:(t.op != 19)=true:=by rw [o18];rfl
          have p20:(t.op ==20)=false:=by rw [o18];rfl
          have r20:(t.op != 20)=true:=by rw [o18];rfl
          clear o17
          clear o18
          have hk2:((t.kids.length:Int) ==0)=true:=by rw [beq_iff_eq];omega
          have hk4:decide (0<t.kids.length)=false:=by simp [hk]
          clear hk
          have an:(t.n != 0)=false:=by simp only [bne,a];rfl
          have HNM:=LH (fun(wx:World)=>specName t.s wx hsz2)
          rw [nb] at HNM
          clear nb
          go_wp2_with (first | (go_at_call 130;refine(HNM.out _).mono ?_;rintro e w9 ⟨rfl,hb9⟩;have B9:=LH hb9;clear hb9))
          go_ret
          exact⟨ret_bool (by rw [hte.out,hv.out,hko.out];rfl),hbl.out.trans (B9.out.mono hsz)⟩
       ·
        skip
        have hv:=LH (show pat1 t.op t.n t.s t.t t.kids.length=false from by
          unfold pat1;simp [te,o17,o18,hk])
        have p17:(t.op ==17)=false:=by rw [o18];rfl
        have r17:(t.op != 17)=true:=by rw [o18];rfl
        have p18:(t.op ==18)=true:=by rw [o18];rfl
        have r18:(t.op != 18)=false:=by rw [o18];rfl
        have p19:(t.op ==19)=false:=by rw [o18];rfl
        have r19:(t.op != 19)=true:=by rw [o18];rfl
        have p20:(t.op ==20)=false:=by rw [o18];rfl
        have r20:(t.op != 20)=true:=by rw [o18];rfl
        clear o17
        clear o18
        have hk2:((t.kids.length:Int) ==0)=false:=by rw [beq_eq_false_iff_ne];omega
        have hk3:(0:Int)<(t.kids.length:Int):=by omega
        have hk4:decide (0<t.kids.length)=true:=decide_eq_true (by omega)
        clear hk
        go_wp2_with fail
        go_ret
        exact⟨ret_bool (by rw [hte.out,hv.out,hko.out];rfl),hbl.out⟩
      ·
       skip
       by_cases o19:t.op=19
       ·
        skip
        by_cases hk:t.kids.length=0
        ·
         skip
         cases b:(t.s.toList.isEmpty)
         ·
          skip
          have hv:=LH (show pat1 t.op t.n t.s t.t t.kids.length=false from by
            unfold pat1;simp [te,o17,o18,o19,hk,b])
          have p17:(t.op ==17)=false:=by rw [o19];rfl
          have r17:(t.op != 17)=true:=by rw [o19];rfl
          have p18:(t.op ==18)=false:=by rw [o19];rfl
          have r18:(t.op != 18)=true:=by rw [o19];rfl
          have p19:(t.op ==19)=true:=by rw [o19];rfl
          have r19:(t.op != 19)=false:=by rw [o19];rfl
          have p20:(t.op ==20)=false:=by rw [o19];rfl
          have r20:(t.op != 20)=true:=by rw [o19];rfl
          clear o17
          clear o18
          clear o19
          have hk2:((t.kids.length:Int) ==0)=true:=by rw [beq_iff_eq];omega
          have hk4:decide (0<t.kids.length)=false:=by simp [hk]
          clear hk
          go_wp2_with fail
          go_ret
          exact⟨ret_bool (by rw [hte.out,hv.out,hko.out];rfl),hbl.out⟩
         ·
          skip
          cases v:(inB t.n 0 1073741823)
          ·
           skip
           have hv:=LH (show pat1 t.op t.n t.s t.t t.kids.length=false from by
             unfold pat1;simp [te,o17,o18,o19,hk,b,v])
           have p17:(t.op ==17)=false:=by rw [o19];rfl
           have r17:(t.op != 17)=true:=by rw [o19];rfl
           have p18:(t.op ==18)=false:=by rw [o19];rfl
           have r18:(t.op != 18)=true:=by rw [o19];rfl
           have p19:(t.op ==19)=true:=by rw [o19];rfl
           have r19:(t.op != 19)=false:=by rw [o19];rfl
           have p20:(t.op ==20)=false:=by rw [o19];rfl
           have r20:(t.op != 20)=true:=by rw [o19];rfl
           clear o17
           clear o18
           clear o19
           have hk2:((t.kids.length:Int) ==0)=true:=by rw [beq_iff_eq];omega
           have hk4:decide (0<t.kids.length)=false:=by simp [hk]
           clear hk
           have HIN:=LH (fun(wx:World)=>specIn t.n 0 1073741823 wx)
           rw [v] at HIN
           clear v
           go_wp2_with (first | (go_at_call 96;refine(HIN.out _).mono ?_;rintro e w9 ⟨rfl,rfl⟩))
           go_ret
           exact⟨ret_bool (by rw [hte.out,hv.out,hko.out];rfl),hbl.out⟩
          ·
           skip
           have hv:=LH (show pat1 t.op t.n t.s t.t t.kids.length=true from by
             unfold pat1;simp [te,o17,o18,o19,hk,b,v])
           have p17:(t.op ==17)=false:=by rw [o19];rfl
           have r17:(t.op != 17)=true:=by rw [o19];rfl
           have p18:(t.op ==18)=false:=by rw [o19];rfl
           have r18:(t.op != 18)=true:=by rw [o19];rfl
           have p19:(t.op ==19)=true:=by rw [o19];rfl
           have r19:(t.op != 19)=false:=by rw [o19];rfl
           have p20:(t.op ==20)=false:=by rw [o19];rfl
           have r20:(t.op != 20)=true:=by rw [o19];rfl
           clear o17
           clear o18
           clear o19
           have hk2:((t.kids.length:Int) ==0)=true:=by rw [beq_iff_eq];omega
           have hk4:decide (0<t.kids.length)=false:=by simp [hk]
           clear hk
           have HIN:=LH (fun(wx:World)=>specIn t.n 0 1073741823 wx)
           rw [v] at HIN
           clear v
           go_wp2_with (first | (go_at_call 96;refine(HIN.out _).mono ?_;rintro e w9 ⟨rfl,rfl⟩))
           go_ret
           exact⟨ret_bool (by rw [hte.out,hv.out,hko.out];rfl),hbl.out⟩
        ·
         skip
         have hv:=LH (show pat1 t.op t.n t.s t.t t.kids.length=false from by
           unfold pat1;simp [te,o17,o18,o19,hk])
         have p17:(t.op ==17)=false:=by rw [o19];rfl
         have r17:(t.op != 17)=true:=by rw [o19];rfl
         have p18:(t.op ==18)=false:=by rw [o19];rfl
         have r18:(t.op != 18)=true:=by rw [o19];rfl
         have p19:(t.op ==19)=true:=by rw [o19];rfl
         have r19:(t.op != 19)=false:=by rw [o19];rfl
         have p20:(t.op ==20)=false:=by rw [o19];rfl
         have r20:(t.op != 20)=true:=by rw [o19];rfl
         clear o17
         clear o18
         clear o19
         have hk2:((t.kids.length:Int) ==0)=false:=by rw [beq_eq_false_iff_ne];omega
         have hk3:(0:Int)<(t.kids.length:Int):=by omega
         have hk4:decide (0<t.kids.length)=true:=decide_eq_true (by omega)
         clear hk
         go_wp2_with fail
         go_ret
         exact⟨ret_bool (by rw [hte.out,hv.out,hko.out];rfl),hbl.out⟩
       ·
        skip
        by_cases o20:t.op=20
        ·
         skip
         cases a:(t.n ==0)
         ·
          skip
          have hv:=LH (show pat1 t.op t.n t.s t.t t.kids.length=false from by
            unfold pat1;simp [te,o17,o18,o19,o20,a])
          have p17:(t.op ==17)=false:=by rw [o20];rfl
          have r17:(t.op != 17)=true:=by rw [o20];rfl
          have p18:(t.op ==18)=false:=by rw [o20];rfl
          have r18:(t.op != 18)=true:=by rw [o20];rfl
          have p19:(t.op ==19)=false:=by rw [o20];rfl
          have r19:(t.op != 19)=true:=by rw [o20];rfl
          have p20:(t.op ==20)=true:=by rw [o20];rfl
          have r20:(t.op != 20)=false:=by rw [o20];rfl
          clear o17
          clear o18
          clear o19
          clear o20
          have an:(t.n != 0)=true:=by simp only [bne,a];rfl
          go_wp2_with fail
          go_ret
          exact⟨ret_bool (by rw [hte.out,hv.out,hko.out];rfl),hbl.out⟩
         ·
          skip
          cases cn:(conB t.s)
          ·
           skip
           have hv:=LH (show pat1 t.op t.n t.s t.t t.kids.length=false from by
             unfold pat1;simp [te,o17,o18,o19,o20,a,cn])
           have p17:(t.op ==17)=false:=by rw [o20];rfl
           have r17:(t.op != 17)=true:=by rw [o20];rfl
           have p18:(t.op ==18)=false:=by rw [o20];rfl
           have r18:(t.op != 18)=true:=by rw [o20];rfl
           have p19:(t.op ==19)=false:=by rw [o20];rfl
           have r19:(t.op != 19)=true:=by rw [o20];rfl
           have p20:(t.op ==20)=true:=by rw [o20];rfl
           have r20:(t.op != 20)=false:=by rw [o20];rfl
           clear o17
           clear o18
           clear o19
           clear o20
           have an:(t.n != 0)=false:=by simp only [bne,a];rfl
           have HCN:=LH (fun(wx:World)=>specCon t.s wx hsz2)
           rw [cn] at HCN
           clear cn
           go_wp2_with (first | (go_at_call 110;refine(HCN.out _).mono ?_;rintro e w9 ⟨rfl,rfl⟩))
           go_ret
           exact⟨ret_bool (by rw [hte.out,hv.out,hko.out];rfl),hbl.out⟩
          ·
           skip
           have hv:=LH (show pat1 t.op t.n t.s t.t t.kids.length=true from by
             unfold pat1;simp [te,o17,o18,o19,o20,a,cn])
           have p17:(t.op ==17)=false:=by rw [o20];rfl
           have r17:(t.op != 17)=true:=by rw [o20];rfl
           have p18:(t.op ==18)=false:=by rw [o20];rfl
           have r18:(t.op != 18)=true:=by rw [o20];rfl
           have p19:(t.op ==19)=false:=by rw [o20];rfl
           have r19:(t.op != 19)=true:=by rw [o20];rfl
           have p20:(t.op ==20)=true:=by rw [o20];rfl
           have r20:(t.op != 20)=false:=by rw [o20];rfl
           clear o17
           clear o18
           clear o19
           clear o20
           have an:(t.n != 0)=false:=by simp only [bne,a];rfl
           have HCN:=LH (fun(wx:World)=>specCon t.s wx hsz2)
           rw [cn] at HCN
           clear cn
           go_wp2_with (first | (go_at_call 110;refine(HCN.out _).mono ?_;rintro e w9 ⟨rfl,rfl⟩))
           go_ret
           exact⟨ret_bool (by rw [hte.out,hv.out,hko.out];rfl),hbl.out⟩
        ·
         skip
         by_cases hk:t.kids.length=0
         ·
          skip
          cases a:(t.n ==0)
          ·
           skip
           have hv:=LH (show pat1 t.op t.n t.s t.t t.kids.length=false from by
             unfold pat1;simp [te,o17,o18,o19,o20,hk,a])
           have p19:(t.op ==19)=false:=by simpa using o19
           have r19:(t.op != 19)=true:=by simp [bne,p19]
           have p20:(t.op ==20)=false:=by simpa using o20
           have r20:(t.op != 20)=true:=by simp [bne,p20]
           clear o17
           clear o18
           clear o19
           clear o20
           have hk2:((t.kids.length:Int) ==0)=true:=by rw [beq_iff_eq];omega
           have hk4:decide (0<t.kids.length)=false:=by simp [hk]
           clear hk
           have an:(t.n != 0)=true:=by simp only [bne,a];rfl
           go_wp2_with fail
           go_ret
           exact⟨ret_bool (by rw [hte.out,hv.out,hko.out];rfl),hbl.out⟩
          ·
           skip
           have hv:=LH (show pat1 t.op t.n t.s t.t t.kids.length=false from by
             unfold pat1;simp [te,o17,o18,o19,o20,hk,a])
           have p17:(t.op ==17)=false:=by simpa using o17
           have p18:(t.op ==18)=false:=by simpa using o18
           have p19:(t.op ==19)=false:=by simpa using o19
           have r19:(t.op != 19)=true:=by simp [bne,p19]
           have p20:(t.op ==20)=false:=by simpa using o20
           have r20:(t.op != 20)=true:=by simp [bne,p20]
           clear o17
           clear o18
           clear o19
           clear o20
           have hk2:((t.kids.length:Int) ==0)=true:=by rw [beq_iff_eq];omega
           have hk4:decide (0<t.kids.length)=false:=by simp [hk]
           clear hk
           have an:(t.n != 0)=false:=by simp only [bne,a];rfl
           go_wp2_with fail
           go_ret
           exact⟨ret_bool (by rw [hte.out,hv.out,hko.out];rfl),hbl.out⟩
         ·
          skip
          have hv:=LH (show pat1 t.op t.n t.s t.t t.kids.length=false from by
            unfold pat1;simp [te,o17,o18,o19,o20,hk])
          have p20:(t.op ==20)=false:=by simpa using o20
          have r20:(t.op != 20)=true:=by simp [bne,p20]
          clear o17
          clear o18
          clear o19
          clear o20
          have hk2:((t.kids.length:Int) ==0)=false:=by rw [beq_eq_false_iff_ne];omega
          have hk3:(0:Int)<(t.kids.length:Int):=by omega
          have hk4:decide (0<t.kids.length)=true:=decide_eq_true (by omega)
          clear hk
          go_wp2_with fail
          go_ret
          exact⟨ret_bool (by rw [hte.out,hv.out,hko.out];rfl),hbl.out⟩
def exp1 (op n:Int) (s t:ByteArray) (k:Nat):Bool:=
 if op=1 then inB n 0 1073741823&&(s.toList.isEmpty&&(t.toList.isEmpty&&k ==0))
 else n ==0&&(if op=2 then nameB s&&(t.toList.isEmpty&&k ==0)
 else if op=3 then nameB s&&(t.toList.isEmpty&&k ==1)
 else if op=5 then nameB s&&(t.toList.isEmpty&&k ==2)
 else if op=6 then nameB s&&(nameB t&&k ==2)
 else if op=15 then conB s&&t.toList.isEmpty
 else s.toList.isEmpty&&(t.toList.isEmpty&&(if op=16 then k ==1 else if op=9 then k ==3 else if op=7 then decide (2<=k) else if op=4 then k ==2 else inB op 10 14&&k ==2)))
def alt1 (op n:Int) (s t:ByteArray) (k:Nat):Bool:=op ==8&&(n ==0&&(s.toList.isEmpty&&(t.toList.isEmpty&&k ==2)))
mutual
def GNode.exp:GNode->Bool | .mk op n s t kids=>exp1 op n s t kids.length&&(if op=7 then GNode.caseL kids else GNode.expL kids)
def GNode.expL:List GNode->Bool | []=>true | x::r=>x.exp&&GNode.expL r
def GNode.caseL:List GNode->Bool | []=>false | x::r=>x.exp&&GNode.altL r
def GNode.altL:List GNode->Bool | []=>true | a::r=>a.alt&&GNode.altL r
def GNode.alt:GNode->Bool | .mk op n s t kids=>alt1 op n s t kids.length&&GNode.altK kids
def GNode.altK:List GNode->Bool | []=>false | p::r=>p.pat&&GNode.altE r
def GNode.altE:List GNode->Bool | []=>false | x::_=>x.exp
end
theorem GNode.exp_eq (t:GNode):t.exp=(exp1 t.op t.n t.s t.t t.kids.length&&(if t.op=7 then GNode.caseL t.kids else GNode.expL t.kids)):=by
 cases t;rw [GNode.exp];rfl
theorem GNode.alt_eq (t:GNode):t.alt=(alt1 t.op t.n t.s t.t t.kids.length&&GNode.altK t.kids):=by
 cases t;rw [GNode.alt];rfl
theorem GNode.expL_all:∀ l:List GNode,GNode.expL l=l.all GNode.exp
 | []=>by rw [GNode.expL];rfl
 | t::r=>by rw [GNode.expL,GNode.expL_all r];rfl
theorem GNode.altL_all:∀ l:List GNode,GNode.altL l=l.all GNode.alt
 | []=>by rw [GNode.altL];rfl
 | t::r=>by rw [GNode.altL,GNode.altL_all r];rfl
theorem GNode.caseL_cons (x:GNode) (r:List GNode):GNode.caseL (x::r)=(x.exp&&r.all GNode.alt):=by rw [GNode.caseL,GNode.altL_all]
theorem GNode.altK_two (p x:GNode):GNode.altK [p,x]=(p.pat&&x.exp):=by rw [GNode.altK,GNode.altE]
set_option maxHeartbeats 400000
set_option maxHeartbeats 1000000
def tidy1 (vs op n:Int) (s:ByteArray) (k:Nat):Bool:=
 if op=1 then n ==0&&(s.toList.isEmpty&&k ==0)
 else if op=2 then inB n 0 (vs - 1)&&(s.toList.isEmpty&&k ==0)
 else if op=3 then n ==0&&(s.toList.isEmpty&&k ==2)
 else if op=4 then n ==0&&conB s else false
mutual
def GTy.tidy (vs:Int):GTy->Bool | .mk op n s kids=>tidy1 vs op n s kids.length&&GTy.tidyL vs kids
def GTy.tidyL (vs:Int):List GTy->Bool | []=>true | t::r=>t.tidy vs&&GTy.tidyL vs r
end
theorem GTy.tidy_eq (vs:Int) (t:GTy):t.tidy vs=(tidy1 vs t.op t.n t.s t.kids.length&&GTy.tidyL vs t.kids):=by
 cases t;simp only [GTy.tidy,GTy.op,GTy.n,GTy.s,GTy.kids]
theorem GTy.tidyL_all (vs:Int):∀ l:List GTy,GTy.tidyL vs l=l.all (GTy.tidy vs)
 | []=>rfl
 | t::r=>by simp only [GTy.tidyL,List.all_cons,GTy.tidyL_all vs r]
theorem specTypeTidy (vs:Int) (hv0:0<=vs) (hv1:vs<=26) (k:Nat):∀ (t:GTy) (A1:Option Addr) (c1:Nat) (w:World),t.bulk<k->GTy.At w (Lt w.heap.size) A1 c1 t->
 Calls Tryz.prog 112 #[.agg #[.int .i64 t.op,.int .i64 t.n,.string t.s,.slice A1 t.kids.length c1],.int .i64 vs] w fun e w'=>e= .returned (.bool (t.tidy vs))/\Below w.heap.size w w':=by
 induction k with
 | zero=>intro t A1 c1 w h;omega
 | succ k ih=>
  intro t A1 c1 w hk0 ht
  obtain⟨h0,h1,h2,hs⟩:=id ht
  have hsz2:t.s.size<=9223372036854775807:=by unfold maxLen at h2;omega
  have hlen:t.kids.length<=9223372036854775807:=by simpa using hs.len
  have hte:=LH (t.tidy_eq vs)
  have hbe:=t.bulk_eq
  go_enter Tryz.func112,Tryz.ntmps112
  go_wp2_with fail
  go_loopw [5] (fun i wr=>∃ j:Nat,j<=t.kids.length/\i= .int .i64 j/\(t.kids.take j).all (GTy.tidy vs)=true/\Below w.heap.size w wr/\Row wr w.heap.size 161 #[.int .i64 t.op,.int .i64 t.n,.string t.s,.slice A1 t.kids.length c1]) (fun i _=>t.kids.length - (intOf i).toNat)
  case atStart=>exact⟨0,by omega,by go_num,by simp,(Below.refl _ _).alloc (Nat.le_refl _) _,Row.new _ _ _⟩
  case round=>
   obtain⟨j,hj,rfl,hall,hbl,hrow⟩:=hrel
   have Hall:=LH hall
   clear hall
   have hsz:=hbl.size
   have hgl:=hrow.lt
   have hc:=fun i=>hrow.cell i
   by_cases hlt:j<t.kids.length
   ·
    have htr:=GTy.elem (hs.below hbl (Nat.le_refl _)) j hlt
    obtain⟨b,off,A2,c2,rfl,hSb,g0,g1,g2,g3,hat⟩:=htr
    have hmem:t.kids[j]∈t.kids:=List.getElem_mem hlt
    have hxb:(t.kids[j]).bulk<k:=by have:=bulkL_mem GTy.bulk t.kids _ hmem;omega
    clear hbe
    go_wp2_with fail
    refine(ih _ A2 c2 _ hxb (hat.below (Below.refl _ _) hsz)).mono ?_
    rintro e w1 ⟨rfl,hb1⟩
    cases he:(t.kids[j]).tidy vs
    · have hn:=LH (show t.kids.all (GTy.tidy vs)=false from by rw [<- Bool.not_eq_true];intro h;have:=List.all_eq_true.1 h _ hmem;rw [he] at this;cases this)
      clear he
      go_wp2_with fail
      go_ret
      exact⟨ret_bool (by rw [hte.out,GTy.tidyL_all,hn.out];simp),hbl.trans (hb1.mono hsz)⟩
    · have he2:=LH he
      clear he
      go_wp2_with fail
      go_roundw
      case rel=>exact⟨j+1,by omega,by go_num,by rw [take_snoc' _ j hlt,List.all_append,Hall.out];simp [he2.out],hbl.trans (hb1.mono hsz),hrow.below hb1 hgl⟩
      case measure=>simp [intOf];omega
   ·
    have hjl:j=t.kids.length:=by omega
    have hko:=LH (show GTy.tidyL vs t.kids=true from by rw [GTy.tidyL_all];have:=Hall.out;rwa [hjl,List.take_length] at this)
    clear hjl ih hbe Hall
    cases o1:(t.op ==1)
    ·
     skip
     cases o2:(t.op ==2)
     ·
      skip
      cases o3:(t.op ==3)
      ·
       skip
       cases o4:(t.op ==4)
       · skip
         have hv:=LH (show tidy1 vs t.op t.n t.s t.kids.length=false from by
           unfold tidy1;simp only [beq_iff_eq,beq_eq_false_iff_ne,ne_eq] at o1 o2 o3 o4;simp [o1,o2,o3,o4])
         go_wp2_with fail
         go_ret
         exact⟨ret_bool (by rw [hte.out,hv.out,hko.out];rfl),hbl⟩
       ·
        skip
        cases a:(t.n ==0)
        · skip
          have hv:=LH (show tidy1 vs t.op t.n t.s t.kids.length=false from by
            unfold tidy1;simp only [beq_iff_eq,beq_eq_false_iff_ne,ne_eq] at o1 o2 o3 o4 a;simp [o1,o2,o3,o4,a])
          go_wp2_with fail
          go_ret
          exact⟨ret_bool (by rw [hte.out,hv.out,hko.out];rfl),hbl⟩
        ·
         skip
         cases cn:(conB t.s)
         · skip
           have hv:=LH (show tidy1 vs t.op t.n t.s t.kids.length=false from by
             unfold tidy1;simp only [beq_iff_eq,beq_eq_false_iff_ne,ne_eq] at o1 o2 o3 o4 a;simp [o1,o2,o3,o4,a,cn])
           have HCN:=LH (fun(wx:World)=>specCon t.s wx hsz2)
           rw [cn] at HCN
           clear cn
           go_wp2_with (first | (go_at_call 110;refine(HCN.out _).mono ?_;rintro e w9 ⟨rfl,rfl⟩))
           go_ret
           exact⟨ret_bool (by rw [hte.out,hv.out,hko.out];rfl),hbl⟩
         · skip
           have hv:=LH (show tidy1 vs t.op t.n t.s t.kids.length=true from by
             unfold tidy1;simp only [beq_iff_eq,beq_eq_false_iff_ne,ne_eq] at o1 o2 o3 o4 a;simp [o1,o2,o3,o4,a,cn])
           have HCN:=LH (fun(wx:World)=>specCon t.s wx hsz2)
           rw [cn] at HCN
           clear cn
           go_wp2_with (first | (go_at_call 110;refine(HCN.out _).mono ?_;rintro e w9 ⟨rfl,rfl⟩))
           go_ret
           exact⟨ret_bool (by rw [hte.out,hv.out,hko.out];rfl),hbl⟩
      ·
       skip
       cases a:(t.n ==0)
       · skip
         have hv:=LH (show tidy1 vs t.op t.n t.s t.kids.length=false from by
           unfold tidy1;simp only [beq_iff_eq,beq_eq_false_iff_ne,ne_eq] at o1 o2 o3 a;simp [o1,o2,o3,a])
         go_wp2_with fail
         go_ret
         exact⟨ret_bool (by rw [hte.out,hv.out,hko.out];rfl),hbl⟩
       ·
        skip
        cases b:(t.s.toList.isEmpty)
        · skip
          have hv:=LH (show tidy1 vs t.op t.n t.s t.kids.length=false from by
            unfold tidy1;simp only [beq_iff_eq,beq_eq_false_iff_ne,ne_eq] at o1 o2 o3 a;simp [o1,o2,o3,a,b])
          go_wp2_with fail
          go_ret
          exact⟨ret_bool (by rw [hte.out,hv.out,hko.out];rfl),hbl⟩
        ·
         skip
         by_cases hk:t.kids.length=2
         · have hk2:((t.kids.length:Int) ==2)=true:=by rw [beq_iff_eq];omega
           have hv:=LH (show tidy1 vs t.op t.n t.s t.kids.length=true from by
             unfold tidy1;simp only [beq_iff_eq,beq_eq_false_iff_ne,ne_eq] at o1 o2 o3 a;simp [o1,o2,o3,a,b,hk])
           clear hk
           go_wp2_with fail
           go_ret
           exact⟨ret_bool (by rw [hte.out,hv.out,hko.out];rfl),hbl⟩
         · have hk2:((t.kids.length:Int) ==2)=false:=by rw [beq_eq_false_iff_ne];omega
           have hv:=LH (show tidy1 vs t.op t.n t.s t.kids.length=false from by
             unfold tidy1;simp only [beq_iff_eq,beq_eq_false_iff_ne,ne_eq] at o1 o2 o3 a;simp [o1,o2,o3,a,b,hk])
           clear hk
           go_wp2_with fail
           go_ret
           exact⟨ret_bool (by rw [hte.out,hv.out,hko.out];rfl),hbl⟩
     ·
      skip
      cases v:(inB t.n 0 (vs - 1))
      · skip
        have hv:=LH (show tidy1 vs t.op t.n t.s t.kids.length=false from by
          unfold tidy1;simp only [beq_iff_eq,beq_eq_false_iff_ne,ne_eq] at o1 o2;simp [o1,o2,v])
        have HIN:=LH (fun(wx:World)=>specIn t.n 0 (vs - 1) wx)
        rw [v] at HIN
        clear v
        go_wp2_with (first | (go_at_call 96;refine(HIN.out _).mono ?_;rintro e w9 ⟨rfl,rfl⟩))
        go_ret
        exact⟨ret_bool (by rw [hte.out,hv.out,hko.out];rfl),hbl⟩
      ·
       skip
       cases b:(t.s.toList.isEmpty)
       · skip
         have hv:=LH (show tidy1 vs t.op t.n t.s t.kids.length=false from by
           unfold tidy1;simp only [beq_iff_eq,beq_eq_false_iff_ne,ne_eq] at o1 o2;simp [o1,o2,v,b])
         have HIN:=LH (fun(wx:World)=>specIn t.n 0 (vs - 1) wx)
         rw [v] at HIN
         clear v
         go_wp2_with (first | (go_at_call 96;refine(HIN.out _).mono ?_;rintro e w9 ⟨rfl,rfl⟩))
         go_ret
         exact⟨ret_bool (by rw [hte.out,hv.out,hko.out];rfl),hbl⟩
       ·
        skip
        by_cases hk:t.kids.length=0
        · have hk2:((t.kids.length:Int) ==0)=true:=by rw [beq_iff_eq];omega
          have hv:=LH (show tidy1 vs t.op t.n t.s t.kids.length=true from by
            unfold tidy1;simp only [beq_iff_eq,beq_eq_false_iff_ne,ne_eq] at o1 o2;simp [o1,o2,v,b,hk])
          have HIN:=LH (fun(wx:World)=>specIn t.n 0 (vs - 1) wx)
          rw [v] at HIN
          clear v
          clear hk
          go_wp2_with (first | (go_at_call 96;refine(HIN.out _).mono ?_;rintro e w9 ⟨rfl,rfl⟩))
          go_ret
          exact⟨ret_bool (by rw [hte.out,hv.out,hko.out];rfl),hbl⟩
        · have hk2:((t.kids.length:Int) ==0)=false:=by rw [beq_eq_false_iff_ne];omega
          have hv:=LH (show tidy1 vs t.op t.n t.s t.kids.length=false from by
            unfold tidy1;simp only [beq_iff_eq,beq_eq_false_iff_ne,ne_eq] at o1 o2;simp [o1,o2,v,b,hk])
          have HIN:=LH (fun(wx:World)=>specIn t.n 0 (vs - 1) wx)
          rw [v] at HIN
          clear v
          clear hk
          go_wp2_with (first | (go_at_call 96;refine(HIN.out _).mono ?_;rintro e w9 ⟨rfl,rfl⟩))
          go_ret
          exact⟨ret_bool (by rw [hte.out,hv.out,hko.out];rfl),hbl⟩
    ·
     skip
     cases a:(t.n ==0)
     · skip
       have hv:=LH (show tidy1 vs t.op t.n t.s t.kids.length=false from by
         unfold tidy1;simp only [beq_iff_eq,beq_eq_false_iff_ne,ne_eq] at o1 a;simp [o1,a])
       go_wp2_with fail
       go_ret
       exact⟨ret_bool (by rw [hte.out,hv.out,hko.out];rfl),hbl⟩
     ·
      skip
      cases b:(t.s.toList.isEmpty)
      · skip
        have hv:=LH (show tidy1 vs t.op t.n t.s t.kids.length=false from by
          unfold tidy1;simp only [beq_iff_eq,beq_eq_false_iff_ne,ne_eq] at o1 a;simp [o1,a,b])
        go_wp2_with fail
        go_ret
        exact⟨ret_bool (by rw [hte.out,hv.out,hko.out];rfl),hbl⟩
      ·
       skip
       by_cases hk:t.kids.length=0
       · have hk2:((t.kids.length:Int) ==0)=true:=by rw [beq_iff_eq];omega
         have hv:=LH (show tidy1 vs t.op t.n t.s t.kids.length=true from by
           unfold tidy1;simp only [beq_iff_eq,beq_eq_false_iff_ne,ne_eq] at o1 a;simp [o1,a,b,hk])
         clear hk
         go_wp2_with fail
         go_ret
         exact⟨ret_bool (by rw [hte.out,hv.out,hko.out];rfl),hbl⟩
       · have hk2:((t.kids.length:Int) ==0)=false:=by rw [beq_eq_false_iff_ne];omega
         have hv:=LH (show tidy1 vs t.op t.n t.s t.kids.length=false from by
           unfold tidy1;simp only [beq_iff_eq,beq_eq_false_iff_ne,ne_eq] at o1 a;simp [o1,a,b,hk])
         clear hk
         go_wp2_with fail
         go_ret
         exact⟨ret_bool (by rw [hte.out,hv.out,hko.out];rfl),hbl⟩
end Go.Proofs.YtamfolaicncblaaGreat
