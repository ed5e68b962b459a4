/- Texts of the claim LTreesRight in one: TrI TiK CoverS FRow CoverW CoverV CoverU CoverT CoverN CoverL CoverM. Conditions: none but bounds on sizes. -/
import Derived.Test.YtamfolaicncblaaGreatZLTreesRight17
import Derived.Test.YtamfolaicncblaaGreatZLTreesRight2
import Derived.Test.YtamfolaicncblaaGreatZLTreesRight3
import Derived.BigQuiet
import Derived.Deep.RegionLaw
import Derived.Test.YtamfolaicncblaaGreatZLTreesRight13
import Derived.Test.YtamfolaicncblaaGreatRows
import Derived.Test.YtamfolaicncblaaGreatZLTreesRight0
import Derived.Lib.Hide
namespace Go.Proofs.YtamfolaicncblaaGreat
set_option maxRecDepth 20000
set_option linter.unusedVariables false
set_option linter.unusedSimpArgs false
open Go.RowKit
set_option maxHeartbeats 1000000
def conConV (ds:List GData) (s:ByteArray):Option GCon:=match conOf s ds 0 with
 | some (j,k)=>match ds[j]? with
  | some d=>d.cons[k]?
  | none=>none
 | none=>none
def argsOk (ds:List GData) (s:ByteArray) (n:Nat):Bool:=match conConV ds s with
 | some x=>x.args.length ==n
 | none=>false
mutual
def conOk (ds:List GData):GNode->Bool | .mk op n s t kids=>(op != 20||argsOk ds s kids.length)&&conOkL ds kids
def conOkL (ds:List GData):List GNode->Bool | []=>true | k::r=>conOk ds k&&conOkL ds r
end
theorem conOk_eq (ds:List GData) (t:GNode):conOk ds t=((t.op != 20||argsOk ds t.s t.kids.length)&&conOkL ds t.kids):=by
 cases t;simp only [conOk,GNode.op,GNode.s,GNode.kids]
theorem conOkL_all (ds:List GData):∀ l:List GNode,conOkL ds l=l.all (conOk ds)
 | []=>rfl
 | k::r=>by simp only [conOkL,List.all_cons,conOkL_all ds r]
theorem tagIn_lt2 {s:ByteArray}:∀ (l:List GCon) (n k:Nat),tagIn s l n=some k->n<=k/\k<n+l.length
 | [],n,k,h=>by simp [tagIn] at h
 | c::r,n,k,h=>by
  unfold tagIn at h
  split at h
  · cases h;simp
  · have:=tagIn_lt2 r (n+1) k h
    simp only [List.length_cons];omega
theorem conOf_lt2 {s:ByteArray}:∀ (l:List GData) (n j k:Nat),conOf s l n=some (j,k)->n<=j/\∃ h:j - n<l.length,k<l[j - n].cons.length
 | [],n,j,k,h=>by simp [conOf] at h
 | d::r,n,j,k,h=>by
  unfold conOf at h
  split at h
  · rename_i m hm
    have e:n=j/\m=k:=by simpa using h
    obtain⟨rfl,rfl⟩:=e
    have:=tagIn_lt2 d.cons 0 m hm
    exact⟨Nat.le_refl _,by simp,by simp;omega⟩
  · obtain⟨h1,h2,h3⟩:=conOf_lt2 r (n+1) j k h
    have e:j - n=(j - (n+1))+1:=by omega
    refine⟨by omega,by simp only [List.length_cons];omega,?_⟩
    simp only [e,List.getElem_cons_succ];exact h3
theorem conConV_some {ds:List GData} {s:ByteArray} {j k:Nat} (h:conOf s ds 0=some (j,k)):∃ (hj:j<ds.length) (hk:k<ds[j].cons.length),conConV ds s=some ds[j].cons[k]:=by
 obtain⟨-,h1,h2⟩:=conOf_lt2 ds 0 j k h
 simp only [Nat.sub_zero] at h1 h2
 refine⟨h1,h2,?_⟩
 unfold conConV
 simp [h,h1,h2]
theorem conOkL_take {ds:List GData} {l:List GNode} {j:Nat} (h:j<l.length):conOkL ds (l.take (j+1))=(conOkL ds (l.take j)&&conOk ds l[j]):=by
 rw [conOkL_all,conOkL_all,take_snoc' l j h,List.all_append];simp
theorem specCons (ds:List GData) (A:Option Addr) (c:Nat):∀ (kk:Nat) (p:GNode) (A1:Option Addr) (c1:Nat) (w:World),p.bulk<kk->Sl w (Lt w.heap.size) 3 A c (ds.map GData.toD)->GNode.At w (Lt w.heap.size) A1 c1 p->
 Calls Tryz.prog 33 #[.slice A ds.length c,.agg #[.int .i64 p.op,.int .i64 p.n,.string p.s,.string p.t,.slice A1 p.kids.length c1]] w fun e w'=>e= .returned (.bool (conOk ds p))/\Below w.heap.size w w'
 | 0,p,A1,c1,w,h,_,_=>absurd h (by omega)
 | kk+1,p,A1,c1,w,h,hs,hat=>by
  have HD:=LH hs
  have HA:=LH hat
  have HIH:=LH (specCons ds A c kk)
  have hkl:p.kids.length<=9223372036854775807:=by simpa using hat.2.2.2.2.len
  have hdl:ds.length<=9223372036854775807:=by simpa using hs.len
  have hbk:bulkL GNode.bulk p.kids<=kk:=by have:=GNode.bulk_eq p;omega
  obtain⟨w0,e0⟩:∃ w0,w0=w.alloc (.cells #[.int .i64 p.op,.int .i64 p.n,.string p.s,.string p.t,.slice A1 p.kids.length c1] 49):=⟨_,rfl⟩
  have E0:=LH (show Below w.heap.size w w0 by rw [e0];exact(Below.refl _ _).alloc (Nat.le_refl _) _)
  have R0:=LH (show Row w0 w.heap.size 49 #[.int .i64 p.op,.int .i64 p.n,.string p.s,.string p.t,.slice A1 p.kids.length c1] by rw [e0];exact Row.new _ _ _)
  have HE:=LH (conOk_eq ds p)
  clear hs hat
  go_enter Tryz.func33,Tryz.ntmps33
  go_wp2_with fail
  rw [<- e0]
  clear e0
  go_loopw [5] (fun i wr=>∃ (j:Nat),j<=p.kids.length/\i= .int .i64 j/\Hid (conOkL ds (p.kids.take j)=true)/\Hid (Row wr w.heap.size 49 #[.int .i64 p.op,.int .i64 p.n,.string p.s,.string p.t,.slice A1 p.kids.length c1])/\Hid (Below w.heap.size w wr)) (fun i _=>p.kids.length - (intOf i).toNat)
  case atStart=>exact⟨0,by omega,by go_num,LH rfl,R0,E0⟩
  case round=>
   clear R0 E0
   obtain⟨j,hj,rfl,HL,HR,HB⟩:=hrel
   have hsz:=HB.out.size
   have hca:=fun i=>HR.out.cell i
   by_cases hlt:j<p.kids.length
   ·
    obtain⟨b,off,A2,c2,rfl,hSb,g0,g1,g2,g3,g4,hk⟩:=GNode.elem (HA.out.2.2.2.2.keep (w':=wr) (S':=Lt w.heap.size) fun q hq=>⟨hq,HB.out.block q hq⟩) j hlt
    have dl:decide ((j:Int)<(p.kids.length:Int))=true:=decide_eq_true (by omega)
    have HT:=LH (conOkL_take (ds:=ds) hlt)
    have hbj:p.kids[j].bulk<kk:=by have:=bulkL_mem GNode.bulk p.kids p.kids[j] (List.getElem_mem hlt);omega
    have HC:=LH (HIH.out p.kids[j] A2 c2 wr hbj (HD.out.below HB.out hsz) (hk.keep fun q hq=>⟨Nat.lt_of_lt_of_le hq hsz,rfl⟩))
    clear hk
    go_wp2_with fail
    refine HC.out.mono ?_
    rintro e w2 ⟨rfl,hb2⟩
    have B2:=LH (HB.out.trans (hb2.mono hsz))
    have R2:=LH (HR.out.below hb2 HR.out.lt)
    clear hb2
    cases hc:conOk ds p.kids[j]
    ·
     have HF:=LH (show conOk ds p=false by
       rw [HE.out]
       have h1:conOkL ds p.kids=false:=by
         rw [conOkL_all,List.all_eq_false]
         exact⟨_,List.getElem_mem hlt,by simp [hc]⟩
       rw [h1,Bool.and_false])
     clear hc
     go_wp2_with fail
     go_ret
     exact⟨congrArg (fun b=>Ending.returned (Value.bool b)) HF.out.symm,B2.out⟩
    · have HL2:=LH (show conOkL ds (p.kids.take (j+1))=true by rw [HT.out,HL.out,hc];rfl)
      clear hc
      go_wp2_with fail
      go_roundw
      case rel=>exact⟨j+1,by omega,by go_num,HL2,R2,B2⟩
      case measure=>simp [intOf];omega
   ·
    have dl:decide ((j:Int)<(p.kids.length:Int))=false:=decide_eq_false (by omega)
    have HLA:=LH (show conOkL ds p.kids=true by have:=HL.out;rwa [List.take_of_length_le (by omega)] at this)
    cases h20:(p.op ==20)
    · have HV:=LH (show conOk ds p=true by rw [HE.out,HLA.out,bne,h20];rfl)
      have hne:(p.op != 20)=true:=by rw [bne,h20];rfl
      go_wp2_with fail
      go_ret
      exact⟨congrArg (fun b=>Ending.returned (Value.bool b)) HV.out.symm,HB.out⟩
    ·
     have HV:=LH (show conOk ds p=argsOk ds p.s p.kids.length by rw [HE.out,HLA.out,bne,h20];simp)
     have hne:(p.op != 20)=false:=by rw [bne,h20];rfl
     have HC:=LH (specConOf ds A c p.s wr (HD.out.below HB.out hsz))
     go_wp2_with fail
     refine HC.out.mono ?_
     rintro e w2 ⟨rfl,hb2⟩
     have B2:=LH (HB.out.trans (hb2.mono hsz))
     have R2:=LH (HR.out.below hb2 HR.out.lt)
     have hca2:=fun i=>R2.out.cell i
     clear hb2 hca
     cases hco:conOf p.s ds 0 with
     | none=>
      have HF:=LH (show conOk ds p=false by rw [HV.out];unfold argsOk conConV;simp [hco])
      have d1:decide ((0:Int)<= -1)=false:=by decide
      simp only [conI]
      clear hco
      go_wp2_with fail
      go_simp
      go_big_quiet (fail)
      go_wp2_with fail
      go_ret
      exact⟨congrArg (fun b=>Ending.returned (Value.bool b)) HF.out.symm,B2.out.trans ⟨rfl,rfl,rfl,Nat.le_refl _,fun _ _=>rfl⟩⟩
     | some jk=>
      obtain⟨j2,k2⟩:=jk
      obtain⟨hj2,hk2,hcc⟩:=conConV_some hco
      obtain⟨b3,off3,B3,c3,rfl,hSb3,x0,x1,x2,hx⟩:=GData.elem (HD.out.keep (w':=w2) (S':=Lt w.heap.size) fun q hq=>⟨hq,B2.out.block q hq⟩) j2 hj2
      obtain⟨b4,off4,B4,c4,rfl,hSb4,y0,y1,hy⟩:=GCon.elem hx.2.2 k2 hk2
      have hcl:ds[j2].cons.length<=9223372036854775807:=by simpa using hx.2.2.len
      have HV2:=LH (show((ds[j2].cons[k2].args.length:Int) ==(p.kids.length:Int))=conOk ds p by
        rw [HV.out];unfold argsOk;rw [hcc]
        show _=(ds[j2].cons[k2].args.length ==p.kids.length)
        by_cases h:ds[j2].cons[k2].args.length=p.kids.length
        · rw [h];simp
        · rw [show(ds[j2].cons[k2].args.length ==p.kids.length)=false from by rw [beq_eq_false_iff_ne];exact h,beq_eq_false_iff_ne];omega)
      have d1:decide ((0:Int)<=(j2:Int))=true:=decide_eq_true (by omega)
      simp only [conI]
      have hl2:=Nat.lt_of_lt_of_le hSb3 hsz
      clear hco hcc hx hy x0 x1 y0 h
      go_wp2_with fail
      go_simp
      go_big_quiet (fail)
      go_wp2_with fail
      go_ret
      exact⟨congrArg (fun b=>Ending.returned (Value.bool b)) HV2.out,B2.out.trans ⟨rfl,rfl,rfl,Nat.le_refl _,fun _ _=>rfl⟩⟩
theorem implConsOk (ds:List GData) (A:Option Addr) (c:Nat):∀ (kk:Nat) (p:GNode) (A1:Option Addr) (c1:Nat) (w:World),p.bulk<kk->Sl w (Lt w.heap.size) 3 A c (ds.map GData.toD)->GNode.At w (Lt w.heap.size) A1 c1 p->
 Calls Tryz.prog 29 #[.slice A ds.length c,.agg #[.int .i64 p.op,.int .i64 p.n,.string p.s,.string p.t,.slice A1 p.kids.length c1]] w fun e w'=>e= .returned (.bool (conOk ds p))/\Below w.heap.size w w'
 | 0,p,A1,c1,w,h,_,_=>absurd h (by omega)
 | kk+1,p,A1,c1,w,h,hs,hat=>by
  have HD:=LH hs
  have HA:=LH hat
  have HIH:=LH (implConsOk ds A c kk)
  have hdl:ds.length<=9223372036854775807:=by simpa using hs.len
  have hkl:p.kids.length<=9223372036854775807:=by simpa using hat.2.2.2.2.len
  have hbk:bulkL GNode.bulk p.kids<=kk:=by have:=GNode.bulk_eq p;omega
  obtain⟨w0,e0⟩:∃ w0,w0=(w.alloc (.cells #[.slice A ds.length c] 24)).alloc (.cells #[.int .i64 p.op,.int .i64 p.n,.string p.s,.string p.t,.slice A1 p.kids.length c1] 49):=⟨_,rfl⟩
  have E0:=LH (show Below w.heap.size w w0 by rw [e0];exact((Below.refl _ _).alloc (Nat.le_refl _) _).alloc (by simp) _)
  have RL0:=LH (show Row w0 w.heap.size 24 #[.slice A ds.length c] by rw [e0];exact(Row.new' _ _ _ rfl).alloc _)
  have RP0:=LH (show Row w0 (w.heap.size+1) 49 #[.int .i64 p.op,.int .i64 p.n,.string p.s,.string p.t,.slice A1 p.kids.length c1] by rw [e0];exact Row.new' _ _ _ (by simp))
  have HE:=LH (conOk_eq ds p)
  have HKID:Hid (∀ x,x∈p.kids->∀ (A2:Option Addr) (c2:Nat) (w2:World),Below w0.heap.size w0 w2->GNode.At w2 (Lt w2.heap.size) A2 c2 x->
    Calls Tryz.prog 52 (#[.agg #[.int .i64 x.op,.int .i64 x.n,.string x.s,.string x.t,.slice A2 x.kids.length c2]]++#[.pointer (some ⟨w.heap.size,0,none⟩)]) w2 fun e w'=>e= .returned (.bool (conOk ds x))/\Below w2.heap.size w2 w'):=LH (by
    intro x hx A2 c2 w2 hb hatx
    have hbx:x.bulk<kk:=by have:=bulkL_mem GNode.bulk p.kids x hx;omega
    obtain⟨w3,e3⟩:∃ w3,w3=w2.alloc (.cells #[.int .i64 x.op,.int .i64 x.n,.string x.s,.string x.t,.slice A2 x.kids.length c2] 49):=⟨_,rfl⟩
    have E3:=LH (show Below w2.heap.size w2 w3 by rw [e3];exact(Below.refl _ _).alloc (Nat.le_refl _) _)
    have R2:=LH (RL0.out.below hb RL0.out.lt)
    have hgl:=R2.out.lt
    have hca:=fun i=>R2.out.cell i
    have BW:=E0.out.trans (hb.mono E0.out.size)
    have HC:=LH (HIH.out x A2 c2 w3 hbx ((HD.out.below BW BW.size).below E3.out E3.out.size) (hatx.below E3.out E3.out.size))
    clear hatx hb BW e0 hs hat HE hx
    go_enter Tryz.func52,Tryz.ntmps52
    go_wp2_with fail
    rw [<- e3]
    refine HC.out.mono ?_
    rintro e w4 ⟨rfl,hb4⟩
    go_wp2_with fail
    go_ret
    exact⟨rfl,E3.out.trans (hb4.mono E3.out.size)⟩)
  have hz0:w.heap.size+2=w0.heap.size:=by rw [e0];simp
  have HAL:=LH (fun(w2:World) (hb:Below w0.heap.size w0 w2)=>implAllNodes 52 (enters Tryz.func52 (by kernel_rfl) (by kernel_rfl)) #[.pointer (some ⟨w.heap.size,0,none⟩)] (conOk ds) p.kids A1 c1 w2 (HA.out.2.2.2.2.keep fun q hq=>⟨by have h1:q<w.heap.size:=hq;have:=hb.size;show q<w2.heap.size;omega,(hb.block q (by have h1:q<w.heap.size:=hq;omega)).trans (E0.out.block q hq)⟩) (fun x hx A2 c2 w3 hb3 hatx=>HKID.out x hx A2 c2 w3 (hb.trans (hb3.mono hb.size)) hatx))
  clear hs hat
  go_enter Tryz.func29,Tryz.ntmps29
  cases h20:(p.op ==20)
  ·
   have HV:=LH (show conOk ds p=p.kids.all (conOk ds) by rw [HE.out,conOkL_all,bne,h20];rfl)
   have HAL0:=LH (HAL.out w0 (Below.refl _ _))
   go_wp2_with fail
   rw [<- e0]
   clear e0
   refine HAL0.out.mono ?_
   rintro e w1 ⟨rfl,hb1⟩
   go_wp2_with fail
   go_ret
   exact⟨congrArg (fun b=>Ending.returned (Value.bool b)) HV.out.symm,E0.out.trans (hb1.mono E0.out.size)⟩
  ·
   have HV:=LH (show conOk ds p=(argsOk ds p.s p.kids.length&&p.kids.all (conOk ds)) by rw [HE.out,conOkL_all,bne,h20];simp)
   have HC:=LH (implConOf ds A c p.s w0 (HD.out.below E0.out E0.out.size))
   go_wp2_with fail
   rw [<- e0]
   clear e0
   refine HC.out.mono ?_
   rintro e w2 ⟨rfl,hb2⟩
   have E2:=LH hb2
   have B2:=LH (E0.out.trans (hb2.mono E0.out.size))
   have RL2:=LH (RL0.out.below hb2 RL0.out.lt)
   have RP2:=LH (RP0.out.below hb2 RP0.out.lt)
   have hcl:=fun i=>RL2.out.cell i
   have hcp:=fun i=>RP2.out.cell i
   have hz2:=hb2.size
   clear hb2 HC
   cases hco:conOf p.s ds 0 with
   | none=>
    have HF:=LH (show conOk ds p=false by rw [HV.out];unfold argsOk conConV;simp [hco])
    simp only [conI]
    clear hco
    go_wp2_with fail
    go_simp
    go_big_quiet (fail)
    go_wp2_with fail
    go_ret
    exact⟨congrArg (fun b=>Ending.returned (Value.bool b)) HF.out.symm,B2.out.trans ⟨rfl,rfl,rfl,Nat.le_refl _,fun _ _=>rfl⟩⟩
   | some jk=>
    obtain⟨j2,k2⟩:=jk
    obtain⟨hj2,hk2,hcc⟩:=conConV_some hco
    obtain⟨b3,off3,B3,c3,rfl,hSb3,x0,x1,x2,hx⟩:=GData.elem (HD.out.keep (w':=w2) (S':=Lt w.heap.size) fun q hq=>⟨hq,B2.out.block q hq⟩) j2 hj2
    obtain⟨b4,off4,B4,c4,rfl,hSb4,y0,y1,hy⟩:=GCon.elem hx.2.2 k2 hk2
    have hcln:ds[j2].cons.length<=9223372036854775807:=by simpa using hx.2.2.len
    have HAK:=LH (show argsOk ds p.s p.kids.length=(ds[j2].cons[k2].args.length ==p.kids.length) by unfold argsOk;rw [hcc])
    have d1:decide ((j2:Int)<0)=false:=decide_eq_false (by omega)
    simp only [conI]
    have hl2:b3<w2.heap.size:=Nat.lt_of_lt_of_le hSb3 B2.out.size
    have hl4:b4<w2.heap.size:=Nat.lt_of_lt_of_le hSb4 B2.out.size
    clear hco hcc hx hy x0 x1 y0 h
    by_cases hq:ds[j2].cons[k2].args.length=p.kids.length
    ·
     have hne:((ds[j2].cons[k2].args.length:Int) != (p.kids.length:Int))=false:=by rw [bne,hq];simp
     have HV2:=LH (show conOk ds p=p.kids.all (conOk ds) by rw [HV.out,HAK.out,hq];simp)
     clear hq
     go_wp2_with fail
     go_simp
     go_big_quiet (fail)
     obtain⟨w4,e4⟩:∃ w4,w4=w2.drewN nq:=⟨_,rfl⟩
     rw [<- e4]
     have E4:=LH (show Below w0.heap.size w0 w4 by rw [e4];exact E2.out.trans ⟨rfl,rfl,rfl,by show w2.heap.size<=w2.heap.size;exact Nat.le_refl _,fun _ _=>rfl⟩)
     have RP4:=LH (show Row w4 (w.heap.size+1) 49 #[.int .i64 p.op,.int .i64 p.n,.string p.s,.string p.t,.slice A1 p.kids.length c1] by rw [e4];exact RP2.out)
     have hcp4:=fun i=>RP4.out.cell i
     have HA4:=LH (HAL.out w4 E4.out)
     clear e4 hcl hcp x2 y1
     go_wp2_with fail
     refine HA4.out.mono ?_
     rintro e w5 ⟨rfl,hb5⟩
     go_wp2_with fail
     go_ret
     exact⟨congrArg (fun b=>Ending.returned (Value.bool b)) HV2.out.symm,(E0.out.trans (E4.out.mono E0.out.size)).trans (hb5.mono (E0.out.trans (E4.out.mono E0.out.size)).size)⟩
    ·
     have hne:((ds[j2].cons[k2].args.length:Int) != (p.kids.length:Int))=true:=by rw [bne,show((ds[j2].cons[k2].args.length:Int) ==(p.kids.length:Int))=false from by rw [beq_eq_false_iff_ne];omega];rfl
     have HF:=LH (show conOk ds p=false by rw [HV.out,HAK.out,show(ds[j2].cons[k2].args.length ==p.kids.length)=false from by rw [beq_eq_false_iff_ne];exact hq];rfl)
     clear hq
     go_wp2_with fail
     go_simp
     go_big_quiet (fail)
     go_wp2_with fail
     go_ret
     exact⟨congrArg (fun b=>Ending.returned (Value.bool b)) HF.out.symm,B2.out.trans ⟨rfl,rfl,rfl,Nat.le_refl _,fun _ _=>rfl⟩⟩
set_option maxHeartbeats 400000
set_option maxHeartbeats 1000000
def zeroN:GNode:=.mk 0 0 ByteArray.empty ByteArray.empty []
def patI (a:GNode):GNode:=a.kids.headD zeroN
def rowsOf (f:GNode->GNode) (alts:List GNode):List (List GNode):=alts.map fun a=>[f a]
theorem anyN_cells (w:World) (S:Nat->Prop):anyN.toD.rd w S [.int .i64 17,.int .i64 0,.string ⟨#[]⟩,.string ⟨#[]⟩,.slice none 0 0]:=anyN_rd w S 0 (Nat.zero_le _) none
theorem rowsOf_take {f:GNode->GNode} {alts:List GNode} {j:Nat} (h:j<alts.length):rowsOf f (alts.take (j+1))=rowsOf f (alts.take j)++[[f alts[j]]]:=by
 unfold rowsOf;rw [take_snoc' alts j h,List.map_append];rfl
theorem patOf_cons {a k:GNode} {r:List GNode} (h:a.kids=k::r):patOf a=k:=by unfold patOf hd;rw [h];rfl
theorem patOf_nil {a:GNode} (h:a.kids= []):patOf a=anyN:=by unfold patOf hd;rw [h];rfl
theorem patI_cons {a k:GNode} {r:List GNode} (h:a.kids=k::r):patI a=k:=by unfold patI;rw [h];rfl
theorem patI_nil {a:GNode} (h:a.kids= []):patI a=zeroN:=by unfold patI;rw [h];rfl
def PatTo (S:Nat->Prop) (p:GNode) (w:World) (e:Ending) (w':World):Prop:=∃ A c,e= .returned (.agg #[.int .i64 p.op,.int .i64 p.n,.string p.s,.string p.t,.slice A p.kids.length c])/\GNode.At w' S A c p/\Below w.heap.size w w'
theorem implPatternOf (S:Nat->Prop) (a:GNode) (A1:Option Addr) (c1:Nat) (w:World) (hS:∀ b,S b->b<w.heap.size) (hat:GNode.At w S A1 c1 a):
 Calls Tryz.prog 28 #[.agg #[.int .i64 a.op,.int .i64 a.n,.string a.s,.string a.t,.slice A1 a.kids.length c1]] w (PatTo S (patI a) w):=by
 have HSS:=LH hS
 clear hS
 obtain⟨w0,e0⟩:∃ w0,w0=(w.alloc (.cells #[.int .i64 a.op,.int .i64 a.n,.string a.s,.string a.t,.slice A1 a.kids.length c1] 49)).alloc (.cells #[.int .i64 0,.int .i64 0,.string ⟨#[]⟩,.string ⟨#[]⟩,.slice none 0 0] 49):=⟨_,rfl⟩
 have E0:=LH (show Below w.heap.size w w0 by rw [e0];exact((Below.refl _ _).alloc (Nat.le_refl _) _).alloc (by simp) _)
 have hkm:a.kids.length<=9223372036854775807:=by simpa using hat.2.2.2.2.len
 cases hks:a.kids with
 | nil=>
  have HV:=LH (patI_nil hks)
  have EQ:=LH e0
  rw [hks] at EQ
  clear hks hat e0
  go_enter Tryz.func28,Tryz.ntmps28
  go_wp2_with fail
  refine bodyPost_ret (v:=.agg #[.int .i64 0,.int .i64 0,.string ⟨#[]⟩,.string ⟨#[]⟩,.slice none 0 0]) (by simp [results,Tryz.results28,go_sem]) rfl ?_
  rw [HV.out]
  refine⟨none,0,rfl,⟨(show(Lit.int IntKind.i64 0).wf=true by decide),(show(Lit.int IntKind.i64 0).wf=true by decide),(show ByteArray.empty.size<=maxLen by unfold maxLen;simp),(show ByteArray.empty.size<=maxLen by unfold maxLen;simp),Sl.nil (Nat.zero_le _)⟩,?_⟩
  have:=E0.out
  rw [EQ.out] at this
  exact this
 | cons k r=>
  have hat2:=hat.2.2.2.2
  rw [hks] at hat2
  obtain⟨b,off,A2,c2,rfl,hSb,q0,q1,q2,q3,q4,hk⟩:=GNode.elem hat2 0 (by simp)
  simp only [Nat.zero_mul,Nat.add_zero,List.getElem_cons_zero] at q0 q1 q2 q3 q4 hk
  have HV:=LH (patI_cons hks)
  have HK:=LH hk
  have k0:=(E0.out.cell (p:=⟨b,off,none⟩) (HSS.out b hSb)).trans q0
  have k1:=(E0.out.cell (p:=⟨b,off+1,none⟩) (HSS.out b hSb)).trans q1
  have k2:=(E0.out.cell (p:=⟨b,off+2,none⟩) (HSS.out b hSb)).trans q2
  have k3:=(E0.out.cell (p:=⟨b,off+3,none⟩) (HSS.out b hSb)).trans q3
  have k4:=(E0.out.cell (p:=⟨b,off+4,none⟩) (HSS.out b hSb)).trans q4
  rw [e0] at k0 k1 k2 k3 k4
  have EQ:=LH e0
  have hl:a.kids.length=r.length+1:=by rw [hks];rfl
  rw [hl] at hkm EQ k0 k1 k2 k3 k4
  rw [List.length_cons]
  clear hks hat e0 hat2 hk q0 q1 q2 q3 q4 hl
  go_enter Tryz.func28,Tryz.ntmps28
  go_wp2_with fail
  refine bodyPost_ret (v:=.agg #[.int .i64 k.op,.int .i64 k.n,.string k.s,.string k.t,.slice A2 k.kids.length c2]) (by simp [results,Tryz.results28,go_sem]) rfl ?_
  rw [HV.out]
  exact(fun(BB:Below w.heap.size w _)=>⟨A2,c2,rfl,HK.out.keep fun x hx=>⟨hx,BB.block x (HSS.out x hx)⟩,BB⟩) (((Below.refl _ _).alloc (Nat.le_refl _) _).alloc (by simp) _)
end Go.Proofs.YtamfolaicncblaaGreat
