/- Texts of the claim LTreesRight in one: Fits AValue CValue At. Conditions: none but bounds on sizes. -/
import Derived.Test.YtamfolaicncblaaGreatRows
import Derived.Test.YtamfolaicncblaaGreatZLTreesRight0
import Derived.Test.YtamfolaicncblaaGreatZLTreesRight2
import Derived.Test.YtamfolaicncblaaGreatZLTreesRight5
import Derived.Lib.Hide
import Derived.StillTailTactics
import Derived.Test.YtamfolaicncblaaGreatZLTreesRight4
import Derived.OwnWalk
import Derived.Deep.RegionLaw
import Derived.Test.YtamfolaicncblaaGreatZLTreesRight17
import Derived.Test.YtamfolaicncblaaGreatZLTreesRight3
namespace Go.Proofs.YtamfolaicncblaaGreat
set_option maxRecDepth 20000
set_option linter.unusedVariables false
set_option linter.unusedSimpArgs false
open Go.RowKit
set_option maxHeartbeats 1000000
mutual
def fitsB:GNode->GValue->Bool
 | .mk op n s _ kids,.mk kind n2 s2 kids2=>if op=17\/op=18 then true else if op=19 then kind ==1&&n2 ==n else if op=20 then(kind ==2&&s2.toList ==s.toList)&&fitsL kids kids2 else false
def fitsL:List GNode->List GValue->Bool
 | [],[]=>true
 | a::r,b::r2=>fitsB a b&&fitsL r r2
 | [],_::_=>false
 | _::_,[]=>false
end
theorem fitsB_eq (p:GNode) (v:GValue):fitsB p v=if p.op=17\/p.op=18 then true else if p.op=19 then v.kind ==1&&v.n ==p.n else if p.op=20 then(v.kind ==2&&v.s.toList ==p.s.toList)&&fitsL p.kids v.kids else false:=by
 cases p;cases v;simp only [fitsB,GNode.op,GNode.n,GNode.s,GNode.kids,GValue.kind,GValue.n,GValue.s,GValue.kids];rfl
theorem fitsL_len:∀ {l:List GNode} {l2:List GValue},l.length≠l2.length->fitsL l l2=false
 | [],[],h=>by simp at h
 | [],_::_,_=>by simp [fitsL]
 | _::_,[],_=>by simp [fitsL]
 | a::r,b::r2,h=>by
  simp only [fitsL]
  rw [fitsL_len (l:=r) (l2:=r2) (by simpa using h)]
  simp
theorem fitsL_false:∀ {l:List GNode} {l2:List GValue} (i:Nat) (h1:i<l.length) (h2:i<l2.length),fitsB l[i] l2[i]=false->fitsL l l2=false
 | [],_,i,h1,_,_=>by simp at h1
 | _::_,[],i,_,h2,_=>by simp at h2
 | a::r,b::r2,0,_,_,h=>by simp only [fitsL];simp only [List.getElem_cons_zero] at h;rw [h];rfl
 | a::r,b::r2,i+1,h1,h2,h=>by
  simp only [fitsL]
  rw [fitsL_false (l:=r) (l2:=r2) i (by simpa using h1) (by simpa using h2) (by simpa using h)]
  simp
theorem fitsL_true:∀ {l:List GNode} {l2:List GValue},l.length=l2.length->(∀ i (h1:i<l.length) (h2:i<l2.length),fitsB l[i] l2[i]=true)->fitsL l l2=true
 | [],[],_,_=>by simp [fitsL]
 | [],_::_,h,_=>by simp at h
 | _::_,[],h,_=>by simp at h
 | a::r,b::r2,h,hi=>by
  simp only [fitsL]
  rw [fitsL_true (l:=r) (l2:=r2) (by simpa using h) (fun i h1 h2=>hi (i+1) (by simpa using h1) (by simpa using h2))]
  have:=hi 0 (by simp) (by simp)
  simp only [List.getElem_cons_zero] at this
  rw [this];rfl
theorem specFits (k:Nat):∀ (p:GNode) (v:GValue) (A1:Option Addr) (c1:Nat) (B1:Option Addr) (d1:Nat) (w:World),p.bulk<k->GNode.At w (Lt w.heap.size) A1 c1 p->GValue.At w (Lt w.heap.size) B1 d1 v->
 Calls Tryz.prog 20 #[.agg #[.int .i64 p.op,.int .i64 p.n,.string p.s,.string p.t,.slice A1 p.kids.length c1],.agg #[.int .i64 v.kind,.int .i64 v.n,.string v.s,.slice B1 v.kids.length d1]] w fun e w'=>e= .returned (.bool (fitsB p v))/\Below w.heap.size w w':=by
 induction k with
 | zero=>intro p v A1 c1 B1 d1 w h;omega
 | succ k ih=>
  intro p v A1 c1 B1 d1 w hk ha hb
  obtain⟨-,-,-,-,hs⟩:=id ha
  obtain⟨-,-,-,hs2⟩:=id hb
  have hlen2:v.kids.length<=9223372036854775807:=by simpa using hs2.len
  have hse:=LH (fitsB_eq p v)
  have hbe:=p.bulk_eq
  have E:Below w.heap.size w ((w.alloc (.cells #[.int .i64 p.op,.int .i64 p.n,.string p.s,.string p.t,.slice A1 p.kids.length c1] 49)).alloc (.cells #[.int .i64 v.kind,.int .i64 v.n,.string v.s,.slice B1 v.kids.length d1] 36)):=((Below.refl _ _).alloc (Nat.le_refl _) _).alloc (by simp) _
  cases o1:(p.op ==17)
  rotate_left
  · have x1:=LH (beq_iff_eq.1 o1)
    go_enter Tryz.func20,Tryz.ntmps20
    go_wp2_with fail
    go_ret
    exact⟨ret_bool (by rw [hse.out];rw [if_pos (.inl x1.out)]),E⟩
  cases o2:(p.op ==18)
  rotate_left
  · have x2:=LH (beq_iff_eq.1 o2)
    go_enter Tryz.func20,Tryz.ntmps20
    go_wp2_with fail
    go_ret
    exact⟨ret_bool (by rw [hse.out];rw [if_pos (.inr x2.out)]),E⟩
  have x1:=LH (show ¬ (p.op=17\/p.op=18) from by simp only [beq_eq_false_iff_ne,ne_eq] at o1 o2;omega)
  cases o3:(p.op ==19)
  rotate_left
  ·
   have x3:=LH (beq_iff_eq.1 o3)
   cases y1:(v.kind ==1)
   · skip
     go_enter Tryz.func20,Tryz.ntmps20
     go_wp2_with fail
     go_ret
     exact⟨ret_bool (by rw [hse.out];rw [if_neg x1.out,if_pos x3.out,y1];rfl),E⟩
   ·
    cases y2:(v.n ==p.n)
    · skip
      go_enter Tryz.func20,Tryz.ntmps20
      go_wp2_with fail
      go_ret
      exact⟨ret_bool (by rw [hse.out];rw [if_neg x1.out,if_pos x3.out,y1,y2];rfl),E⟩
    · skip
      go_enter Tryz.func20,Tryz.ntmps20
      go_wp2_with fail
      go_ret
      exact⟨ret_bool (by rw [hse.out];rw [if_neg x1.out,if_pos x3.out,y1,y2];rfl),E⟩
  have x3:=LH (show ¬ (p.op=19) from by simpa using o3)
  cases o4:(p.op ==20)
  · have x4:=LH (show ¬ (p.op=20) from by simpa using o4)
    go_enter Tryz.func20,Tryz.ntmps20
    go_wp2_with fail
    go_ret
    exact⟨ret_bool (by rw [hse.out];rw [if_neg x1.out,if_neg x3.out,if_neg x4.out]),E⟩
  have x4:=LH (beq_iff_eq.1 o4)
  cases y1:(v.kind ==2)
  · have z1:(v.kind != 2)=true:=by rw [bne,y1];rfl
    go_enter Tryz.func20,Tryz.ntmps20
    go_wp2_with fail
    go_ret
    exact⟨ret_bool (by rw [hse.out];rw [if_neg x1.out,if_neg x3.out,if_pos x4.out,y1];rfl),E⟩
  have z1:(v.kind != 2)=false:=by rw [bne,y1];rfl
  cases y2:(v.s.toList ==p.s.toList)
  · have z2:(v.s.toList != p.s.toList)=true:=by rw [bne,y2];rfl
    go_enter Tryz.func20,Tryz.ntmps20
    go_wp2_with fail
    go_ret
    exact⟨ret_bool (by rw [hse.out];rw [if_neg x1.out,if_neg x3.out,if_pos x4.out,y1,y2];rfl),E⟩
  have z2:(v.s.toList != p.s.toList)=false:=by rw [bne,y2];rfl
  by_cases hl:p.kids.length=v.kids.length
  rotate_left
  ·
   have e1:(v.kids.length != p.kids.length)=true:=by rw [bne_iff_ne];omega
   have e2:((v.kids.length:Int) != (p.kids.length:Int))=true:=by rw [bne_iff_ne];omega
   have hr:=LH (fitsL_len hl)
   clear hl
   go_enter Tryz.func20,Tryz.ntmps20
   go_wp2_with fail
   go_ret
   exact⟨ret_bool (by rw [hse.out];rw [if_neg x1.out,if_neg x3.out,if_pos x4.out,y1,y2,hr.out];rfl),E⟩
  have e1:(v.kids.length != p.kids.length)=false:=by rw [bne_eq_false_iff_eq];omega
  have e2:((v.kids.length:Int) != (p.kids.length:Int))=false:=by rw [bne_eq_false_iff_eq];omega
  have Hl:=LH hl
  have hle:p.kids.length<=v.kids.length:=by omega
  have hle2:v.kids.length<=p.kids.length:=by omega
  clear hl
  have Ra:=LH ((Row.new w 49 #[.int .i64 p.op,.int .i64 p.n,.string p.s,.string p.t,.slice A1 p.kids.length c1]).alloc (.cells #[.int .i64 v.kind,.int .i64 v.n,.string v.s,.slice B1 v.kids.length d1] 36))
  have Rb:=LH (Row.new' (w.alloc (.cells #[.int .i64 p.op,.int .i64 p.n,.string p.s,.string p.t,.slice A1 p.kids.length c1] 49)) 36 #[.int .i64 v.kind,.int .i64 v.n,.string v.s,.slice B1 v.kids.length d1] (g:=w.heap.size+1) (by simp))
  go_enter Tryz.func20,Tryz.ntmps20
  go_wp2_with fail
  go_loopw [5] (fun i wr=>∃ j:Nat,j<=p.kids.length/\i= .int .i64 j/\(∀ i (h1:i<p.kids.length) (h2:i<v.kids.length),i<j->fitsB p.kids[i] v.kids[i]=true)/\Below w.heap.size w wr/\Row wr w.heap.size 49 #[.int .i64 p.op,.int .i64 p.n,.string p.s,.string p.t,.slice A1 p.kids.length c1]/\Row wr (w.heap.size+1) 36 #[.int .i64 v.kind,.int .i64 v.n,.string v.s,.slice B1 v.kids.length d1]) (fun i _=>p.kids.length - (intOf i).toNat)
  case atStart=>exact⟨0,by omega,by go_num,fun i _ _ h=>by omega,E,Ra.out,Rb.out⟩
  case round=>
   clear Ra Rb E
   obtain⟨j,hj,rfl,hall,hbl,ra,rb⟩:=hrel
   have Hall:=LH hall
   clear hall
   have hsz:=hbl.size
   have hca:=fun i=>ra.cell i
   have hcb:=fun i=>rb.cell i
   have hla:=ra.lt
   have hlb:=rb.lt
   by_cases hlt:j<p.kids.length
   ·
    have hlt2:j<v.kids.length:=by omega
    have htr:=GNode.elem (hs.below hbl (Nat.le_refl _)) j hlt
    obtain⟨bk,off,A2,c2,rfl,hSb,q0,q1,q2,q3,q4,hat⟩:=htr
    have htr:=GValue.elem (hs2.below hbl (Nat.le_refl _)) j hlt2
    obtain⟨bk',off',B2,d2,rfl,hSb',q0',q1',q2',q3',hat'⟩:=htr
    have hmem:p.kids[j]∈p.kids:=List.getElem_mem hlt
    have hlt3:(p.kids[j]).bulk<k:=by have:=bulkL_mem GNode.bulk p.kids _ hmem;omega
    go_wp2_with fail
    refine wp_region_still_tail 10 (by kernel_rfl) (by kernel_rfl) ?_
    simp only [List.take_succ_cons,List.take_zero,List.drop_succ_cons,List.drop_zero]
    change wpStill _ _ wr.drew (fun a'=>wpList _ _ _ _ a' wr.drew) _ _
    iterate 10 still_step
    refine wpStill_nil ?_
    go_wp2_with fail
    refine(ih _ _ _ _ _ _ wr.drew hlt3 (hat.keep fun b hb=>⟨Nat.lt_of_lt_of_le hb hsz,rfl⟩) (hat'.keep fun b hb=>⟨Nat.lt_of_lt_of_le hb hsz,rfl⟩)).mono ?_
    rintro e w1 ⟨rfl,hb1⟩
    have BB:=hbl.drew.trans (hb1.mono hsz)
    have ra1:=Row.below (w:=wr.drew) ra hb1 hla
    have rb1:=Row.below (w:=wr.drew) rb hb1 hlb
    cases he:fitsB p.kids[j] v.kids[j]
    · have hr:=LH (fitsL_false j hlt hlt2 he)
      go_wp2_with fail
      go_ret
      exact⟨ret_bool (by rw [hse.out,if_neg x1.out,if_neg x3.out,if_pos x4.out,y1,y2,hr.out];rfl),BB⟩
    ·
     have he2:=LH he
     clear he
     go_wp2_with fail
     go_roundw
     case rel=>exact⟨j+1,by omega,by go_num,fun i h1 h2 hi=>by
       rcases Nat.lt_or_ge i j with h | h
       · exact Hall.out i h1 h2 h
       · obtain rfl:i=j:=by omega
         exact he2.out,BB,ra1,rb1⟩
     case measure=>simp [intOf];omega
   · have hjl:j=p.kids.length:=by omega
     have Hj:=LH hjl
     clear hjl
     go_wp2_with fail
     go_ret
     exact⟨ret_bool (by rw [hse.out,if_neg x1.out,if_neg x3.out,if_pos x4.out,y1,y2,fitsL_true Hl.out (fun i h1 h2=>Hall.out i h1 h2 (by rw [Hj.out];exact h1))];rfl),hbl⟩
theorem implFits (k:Nat):∀ (p:GNode) (v:GValue) (A1:Option Addr) (c1:Nat) (B1:Option Addr) (d1:Nat) (w:World),p.bulk<k->GNode.At w (Lt w.heap.size) A1 c1 p->GValue.At w (Lt w.heap.size) B1 d1 v->
 Calls Tryz.prog 19 #[.agg #[.int .i64 p.op,.int .i64 p.n,.string p.s,.string p.t,.slice A1 p.kids.length c1],.agg #[.int .i64 v.kind,.int .i64 v.n,.string v.s,.slice B1 v.kids.length d1]] w fun e w'=>e= .returned (.bool (fitsB p v))/\Below w.heap.size w w':=by
 induction k with
 | zero=>intro p v A1 c1 B1 d1 w h;omega
 | succ k ih=>
  intro p v A1 c1 B1 d1 w hk ha hb
  obtain⟨-,-,-,-,hs⟩:=id ha
  obtain⟨-,-,-,hs2⟩:=id hb
  have hlen2:v.kids.length<=9223372036854775807:=by simpa using hs2.len
  have hse:=LH (fitsB_eq p v)
  have hbe:=p.bulk_eq
  have E:Below w.heap.size w ((w.alloc (.cells #[.int .i64 p.op,.int .i64 p.n,.string p.s,.string p.t,.slice A1 p.kids.length c1] 49)).alloc (.cells #[.int .i64 v.kind,.int .i64 v.n,.string v.s,.slice B1 v.kids.length d1] 36)):=((Below.refl _ _).alloc (Nat.le_refl _) _).alloc (by simp) _
  cases o1:(p.op ==17)
  rotate_left
  · have x1:=LH (beq_iff_eq.1 o1)
    go_enter Tryz.func19,Tryz.ntmps19
    go_wp2_with fail
    go_ret
    exact⟨ret_bool (by rw [hse.out];rw [if_pos (.inl x1.out)]),E⟩
  cases o2:(p.op ==18)
  rotate_left
  · have x2:=LH (beq_iff_eq.1 o2)
    go_enter Tryz.func19,Tryz.ntmps19
    go_wp2_with fail
    go_ret
    exact⟨ret_bool (by rw [hse.out];rw [if_pos (.inr x2.out)]),E⟩
  have x1:=LH (show ¬ (p.op=17\/p.op=18) from by simp only [beq_eq_false_iff_ne,ne_eq] at o1 o2;omega)
  cases o3:(p.op ==19)
  rotate_left
  ·
   have x3:=LH (beq_iff_eq.1 o3)
   cases y1:(v.kind ==1)
   · skip
     go_enter Tryz.func19,Tryz.ntmps19
     go_wp2_with fail
     go_ret
     exact⟨ret_bool (by rw [hse.out];rw [if_neg x1.out,if_pos x3.out,y1];rfl),E⟩
   ·
    cases y2:(v.n ==p.n)
    · skip
      go_enter Tryz.func19,Tryz.ntmps19
      go_wp2_with fail
      go_ret
      exact⟨ret_bool (by rw [hse.out];rw [if_neg x1.out,if_pos x3.out,y1,y2];rfl),E⟩
    · skip
      go_enter Tryz.func19,Tryz.ntmps19
      go_wp2_with fail
      go_ret
      exact⟨ret_bool (by rw [hse.out];rw [if_neg x1.out,if_pos x3.out,y1,y2];rfl),E⟩
  have x3:=LH (show ¬ (p.op=19) from by simpa using o3)
  cases o4:(p.op ==20)
  · have x4:=LH (show ¬ (p.op=20) from by simpa using o4)
    go_enter Tryz.func19,Tryz.ntmps19
    go_wp2_with fail
    go_ret
    exact⟨ret_bool (by rw [hse.out];rw [if_neg x1.out,if_neg x3.out,if_neg x4.out]),E⟩
  have x4:=LH (beq_iff_eq.1 o4)
  cases y1:(v.kind ==2)
  · have z1:(v.kind != 2)=true:=by rw [bne,y1];rfl
    go_enter Tryz.func19,Tryz.ntmps19
    go_wp2_with fail
    go_ret
    exact⟨ret_bool (by rw [hse.out];rw [if_neg x1.out,if_neg x3.out,if_pos x4.out,y1];rfl),E⟩
  have z1:(v.kind != 2)=false:=by rw [bne,y1];rfl
  cases y2:(v.s.toList ==p.s.toList)
  · have z2:(v.s.toList != p.s.toList)=true:=by rw [bne,y2];rfl
    go_enter Tryz.func19,Tryz.ntmps19
    go_wp2_with fail
    go_ret
    exact⟨ret_bool (by rw [hse.out];rw [if_neg x1.out,if_neg x3.out,if_pos x4.out,y1,y2];rfl),E⟩
  have z2:(v.s.toList != p.s.toList)=false:=by rw [bne,y2];rfl
  by_cases hl:p.kids.length=v.kids.length
  rotate_left
  ·
   have e1:(v.kids.length != p.kids.length)=true:=by rw [bne_iff_ne];omega
   have e2:((v.kids.length:Int) != (p.kids.length:Int))=true:=by rw [bne_iff_ne];omega
   have hr:=LH (fitsL_len hl)
   clear hl
   go_enter Tryz.func19,Tryz.ntmps19
   go_wp2_with fail
   go_ret
   exact⟨ret_bool (by rw [hse.out];rw [if_neg x1.out,if_neg x3.out,if_pos x4.out,y1,y2,hr.out];rfl),E⟩
  have e1:(v.kids.length != p.kids.length)=false:=by rw [bne_eq_false_iff_eq];omega
  have e2:((v.kids.length:Int) != (p.kids.length:Int))=false:=by rw [bne_eq_false_iff_eq];omega
  have Hl:=LH hl
  have hle:p.kids.length<=v.kids.length:=by omega
  have hle2:v.kids.length<=p.kids.length:=by omega
  clear hl
  have Ra:=LH ((Row.new w 49 #[.int .i64 p.op,.int .i64 p.n,.string p.s,.string p.t,.slice A1 p.kids.length c1]).alloc (.cells #[.int .i64 v.kind,.int .i64 v.n,.string v.s,.slice B1 v.kids.length d1] 36))
  have Rb:=LH (Row.new' (w.alloc (.cells #[.int .i64 p.op,.int .i64 p.n,.string p.s,.string p.t,.slice A1 p.kids.length c1] 49)) 36 #[.int .i64 v.kind,.int .i64 v.n,.string v.s,.slice B1 v.kids.length d1] (g:=w.heap.size+1) (by simp))
  go_enter Tryz.func19,Tryz.ntmps19
  go_wp2_with fail
  go_loopw [48] (fun i wr=>∃ j:Nat,j<=p.kids.length/\i= .int .i64 j/\(∀ i (h1:i<p.kids.length) (h2:i<v.kids.length),i<j->fitsB p.kids[i] v.kids[i]=true)/\Below w.heap.size w wr/\Row wr w.heap.size 49 #[.int .i64 p.op,.int .i64 p.n,.string p.s,.string p.t,.slice A1 p.kids.length c1]/\Row wr (w.heap.size+1) 36 #[.int .i64 v.kind,.int .i64 v.n,.string v.s,.slice B1 v.kids.length d1]) (fun i _=>p.kids.length - (intOf i).toNat)
  case atStart=>exact⟨0,by omega,by go_num,fun i _ _ h=>by omega,E,Ra.out,Rb.out⟩
  case round=>
   clear Ra Rb E
   obtain⟨j,hj,rfl,hall,hbl,ra,rb⟩:=hrel
   have Hall:=LH hall
   clear hall
   have hsz:=hbl.size
   have hca:=fun i=>ra.cell i
   have hcb:=fun i=>rb.cell i
   have hlb:=rb.lt
   by_cases hlt:j<p.kids.length
   ·
    have hlt2:j<v.kids.length:=by omega
    have htr:=GNode.elem (hs.below hbl (Nat.le_refl _)) j hlt
    obtain⟨bk,off,A2,c2,rfl,hSb,q0,q1,q2,q3,q4,hat⟩:=htr
    have htr:=GValue.elem (hs2.below hbl (Nat.le_refl _)) j hlt2
    obtain⟨bk',off',B2,d2,rfl,hSb',q0',q1',q2',q3',hat'⟩:=htr
    have hmem:p.kids[j]∈p.kids:=List.getElem_mem hlt
    have hlt3:(p.kids[j]).bulk<k:=by have:=bulkL_mem GNode.bulk p.kids _ hmem;omega
    have hb2':bk'<wr.heap.size:=Nat.lt_of_lt_of_le hSb' hsz
    have E2:Below wr.heap.size wr (wr.alloc (.cells #[.int .i64 p.kids[j].op,.int .i64 p.kids[j].n,.string p.kids[j].s,.string p.kids[j].t,.slice A2 p.kids[j].kids.length c2] 49)):=(Below.refl _ _).alloc (Nat.le_refl _) _
    have hat1:=hat.below (B':=(wr.alloc (.cells #[.int .i64 p.kids[j].op,.int .i64 p.kids[j].n,.string p.kids[j].s,.string p.kids[j].t,.slice A2 p.kids[j].kids.length c2] 49)).heap.size) (E2.mono hsz) (by simp;omega)
    have hat1':=hat'.below (B':=(wr.alloc (.cells #[.int .i64 p.kids[j].op,.int .i64 p.kids[j].n,.string p.kids[j].s,.string p.kids[j].t,.slice A2 p.kids[j].kids.length c2] 49)).heap.size) (E2.mono hsz) (by simp;omega)
    have rn:=Row.new wr 49 #[.int .i64 p.kids[j].op,.int .i64 p.kids[j].n,.string p.kids[j].s,.string p.kids[j].t,.slice A2 p.kids[j].kids.length c2]
    have ra0:=ra.alloc (.cells #[.int .i64 p.kids[j].op,.int .i64 p.kids[j].n,.string p.kids[j].s,.string p.kids[j].t,.slice A2 p.kids[j].kids.length c2] 49)
    have rb0:=rb.alloc (.cells #[.int .i64 p.kids[j].op,.int .i64 p.kids[j].n,.string p.kids[j].s,.string p.kids[j].t,.slice A2 p.kids[j].kids.length c2] 49)
    have B3:=hbl.trans (E2.mono hsz)
    go_wp2_with fail
    generalize hwx:(wr.alloc (.cells #[.int .i64 p.kids[j].op,.int .i64 p.kids[j].n,.string p.kids[j].s,.string p.kids[j].t,.slice A2 p.kids[j].kids.length c2] 49))=wx at*
    have hrn:=fun i=>rn.cell i
    have hrb:=fun i=>rb0.cell i
    have p0':=(World.cell?_of_block (a:=⟨bk',off'+j*4,none⟩) (E2.block bk' hb2')).trans q0'
    have p1':=(World.cell?_of_block (a:=⟨bk',off'+j*4+1,none⟩) (E2.block bk' hb2')).trans q1'
    have p2':=(World.cell?_of_block (a:=⟨bk',off'+j*4+2,none⟩) (E2.block bk' hb2')).trans q2'
    have p3':=(World.cell?_of_block (a:=⟨bk',off'+j*4+3,none⟩) (E2.block bk' hb2')).trans q3'
    have Rn:=LH rn
    have Ra:=LH ra0
    have Rb:=LH rb0
    clear hwx rn ra0 rb0 ra rb hca hcb q0 q1 q2 q3 q4 q0' q1' q2' q3'
    refine wp_region_still_tail 6 (by kernel_rfl) (by kernel_rfl) ?_
    simp only [List.take_succ_cons,List.take_zero,List.drop_succ_cons,List.drop_zero]
    change wpStill _ _ wx.drew (fun a'=>wpList _ _ _ _ a' wx.drew) _ _
    iterate 6 still_step
    refine wpStill_nil ?_
    go_wp2_with fail
    refine(ih _ _ _ _ _ _ wx.drew hlt3 (hat1.keep fun b hb=>⟨hb,rfl⟩) (hat1'.keep fun b hb=>⟨hb,rfl⟩)).mono ?_
    rintro e w1 ⟨rfl,hb1⟩
    have BB:=B3.drew.trans (hb1.mono B3.size)
    have ra1:=LH (Row.below (w:=wx.drew) Ra.out hb1 Ra.out.lt)
    have rb1:=LH (Row.below (w:=wx.drew) Rb.out hb1 Rb.out.lt)
    cases he:fitsB p.kids[j] v.kids[j]
    · have hr:=LH (fitsL_false j hlt hlt2 he)
      go_wp2_with fail
      go_ret
      exact⟨ret_bool (by rw [hse.out,if_neg x1.out,if_neg x3.out,if_pos x4.out,y1,y2,hr.out];rfl),BB⟩
    ·
     have he2:=LH he
     clear he
     go_wp2_with fail
     go_roundw
     case rel=>exact⟨j+1,by omega,by go_num,fun i h1 h2 hi=>by
       rcases Nat.lt_or_ge i j with h | h
       · exact Hall.out i h1 h2 h
       · obtain rfl:i=j:=by omega
         exact he2.out,BB,ra1.out,rb1.out⟩
     case measure=>simp [intOf];omega
   · have hjl:j=p.kids.length:=by omega
     have Hj:=LH hjl
     clear hjl
     go_wp2_with fail
     go_ret
     exact⟨ret_bool (by rw [hse.out,if_neg x1.out,if_neg x3.out,if_pos x4.out,y1,y2,fitsL_true Hl.out (fun i h1 h2=>Hall.out i h1 h2 (by rw [Hj.out];exact h1))];rfl),hbl⟩
set_option maxHeartbeats 400000
def ToValue (t:GValue) (w:World) (e:Ending) (w':World):Prop:=∃ A1 c1,e= .returned (.agg #[.int .i64 t.kind,.int .i64 t.n,.string t.s,.slice A1 t.kids.length c1])/\GValue.Ow w' (Btw w.heap.size w'.heap.size) A1 c1 t/\Below w.heap.size w w'
def zValue:Value:=.agg #[.int .i64 0,.int .i64 0,.string ⟨#[]⟩,.slice none 0 0]
set_option maxHeartbeats 1000000
theorem implCopyValue (k:Nat):∀ (t:GValue) (A1:Option Addr) (c1:Nat) (w:World),t.bulk<k->t.bulk<=1048576->GValue.At w (Lt w.heap.size) A1 c1 t->
 Calls Tryz.prog 39 #[.agg #[.int .i64 t.kind,.int .i64 t.n,.string t.s,.slice A1 t.kids.length c1]] w (ToValue t w):=by
 induction k with
 | zero=>intro t A1 c1 w hk;omega
 | succ k ih=>
  intro t A1 c1 w hk h1 hat
  have hbe:=t.bulk_eq
  have hlen:t.kids.length<=1048576:=by have:=bulkL_len GValue.bulk t.kids;omega
  have HH:=LH (fun(j:Nat) (h:j<t.kids.length) (A1:Option Addr) (c1:Nat) (w:World)=>ih t.kids[j] A1 c1 w (by have:=bulkL_mem GValue.bulk t.kids _ (List.getElem_mem h);omega) (by have:=bulkL_mem GValue.bulk t.kids _ (List.getElem_mem h);omega))
  have T0:=LH hat
  clear ih hbe hk h1 hat
  obtain⟨w0,e0⟩:∃ w0,w0=((w.alloc (.cells #[.int .i64 t.kind,.int .i64 t.n,.string t.s,.slice A1 t.kids.length c1] 36)).alloc (.cells #[.int .i64 0,.int .i64 0,.string ⟨#[]⟩,.slice none 0 0] 36)).alloc (.cells #[] 36):=⟨_,rfl⟩
  have B0:Below w.heap.size w w0:=by rw [e0];exact(((Below.refl _ _).alloc (Nat.le_refl _) _).alloc (by simp) _).alloc (by simp;omega) _
  have S0:w0.heap.size=w.heap.size+3:=by rw [e0];simp
  have Ra0:Row w0 w.heap.size 36 #[.int .i64 t.kind,.int .i64 t.n,.string t.s,.slice A1 t.kids.length c1]:=by rw [e0];exact((Row.new' _ _ _ rfl).alloc _).alloc _
  have Rz0:Row w0 (w.heap.size+1) 36 #[.int .i64 0,.int .i64 0,.string ⟨#[]⟩,.slice none 0 0]:=by rw [e0];exact(Row.new' _ _ _ (by simp)).alloc _
  have Re0:Row w0 (w.heap.size+1+1) 36 #[]:=by rw [e0];exact Row.new' _ _ _ (by simp)
  have G0:=LH (Gow.made (B:=w.heap.size+2) (m:=w0.heap.size) (size:=4) Re0 (by omega) (by omega))
  have HB0:=LH B0
  have HRa0:=LH Ra0
  have HRz0:=LH Rz0
  clear B0 S0 Ra0 Rz0 Re0
  go_enter Tryz.func39,Tryz.ntmps39
  go_wp2_with fail
  rw [<- e0]
  clear e0
  go_loopw [3,10] (fun v i wr=>∃ (j:Nat) (A:Option Addr) (c:Nat),j<=t.kids.length/\i= .int .i64 j/\v= .slice A j c/\Hid (Gow wr (w.heap.size+2) wr.heap.size 36 4 (.slice A j c) j ((t.kids.take j).map GValue.toD))/\Hid (Row wr w.heap.size 36 #[.int .i64 t.kind,.int .i64 t.n,.string t.s,.slice A1 t.kids.length c1])/\Hid (Row wr (w.heap.size+1) 36 #[.int .i64 0,.int .i64 0,.string ⟨#[]⟩,.slice none 0 0])/\Below w.heap.size w wr) (fun _ i _=>t.kids.length - (intOf i).toNat)
  case atStart=>exact⟨0,_,_,by omega,by go_num,rfl,G0,HRa0,HRz0,HB0.out⟩
  case round=>
   clear G0 HRa0 HRz0 HB0
   obtain⟨j,A,c,hj,rfl,rfl,HG,HRa,HRz,hbl⟩:=hrel
   have hsz:=hbl.size
   have hzl:=HRz.out.lt
   by_cases hlt:j<t.kids.length
   ·
    obtain⟨b,off,A2,c2,eA,hSb,g0,g1,g2,g3,hat⟩:=GValue.elem (T0.out.below hbl (Nat.le_refl _)).2.2.2 j hlt
    have eA':=LH eA
    have E1:=LH (show Below wr.heap.size wr (wr.alloc (.cells #[.int .i64 (t.kids[j]).kind,.int .i64 (t.kids[j]).n,.string (t.kids[j]).s,.slice A2 (t.kids[j]).kids.length c2] 36)) from(Below.refl _ _).alloc (Nat.le_refl _) _)
    have HA:=LH (hat.keep (S':=Lt (wr.alloc (.cells #[.int .i64 (t.kids[j]).kind,.int .i64 (t.kids[j]).n,.string (t.kids[j]).s,.slice A2 (t.kids[j]).kids.length c2] 36)).heap.size) (w':=wr.alloc (.cells #[.int .i64 (t.kids[j]).kind,.int .i64 (t.kids[j]).n,.string (t.kids[j]).s,.slice A2 (t.kids[j]).kids.length c2] 36)) fun q hq=>⟨Nat.lt_of_lt_of_le hq (Nat.le_trans hsz E1.out.size),Below.heap_alloc _ _ _ (Nat.lt_of_lt_of_le hq hsz)⟩)
    clear hat
    subst eA
    go_wp2_with fail
    refine(HH.out j hlt A2 c2 _ HA.out).mono ?_
    rintro e w1 ⟨A3,c3,rfl,how,hb1⟩
    have B1:=LH (E1.out.trans (hb1.mono E1.out.size))
    have HG1:=HG.out.below B1.out (Nat.le_refl _)
    have how1:=GValue.own_mk (how.keep (S':=Btw wr.heap.size w1.heap.size) (w':=w1) fun q hq=>⟨⟨Nat.le_trans E1.out.size hq.1,hq.2⟩,rfl⟩)
    clear how hb1
    go_wp2_with (first | (at_builtin;refine wpList_append_D w1 rfl (.tmp 14) (.tmp 17) 34 rfl 36 zValue 4 56 Tryz.underlying34 (by kernel_rfl) rfl (by omega) (w.heap.size+2) wr.heap.size _ j _ HG1 (t.kids[j]).toD [.int .i64 (t.kids[j]).kind,.int .i64 (t.kids[j]).n,.string (t.kids[j]).s,.slice A3 (t.kids[j]).kids.length c3] how1 (by omega) B1.out.size rfl (by simp [Value.oneCell']) (by omega) (by omega) 36 rfl w1.heap.size rfl rfl ?_;intro g cap w2 G2 Bq2 hs2 hg2 hgl2))
    go_roundw
    case rel=>
     have X2:=(Bq2.mono (show w.heap.size<=w.heap.size+2 by omega))
     exact⟨j+1,_,_,by omega,by go_num,rfl,LH (by rw [take_snoc' t.kids j hlt,List.map_append];exact G2),LH ((HRa.out.below B1.out (by omega)).below Bq2 (by omega)),LH ((HRz.out.below B1.out (by omega)).below Bq2 (by omega)),(hbl.trans (B1.out.mono hsz)).trans X2⟩
    case measure=>simp [intOf];omega
   ·
    have hjl:j=t.kids.length:=by omega
    obtain⟨A',c',eV,how⟩:=HG.out.osl
    obtain⟨rfl,rfl⟩:A=A'/\c=c':=by simpa using eV
    subst hjl
    rw [List.take_length] at how
    clear eV HG hlt hj
    obtain⟨p0,p1,p2,-⟩:=T0.out
    have hca:=fun i=>HRa.out.cell i
    have hcz:=fun i=>HRz.out.cell i
    have hfa:=fun i=>HRa.out.frozen i
    have hfz:=fun i=>HRz.out.frozen i
    have B1:=setCells_below hbl w.heap.size 3 (Nat.le_refl _) [.slice A t.kids.length c]
    have BF:=setCells_below B1 (w.heap.size+1) 0 (by omega) [.int .i64 t.kind,.int .i64 t.n,.string t.s,.slice A t.kids.length c]
    have SF:(setCells (setCells wr w.heap.size 3 [.slice A t.kids.length c]) (w.heap.size+1) 0 [.int .i64 t.kind,.int .i64 t.n,.string t.s,.slice A t.kids.length c]).heap.size=wr.heap.size:=by rw [setCells_size,setCells_size]
    have how2:=how.keep (S':=Btw w.heap.size (setCells (setCells wr w.heap.size 3 [.slice A t.kids.length c]) (w.heap.size+1) 0 [.int .i64 t.kind,.int .i64 t.n,.string t.s,.slice A t.kids.length c]).heap.size) (w':=setCells (setCells wr w.heap.size 3 [.slice A t.kids.length c]) (w.heap.size+1) 0 [.int .i64 t.kind,.int .i64 t.n,.string t.s,.slice A t.kids.length c]) fun q hq=>⟨⟨by have:=hq.1;omega,by rw [SF];exact hq.2⟩,(setCells_block _ _ _ _ _ (by have:=hq.1;omega)).trans (setCells_block _ _ _ _ _ (by have:=hq.1;omega))⟩
    have HOW:=LH how2
    have HBF:=LH BF
    clear how how2 BF B1 SF
    go_wp2_with fail
    exact bodyPost_ret (v:=.agg #[.int .i64 t.kind,.int .i64 t.n,.string t.s,.slice A t.kids.length c]) (by simp [results,Tryz.results39,go_sem,hca,hcz]) rfl ⟨A,c,rfl,⟨p0,p1,p2,HOW.out⟩,HBF.out⟩
theorem implCopyValue' (t:GValue) (A1:Option Addr) (c1:Nat) (w:World) (h1:t.bulk<=1048576) (hat:GValue.At w (Lt w.heap.size) A1 c1 t):
 Calls Tryz.prog 39 #[.agg #[.int .i64 t.kind,.int .i64 t.n,.string t.s,.slice A1 t.kids.length c1]] w (ToValue t w):=implCopyValue (t.bulk+1) t A1 c1 w (by omega) h1 hat
theorem specValueCopy (k:Nat):∀ (t:GValue) (A1:Option Addr) (c1:Nat) (w:World),t.bulk<k->t.bulk<=1048576->GValue.At w (Lt w.heap.size) A1 c1 t->
 Calls Tryz.prog 40 #[.agg #[.int .i64 t.kind,.int .i64 t.n,.string t.s,.slice A1 t.kids.length c1]] w (ToValue t w):=by
 induction k with
 | zero=>intro t A1 c1 w hk;omega
 | succ k ih=>
  intro t A1 c1 w hk h1 hat
  have hbe:=t.bulk_eq
  have hlen:t.kids.length<=1048576:=by have:=bulkL_len GValue.bulk t.kids;omega
  have HH:=LH (fun(j:Nat) (h:j<t.kids.length) (A1:Option Addr) (c1:Nat) (w:World)=>ih t.kids[j] A1 c1 w (by have:=bulkL_mem GValue.bulk t.kids _ (List.getElem_mem h);omega) (by have:=bulkL_mem GValue.bulk t.kids _ (List.getElem_mem h);omega))
  have T0:=LH hat
  clear ih hbe hk h1 hat
  obtain⟨w0,e0⟩:∃ w0,w0=((w.alloc (.cells #[.int .i64 t.kind,.int .i64 t.n,.string t.s,.slice A1 t.kids.length c1] 36)).alloc (.cells #[.int .i64 0,.int .i64 0,.string ⟨#[]⟩,.slice none 0 0] 36)).alloc (.cells #[.int .i64 t.kind,.int .i64 t.n,.string t.s,.slice none 0 0] 36):=⟨_,rfl⟩
  have B0:Below w.heap.size w w0:=by rw [e0];exact(((Below.refl _ _).alloc (Nat.le_refl _) _).alloc (by simp) _).alloc (by simp;omega) _
  have S0:w0.heap.size=w.heap.size+3:=by rw [e0];simp
  have Ra0:Row w0 w.heap.size 36 #[.int .i64 t.kind,.int .i64 t.n,.string t.s,.slice A1 t.kids.length c1]:=by rw [e0];exact((Row.new' _ _ _ rfl).alloc _).alloc _
  have Rz0:Row w0 (w.heap.size+1) 36 #[.int .i64 0,.int .i64 0,.string ⟨#[]⟩,.slice none 0 0]:=by rw [e0];exact(Row.new' _ _ _ (by simp)).alloc _
  have Ro0:Row w0 (w.heap.size+1+1) 36 #[.int .i64 t.kind,.int .i64 t.n,.string t.s,.slice none 0 0]:=by rw [e0];exact Row.new' _ _ _ (by simp)
  have HB0:=LH B0
  have HRa0:=LH Ra0
  have HRz0:=LH Rz0
  have HRo0:=LH Ro0
  have hs0:w.heap.size+3<=w0.heap.size:=by omega
  clear B0 S0 Ra0 Rz0 Ro0
  go_enter Tryz.func40,Tryz.ntmps40
  go_wp2_with fail
  rw [<- e0]
  clear e0
  go_loopw [4] (fun i wr=>∃ (j:Nat) (A:Option Addr) (c:Nat),j<=t.kids.length/\i= .int .i64 j/\Hid (Gow wr (w.heap.size+3) wr.heap.size 36 4 (.slice A j c) j ((t.kids.take j).map GValue.toD))/\Hid (Row wr w.heap.size 36 #[.int .i64 t.kind,.int .i64 t.n,.string t.s,.slice A1 t.kids.length c1])/\Hid (Row wr (w.heap.size+1) 36 #[.int .i64 0,.int .i64 0,.string ⟨#[]⟩,.slice none 0 0])/\Hid (Row wr (w.heap.size+1+1) 36 #[.int .i64 t.kind,.int .i64 t.n,.string t.s,.slice A j c])/\w.heap.size+3<=wr.heap.size/\Below w.heap.size w wr) (fun i _=>t.kids.length - (intOf i).toNat)
  case atStart=>exact⟨0,none,0,by omega,by go_num,LH (Gow.nil _ _ _ _ _),HRa0,HRz0,HRo0,hs0,HB0.out⟩
  case round=>
   clear HRa0 HRz0 HRo0 HB0 hs0
   obtain⟨j,A,c,hj,rfl,HG,HRa,HRz,HRo,hs3,hbl⟩:=hrel
   have hsz:=hbl.size
   have hca:=fun i=>HRa.out.cell i
   have hco:=fun i=>HRo.out.cell i
   by_cases hlt:j<t.kids.length
   ·
    obtain⟨b,off,A2,c2,eA,hSb,g0,g1,g2,g3,hat⟩:=GValue.elem (T0.out.below hbl (Nat.le_refl _)).2.2.2 j hlt
    subst eA
    have HA:=LH (hat.keep (S':=Lt wr.drew.heap.size) (w':=wr.drew) fun q hq=>⟨Nat.lt_of_lt_of_le hq hsz,rfl⟩)
    clear hat
    go_wp2_with fail
    go_region_law (first
      | (refine step_append_D w1 rfl (.tmp 20) (.tmp 27) 34 rfl 36 zValue 4 56 Tryz.underlying34 (by kernel_rfl) rfl (by omega) (w.heap.size+3) wr.heap.size _ j _ HG1.out (t.kids[j]).toD [.int .i64 (t.kids[j]).kind,.int .i64 (t.kids[j]).n,.string (t.kids[j]).s,.slice A3 (t.kids[j]).kids.length c3] how1.out (by omega) B1.out.size rfl (by simp [Value.oneCell']) (by omega) (by omega) 36 rfl w1.heap.size rfl rfl ?_
         intro g cap w2 G2 Bq2 hs2 hg2 hgl2
         have G3:=LH G2
         have B2:=LH Bq2
         have Ro3:=LH (Ro1.out.below Bq2 (by omega))
         have hco3:=fun i=>Ro3.out.cell i
         have hfo3:=fun i=>Ro3.out.frozen i
         clear G2 Bq2)
      | (go_simp
         go_at_call 40
         refine(HH.out j hlt A2 c2 _ HA.out).mono ?_
         rintro e w1 ⟨A3,c3,rfl,how,hb1⟩
         have B1:=LH (((Below.refl wr.heap.size wr).drew).trans hb1)
         have Ro1:=LH (HRo.out.below B1.out (by omega))
         have hco1:=fun i=>Ro1.out.cell i
         have hco2:=Ro1.out.lt
         have HG1:=LH (HG.out.below B1.out (Nat.le_refl _))
         have how1:=LH (GValue.own_mk (how.keep (S':=Btw wr.heap.size w1.heap.size) (w':=w1) fun q hq=>⟨hq,rfl⟩))
         clear how hb1))
    all_goals
     go_wp2_with fail
     go_roundw
     case rel=>
      have B3:=(hbl.trans (B1.out.mono hsz)).trans (B2.out.mono (show w.heap.size<=w.heap.size+3 by omega))
      refine⟨j+1,_,_,by omega,by go_num,LH (show Gow (w2.setCell ⟨w.heap.size+1+1,3,none⟩ (.slice (some ⟨g,0,none⟩) (j+1) cap)) (w.heap.size+3) (w2.setCell ⟨w.heap.size+1+1,3,none⟩ (.slice (some ⟨g,0,none⟩) (j+1) cap)).heap.size 36 4 (.slice (some ⟨g,0,none⟩) (j+1) cap) (j+1) ((t.kids.take (j+1)).map GValue.toD) from ?_),LH (((HRa.out.below B1.out (by omega)).below B2.out (by omega)).far (p:=⟨w.heap.size+1+1,3,none⟩) (by simp<;>omega) _),LH (((HRz.out.below B1.out (by omega)).below B2.out (by omega)).far (p:=⟨w.heap.size+1+1,3,none⟩) (by simp<;>omega) _),LH (Ro3.out.set 3 _),?_,B3.setCell (p:=⟨w.heap.size+1+1,3,none⟩) (by simp<;>omega) _⟩
      · rw [take_snoc' t.kids j hlt,List.map_append]
        exact G3.out.keep (by simp [World.setCell]) (fun q hq _=>Below.heap_setCell _ ⟨w.heap.size+1+1,3,none⟩ _ q (by simp<;>omega))
      · have:=B3.size;have:=B1.out.size;simp [World.setCell];omega
     case measure=>simp [intOf];omega
   ·
    have hjl:j=t.kids.length:=by omega
    obtain⟨A',c',eV,how⟩:=HG.out.osl
    obtain⟨rfl,rfl⟩:A=A'/\c=c':=by simpa using eV
    subst hjl
    rw [List.take_length] at how
    clear eV HG hlt hj hca hco
    obtain⟨p0,p1,p2,-⟩:=T0.out
    have hca:=fun i=>HRa.out.cell i
    have hco:=fun i=>HRo.out.cell i
    have hcz:=fun i=>HRz.out.cell i
    have hfz:=fun i=>HRz.out.frozen i
    have BF:=setCells_below hbl (w.heap.size+1) 0 (by omega) [.int .i64 t.kind,.int .i64 t.n,.string t.s,.slice A t.kids.length c]
    have SF:(setCells wr (w.heap.size+1) 0 [.int .i64 t.kind,.int .i64 t.n,.string t.s,.slice A t.kids.length c]).heap.size=wr.heap.size:=by rw [setCells_size]
    have how2:=how.keep (S':=Btw w.heap.size (setCells wr (w.heap.size+1) 0 [.int .i64 t.kind,.int .i64 t.n,.string t.s,.slice A t.kids.length c]).heap.size) (w':=setCells wr (w.heap.size+1) 0 [.int .i64 t.kind,.int .i64 t.n,.string t.s,.slice A t.kids.length c]) fun q hq=>⟨⟨by have:=hq.1;omega,by rw [SF];exact hq.2⟩,setCells_block _ _ _ _ _ (by have:=hq.1;omega)⟩
    have HOW:=LH how2
    have HBF:=LH BF
    clear how how2 BF SF
    go_wp2_with fail
    exact bodyPost_ret (v:=.agg #[.int .i64 t.kind,.int .i64 t.n,.string t.s,.slice A t.kids.length c]) (by simp [results,Tryz.results40,go_sem,hca,hcz,hco]) rfl ⟨A,c,rfl,⟨p0,p1,p2,HOW.out⟩,HBF.out⟩
theorem specValueCopy' (t:GValue) (A1:Option Addr) (c1:Nat) (w:World) (h1:t.bulk<=1048576) (hat:GValue.At w (Lt w.heap.size) A1 c1 t):
 Calls Tryz.prog 40 #[.agg #[.int .i64 t.kind,.int .i64 t.n,.string t.s,.slice A1 t.kids.length c1]] w (ToValue t w):=specValueCopy (t.bulk+1) t A1 c1 w (by omega) h1 hat
def valAt:GValue->List Int->Option GValue
 | v,[]=>some v
 | v,k::r=>if 0<=k then(match v.kids[k.toNat]? with | some x=>valAt x r | none=>none) else none
def zeroV:GValue:=.mk 0 0 ⟨#[]⟩ []
def atV (o:Option GValue):GValue:=match o with | some x=>x | none=>zeroV
def ToAt (o:Option GValue) (w:World) (e:Ending) (w':World):Prop:=∃ A1 c1,e= .returned (.tuple #[.agg #[.int .i64 (atV o).kind,.int .i64 (atV o).n,.string (atV o).s,.slice A1 (atV o).kids.length c1],.bool o.isSome])/\GValue.Ow w' (Btw w.heap.size w'.heap.size) A1 c1 (atV o)/\Below w.heap.size w w'
theorem valAt_neg {v:GValue} {p:List Int} {j:Nat} (h:j<p.length) (hk:p[j]<0):valAt v (p.drop j)=none:=by
 rw [List.drop_eq_getElem_cons h,valAt,if_neg (by omega)]
theorem valAt_over {v:GValue} {p:List Int} {j:Nat} (h:j<p.length) (hk:(v.kids.length:Int)<=p[j]):valAt v (p.drop j)=none:=by
 rw [List.drop_eq_getElem_cons h,valAt,if_pos (by omega),List.getElem?_eq_none (by omega)]
theorem valAt_in {v:GValue} {p:List Int} {j k:Nat} (h:j<p.length) (hp:p[j]=k) (hk:k<v.kids.length):valAt v (p.drop j)=valAt v.kids[k] (p.drop (j+1)):=by
 rw [List.drop_eq_getElem_cons h,valAt,if_pos (by omega),hp,Int.toNat_natCast,List.getElem?_eq_getElem hk]
theorem valAt_bulk {v x:GValue} {p:List Int} (h:valAt v p=some x):x.bulk<=v.bulk:=by
 induction p generalizing v with
 | nil=>simp [valAt] at h;subst h;exact Nat.le_refl _
 | cons k r ih=>
  simp only [valAt] at h
  split at h
  ·
   split at h
   · rename_i y hy
     have:=ih h
     obtain⟨hk,e⟩:=List.getElem?_eq_some_iff.1 hy
     have:=bulkL_mem GValue.bulk v.kids _ (List.getElem_mem hk)
     have:=v.bulk_eq
     rw [e] at*;omega
   · cases h
  · cases h
theorem atV_bulk (v:GValue) (p:List Int):(atV (valAt v p)).bulk<=v.bulk:=by
 cases h:valAt v p with
 | none=>exact Nat.zero_le _
 | some x=>exact valAt_bulk h
theorem zeroV_ow (w:World) (S:Nat->Prop):GValue.Ow w S none 0 zeroV:=
 ⟨wfNat 0 (by omega),wfNat 0 (by omega),Nat.zero_le _,Osl.nil (by unfold maxLen;omega)⟩
theorem specAt (v:GValue) (A1:Option Addr) (c1:Nat) (p:List Int) (P:Option Addr) (pc:Nat) (w:World) (hb:v.bulk<=1048576) (hv:GValue.At w (Lt w.heap.size) A1 c1 v) (hp:Sl w (Lt w.heap.size) 1 P pc (p.map (D.num .i64))):
 Calls Tryz.prog 12 #[.agg #[.int .i64 v.kind,.int .i64 v.n,.string v.s,.slice A1 v.kids.length c1],.slice P p.length pc] w (ToAt (valAt v p) w):=by
 have hlen:p.length<=9223372036854775807:=by simpa using hp.len
 have V0:=LH hv
 have P0:=LH hp
 clear hv hp
 obtain⟨w0,e0⟩:∃ w0,w0=(w.alloc (.cells #[.int .i64 v.kind,.int .i64 v.n,.string v.s,.slice A1 v.kids.length c1] 36)).alloc (.cells #[.int .i64 0,.int .i64 0,.string ⟨#[]⟩,.slice none 0 0] 36):=⟨_,rfl⟩
 have B0:=LH (show Below w.heap.size w w0 by rw [e0];exact((Below.refl _ _).alloc (Nat.le_refl _) _).alloc (by simp) _)
 have S0:w.heap.size+2<=w0.heap.size:=by rw [e0];simp
 have Ra0:=LH (show Row w0 w.heap.size 36 #[.int .i64 v.kind,.int .i64 v.n,.string v.s,.slice A1 v.kids.length c1] by rw [e0];exact(Row.new' _ _ _ rfl).alloc _)
 have Rz0:=LH (show Row w0 (w.heap.size+1) 36 #[.int .i64 0,.int .i64 0,.string ⟨#[]⟩,.slice none 0 0] by rw [e0];exact Row.new' _ _ _ (by simp))
 go_enter Tryz.func12,Tryz.ntmps12
 go_wp2_with fail
 rw [<- e0]
 clear e0
 go_loopw [6] (fun i wr=>∃ (j:Nat) (x:GValue) (A2:Option Addr) (c2:Nat),j<=p.length/\i= .int .i64 j/\Hid (valAt v p=valAt x (p.drop j))/\Hid (GValue.At w (Lt w.heap.size) A2 c2 x)/\x.bulk<=1048576/\Hid (Row wr w.heap.size 36 #[.int .i64 x.kind,.int .i64 x.n,.string x.s,.slice A2 x.kids.length c2])/\Hid (Row wr (w.heap.size+1) 36 #[.int .i64 0,.int .i64 0,.string ⟨#[]⟩,.slice none 0 0])/\w.heap.size+2<=wr.heap.size/\Below w.heap.size w wr) (fun i _=>p.length - (intOf i).toNat)
 case atStart=>exact⟨0,v,A1,c1,by omega,by go_num,LH rfl,V0,hb,Ra0,Rz0,S0,B0.out⟩
 case round=>
  clear Ra0 Rz0 B0 S0
  obtain⟨j,x,A2,c2,hj,rfl,HV,HX,hxb,HRa,HRz,hs2,hbl⟩:=hrel
  have hsz:=hbl.size
  have hca:=fun i=>HRa.out.cell i
  have hfa:=fun i=>HRa.out.frozen i
  have hcz:=fun i=>HRz.out.cell i
  have hfz:=fun i=>HRz.out.frozen i
  by_cases hlt:j<p.length
  ·
   obtain⟨b,off,rfl,hSb,g0,gw⟩:=int_elem (P0.out.below hbl (Nat.le_refl _)) j hlt
   have hw:=int_wf gw
   clear gw
   by_cases hneg:p[j]<0
   · have HN:=LH (HV.out.trans (valAt_neg hlt hneg))
     have BF:=LH (fun n=>setCells_below (belowN hbl n) (w.heap.size+1) 0 (by omega) [.int .i64 0,.int .i64 0,.string ⟨#[]⟩,.slice none 0 0])
     generalize p[j]=q at*
     go_wp2_with fail
     go_quiet (fail)
     go_wp2_with fail
     exact bodyPost_ret (v:=.tuple #[.agg #[.int .i64 0,.int .i64 0,.string ⟨#[]⟩,.slice none 0 0],.bool false]) (by simp [results,Tryz.results12,go_sem,hcz]) rfl ⟨none,0,by rw [HN.out];rfl,by rw [HN.out];exact zeroV_ow _ _,BF.out _⟩
   ·
    have hneg':decide (p[j]<0)=false:=decide_eq_false hneg
    by_cases hov:(x.kids.length:Int)<=p[j]
    · have HN:=LH (HV.out.trans (valAt_over hlt hov))
      have BF:=LH (fun n=>setCells_below (belowN hbl n) (w.heap.size+1) 0 (by omega) [.int .i64 0,.int .i64 0,.string ⟨#[]⟩,.slice none 0 0])
      generalize p[j]=q at*
      go_wp2_with fail
      go_quiet (fail)
      go_wp2_with fail
      exact bodyPost_ret (v:=.tuple #[.agg #[.int .i64 0,.int .i64 0,.string ⟨#[]⟩,.slice none 0 0],.bool false]) (by simp [results,Tryz.results12,go_sem,hcz]) rfl ⟨none,0,by rw [HN.out];rfl,by rw [HN.out];exact zeroV_ow _ _,BF.out _⟩
    ·
     obtain⟨k,hk⟩:∃ k:Nat,p[j]=k:=⟨(p[j]).toNat,by omega⟩
     have hkl:k<x.kids.length:=by omega
     have HN:=LH (HV.out.trans (valAt_in hlt hk hkl))
     rw [hk] at g0 hneg'
     clear hneg hov hk hw
     obtain⟨b3,off3,A3,c3,rfl,hSb3,q0,q1,q2,q3,hat⟩:=GValue.elem (HX.out.below hbl (Nat.le_refl _)).2.2.2 k hkl
     have HA:=LH (show GValue.At w (Lt w.heap.size) A3 c3 x.kids[k] from hat.keep fun q hq=>⟨hq,(hbl.block q hq).symm⟩)
     have hkb:(x.kids[k]).bulk<=1048576:=by have:=bulkL_mem GValue.bulk x.kids _ (List.getElem_mem hkl);have:=x.bulk_eq;omega
     clear hat
     go_wp2_with fail
     go_quiet (fail)
     go_wp2_with fail
     go_region_law (fail)
     all_goals
      go_wp2_with fail
      go_roundw
      case rel=>
       have RA:=(((HRa.out.set 0 (.int .i64 (x.kids[k]).kind)).set 1 (.int .i64 (x.kids[k]).n)).set 2 (.string (x.kids[k]).s)).set 3 (.slice A3 (x.kids[k]).kids.length c3)
       have RZ:=(((HRz.out.far (p:=⟨w.heap.size,0,none⟩) (by simp) (.int .i64 (x.kids[k]).kind)).far (p:=⟨w.heap.size,1,none⟩) (by simp) (.int .i64 (x.kids[k]).n)).far (p:=⟨w.heap.size,2,none⟩) (by simp) (.string (x.kids[k]).s)).far (p:=⟨w.heap.size,3,none⟩) (by simp) (.slice A3 (x.kids[k]).kids.length c3)
       exact⟨j+1,x.kids[k],A3,c3,by omega,by go_num,HN,HA,hkb,LH RA,LH RZ,by simpa [World.setCell] using hs2,setCells_below (belowN hbl _).drew w.heap.size 0 (Nat.le_refl _) [.int .i64 (x.kids[k]).kind,.int .i64 (x.kids[k]).n,.string (x.kids[k]).s,.slice A3 (x.kids[k]).kids.length c3]⟩
      case measure=>simp [intOf];omega
  ·
   have hjl:j=p.length:=by omega
   have HN:=LH (show valAt v p=some x by rw [HV.out,hjl,List.drop_length];rfl)
   clear hjl
   go_wp2_with fail
   refine(specValueCopy' x A2 c2 _ hxb (HX.out.below hbl hsz)).mono ?_
   rintro e w1 ⟨A3,c3,rfl,how,hb1⟩
   have Rz1:=LH (HRz.out.below hb1 (by omega))
   have hcz1:=fun i=>Rz1.out.cell i
   have hfz1:=fun i=>Rz1.out.frozen i
   have B1:=hbl.trans (hb1.mono hsz)
   have BF:=LH (setCells_below B1 (w.heap.size+1) 0 (by omega) [.int .i64 x.kind,.int .i64 x.n,.string x.s,.slice A3 x.kids.length c3])
   have SF:(setCells w1 (w.heap.size+1) 0 [.int .i64 x.kind,.int .i64 x.n,.string x.s,.slice A3 x.kids.length c3]).heap.size=w1.heap.size:=setCells_size _ _ _ _
   have HOW:=LH (how.keep (S':=Btw w.heap.size (setCells w1 (w.heap.size+1) 0 [.int .i64 x.kind,.int .i64 x.n,.string x.s,.slice A3 x.kids.length c3]).heap.size) (w':=setCells w1 (w.heap.size+1) 0 [.int .i64 x.kind,.int .i64 x.n,.string x.s,.slice A3 x.kids.length c3]) fun q hq=>⟨⟨Nat.le_trans hsz hq.1,by rw [SF];exact hq.2⟩,setCells_block _ _ _ _ _ (by have:=hq.1;omega)⟩)
   clear hb1 B1 SF how hca hfa hcz hfz
   go_wp2_with fail
   exact bodyPost_ret (v:=.tuple #[.agg #[.int .i64 x.kind,.int .i64 x.n,.string x.s,.slice A3 x.kids.length c3],.bool true]) (by simp [results,Tryz.results12,go_sem,hcz1]) rfl ⟨A3,c3,by rw [HN.out];rfl,by rw [HN.out];exact HOW.out,BF.out⟩
theorem implAt (v:GValue) (A1:Option Addr) (c1:Nat) (p:List Int) (P:Option Addr) (pc:Nat) (w:World) (hb:v.bulk<=1048576) (hv:GValue.At w (Lt w.heap.size) A1 c1 v) (hp:Sl w (Lt w.heap.size) 1 P pc (p.map (D.num .i64))):
 Calls Tryz.prog 11 #[.agg #[.int .i64 v.kind,.int .i64 v.n,.string v.s,.slice A1 v.kids.length c1],.slice P p.length pc] w (ToAt (valAt v p) w):=by
 have hlen:p.length<=9223372036854775807:=by simpa using hp.len
 have V0:=LH hv
 have P0:=LH hp
 clear hv hp
 obtain⟨w0,e0⟩:∃ w0,w0=(w.alloc (.cells #[.int .i64 v.kind,.int .i64 v.n,.string v.s,.slice A1 v.kids.length c1] 36)).alloc (.cells #[.int .i64 0,.int .i64 0,.string ⟨#[]⟩,.slice none 0 0] 36):=⟨_,rfl⟩
 have B0:=LH (show Below w.heap.size w w0 by rw [e0];exact((Below.refl _ _).alloc (Nat.le_refl _) _).alloc (by simp) _)
 have S0:w.heap.size+2<=w0.heap.size:=by rw [e0];simp
 have Ra0:=LH (show Row w0 w.heap.size 36 #[.int .i64 v.kind,.int .i64 v.n,.string v.s,.slice A1 v.kids.length c1] by rw [e0];exact(Row.new' _ _ _ rfl).alloc _)
 have Rz0:=LH (show Row w0 (w.heap.size+1) 36 #[.int .i64 0,.int .i64 0,.string ⟨#[]⟩,.slice none 0 0] by rw [e0];exact Row.new' _ _ _ (by simp))
 go_enter Tryz.func11,Tryz.ntmps11
 go_wp2_with fail
 rw [<- e0]
 clear e0
 go_loopw [10] (fun i wr=>∃ (j:Nat) (x:GValue) (A2:Option Addr) (c2:Nat),j<=p.length/\i= .int .i64 j/\Hid (valAt v p=valAt x (p.drop j))/\Hid (GValue.At w (Lt w.heap.size) A2 c2 x)/\x.bulk<=1048576/\Hid (Row wr w.heap.size 36 #[.int .i64 x.kind,.int .i64 x.n,.string x.s,.slice A2 x.kids.length c2])/\Hid (Row wr (w.heap.size+1) 36 #[.int .i64 0,.int .i64 0,.string ⟨#[]⟩,.slice none 0 0])/\w.heap.size+2<=wr.heap.size/\Below w.heap.size w wr) (fun i _=>p.length - (intOf i).toNat)
 case atStart=>exact⟨0,v,A1,c1,by omega,by go_num,LH rfl,V0,hb,Ra0,Rz0,S0,B0.out⟩
 case round=>
  clear Ra0 Rz0 B0 S0
  obtain⟨j,x,A2,c2,hj,rfl,HV,HX,hxb,HRa,HRz,hs2,hbl⟩:=hrel
  have hsz:=hbl.size
  have hca:=fun i=>HRa.out.cell i
  have hfa:=fun i=>HRa.out.frozen i
  have hcz:=fun i=>HRz.out.cell i
  have hfz:=fun i=>HRz.out.frozen i
  have hxl:x.kids.length<=9223372036854775807:=by simpa using HX.out.2.2.2.len
  by_cases hlt:j<p.length
  ·
   obtain⟨b,off,rfl,hSb,g0,gw⟩:=int_elem (P0.out.below hbl (Nat.le_refl _)) j hlt
   have hw:=int_wf gw
   clear gw
   by_cases hin:0<=p[j]/\p[j]<=(x.kids.length:Int) - 1
   rotate_left
   ·
    have HN:=LH (HV.out.trans (show valAt x (p.drop j)=none by
      by_cases h:p[j]<0
      · exact valAt_neg hlt h
      · exact valAt_over hlt (by omega)))
    have BF:=LH (setCells_below hbl (w.heap.size+1) 0 (by omega) [.int .i64 0,.int .i64 0,.string ⟨#[]⟩,.slice none 0 0])
    have HI:=inB_false hin
    clear hin
    generalize p[j]=q at*
    go_wp2_with fail
    refine(implWithin _ _ _ _).mono ?_
    rintro e w2 ⟨rfl,rfl⟩
    rw [HI]
    go_wp2_with fail
    exact bodyPost_ret (v:=.tuple #[.agg #[.int .i64 0,.int .i64 0,.string ⟨#[]⟩,.slice none 0 0],.bool false]) (by simp [results,Tryz.results11,go_sem,hcz]) rfl ⟨none,0,by rw [HN.out];rfl,by rw [HN.out];exact zeroV_ow _ _,BF.out⟩
   ·
    obtain⟨k,hk⟩:∃ k:Nat,p[j]=k:=⟨(p[j]).toNat,by omega⟩
    have hkl:k<x.kids.length:=by omega
    have HN:=LH (HV.out.trans (valAt_in hlt hk hkl))
    have HI:=inB_true hin
    rw [hk] at g0 HI
    clear hin hk hw
    obtain⟨b3,off3,A3,c3,rfl,hSb3,q0,q1,q2,q3,hat⟩:=GValue.elem (HX.out.below hbl (Nat.le_refl _)).2.2.2 k hkl
    have HA:=LH (show GValue.At w (Lt w.heap.size) A3 c3 x.kids[k] from hat.keep fun q hq=>⟨hq,(hbl.block q hq).symm⟩)
    have hkb:(x.kids[k]).bulk<=1048576:=by have:=bulkL_mem GValue.bulk x.kids _ (List.getElem_mem hkl);have:=x.bulk_eq;omega
    clear hat
    go_wp2_with fail
    refine(implWithin _ _ _ _).mono ?_
    rintro e w2 ⟨rfl,rfl⟩
    rw [HI]
    go_wp2_with fail
    go_roundw
    case rel=>
     have RA:=(((HRa.out.set 0 (.int .i64 (x.kids[k]).kind)).set 1 (.int .i64 (x.kids[k]).n)).set 2 (.string (x.kids[k]).s)).set 3 (.slice A3 (x.kids[k]).kids.length c3)
     have RZ:=(((HRz.out.far (p:=⟨w.heap.size,0,none⟩) (by simp) (.int .i64 (x.kids[k]).kind)).far (p:=⟨w.heap.size,1,none⟩) (by simp) (.int .i64 (x.kids[k]).n)).far (p:=⟨w.heap.size,2,none⟩) (by simp) (.string (x.kids[k]).s)).far (p:=⟨w.heap.size,3,none⟩) (by simp) (.slice A3 (x.kids[k]).kids.length c3)
     exact⟨j+1,x.kids[k],A3,c3,by omega,by go_num,HN,HA,hkb,LH RA,LH RZ,by simpa [World.setCell] using hs2,setCells_below hbl w.heap.size 0 (Nat.le_refl _) [.int .i64 (x.kids[k]).kind,.int .i64 (x.kids[k]).n,.string (x.kids[k]).s,.slice A3 (x.kids[k]).kids.length c3]⟩
    case measure=>simp [intOf];omega
  ·
   have hjl:j=p.length:=by omega
   have HN:=LH (show valAt v p=some x by rw [HV.out,hjl,List.drop_length];rfl)
   clear hjl
   go_wp2_with fail
   refine(implCopyValue' x A2 c2 _ hxb (HX.out.below hbl hsz)).mono ?_
   rintro e w1 ⟨A3,c3,rfl,how,hb1⟩
   have Rz1:=LH (HRz.out.below hb1 (by omega))
   have hcz1:=fun i=>Rz1.out.cell i
   have hfz1:=fun i=>Rz1.out.frozen i
   have B1:=hbl.trans (hb1.mono hsz)
   have BF:=LH (setCells_below B1 (w.heap.size+1) 0 (by omega) [.int .i64 x.kind,.int .i64 x.n,.string x.s,.slice A3 x.kids.length c3])
   have SF:(setCells w1 (w.heap.size+1) 0 [.int .i64 x.kind,.int .i64 x.n,.string x.s,.slice A3 x.kids.length c3]).heap.size=w1.heap.size:=setCells_size _ _ _ _
   have HOW:=LH (how.keep (S':=Btw w.heap.size (setCells w1 (w.heap.size+1) 0 [.int .i64 x.kind,.int .i64 x.n,.string x.s,.slice A3 x.kids.length c3]).heap.size) (w':=setCells w1 (w.heap.size+1) 0 [.int .i64 x.kind,.int .i64 x.n,.string x.s,.slice A3 x.kids.length c3]) fun q hq=>⟨⟨Nat.le_trans hsz hq.1,by rw [SF];exact hq.2⟩,setCells_block _ _ _ _ _ (by have:=hq.1;omega)⟩)
   clear hb1 B1 SF how hca hfa hcz hfz
   go_wp2_with fail
   exact bodyPost_ret (v:=.tuple #[.agg #[.int .i64 x.kind,.int .i64 x.n,.string x.s,.slice A3 x.kids.length c3],.bool true]) (by simp [results,Tryz.results11,go_sem,hcz1]) rfl ⟨A3,c3,by rw [HN.out];rfl,by rw [HN.out];exact HOW.out,BF.out⟩
end Go.Proofs.YtamfolaicncblaaGreat
