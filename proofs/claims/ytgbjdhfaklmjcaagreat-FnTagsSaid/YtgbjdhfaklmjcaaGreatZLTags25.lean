/- Texts of the claim LTags in one: CheckDatas WTags. Conditions: none but bounds on sizes. -/
import Derived.Test.YtgbjdhfaklmjcaaGreatZLTags24
import Derived.Test.YtgbjdhfaklmjcaaGreatZLTags1
import Derived.Test.YtgbjdhfaklmjcaaGreatZLTags2
import Derived.Deep.RegionHeld3
import Derived.Test.YtgbjdhfaklmjcaaGreatZLTags23
namespace Go.Proofs.YtgbjdhfaklmjcaaGreat
set_option maxRecDepth 20000
set_option linter.unusedVariables false
set_option linter.unusedSimpArgs false
open Go.RowKit
set_option maxHeartbeats 2000000
theorem specData (l:List GData) (A:Option Addr) (c:Nat) (s:ByteArray) (w:World) (hs:Sl w (Lt w.heap.size) 3 A c (l.map GData.toD)):
 Calls Tryz.prog 30 #[.slice A l.length c,.string s] w fun e w'=>e= .returned (.int .i64 (dataI s l))/\Below w.heap.size w w':=by
 have hlen:l.length<=9223372036854775807:=by simpa using hs.len
 have S0:=LH hs
 clear hs
 go_enter Tryz.func30,Tryz.ntmps30
 go_wp2_with fail
 go_loopw [5] (fun i wr=>∃ (j:Nat),j<=l.length/\i= .int .i64 j/\Hid (noneTo (fun d:GData=>d.name.toList ==s.toList) l j)/\Below w.heap.size w wr) (fun i _=>l.length - (intOf i).toNat)
 case atStart=>exact⟨0,by omega,by go_num,LH (noneTo_zero _ _),Below.refl _ _⟩
 case round=>
  obtain⟨j,hj,rfl,HN,hbl⟩:=hrel
  by_cases hlt:j<l.length
  ·
   obtain⟨b,off,A1,c1,rfl,hSb,g0,g1,g2,hat⟩:=GData.elem (S0.out.below hbl (Nat.le_refl _)) j hlt
   clear hat
   cases he:(l[j].name.toList ==s.toList)
   · have HN2:=LH (noneTo_succ HN.out hlt he)
     go_wp2_with fail
     go_roundw
     case rel=>exact⟨j+1,by omega,by go_num,HN2,hbl⟩
     case measure=>simp [intOf];omega
   · have HV:=LH (idxI_at HN.out hlt he)
     go_wp2_with fail
     go_ret
     exact⟨ret_int HV.out.symm,hbl⟩
  · have HV:=LH (show dataI s l= -1 from idxI_none (by have:=HN.out;rwa [show j=l.length by omega] at this))
    go_wp2_with fail
    go_ret
    exact⟨ret_int HV.out.symm,hbl⟩
theorem specNames (l:List GData) (A:Option Addr) (c:Nat) (many:Bool) (k:Nat):∀ (t:GTy) (A1:Option Addr) (c1:Nat) (w:World),t.bulk<k->Sl w (Lt w.heap.size) 3 A c (l.map GData.toD)->GTy.At w (Lt w.heap.size) A1 c1 t->
 Calls Tryz.prog 43 #[.slice A l.length c,.agg #[.int .i64 t.op,.int .i64 t.n,.string t.s,.slice A1 t.kids.length c1],.bool many] w fun e w'=>e= .returned (.bool (!holdsB (badT l many) t))/\Below w.heap.size w w':=by
 induction k with
 | zero=>intros;omega
 | succ k ih=>
  intro t A1 c1 w hk hs hat
  have hlen:l.length<=9223372036854775807:=by simpa using hs.len
  have hkl:t.kids.length<=9223372036854775807:=by simpa using hat.2.2.2.len
  have HH:=LH (fun(j:Nat) (h:j<t.kids.length) (A1:Option Addr) (c1:Nat)=>ih t.kids[j] A1 c1)
  have HBJ:=LH (fun(j:Nat) (h:j<t.kids.length)=>bulkL_mem GTy.bulk t.kids t.kids[j] (List.getElem_mem h))
  have HBE:=LH t.bulk_eq
  have HK:=LH hk
  have S0:=LH hs
  have T0:=LH hat
  have HV:=LH (holdsB_eq (badT l many) t)
  have R0:=LH (Row.new w 59 #[.int .i64 t.op,.int .i64 t.n,.string t.s,.slice A1 t.kids.length c1])
  have E0:=LH (show Below w.heap.size w (w.alloc (.cells #[.int .i64 t.op,.int .i64 t.n,.string t.s,.slice A1 t.kids.length c1] 59)) from(Below.refl _ _).alloc (Nat.le_refl _) _)
  clear ih hk hs hat
  go_enter Tryz.func43,Tryz.ntmps43
  go_wp2_with fail
  go_loopw [7] (fun i wr=>∃ (j:Nat),j<=t.kids.length/\i= .int .i64 j/\Hid ((t.kids.take j).any (holdsB (badT l many))=false)/\Hid (Row wr w.heap.size 59 #[.int .i64 t.op,.int .i64 t.n,.string t.s,.slice A1 t.kids.length c1])/\Below w.heap.size w wr) (fun i _=>t.kids.length - (intOf i).toNat)
  case atStart=>exact⟨0,by omega,by go_num,LH (by simp),R0,E0.out⟩
  case round=>
   obtain⟨j,hj,rfl,HN,HR,hbl⟩:=hrel
   have hsz:=hbl.size
   have hR:=fun i=>HR.out.cell i
   have hRl:=HR.out.lt
   by_cases hlt:j<t.kids.length
   ·
    obtain⟨b,off,A2,c2,eA,hSb,g0,g1,g2,g3,hatk⟩:=GTy.elem (T0.out.below hbl (Nat.le_refl _)).2.2.2 j hlt
    have HA:=LH (hatk.below (Below.refl _ _) hsz)
    have HS:=LH (S0.out.below hbl hsz)
    have HBj:=LH (HBJ.out j hlt)
    subst eA
    clear hatk
    go_wp2_with fail
    refine(HH.out j hlt A2 c2 _ (by have:=HK.out;have:=HBE.out;have:=HBj.out;omega) HS.out HA.out).mono ?_
    rintro e w1 ⟨rfl,hb1⟩
    have B1:=LH (hbl.trans (hb1.mono hsz))
    have R1:=LH (HR.out.below hb1 hRl)
    clear hb1
    cases he:holdsB (badT l many) t.kids[j]
    · have HN2:=LH (show(t.kids.take (j+1)).any (holdsB (badT l many))=false by rw [any_take hlt,HN.out,he];rfl)
      clear he
      go_wp2_with fail
      go_roundw
      case rel=>exact⟨j+1,by omega,by go_num,HN2,R1,B1.out⟩
      case measure=>simp [intOf];omega
    · have HX:=LH (any_hit (p:=holdsB (badT l many)) hlt he)
      clear he
      go_wp2_with fail
      go_ret
      exact⟨ret_bool (by rw [HV.out,HX.out];simp),B1.out⟩
   ·
    have HN2:=LH (show t.kids.any (holdsB (badT l many))=false by have:=HN.out;rwa [show j=t.kids.length by omega,List.take_length] at this)
    cases o4:(t.op ==4)
    · have o4':(t.op != 4)=true:=by rw [bne,o4];rfl
      have HW:=LH (show badT l many t=false by unfold badT;rw [o4];rfl)
      go_wp2_with fail
      go_ret
      exact⟨ret_bool (by rw [HV.out,HN2.out,HW.out];rfl),hbl⟩
    ·
     have o4':(t.op != 4)=false:=by rw [bne,o4];rfl
     have HS:=LH (S0.out.below hbl hsz)
     go_wp2_with fail
     refine(specData l A c t.s _ HS.out).mono ?_
     rintro e w1 ⟨rfl,hb1⟩
     have B1:=LH (hbl.trans (hb1.mono hsz))
     have R1:=LH (HR.out.below hb1 hRl)
     clear hb1 hR
     have hR:=fun i=>R1.out.cell i
     rcases dataI_at t.s l with e1 | ⟨j',hj',e1⟩
     · have HW:=LH (show badT l many t=true by unfold badT;rw [o4,e1];rfl)
       rw [e1]
       clear e1
       go_wp2_with fail
       go_quiet (fail)
       go_wp2_with fail
       go_ret
       exact⟨ret_bool (by rw [HV.out,HW.out];rfl),belowN B1.out _⟩
     ·
      cases many
      · have HW:=LH (show badT l false t=false by unfold badT;rw [o4,e1];simp<;>omega)
        rw [e1]
        clear e1
        go_wp2_with fail
        go_quiet (fail)
        go_wp2_with fail
        go_ret
        exact⟨ret_bool (by rw [HV.out,HN2.out,HW.out];rfl),belowN B1.out _⟩
      ·
       obtain⟨b,off,A2,c2,rfl,hSb,g0,g1,g2,hatd⟩:=GData.elem (S0.out.below B1.out (Nat.le_refl _)) j' hj'
       clear hatd
       cases hv:((l[j']).vars ==(t.kids.length:Int))
       all_goals
        have HW:=LH (show badT l true t= !((l[j']).vars ==(t.kids.length:Int)) by unfold badT;rw [o4,e1,varsAt_at hj',decide_eq_false (show ¬ ((j':Int)<0) by omega)];simp only [Bool.true_and,Bool.false_or];rw [Bool.eq_iff_iff];simp)
        rw [hv] at HW
        rw [e1]
        clear e1
        go_wp2_with fail
        go_quiet (fail)
        go_wp2_with fail
        go_ret
        exact⟨ret_bool (by rw [HV.out,HN2.out,HW.out];rfl),belowN B1.out _⟩
theorem specAll (l:List GData) (A:Option Addr) (c:Nat) (many:Bool) (w:World) (hs:Sl w (Lt w.heap.size) 3 A c (l.map GData.toD)):
 Calls Tryz.prog 31 #[.slice A l.length c,.bool many] w fun e w'=>e= .returned (.bool (!someB (badT l many) l))/\Below w.heap.size w w':=by
 have hlen:l.length<=9223372036854775807:=by simpa using hs.len
 have S0:=LH hs
 obtain⟨pc,hpc⟩:∃ pc:GCon->Bool,pc=fun c=>c.args.any (holdsB (badT l many)):=⟨_,rfl⟩
 obtain⟨pd,hpd⟩:∃ pd:GData->Bool,pd=fun d=>d.cons.any pc:=⟨_,rfl⟩
 have HV:=LH (show someB (badT l many) l=l.any pd by rw [hpd,hpc];rfl)
 have HD:=LH (show ∀ d,pd d=d.cons.any pc from fun d=>by rw [hpd])
 have HC:=LH (show ∀ c,pc c=c.args.any (holdsB (badT l many)) from fun c=>by rw [hpc])
 clear hs hpc hpd
 go_enter Tryz.func31,Tryz.ntmps31
 go_wp2_with fail
 go_loopw [5] (fun i wr=>∃ (j:Nat),j<=l.length/\i= .int .i64 j/\Hid ((l.take j).any pd=false)/\Below w.heap.size w wr) (fun i _=>l.length - (intOf i).toNat)
 case atStart=>exact⟨0,by omega,by go_num,LH (by simp),Below.refl _ _⟩
 case round=>
  obtain⟨j,hj,rfl,HN,hbl⟩:=hrel
  have hsz:=hbl.size
  by_cases hlt:j<l.length
  ·
   obtain⟨b,off,A1,c1,rfl,hSb,g0,g1,g2,hat⟩:=GData.elem (S0.out.below hbl (Nat.le_refl _)) j hlt
   have hcl:(l[j]).cons.length<=9223372036854775807:=by simpa using hat.2.2.len
   clear hat
   go_wp2_with fail
   go_loopw [6] (fun i wr2=>∃ (k:Nat),k<=(l[j]).cons.length/\i= .int .i64 k/\Hid (((l[j]).cons.take k).any pc=false)/\Below w.heap.size w wr2) (fun i _=>(l[j]).cons.length - (intOf i).toNat)
   case atStart=>exact⟨0,by omega,by go_num,LH (by simp),hbl⟩
   case round=>
    obtain⟨k,hk,rfl,HI,hbk⟩:=hrel
    have hszk:=hbk.size
    obtain⟨b',off',A1',c1',eA,hSb',q0,q1,q2,hat'⟩:=GData.elem (S0.out.below hbk (Nat.le_refl _)) j hlt
    obtain⟨rfl,rfl⟩:b=b'/\off=off':=by simpa using eA
    by_cases hkt:k<(l[j]).cons.length
    ·
     obtain⟨b2,off2,A2,c2,rfl,hSb2,p0,p1,hat2⟩:=GCon.elem hat'.2.2 k hkt
     have hal:((l[j]).cons[k]).args.length<=9223372036854775807:=by simpa using hat2.2.len
     clear hat2 hat'
     go_wp2_with fail
     go_loopw [7] (fun i wr3=>∃ (m:Nat),m<=((l[j]).cons[k]).args.length/\i= .int .i64 m/\Hid ((((l[j]).cons[k]).args.take m).any (holdsB (badT l many))=false)/\Below w.heap.size w wr3) (fun i _=>((l[j]).cons[k]).args.length - (intOf i).toNat)
     case atStart=>exact⟨0,by omega,by go_num,LH (by simp),hbk⟩
     case round=>
      obtain⟨m,hm,rfl,HM,hbm⟩:=hrel
      have hszm:=hbm.size
      obtain⟨b3,off3,A3,c3,eA3,hSb3,u0,u1,u2,hat3⟩:=GData.elem (S0.out.below hbm (Nat.le_refl _)) j hlt
      obtain⟨rfl,rfl⟩:b=b3/\off=off3:=by simpa using eA3
      obtain⟨b4,off4,A4,c4,rfl,hSb4,v0,v1,hat4⟩:=GCon.elem hat3.2.2 k hkt
      clear hat3
      by_cases hmt:m<((l[j]).cons[k]).args.length
      ·
       obtain⟨b5,off5,A5,c5,rfl,hSb5,x0,x1,x2,x3,hat5⟩:=GTy.elem hat4.2 m hmt
       have HA:=LH (hat5.below (Below.refl _ _) hszm)
       have HS:=LH (S0.out.below hbm hszm)
       clear hat4 hat5
       go_wp2_with fail
       refine(specNames l _ c many (((l[j]).cons[k]).args[m].bulk+1) ((l[j]).cons[k]).args[m] A5 c5 _ (by omega) HS.out HA.out).mono ?_
       rintro e w1 ⟨rfl,hb1⟩
       have B1:=LH (hbm.trans (hb1.mono hszm))
       clear hb1
       cases he:holdsB (badT l many) ((l[j]).cons[k]).args[m]
       · have HM2:=LH (show(((l[j]).cons[k]).args.take (m+1)).any (holdsB (badT l many))=false by rw [any_take hmt,HM.out,he];rfl)
         clear he
         go_wp2_with fail
         go_roundw
         case rel=>exact⟨m+1,by omega,by go_num,HM2,B1.out⟩
         case measure=>simp [intOf];omega
       · have HX:=LH (any_hit (p:=pd) hlt ((HD.out _).trans (any_hit (p:=pc) hkt ((HC.out _).trans (any_hit (p:=holdsB (badT l many)) hmt he)))))
         clear he
         go_wp2_with fail
         go_ret
         exact⟨ret_bool (by rw [HV.out,HX.out];simp),B1.out⟩
      · have HM2:=LH (show pc (l[j]).cons[k]=false by have:=HM.out;rwa [show m=((l[j]).cons[k]).args.length by omega,List.take_length,<- HC.out] at this)
        clear hat4
        go_wp2_with fail
        go_roundw
        case rel=>exact⟨k+1,by omega,by go_num,LH (by rw [any_take hkt,HI.out,HM2.out];rfl),hbm⟩
        case measure=>simp [intOf];omega
    · have HI2:=LH (show pd l[j]=false by have:=HI.out;rwa [show k=(l[j]).cons.length by omega,List.take_length,<- HD.out] at this)
      clear hat'
      go_wp2_with fail
      go_roundw
      case rel=>exact⟨j+1,by omega,by go_num,LH (by rw [any_take hlt,HN.out,HI2.out];rfl),hbk⟩
      case measure=>simp [intOf];omega
  · have HN2:=LH (show l.any pd=false by have:=HN.out;rwa [show j=l.length by omega,List.take_length] at this)
    go_wp2_with fail
    go_ret
    exact⟨ret_bool (by rw [HV.out,HN2.out];rfl),hbl⟩
theorem checkD_twice {l:List GData} (h:twiceB l=true):checkD l=1:=by unfold checkD;rw [if_pos h]
theorem checkD_name {l:List GData} (h:twiceB l=false) (h2:someB (badT l false) l=true):checkD l=2:=by unfold checkD;rw [h,h2];rfl
theorem checkD_many {l:List GData} (h:twiceB l=false) (h2:someB (badT l false) l=false) (h3:60<consN l\/someB (badT l true) l=true):checkD l=3:=by
 unfold checkD;rw [h,h2]
 have:(decide (60<consN l)||someB (badT l true) l)=true:=by simpa using h3
 rw [this];rfl
theorem checkD_done {l:List GData} (h:twiceB l=false) (h2:someB (badT l false) l=false) (h3:¬ 60<consN l) (h4:someB (badT l true) l=false):checkD l=0:=by
 unfold checkD;rw [h,h2,h4,decide_eq_false h3];rfl
theorem conI_ne {o:Option (Nat × Nat)} {j k:Nat} (h:¬ o=some (j,k)):((conI o).1 != (j:Int))=true\/(((conI o).1 != (j:Int))=false/\((conI o).2 != (k:Int))=true):=by
 match o with
 | none=>left;rw [bne_iff_ne];simp only [conI];omega
 | some (a,b)=>
  by_cases ha:a=j
  · subst ha
    have:¬ b=k:=fun e=>h (by rw [e])
    right;refine⟨by simp [conI],?_⟩
    rw [bne_iff_ne];simp only [conI];omega
  · left;rw [bne_iff_ne];simp only [conI];omega
theorem specCheckDatas (l:List GData) (A:Option Addr) (c:Nat) (w:World) (hm:consN l<=1048576) (hs:Sl w (Lt w.heap.size) 3 A c (l.map GData.toD)):
 Calls Tryz.prog 16 #[.slice A l.length c] w fun e w'=>e= .returned (.int .i64 (checkD l))/\Below w.heap.size w w':=by
 have hlen:l.length<=9223372036854775807:=by simpa using hs.len
 have S0:=LH hs
 clear hs
 have HM:=LH hm
 clear hm
 go_enter Tryz.func16,Tryz.ntmps16
 go_wp2_with fail
 go_loopw [3,4] (fun n i wr=>∃ (j m:Nat),j<=l.length/\i= .int .i64 j/\n= .int .i64 m/\Hid (OnceTo l j 0)/\Hid (m=consN (l.take j))/\Below w.heap.size w wr) (fun _ i _=>l.length - (intOf i).toNat)
 case atStart=>exact⟨0,0,by omega,by go_num,by go_num,LH (OnceTo.zero l),LH rfl,Below.refl _ _⟩
 case round=>
  obtain⟨j,m,hj,rfl,rfl,HO,Hm,hbl⟩:=hrel
  have hsz:=hbl.size
  by_cases hlt:j<l.length
  ·
   obtain⟨b,off,A1,c1,rfl,hSb,g0,g1,g2,hat⟩:=GData.elem (S0.out.below hbl (Nat.le_refl _)) j hlt
   have HS:=LH (S0.out.below hbl hsz)
   have hcl:(l[j]).cons.length<=9223372036854775807:=by simpa using hat.2.2.len
   have HJ:=LH (consN_take hlt)
   have HJ2:=LH (consN_le l (j+1))
   clear hat
   go_wp2_with fail
   refine(specData l _ c (l[j]).name _ HS.out).mono ?_
   rintro e w1 ⟨rfl,hb1⟩
   have B1:=LH (hbl.trans (hb1.mono hsz))
   clear hb1
   by_cases hd:dataI (l[j]).name l=(j:Int)
   rotate_left
   · have HX:=LH (checkD_twice (twice_data hlt hd))
     have hd2:(dataI (l[j]).name l != (j:Int))=true:=by rw [bne_iff_ne];exact hd
     clear hd
     go_wp2_with fail
     go_ret
     exact⟨ret_int HX.out.symm,B1.out⟩
   have HDJ:=LH hd
   have hd2:(dataI (l[j]).name l != (j:Int))=false:=by rw [hd];simp
   clear hd
   go_wp2_with fail
   go_loopw [3,5] (fun n i wr2=>∃ (k:Nat),k<=(l[j]).cons.length/\i= .int .i64 k/\n= .int .i64 ((m+k:Nat):Int)/\Hid (OnceTo l j k)/\Below w.heap.size w wr2) (fun _ i _=>(l[j]).cons.length - (intOf i).toNat)
   case atStart=>exact⟨0,by omega,by go_num,by go_num,HO,B1.out⟩
   case round=>
    obtain⟨k,hk,rfl,rfl,HI,hbk⟩:=hrel
    have hszk:=hbk.size
    obtain⟨b',off',A1',c1',eA,hSb',q0,q1,q2,hat'⟩:=GData.elem (S0.out.below hbk (Nat.le_refl _)) j hlt
    obtain⟨rfl,rfl⟩:b=b'/\off=off':=by simpa using eA
    by_cases hkt:k<(l[j]).cons.length
    ·
     obtain⟨b2,off2,A2,c2,rfl,hSb2,p0,p1,hat2⟩:=GCon.elem hat'.2.2 k hkt
     have HS2:=LH (S0.out.below hbk hszk)
     have hbd:m+k+1<=1048576:=by have:=HM.out;have:=HJ.out;have:=HJ2.out;have:=Hm.out;omega
     clear hat2 hat'
     go_wp2_with fail
     refine(specConOf l _ c ((l[j]).cons[k]).name _ HS2.out).mono ?_
     rintro e w2 ⟨rfl,hb2⟩
     have B2:=LH (hbk.trans (hb2.mono hszk))
     clear hb2
     by_cases hc:conOf ((l[j]).cons[k]).name l 0=some (j,k)
     rotate_left
     · have HX:=LH (checkD_twice (twice_con hlt hkt hc))
       rcases conI_ne hc with e1 | ⟨e1,e2⟩
       all_goals
        clear hc
        go_wp2_with fail
        go_ret
        exact⟨ret_int HX.out.symm,B2.out⟩
     have HI2:=LH (HI.out.con hlt hkt hc)
     rw [hc]
     clear hc
     simp only [conI]
     go_wp2_with fail
     go_roundw
     case rel=>exact⟨k+1,by omega,by go_num,by go_num,HI2,B2.out⟩
     case measure=>simp [intOf];omega
    · have Hkl:=LH (show k=(l[j]).cons.length by omega)
      have HO2:=LH (OnceTo.data hlt (by have:=HI.out;rwa [Hkl.out] at this) HDJ.out)
      clear hat'
      go_wp2_with fail
      go_roundw
      case rel=>exact⟨j+1,m+k,by omega,by go_num,by go_num,HO2,LH (by rw [HJ.out,Hm.out,Hkl.out]),hbk⟩
      case measure=>simp [intOf];omega
  ·
   have HT:=LH (show twiceB l=false from OnceTo.done (by have:=HO.out;rwa [show j=l.length by omega] at this))
   have HN:=LH (show m=consN l by have:=Hm.out;rwa [show j=l.length by omega,List.take_length] at this)
   have HS:=LH (S0.out.below hbl hsz)
   have hbd:m<=1048576:=by have:=HM.out;have:=HN.out;omega
   go_wp2_with fail
   refine(specAll l A c false _ HS.out).mono ?_
   rintro e w1 ⟨rfl,hb1⟩
   have B1:=LH (hbl.trans (hb1.mono hsz))
   clear hb1
   cases h2:someB (badT l false) l
   rotate_left
   · have HX:=LH (checkD_name HT.out h2)
     clear h2
     go_wp2_with fail
     go_ret
     exact⟨ret_int HX.out.symm,B1.out⟩
   have H2:=LH h2
   have HS1:=LH (S0.out.below B1.out B1.out.size)
   clear h2
   go_wp2_with fail
   refine(specAll l A c true _ HS1.out).mono ?_
   rintro e w2 ⟨rfl,hb2⟩
   have B2:=LH (B1.out.trans (hb2.mono B1.out.size))
   clear hb2
   cases h3:someB (badT l true) l
   rotate_left
   · have HX:=LH (checkD_many HT.out H2.out (.inr h3))
     clear h3
     go_wp2_with fail
     go_ret
     exact⟨ret_int HX.out.symm,B2.out⟩
   by_cases h4:60<m
   · have HX:=LH (checkD_many HT.out H2.out (.inl (by rw [<- HN.out];exact h4)))
     have h5:decide ((60:Int)<(m:Int))=true:=by rw [decide_eq_true_eq];omega
     clear h3
     go_wp2_with fail
     go_ret
     exact⟨ret_int HX.out.symm,B2.out⟩
   · have HX:=LH (checkD_done HT.out H2.out (by rw [<- HN.out];exact h4) h3)
     have h5:decide ((60:Int)<(m:Int))=false:=by rw [decide_eq_false_iff_not];omega
     clear h3
     go_wp2_with fail
     go_ret
     exact⟨ret_int HX.out.symm,B2.out⟩
theorem implData1 (s:ByteArray) (b:Nat) (x:GData) (A1:Option Addr) (c1:Nat) (w:World) (hc:w.cell? ⟨b,0,none⟩=some (.string s)) (hb:b<w.heap.size):
 Calls Tryz.prog 42 #[.agg #[.string x.name,.int .i64 x.vars,.slice A1 x.cons.length c1],.pointer (some ⟨b,0,none⟩)] w fun e w'=>e= .returned (.bool (x.name.toList ==s.toList))/\Below w.heap.size w w':=by
 have E:Below w.heap.size w (w.alloc (.cells #[.string x.name,.int .i64 x.vars,.slice A1 x.cons.length c1] 40)):=(Below.refl _ _).alloc (Nat.le_refl _) _
 have hc2:=(E.cell (p:=⟨b,0,none⟩) hb).trans hc
 go_enter Tryz.func42,Tryz.ntmps42
 go_wp2_with fail
 go_ret
 exact⟨rfl,E⟩
theorem implDataAt (l:List GData) (A:Option Addr) (c:Nat) (s:ByteArray) (w:World) (hs:Sl w (Lt w.heap.size) 3 A c (l.map GData.toD)):
 Calls Tryz.prog 28 #[.slice A l.length c,.string s] w fun e w'=>e= .returned (.int .i64 (dataI s l))/\Below w.heap.size w w':=by
 have S0:=LH hs
 clear hs
 have E0:=LH (show Below w.heap.size w (w.alloc (.cells #[.string s] 9)) from(Below.refl _ _).alloc (Nat.le_refl _) _)
 have R0:=LH (Row.new w 9 #[.string s])
 go_enter Tryz.func28,Tryz.ntmps28
 go_wp2_with fail
 refine(indexFuncData 42 (enters Tryz.func42 (by kernel_rfl) (by kernel_rfl)) #[.pointer (some ⟨w.heap.size,0,none⟩)] (fun d=>d.name.toList ==s.toList) l A c _ (S0.out.below E0.out E0.out.size)
   (fun x hx A2 c2 w2 hb2 hat2=>by
     have R2:=R0.out.below hb2 R0.out.lt
     exact implData1 s w.heap.size x A2 c2 w2 (R2.cell 0) R2.lt)).mono ?_
 rintro e w2 ⟨rfl,hb2⟩
 have B2:=E0.out.trans (hb2.mono E0.out.size)
 go_wp2_with fail
 go_ret
 exact⟨rfl,B2⟩
theorem implTwice (l:List GData) (A:Option Addr) (c:Nat) (w:World) (hm:consN l<=1048576) (hs:Sl w (Lt w.heap.size) 3 A c (l.map GData.toD)):
 Calls Tryz.prog 25 #[.slice A l.length c] w fun e w'=>e= .returned (.bool (twiceB l))/\Below w.heap.size w w':=by
 have hlen:l.length<=9223372036854775807:=by simpa using hs.len
 have S0:=LH hs
 have HM:=LH hm
 clear hs hm
 obtain⟨w0,e0⟩:∃ w0,w0=w.alloc (.cells #[] 9):=⟨_,rfl⟩
 have B0:=LH (show Below w.heap.size w w0 by rw [e0];exact(Below.refl _ _).alloc (Nat.le_refl _) _)
 have G0:=LH (show Gsh w0 w.heap.size 9 1 (.slice (some ⟨w.heap.size,0,none⟩) ([]:List ByteArray).length 0) ([]:List ByteArray).length (([]:List ByteArray).map D.str) from Gsh.made (by rw [e0];exact Row.new' _ _ _ rfl) (Nat.le_refl _))
 go_enter Tryz.func25,Tryz.ntmps25
 go_wp2_with fail
 rw [<- e0]
 clear e0
 go_loopw [3,11] (fun v i wr=>∃ (j:Nat) (ys:List ByteArray) (Av:Option Addr) (cv:Nat),j<=l.length/\i= .int .i64 j/\v= .slice Av ys.length cv/\Hid (ys=namesD (l.take j))/\Hid (OnceTo l j 0)/\Hid (Gsh wr w.heap.size 9 1 (.slice Av ys.length cv) ys.length (ys.map D.str))/\Below w.heap.size w wr) (fun _ i _=>l.length - (intOf i).toNat)
 case atStart=>exact⟨0,[],_,_,by omega,by go_num,rfl,LH rfl,LH (OnceTo.zero l),G0,B0.out⟩
 case round=>
  clear G0 B0
  obtain⟨j,ys,Av,cv,hj,rfl,rfl,HY,HO,HG,hbl⟩:=hrel
  have hsz:=hbl.size
  by_cases hlt:j<l.length
  ·
   obtain⟨b,off,A1,c1,rfl,hSb,g0,g1,g2,hat⟩:=GData.elem (S0.out.below hbl (Nat.le_refl _)) j hlt
   have S1:=LH hat.2.2
   have hcl:(l[j]).cons.length<=9223372036854775807:=by simpa using hat.2.2.len
   have HJ:=LH (consN_take hlt)
   have HJ2:=LH (consN_le l (j+1))
   have E1:=LH (show Below wr.heap.size wr (wr.alloc (.cells #[.string (l[j]).name,.int .i64 (l[j]).vars,.slice A1 (l[j]).cons.length c1] 40)) from(Below.refl _ _).alloc (Nat.le_refl _) _)
   have R1:=LH (Row.new wr 40 #[.string (l[j]).name,.int .i64 (l[j]).vars,.slice A1 (l[j]).cons.length c1])
   have HS:=LH ((S0.out.below hbl hsz).below E1.out E1.out.size)
   have HG1:=LH (HG.out.below E1.out hsz)
   have B1:=LH (hbl.trans (E1.out.mono hsz))
   clear hat
   go_wp2_with fail
   refine(implDataAt l _ c (l[j]).name _ HS.out).mono ?_
   rintro e w1 ⟨rfl,hb1⟩
   have B2:=LH (B1.out.trans (hb1.mono B1.out.size))
   have R2:=LH (R1.out.below hb1 R1.out.lt)
   have HG2:=LH (HG1.out.below hb1 B1.out.size)
   clear hb1
   have hR:=fun i=>R2.out.cell i
   by_cases hd:dataI (l[j]).name l=(j:Int)
   rotate_left
   · have HX:=LH (twice_data hlt hd)
     have hd2:(dataI (l[j]).name l != (j:Int))=true:=by rw [bne_iff_ne];exact hd
     clear hd
     go_wp2_with fail
     go_ret
     exact⟨ret_bool HX.out.symm,B2.out⟩
   have HDJ:=LH hd
   have hd2:(dataI (l[j]).name l != (j:Int))=false:=by rw [hd];simp
   clear hd
   go_wp2_with fail
   go_loopw [3,25] (fun v i wr2=>∃ (k:Nat) (zs:List ByteArray) (Az:Option Addr) (cz:Nat),k<=(l[j]).cons.length/\i= .int .i64 k/\v= .slice Az zs.length cz/\Hid (zs=before l j k)/\Hid (OnceTo l j k)/\Hid (Gsh wr2 w.heap.size 9 1 (.slice Az zs.length cz) zs.length (zs.map D.str))/\Below w.heap.size w wr2) (fun _ i _=>(l[j]).cons.length - (intOf i).toNat)
   case atStart=>exact⟨0,ys,Av,cv,by omega,by go_num,rfl,LH (by rw [before_zero hlt];exact HY.out),HO,HG2,B2.out⟩
   case round=>
    obtain⟨k,zs,Az,cz,hk,rfl,rfl,HZ,HI,HGk,hbk⟩:=hrel
    have hszk:=hbk.size
    have S2:=LH (S1.out.keep (w':=wr) (S':=Lt w.heap.size) (fun q hq=>⟨hq,(hbk.block q hq).trans (hbl.block q hq).symm⟩))
    by_cases hkt:k<(l[j]).cons.length
    ·
     obtain⟨b2,off2,A2,c2,rfl,hSb2,p0,p1,hat2⟩:=GCon.elem S2.out k hkt
     have HB:=LH (inStrs_before hlt hkt)
     have HZ2:=LH (before_succ hlt hkt)
     have hzl:zs.length<=1048576:=by have:=before_len hlt hk;have:=HM.out;have:=HJ.out;have:=HJ2.out;rw [HZ.out];omega
     have EC:=LH (show Below wr.heap.size wr (wr.alloc (.cells #[.string ((l[j]).cons[k]).name,.slice A2 ((l[j]).cons[k]).args.length c2] 37)) from(Below.refl _ _).alloc (Nat.le_refl _) _)
     have BC:=LH (hbk.trans (EC.out.mono hszk))
     have HGC:=LH (HGk.out.below EC.out hszk)
     have HSL:=LH (show Sl (wr.alloc (.cells #[.string ((l[j]).cons[k]).name,.slice A2 ((l[j]).cons[k]).args.length c2] 37)) (Lt (wr.alloc (.cells #[.string ((l[j]).cons[k]).name,.slice A2 ((l[j]).cons[k]).args.length c2] 37)).heap.size) 1 Az cz (zs.map D.str) from by obtain⟨A,c,e,h⟩:=HGC.out.sl BC.out.size;cases e;exact h)
     have hns:((l[j]).cons[k]).name.size<=maxLen:=hat2.1
     clear hat2
     go_wp2_with fail
     refine(slicesContainsStr zs ((l[j]).cons[k]).name Az cz _ HSL.out).mono ?_
     rintro e w2 ⟨rfl,rfl⟩
     rw [HZ.out,HB.out,<- HZ.out]
     by_cases hc:conOf ((l[j]).cons[k]).name l 0=some (j,k)
     rotate_left
     · have HX:=LH (twice_con hlt hkt hc)
       rw [decide_eq_false hc]
       clear hc hns
       go_wp2_with fail
       go_ret
       exact⟨ret_bool HX.out.symm,BC.out⟩
     have HI2:=LH (HI.out.con hlt hkt hc)
     have HD:=LH (show(D.str ((l[j]).cons[k]).name).rd (wr.alloc (.cells #[.string ((l[j]).cons[k]).name,.slice A2 ((l[j]).cons[k]).args.length c2] 37)) (Lt w.heap.size) [.string ((l[j]).cons[k]).name] from D.rd_str.2 ⟨rfl,hns⟩)
     rw [decide_eq_true hc]
     clear hc hns
     have hszc:=BC.out.size
     go_wp2_with (first | (at_builtin;refine wpList_append_S (wr.alloc (.cells #[.string ((l[j]).cons[k]).name,.slice A2 ((l[j]).cons[k]).args.length c2] 37)) rfl (.tmp 33) (.tmp 36) 69 rfl 9 (.string ⟨#[]⟩) 1 16 Tryz.underlying69 (by kernel_rfl) rfl (by omega) w.heap.size (.slice Az zs.length cz) zs.length _ HGC.out (D.str ((l[j]).cons[k]).name) [.string ((l[j]).cons[k]).name] HD.out hszc rfl (by simp [Value.oneCell']) (by omega) (by omega) 9 rfl (wr.heap.size+1) (by simp) rfl ?_;intro g cap w3 G3 Bq3 hs3 hg3 hgl3))
     go_roundw
     case rel=>
      refine⟨k+1,zs++[((l[j]).cons[k]).name],some ⟨g,0,none⟩,cap,by omega,by go_num,by simp,LH (by rw [HZ2.out,<- HZ.out]),HI2,LH ?_,BC.out.trans Bq3⟩
      rw [List.map_append,List.length_append];exact G3
     case measure=>simp [intOf];omega
    · have Hkl:=LH (show k=(l[j]).cons.length by omega)
      have HO2:=LH (OnceTo.data hlt (by have:=HI.out;rwa [Hkl.out] at this) HDJ.out)
      go_wp2_with fail
      go_roundw
      case rel=>exact⟨j+1,zs,Az,cz,by omega,by go_num,rfl,LH (by rw [HZ.out,Hkl.out,before_end hlt]),HO2,HGk,hbk⟩
      case measure=>simp [intOf];omega
  · have HT:=LH (show twiceB l=false from OnceTo.done (by have:=HO.out;rwa [show j=l.length by omega] at this))
    go_wp2_with fail
    go_ret
    exact⟨ret_bool HT.out.symm,hbl⟩
def Judge (K:Nat) (caps:Array Value) (p:GTy->Bool) (Dm:GTy->Prop) (W:World):Prop:=
 ∀ (x:GTy) (A1:Option Addr) (c1:Nat) (w2:World),Dm x->Below W.heap.size W w2->GTy.At w2 (Lt w2.heap.size) A1 c1 x->
  Calls Tryz.prog K (#[.agg #[.int .i64 x.op,.int .i64 x.n,.string x.s,.slice A1 x.kids.length c1]]++caps) w2 fun e w'=>e= .returned (.bool (p x))/\Below w2.heap.size w2 w'
def HoldsTo (k K:Nat) (caps:Array Value) (p:GTy->Bool) (Dm:GTy->Prop) (W:World):Prop:=
 ∀ (t:GTy) (A1:Option Addr) (c1:Nat) (w:World),t.bulk<k->Dm t->Below W.heap.size W w->GTy.At w (Lt w.heap.size) A1 c1 t->
  Calls Tryz.prog 40 #[.agg #[.int .i64 t.op,.int .i64 t.n,.string t.s,.slice A1 t.kids.length c1],.func (.func K) #[] caps] w fun e w'=>e= .returned (.bool (holdsB p t))/\Below w.heap.size w w'
theorem implHolds1 (k K:Nat) (caps:Array Value) (p:GTy->Bool) (Dm:GTy->Prop) (W:World) (HH:HoldsTo k K caps p Dm W) (b:Nat) (x:GTy) (A1:Option Addr) (c1:Nat) (w:World) (hk:x.bulk<k) (hd:Dm x) (hW:Below W.heap.size W w)
 (hc:w.cell? ⟨b,0,none⟩=some (.func (.func K) #[] caps)) (hb:b<w.heap.size) (hat:GTy.At w (Lt w.heap.size) A1 c1 x):
 Calls Tryz.prog 51 #[.agg #[.int .i64 x.op,.int .i64 x.n,.string x.s,.slice A1 x.kids.length c1],.pointer (some ⟨b,0,none⟩)] w fun e w'=>e= .returned (.bool (holdsB p x))/\Below w.heap.size w w':=by
 have E0:=LH (show Below w.heap.size w (w.alloc (.cells #[.int .i64 x.op,.int .i64 x.n,.string x.s,.slice A1 x.kids.length c1] 59)) from(Below.refl _ _).alloc (Nat.le_refl _) _)
 have hc2:=(E0.out.cell (p:=⟨b,0,none⟩) hb).trans hc
 have HC:=LH (HH x A1 c1 (w.alloc (.cells #[.int .i64 x.op,.int .i64 x.n,.string x.s,.slice A1 x.kids.length c1] 59)) hk hd (hW.trans (E0.out.mono hW.size)) (hat.below E0.out E0.out.size))
 clear HH hW hat
 go_enter Tryz.func51,Tryz.ntmps51
 go_wp2_with fail
 refine HC.out.mono ?_
 rintro e w1 ⟨rfl,hb1⟩
 have B1:=E0.out.trans (hb1.mono E0.out.size)
 go_wp2_with fail
 go_ret
 exact⟨rfl,B1⟩
theorem implSome1 (k K:Nat) (caps:Array Value) (p:GTy->Bool) (Dm:GTy->Prop) (W:World) (HH:HoldsTo k K caps p Dm W) (b:Nat) (x:GTy) (A1:Option Addr) (c1:Nat) (w:World) (hk:x.bulk<k) (hd:Dm x) (hW:Below W.heap.size W w)
 (hc:w.cell? ⟨b,0,none⟩=some (.func (.func K) #[] caps)) (hb:b<w.heap.size) (hat:GTy.At w (Lt w.heap.size) A1 c1 x):
 Calls Tryz.prog 39 #[.agg #[.int .i64 x.op,.int .i64 x.n,.string x.s,.slice A1 x.kids.length c1],.pointer (some ⟨b,0,none⟩)] w fun e w'=>e= .returned (.bool (holdsB p x))/\Below w.heap.size w w':=by
 have E0:=LH (show Below w.heap.size w (w.alloc (.cells #[.int .i64 x.op,.int .i64 x.n,.string x.s,.slice A1 x.kids.length c1] 59)) from(Below.refl _ _).alloc (Nat.le_refl _) _)
 have hc2:=(E0.out.cell (p:=⟨b,0,none⟩) hb).trans hc
 have HC:=LH (HH x A1 c1 (w.alloc (.cells #[.int .i64 x.op,.int .i64 x.n,.string x.s,.slice A1 x.kids.length c1] 59)) hk hd (hW.trans (E0.out.mono hW.size)) (hat.below E0.out E0.out.size))
 clear HH hW hat
 go_enter Tryz.func39,Tryz.ntmps39
 go_wp2_with fail
 refine HC.out.mono ?_
 rintro e w1 ⟨rfl,hb1⟩
 have B1:=E0.out.trans (hb1.mono E0.out.size)
 go_wp2_with fail
 go_ret
 exact⟨rfl,B1⟩
theorem implHolds (K:Nat) (hK:∀ (args:Array Value) (w:World),(callFunc K args).run Tryz.prog w= .ok (.enter K args) w) (caps:Array Value) (p:GTy->Bool) (Dm:GTy->Prop) (hD:∀ t,Dm t->p t=false->∀ x∈t.kids,Dm x) (W:World) (HJ:Judge K caps p Dm W) (k:Nat):HoldsTo k K caps p Dm W:=by
 induction k with
 | zero=>intro t A1 c1 w hk;omega
 | succ k ih=>
  intro t A1 c1 w hk hd hW hat
  have T0:=LH hat
  have HV:=LH (holdsB_eq p t)
  have HK:=LH hk
  have HBE:=LH t.bulk_eq
  have HDD:=LH (hD t hd)
  have HWW:=LH hW
  have IH:=LH ih
  have E1:=LH (show Below w.heap.size w ((w.alloc (.cells #[.int .i64 t.op,.int .i64 t.n,.string t.s,.slice A1 t.kids.length c1] 59)).alloc (.cells #[.func (.func K) #[] caps] 60)) from((Below.refl _ _).alloc (Nat.le_refl _) _).alloc (by simp) _)
  have Ra:=LH ((Row.new w 59 #[.int .i64 t.op,.int .i64 t.n,.string t.s,.slice A1 t.kids.length c1]).alloc (.cells #[.func (.func K) #[] caps] 60))
  have Rb:=LH (Row.new' (w.alloc (.cells #[.int .i64 t.op,.int .i64 t.n,.string t.s,.slice A1 t.kids.length c1] 59)) 60 #[.func (.func K) #[] caps] (g:=w.heap.size+1) (by simp))
  have HC:=LH (HJ t A1 c1 ((w.alloc (.cells #[.int .i64 t.op,.int .i64 t.n,.string t.s,.slice A1 t.kids.length c1] 59)).alloc (.cells #[.func (.func K) #[] caps] 60)) hd (hW.trans (E1.out.mono hW.size)) (hat.below E1.out E1.out.size))
  clear HJ hd hD hW hat hk ih
  go_enter Tryz.func40,Tryz.ntmps40
  go_wp2_with fail
  refine HC.out.mono ?_
  rintro e w1 ⟨rfl,hb1⟩
  have B1:=LH (E1.out.trans (hb1.mono E1.out.size))
  have Ra1:=LH (Ra.out.below hb1 Ra.out.lt)
  have Rb1:=LH (Rb.out.below hb1 Rb.out.lt)
  clear hb1 HC
  have hRa:=fun i=>Ra1.out.cell i
  have hRb:=fun i=>Rb1.out.cell i
  cases hp:p t
  ·
   have HDk:=LH (HDD.out hp)
   have HP:=LH hp
   clear hp
   go_wp2_with fail
   refine(containsFuncTy 51 (enters Tryz.func51 (by kernel_rfl) (by kernel_rfl)) #[.pointer (some ⟨w.heap.size+1,0,none⟩)] (holdsB p) t.kids A1 c1 _ (T0.out.below B1.out B1.out.size).2.2.2
     (fun x hx A2 c2 w2 hb2 hat2=>by
       have R2:=Rb1.out.below hb2 Rb1.out.lt
       exact implHolds1 k K caps p Dm W IH.out (w.heap.size+1) x A2 c2 w2 (by have:=HK.out;have:=HBE.out;have:=bulkL_mem GTy.bulk t.kids x hx;omega) (HDk.out x hx) (HWW.out.trans ((B1.out.trans (hb2.mono B1.out.size)).mono HWW.out.size)) (R2.cell 0) R2.lt hat2)).mono ?_
   rintro e w2 ⟨rfl,hb2⟩
   have B2:=LH (B1.out.trans (hb2.mono B1.out.size))
   clear hb2
   go_wp2_with fail
   go_ret
   exact⟨ret_bool (by rw [HV.out,HP.out];rfl),B2.out⟩
  · have HP:=LH hp
    clear hp
    go_wp2_with fail
    go_ret
    exact⟨ret_bool (by rw [HV.out,HP.out];rfl),B1.out⟩
theorem implSome (K:Nat) (hK:∀ (args:Array Value) (w:World),(callFunc K args).run Tryz.prog w= .ok (.enter K args) w) (caps:Array Value) (p:GTy->Bool) (Dm:GTy->Prop) (hD:∀ t,Dm t->p t=false->∀ x∈t.kids,Dm x) (W:World) (HJ:Judge K caps p Dm W)
 (l:List GData) (A:Option Addr) (c:Nat) (w:World) (hl:∀ d∈l,∀ c∈d.cons,∀ t∈c.args,Dm t) (hW:Below W.heap.size W w) (hs:Sl w (Lt w.heap.size) 3 A c (l.map GData.toD)):
 Calls Tryz.prog 26 #[.slice A l.length c,.func (.func K) #[] caps] w fun e w'=>e= .returned (.bool (someB p l))/\Below w.heap.size w w':=by
 have hlen:l.length<=9223372036854775807:=by simpa using hs.len
 have S0:=LH hs
 have HHO:=LH (fun k=>implHolds K hK caps p Dm hD W HJ k)
 obtain⟨pc,hpc⟩:∃ pc:GCon->Bool,pc=fun c=>c.args.any (holdsB p):=⟨_,rfl⟩
 obtain⟨pd,hpd⟩:∃ pd:GData->Bool,pd=fun d=>d.cons.any pc:=⟨_,rfl⟩
 have HV:=LH (show someB p l=l.any pd by rw [hpd,hpc];rfl)
 have HD:=LH (show ∀ d,pd d=d.cons.any pc from fun d=>by rw [hpd])
 have HC:=LH (show ∀ c,pc c=c.args.any (holdsB p) from fun c=>by rw [hpc])
 have HL:=LH hl
 have HWW:=LH hW
 have E0:=LH (show Below w.heap.size w (w.alloc (.cells #[.func (.func K) #[] caps] 60)) from(Below.refl _ _).alloc (Nat.le_refl _) _)
 have R0:=LH (Row.new w 60 #[.func (.func K) #[] caps])
 clear hs hpc hpd hl hW HJ hD
 go_enter Tryz.func26,Tryz.ntmps26
 go_wp2_with fail
 go_loopw [11] (fun i wr=>∃ (j:Nat),j<=l.length/\i= .int .i64 j/\Hid ((l.take j).any pd=false)/\Hid (Row wr w.heap.size 60 #[.func (.func K) #[] caps])/\Below w.heap.size w wr) (fun i _=>l.length - (intOf i).toNat)
 case atStart=>exact⟨0,by omega,by go_num,LH (by simp),R0,E0.out⟩
 case round=>
  obtain⟨j,hj,rfl,HN,HR,hbl⟩:=hrel
  have hsz:=hbl.size
  by_cases hlt:j<l.length
  ·
   obtain⟨b,off,A1,c1,rfl,hSb,g0,g1,g2,hat⟩:=GData.elem (S0.out.below hbl (Nat.le_refl _)) j hlt
   have S1:=LH hat.2.2
   have hcl:(l[j]).cons.length<=9223372036854775807:=by simpa using hat.2.2.len
   have HB1:=LH (hbl.alloc hsz (.cells #[.string (l[j]).name,.int .i64 (l[j]).vars,.slice A1 (l[j]).cons.length c1] 40))
   have HR1:=LH (HR.out.alloc (.cells #[.string (l[j]).name,.int .i64 (l[j]).vars,.slice A1 (l[j]).cons.length c1] 40))
   clear hat
   go_wp2_with fail
   go_loopw [18] (fun i wr2=>∃ (k:Nat),k<=(l[j]).cons.length/\i= .int .i64 k/\Hid (((l[j]).cons.take k).any pc=false)/\Hid (Row wr2 w.heap.size 60 #[.func (.func K) #[] caps])/\Below w.heap.size w wr2) (fun i _=>(l[j]).cons.length - (intOf i).toNat)
   case atStart=>exact⟨0,by omega,by go_num,LH (by simp),HR1,HB1.out⟩
   case round=>
    obtain⟨k,hk,rfl,HI,HR2,hbk⟩:=hrel
    have hszk:=hbk.size
    have S2:=LH (S1.out.keep (w':=wr) (S':=Lt w.heap.size) (fun q hq=>⟨hq,(hbk.block q hq).trans (hbl.block q hq).symm⟩))
    by_cases hkt:k<(l[j]).cons.length
    ·
     obtain⟨b2,off2,A2,c2,rfl,hSb2,p0,p1,hat2⟩:=GCon.elem S2.out k hkt
     have HA:=LH hat2.2
     have EC:=LH (show Below wr.heap.size wr (wr.alloc (.cells #[.string ((l[j]).cons[k]).name,.slice A2 ((l[j]).cons[k]).args.length c2] 37)) from(Below.refl _ _).alloc (Nat.le_refl _) _)
     have BC:=LH (hbk.trans (EC.out.mono hszk))
     have HAC:=LH (HA.out.keep (keep_below ((Below.refl _ _).trans (EC.out.mono hszk)) (Nat.le_trans hszk EC.out.size)))
     have RC:=LH (HR2.out.alloc (.cells #[.string ((l[j]).cons[k]).name,.slice A2 ((l[j]).cons[k]).args.length c2] 37))
     have HDM:=LH (HL.out l[j] (List.getElem_mem hlt) (l[j]).cons[k] (List.getElem_mem hkt))
     have hR:=fun i=>RC.out.cell i
     clear hat2
     go_wp2_with fail
     refine(containsFuncTy 39 (enters Tryz.func39 (by kernel_rfl) (by kernel_rfl)) #[.pointer (some ⟨w.heap.size,0,none⟩)] (holdsB p) ((l[j]).cons[k]).args A2 c2 _ HAC.out
       (fun x hx A3 c3 w2 hb2 hat3=>by
         have R3:=RC.out.below hb2 RC.out.lt
         exact implSome1 (x.bulk+1) K caps p Dm W (HHO.out _) w.heap.size x A3 c3 w2 (by omega) (HDM.out x hx) (HWW.out.trans ((BC.out.trans (hb2.mono BC.out.size)).mono HWW.out.size)) (R3.cell 0) R3.lt hat3)).mono ?_
     rintro e w2 ⟨rfl,hb2⟩
     have B2:=LH (BC.out.trans (hb2.mono BC.out.size))
     have R2:=LH (RC.out.below hb2 RC.out.lt)
     rw [<- HC.out]
     clear hb2 hR
     cases he:pc (l[j]).cons[k]
     · have HI2:=LH (show((l[j]).cons.take (k+1)).any pc=false by rw [any_take hkt,HI.out,he];rfl)
       clear he
       go_wp2_with fail
       go_roundw
       case rel=>exact⟨k+1,by omega,by go_num,HI2,R2,B2.out⟩
       case measure=>simp [intOf];omega
     · have HX:=LH (any_hit (p:=pd) hlt ((HD.out _).trans (any_hit (p:=pc) hkt he)))
       clear he
       go_wp2_with fail
       go_ret
       exact⟨ret_bool (by rw [HV.out,HX.out]),B2.out⟩
    · have HI2:=LH (show pd l[j]=false by have:=HI.out;rwa [show k=(l[j]).cons.length by omega,List.take_length,<- HD.out] at this)
      go_wp2_with fail
      go_roundw
      case rel=>exact⟨j+1,by omega,by go_num,LH (by rw [any_take hlt,HN.out,HI2.out];rfl),HR2,hbk⟩
      case measure=>simp [intOf];omega
  · have HN2:=LH (show l.any pd=false by have:=HN.out;rwa [show j=l.length by omega,List.take_length] at this)
    go_wp2_with fail
    go_ret
    exact⟨ret_bool (by rw [HV.out,HN2.out]),hbl⟩
theorem implCheck1 (l:List GData) (A:Option Addr) (c:Nat) (b:Nat) (x:GTy) (A1:Option Addr) (c1:Nat) (w:World) (hc:w.cell? ⟨b,0,none⟩=some (.slice A l.length c)) (hb:b<w.heap.size) (hs:Sl w (Lt w.heap.size) 3 A c (l.map GData.toD)):
 Calls Tryz.prog 27 #[.agg #[.int .i64 x.op,.int .i64 x.n,.string x.s,.slice A1 x.kids.length c1],.pointer (some ⟨b,0,none⟩)] w fun e w'=>e= .returned (.bool (badT l false x))/\Below w.heap.size w w':=by
 have E0:=LH (show Below w.heap.size w (w.alloc (.cells #[.int .i64 x.op,.int .i64 x.n,.string x.s,.slice A1 x.kids.length c1] 59)) from(Below.refl _ _).alloc (Nat.le_refl _) _)
 have hc2:=(E0.out.cell (p:=⟨b,0,none⟩) hb).trans hc
 have S0:=LH (hs.keep (keep_below E0.out E0.out.size))
 clear hs
 cases o4:(x.op ==4)
 · have HW:=LH (show badT l false x=false by unfold badT;rw [o4];rfl)
   go_enter Tryz.func27,Tryz.ntmps27
   go_wp2_with fail
   go_ret
   exact⟨ret_bool HW.out.symm,E0.out⟩
 ·
  have HW:=LH (show badT l false x=decide (dataI x.s l<0) by unfold badT;rw [o4];simp)
  go_enter Tryz.func27,Tryz.ntmps27
  go_wp2_with fail
  refine(implDataAt l A c x.s _ S0.out).mono ?_
  rintro e w1 ⟨rfl,hb1⟩
  have B1:=LH (E0.out.trans (hb1.mono E0.out.size))
  clear hb1
  go_wp2_with fail
  go_ret
  exact⟨ret_bool HW.out.symm,B1.out⟩
theorem implCheck2 (l:List GData) (A:Option Addr) (c:Nat) (b:Nat) (x:GTy) (A1:Option Addr) (c1:Nat) (w:World) (hd:badT l false x=false) (hc:w.cell? ⟨b,0,none⟩=some (.slice A l.length c)) (hb:b<w.heap.size) (hs:Sl w (Lt w.heap.size) 3 A c (l.map GData.toD)) (hat:GTy.At w (Lt w.heap.size) A1 c1 x):
 Calls Tryz.prog 29 #[.agg #[.int .i64 x.op,.int .i64 x.n,.string x.s,.slice A1 x.kids.length c1],.pointer (some ⟨b,0,none⟩)] w fun e w'=>e= .returned (.bool (badV l x))/\Below w.heap.size w w':=by
 have E0:=LH (show Below w.heap.size w (w.alloc (.cells #[.int .i64 x.op,.int .i64 x.n,.string x.s,.slice A1 x.kids.length c1] 59)) from(Below.refl _ _).alloc (Nat.le_refl _) _)
 have R0:=LH (Row.new w 59 #[.int .i64 x.op,.int .i64 x.n,.string x.s,.slice A1 x.kids.length c1])
 have hc2:=(E0.out.cell (p:=⟨b,0,none⟩) hb).trans hc
 have S0:=LH (hs.keep (keep_below E0.out E0.out.size))
 have hkl:x.kids.length<=9223372036854775807:=by simpa using hat.2.2.2.len
 have hlen:l.length<=9223372036854775807:=by simpa using hs.len
 clear hs hat hc
 cases o4:(x.op ==4)
 ·
  have HW:=LH (show badV l x=false by unfold badV;rw [o4];rfl)
  clear hd
  go_enter Tryz.func29,Tryz.ntmps29
  go_wp2_with fail
  go_quiet (fail)
  go_wp2_with fail
  go_ret
  exact⟨ret_bool HW.out.symm,belowN E0.out _⟩
 ·
  have hd2:¬ dataI x.s l<0:=by unfold badT at hd;rw [o4] at hd;simpa using hd
  rcases dataI_at x.s l with e1 | ⟨j,hj,e1⟩
  · omega
  have HW:=LH (show badV l x=((x.kids.length:Int) != l[j].vars) by unfold badV;rw [o4,e1,varsAt_at hj,Bool.eq_iff_iff];simp [bne_iff_ne])
  have HE:=LH e1
  obtain⟨b2,off2,A2,c2,rfl,hSb,g0,g1,g2,hatd⟩:=GData.elem S0.out j hj
  have E1:=LH (show Below w.heap.size w (w.alloc (.cells #[.int .i64 x.op,.int .i64 x.n,.string x.s,.slice A1 x.kids.length c1] 59)).drew from Below.drew E0.out)
  have R1:=LH (show Row (w.alloc (.cells #[.int .i64 x.op,.int .i64 x.n,.string x.s,.slice A1 x.kids.length c1] 59)).drew w.heap.size 59 #[.int .i64 x.op,.int .i64 x.n,.string x.s,.slice A1 x.kids.length c1] from R0.out)
  have S1:=LH (S0.out.keep (w':=(w.alloc (.cells #[.int .i64 x.op,.int .i64 x.n,.string x.s,.slice A1 x.kids.length c1] 59)).drew) (S':=Lt (w.alloc (.cells #[.int .i64 x.op,.int .i64 x.n,.string x.s,.slice A1 x.kids.length c1] 59)).drew.heap.size) (fun q hq=>⟨hq,rfl⟩))
  have hq0:=R1.out.cell
  clear hd hd2 e1 hatd g0 g2
  go_enter Tryz.func29,Tryz.ntmps29
  go_wp2_with fail
  go_region_held3 (fun w'=>(∀ i,w'.cell? ⟨w.heap.size,i,none⟩=(#[.int .i64 x.op,.int .i64 x.n,.string x.s,.slice A1 x.kids.length c1]:Array Value)[i]?)/\w'.cell? ⟨b,0,none⟩=some (.slice (some ⟨b2,off2,none⟩) l.length c)/\w'.cell? ⟨b2,off2+j*3+1,none⟩=some (.int .i64 l[j].vars)) (first | exact⟨hq0,hc2,g1⟩ | exact⟨hq1,hc3,g3⟩) (first
    | (go_at_call 28
       refine(implDataAt l (some ⟨b2,off2,none⟩) c x.s _ S1.out).mono ?_
       rintro e w1 ⟨rfl,hb1⟩
       have B1:=LH (E1.out.trans (hb1.mono E1.out.size))
       have R2:=LH (R1.out.below hb1 R1.out.lt)
       have hq1:=fun i=>R2.out.cell i
       have hc3:=(hb1.cell (p:=⟨b,0,none⟩) (Nat.lt_of_lt_of_le hb E1.out.size)).trans hc2
       have g3:=(hb1.cell (p:=⟨b2,off2+j*3+1,none⟩) hSb).trans g1
       rw [HE.out]
       clear hb1))
  go_wp2_with fail
  go_ret
  exact⟨ret_bool HW.out.symm,B1.out⟩
theorem implCheckDatas (l:List GData) (A:Option Addr) (c:Nat) (w:World) (hm:consN l<=1048576) (hs:Sl w (Lt w.heap.size) 3 A c (l.map GData.toD)):
 Calls Tryz.prog 15 #[.slice A l.length c] w fun e w'=>e= .returned (.int .i64 (checkD l))/\Below w.heap.size w w':=by
 have hlen:l.length<=9223372036854775807:=by simpa using hs.len
 have S0:=LH hs
 have HM:=LH hm
 have E0:=LH (show Below w.heap.size w (w.alloc (.cells #[.slice A l.length c] 24)) from(Below.refl _ _).alloc (Nat.le_refl _) _)
 have R0:=LH (Row.new w 24 #[.slice A l.length c])
 clear hs hm
 go_enter Tryz.func15,Tryz.ntmps15
 go_wp2_with fail
 go_loopw [3,8] (fun n i wr=>∃ (j m:Nat),j<=l.length/\i= .int .i64 j/\n= .int .i64 m/\Hid (m=consN (l.take j))/\Hid (Row wr w.heap.size 24 #[.slice A l.length c])/\Below w.heap.size w wr) (fun _ i _=>l.length - (intOf i).toNat)
 case atStart=>exact⟨0,0,by omega,by go_num,by go_num,LH rfl,R0,E0.out⟩
 case round=>
  obtain⟨j,m,hj,rfl,rfl,Hm,HR,hbl⟩:=hrel
  have hsz:=hbl.size
  by_cases hlt:j<l.length
  ·
   obtain⟨b,off,A1,c1,rfl,hSb,g0,g1,g2,hat⟩:=GData.elem (S0.out.below hbl (Nat.le_refl _)) j hlt
   have hcl:(l[j]).cons.length<=9223372036854775807:=by simpa using hat.2.2.len
   have HJ:=LH (consN_take hlt)
   have HJ2:=LH (consN_le l (j+1))
   have hbd:m+(l[j]).cons.length<=1048576:=by have:=HM.out;have:=HJ.out;have:=HJ2.out;have:=Hm.out;omega
   have HB1:=LH (hbl.alloc hsz (.cells #[.string (l[j]).name,.int .i64 (l[j]).vars,.slice A1 (l[j]).cons.length c1] 40))
   have HR1:=LH (HR.out.alloc (.cells #[.string (l[j]).name,.int .i64 (l[j]).vars,.slice A1 (l[j]).cons.length c1] 40))
   clear hat
   go_wp2_with fail
   go_roundw
   case rel=>exact⟨j+1,m+(l[j]).cons.length,by omega,by go_num,by go_num,LH (by rw [HJ.out,Hm.out]),HR1,HB1.out⟩
   case measure=>simp [intOf];omega
  ·
   have HN:=LH (show m=consN l by have:=Hm.out;rwa [show j=l.length by omega,List.take_length] at this)
   have HS:=LH (S0.out.below hbl hsz)
   have hbd:m<=1048576:=by have:=HM.out;have:=HN.out;omega
   have hR:=fun i=>HR.out.cell i
   go_wp2_with fail
   refine(implTwice l A c _ HM.out HS.out).mono ?_
   rintro e w1 ⟨rfl,hb1⟩
   have B1:=LH (hbl.trans (hb1.mono hsz))
   have R1:=LH (HR.out.below hb1 HR.out.lt)
   clear hb1 hR
   cases h1:twiceB l
   rotate_left
   · have HX:=LH (checkD_twice h1)
     clear h1
     go_wp2_with fail
     go_ret
     exact⟨ret_int HX.out.symm,B1.out⟩
   have HT:=LH h1
   have hR:=fun i=>R1.out.cell i
   clear h1
   go_wp2_with fail
   refine(implSome 27 (enters Tryz.func27 (by kernel_rfl) (by kernel_rfl)) #[.pointer (some ⟨w.heap.size,0,none⟩)] (badT l false) (fun _=>True) (fun _ _ _ _ _=>trivial) w1
     (fun x A1 c1 w2 _ hb2 hat2=>by
       have R2:=R1.out.below hb2 R1.out.lt
       exact implCheck1 l A c w.heap.size x A1 c1 w2 (R2.cell 0) R2.lt (S0.out.below (B1.out.trans (hb2.mono B1.out.size)) (Nat.le_trans B1.out.size hb2.size)))
     l A c w1 (fun _ _ _ _ _ _=>trivial) (Below.refl _ _) (S0.out.below B1.out B1.out.size)).mono ?_
   rintro e w2 ⟨rfl,hb2⟩
   have B2:=LH (B1.out.trans (hb2.mono B1.out.size))
   have R2:=LH (R1.out.below hb2 R1.out.lt)
   clear hb2 hR
   cases h2:someB (badT l false) l
   rotate_left
   · have HX:=LH (checkD_name HT.out h2)
     clear h2
     go_wp2_with fail
     go_ret
     exact⟨ret_int HX.out.symm,B2.out⟩
   have H2:=LH h2
   have hR:=fun i=>R2.out.cell i
   clear h2
   by_cases h4:60<m
   · have HX:=LH (checkD_many HT.out H2.out (.inl (by rw [<- HN.out];exact h4)))
     have h5:decide ((60:Int)<(m:Int))=true:=by rw [decide_eq_true_eq];omega
     go_wp2_with fail
     go_ret
     exact⟨ret_int HX.out.symm,B2.out⟩
   have h5:decide ((60:Int)<(m:Int))=false:=by rw [decide_eq_false_iff_not];omega
   go_wp2_with fail
   refine(implSome 29 (enters Tryz.func29 (by kernel_rfl) (by kernel_rfl)) #[.pointer (some ⟨w.heap.size,0,none⟩)] (badV l) (fun t=>holdsB (badT l false) t=false) (fun t ht _=>holdsB_kid ht) w2
     (fun x A1 c1 w3 hd hb3 hat3=>by
       have R3:=R2.out.below hb3 R2.out.lt
       exact implCheck2 l A c w.heap.size x A1 c1 w3 (by have hd':holdsB (badT l false) x=false:=hd;rw [holdsB_eq,Bool.or_eq_false_iff] at hd';exact hd'.1) (R3.cell 0) R3.lt (S0.out.below (B2.out.trans (hb3.mono B2.out.size)) (Nat.le_trans B2.out.size hb3.size)) hat3)
     l A c w2 (fun d hd c hc t ht=>someB_arg H2.out hd hc ht) (Below.refl _ _) (S0.out.below B2.out B2.out.size)).mono ?_
   rintro e w3 ⟨rfl,hb3⟩
   have B3:=LH (B2.out.trans (hb3.mono B2.out.size))
   rw [some_vars H2.out]
   clear hb3 hR
   cases h3:someB (badT l true) l
   · have HX:=LH (checkD_done HT.out H2.out (by rw [<- HN.out];exact h4) h3)
     clear h3
     go_wp2_with fail
     go_ret
     exact⟨ret_int HX.out.symm,B3.out⟩
   · have HX:=LH (checkD_many HT.out H2.out (.inr h3))
     clear h3
     go_wp2_with fail
     go_ret
     exact⟨ret_int HX.out.symm,B3.out⟩
set_option maxHeartbeats 4000000
theorem bigYesG {n:Nat} (A:Option Addr) (c:Nat) (hbi:(1048576:Int)<(n:Int)) (w:World):Calls Tryz.prog 4 #[.slice A n c] w fun e w'=>e= .returned (.bool true)/\w=w':=by
 go_enter Tryz.func4,Tryz.ntmps4
 go_wp2_with fail
 go_ret
 exact⟨rfl,rfl⟩
theorem bigNoG {n:Nat} (A:Option Addr) (c:Nat) (hbi:¬ (1048576:Int)<(n:Int)) (w:World):Calls Tryz.prog 4 #[.slice A n c] w fun e w'=>e= .returned (.bool false)/\w=w':=by
 have h:decide ((1048576:Int)<(n:Int))=false:=decide_eq_false hbi
 go_enter Tryz.func4,Tryz.ntmps4
 go_wp2_with fail
 go_ret
 exact⟨rfl,rfl⟩
theorem walkTags (l:List Int) (A:Option Addr) (c:Nat) (w:World) (hs:Sl w (Lt w.heap.size) 1 A c (l.map (D.num .u8))):
 Calls Tryz.prog 3 #[.slice A l.length c] w fun e w'=>e= .returned (.bool true)/\Below w.heap.size w w':=by
 have SL0:=LH hs
 have hln:l.length<=9223372036854775807:=by simpa using hs.len
 clear hs
 by_cases hbig:1048576<l.length
 ·
  have hbi:(1048576:Int)<(l.length:Int):=by omega
  go_enter Tryz.func3,Tryz.ntmps3
  go_wp2_with fail
  refine(bigYesG A c (by omega) w).mono ?_
  rintro e w1 ⟨rfl,rfl⟩
  go_wp2_with fail
  go_ret
  exact⟨rfl,Below.refl _ _⟩
 have hbi:¬ (1048576:Int)<(l.length:Int):=by omega
 have hl:l.length<=1048576:=by omega
 go_enter Tryz.func3,Tryz.ntmps3
 refine wp_hide (fun BP hBP=>?_)
 have HBP:=LH hBP
 clear hBP
 go_wp2_with fail
 refine(bigNoG A c (by omega) w).mono ?_
 rintro e w1 ⟨rfl,rfl⟩
 have B0:=LH (Below.refl w.heap.size w)
 go_wp2_with fail
 refine(drawConTag l A c w SL0.out hl).mono ?_
 rintro e v1 ⟨ds,AD,cD,s,rfl,hcd,sd,hb⟩
 have SL1:=LH (SL0.out.below hb hb.size)
 have B1:=LH (B0.out.trans (hb.mono B0.out.size))
 have SD1:=LH sd
 clear hb SL0 B0 sd
 have hcd2:consN ds<=1048576:=by omega
 go_wp2_with fail
 refine(implConTag ds AD cD s v1 hcd2 SD1.out).mono ?_
 rintro e v2 ⟨rfl,hb⟩
 have SL2:=LH (SL1.out.below hb hb.size)
 have SD2:=LH (SD1.out.below hb hb.size)
 have B2:=LH (B1.out.trans (hb.mono B1.out.size))
 clear hb SL1 SD1 B1
 go_wp2_with fail
 refine(drawTagCon l A c v2 SL2.out hl).mono ?_
 rintro e v3 ⟨xs,AX,cX,n,rfl,hcx,hn,sx,hb⟩
 have SL3:=LH (SL2.out.below hb hb.size)
 have SD3:=LH (SD2.out.below hb hb.size)
 have B3:=LH (B2.out.trans (hb.mono B2.out.size))
 have SX3:=LH sx
 clear hb SL2 SD2 B2 sx
 have hcx2:consN xs<=1048576:=by omega
 go_wp2_with fail
 refine(implTagCon xs AX cX n v3 hn.1 hn.2 hcx2 SX3.out).mono ?_
 rintro e v4 ⟨rfl,hb⟩
 have SL4:=LH (SL3.out.below hb hb.size)
 have SD4:=LH (SD3.out.below hb hb.size)
 have SX4:=LH (SX3.out.below hb hb.size)
 have B4:=LH (B3.out.trans (hb.mono B3.out.size))
 clear hb SL3 SD3 SX3 B3
 go_wp2_with fail
 refine(specTagCon xs AX cX n v4 hn.1 hn.2 hcx2 SX4.out).mono ?_
 rintro e v5 ⟨rfl,hb⟩
 have SL5:=LH (SL4.out.below hb hb.size)
 have SD5:=LH (SD4.out.below hb hb.size)
 have SX5:=LH (SX4.out.below hb hb.size)
 have B5:=LH (B4.out.trans (hb.mono B4.out.size))
 clear hb SL4 SD4 SX4 B4
 clear SX5
 go_wp2_with fail
 refine(drawConOf l A c v5 SL5.out hl).mono ?_
 rintro e v6 ⟨ys,AY,cY,s2,rfl,hcy,sy,hb⟩
 have SL6:=LH (SL5.out.below hb hb.size)
 have SD6:=LH (SD5.out.below hb hb.size)
 have B6:=LH (B5.out.trans (hb.mono B5.out.size))
 have SY6:=LH sy
 clear hb SL5 SD5 B5 sy
 go_wp2_with fail
 refine(implConOf ys AY cY s2 v6 SY6.out).mono ?_
 rintro e v7 ⟨rfl,hb⟩
 have SL7:=LH (SL6.out.below hb hb.size)
 have SD7:=LH (SD6.out.below hb hb.size)
 have SY7:=LH (SY6.out.below hb hb.size)
 have B7:=LH (B6.out.trans (hb.mono B6.out.size))
 clear hb SL6 SD6 SY6 B6
 go_wp2_with fail
 refine(specConOf ys AY cY s2 v7 SY7.out).mono ?_
 rintro e v8 ⟨rfl,hb⟩
 have SL8:=LH (SL7.out.below hb hb.size)
 have SD8:=LH (SD7.out.below hb hb.size)
 have SY8:=LH (SY7.out.below hb hb.size)
 have B8:=LH (B7.out.trans (hb.mono B7.out.size))
 clear hb SL7 SD7 SY7 B7
 clear SY8
 go_wp2_with fail
 refine(drawCheckDatas l A c v8 SL8.out hl).mono ?_
 rintro e v9 ⟨zs,AZ,cZ,rfl,hcz,sz,hb⟩
 have SL9:=LH (SL8.out.below hb hb.size)
 have SD9:=LH (SD8.out.below hb hb.size)
 have B9:=LH (B8.out.trans (hb.mono B8.out.size))
 have SZ9:=LH sz
 clear hb SL8 SD8 B8 sz
 have hcz2:consN zs<=1048576:=by omega
 clear SL9
 go_wp2_with fail
 refine(specConTag ds AD cD s v9 hcd2 SD9.out).mono ?_
 rintro e v10 ⟨rfl,hb⟩
 have SD10:=LH (SD9.out.below hb hb.size)
 have SZ10:=LH (SZ9.out.below hb hb.size)
 have B10:=LH (B9.out.trans (hb.mono B9.out.size))
 clear hb SD9 SZ9 B9
 go_wp2_with fail
 refine(implCheckDatas zs AZ cZ v10 hcz2 SZ10.out).mono ?_
 rintro e v11 ⟨rfl,hb⟩
 have SD11:=LH (SD10.out.below hb hb.size)
 have SZ11:=LH (SZ10.out.below hb hb.size)
 have B11:=LH (B10.out.trans (hb.mono B10.out.size))
 clear hb SD10 SZ10 B10
 go_wp2_with fail
 refine(specCheckDatas zs AZ cZ v11 hcz2 SZ11.out).mono ?_
 rintro e v12 ⟨rfl,hb⟩
 have SD12:=LH (SD11.out.below hb hb.size)
 have SZ12:=LH (SZ11.out.below hb hb.size)
 have B12:=LH (B11.out.trans (hb.mono B11.out.size))
 clear hb SD11 SZ11 B11
 clear SZ12
 cases ht:tagOf s ds 0 with
 | none=>
  have e0:tagI none= -1:=rfl
  have hco:=tags_none ds 0 0 ht
  have HCO:=LH (implConOf ds AD cD s v12 SD12.out)
  rw [hco] at HCO
  have e1:(conI none).1= -1:=rfl
  have e2:(conI none).2= -1:=rfl
  rw [e1,e2] at HCO
  rw [e0]
  clear ht hco e0 e1 e2
  go_wp2_with fail
  refine HCO.out.mono ?_
  rintro e vz ⟨rfl,hb⟩
  have BZ:=LH (B12.out.trans (hb.mono B12.out.size))
  clear hb
  go_wp2_with fail
  show BP _ _
  rw [HBP.out]
  refine bodyPost_ret (v:=.bool true) (by simp [results,Tryz.results3,go_sem]) rfl ?_
  exact⟨rfl,BZ.out⟩
 | some t=>
  have e0:tagI (some t)=(t:Int):=rfl
  have htl:=tagOf_lt ds 0 t ht
  obtain⟨-,i,q,hi,hq,e1,e2⟩:=tags_some ds 0 0 t ht
  have HTC:=LH (implTagCon ds AD cD (t:Int) v12 (by omega) (by omega) hcd2 SD12.out)
  rw [e1] at HTC
  rw [e0]
  have hnl:¬ (t:Int)<0:=by omega
  have dnl:decide ((t:Int)<0)=false:=decide_eq_false hnl
  clear ht e0 htl e1
  go_wp2_with fail
  refine HTC.out.mono ?_
  rintro e vz ⟨rfl,hb⟩
  have BZ:=LH (B12.out.trans (hb.mono B12.out.size))
  have SZ:=LH (SD12.out.below hb hb.size)
  clear hb
  rw [Nat.zero_add]
  obtain⟨b,off,A1,c1,eA,-,g0,g1,g2,hat⟩:=GData.elem SZ.out i hi
  subst eA
  obtain⟨b2,off2,A2,c2,eA2,-,q0,q1,-⟩:=GCon.elem hat.2.2 q hq
  subst eA2
  rw [e2] at q0
  have hii:(i:Int)<(ds.length:Int):=by omega
  have hqq:(q:Int)<(ds[i].cons.length:Int):=by omega
  clear e2 hat
  go_wp2_with fail
  show BP _ _
  rw [HBP.out]
  refine bodyPost_ret (v:=.bool true) (by simp [results,Tryz.results3,go_sem]) rfl ?_
  exact⟨rfl,BZ.out⟩
end Go.Proofs.YtgbjdhfaklmjcaaGreat
