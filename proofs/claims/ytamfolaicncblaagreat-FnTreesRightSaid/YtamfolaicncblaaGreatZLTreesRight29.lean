/- Texts of the claim LTreesRight in one: TreeOk CasesP CasesQ. Conditions: none but bounds on sizes. -/
import Derived.Test.YtamfolaicncblaaGreatZLTreesRight28
import Derived.Test.YtamfolaicncblaaGreatZLTreesRight17
import Derived.Test.YtamfolaicncblaaGreatZLTreesRight3
import Derived.Test.YtamfolaicncblaaGreatZLTreesRight16
import Derived.Test.YtamfolaicncblaaGreatZLTreesRight26
import Derived.Test.YtamfolaicncblaaGreatZLTreesRight27
import Derived.Test.YtamfolaicncblaaGreatZLTreesRight2
namespace Go.Proofs.YtamfolaicncblaaGreat
set_option maxRecDepth 20000
set_option linter.unusedVariables false
set_option linter.unusedSimpArgs false
open Go.RowKit
set_option maxHeartbeats 2000000
theorem specWordOkT (n:Int) (w:World):Calls Tryz.prog 71 #[.int .i64 n] w fun e w'=>e= .returned (.bool (inB n (-1073741824) 1073741823))/\w=w':=by
 go_enter Tryz.func71,Tryz.ntmps71
 go_wp2_with fail
 refine(specIn n (-1073741824) 1073741823 w).mono ?_
 rintro e w1 ⟨rfl,rfl⟩
 go_wp2_with fail
 go_ret
 exact⟨rfl,rfl⟩
theorem implWordOkT (n:Int) (w:World):Calls Tryz.prog 67 #[.int .i64 n] w fun e w'=>e= .returned (.bool (inB n (-1073741824) 1073741823))/\w=w':=by
 go_enter Tryz.func67,Tryz.ntmps67
 go_wp2_with fail
 refine(implWithin n (-1073741824) 1073741823 w).mono ?_
 rintro e w1 ⟨rfl,rfl⟩
 go_wp2_with fail
 go_ret
 exact⟨rfl,rfl⟩
def tree1 (tg:Int) (op n:Int) (s:ByteArray) (np nk:Nat):Bool:=
 if op=1 then decide (0<=n)&&(np ==0&&(s.toList.isEmpty&&nk ==0))
 else if op=2 then n ==0&&(np ==0&&(s.toList.isEmpty&&nk ==0))
 else if op=3 then n ==0&&(decide (0<=tg)&&(nk ==2&&decide (np<=24)))
 else if op=4 then inB n (-1073741824) 1073741823&&(s.toList.isEmpty&&(nk ==2&&decide (np<=24))) else false
mutual
def GTree.okS (l:List GData):GTree->Bool | .mk op n path s kids=>(path.all fun x=>decide (0<=x))&&(tree1 (tagI (tagOf s l 0)) op n s path.length kids.length&&GTree.okSL l kids)
def GTree.okSL (l:List GData):List GTree->Bool | []=>true | t::r=>t.okS l&&GTree.okSL l r
end
theorem GTree.okSL_all (l:List GData):∀ r:List GTree,GTree.okSL l r=r.all (GTree.okS l)
 | []=>rfl
 | t::r=>by simp only [GTree.okSL,List.all_cons,GTree.okSL_all l r]
theorem GTree.okS_eq (l:List GData) (t:GTree):t.okS l=((t.path.all fun x=>decide (0<=x))&&(tree1 (tagI (tagOf t.s l 0)) t.op t.n t.s t.path.length t.kids.length&&t.kids.all (GTree.okS l))):=by
 cases t;simp only [GTree.okS,GTree.okSL_all,GTree.op,GTree.n,GTree.path,GTree.s,GTree.kids]
def GTree.ok (l:List GData) (t:GTree):Bool:=decide (t.nodes<=300)&&t.okS l
theorem all_take {α:Type} {p:α->Bool} {l:List α} {j:Nat} (h:j<l.length):(l.take (j+1)).all p=((l.take j).all p&&p l[j]):=by
 rw [take_snoc' l j h,List.all_append];simp
theorem all_miss {α:Type} {p:α->Bool} {l:List α} {j:Nat} (h:j<l.length) (e:p l[j]=false):l.all p=false:=by
 rw [<- Bool.not_eq_true,List.all_eq_true];intro h2;have:=h2 _ (List.getElem_mem h);rw [e] at this;cases this
theorem all_not_anyT {α:Type} (p:α->Bool) (l:List α):l.any (fun x=>!p x)= !l.all p:=by
 induction l with
 | nil=>rfl
 | cons x r ih=>simp only [List.any_cons,List.all_cons,ih,Bool.not_and]
theorem specTree (k:Nat):∀ (l:List GData) (A:Option Addr) (c:Nat) (t:GTree) (A1:Option Addr) (c1:Nat) (A2:Option Addr) (c2:Nat) (w:World),t.bulk<k->consN l<=1048576->Sl w (Lt w.heap.size) 3 A c (l.map GData.toD)->GTree.At w (Lt w.heap.size) A1 c1 A2 c2 t->
 Calls Tryz.prog 44 #[.slice A l.length c,.agg #[.int .i64 t.op,.int .i64 t.n,.slice A1 t.path.length c1,.string t.s,.slice A2 t.kids.length c2]] w fun e w'=>e= .returned (.bool (t.okS l))/\Below w.heap.size w w':=by
 induction k with
 | zero=>intros;omega
 | succ k ih=>
  intro l A c t A1 c1 A2 c2 w hk hm hs hat
  have hkl:t.kids.length<=9223372036854775807:=by simpa using hat.2.2.2.2.len
  have hpl:t.path.length<=9223372036854775807:=by simpa using hat.2.2.1.len
  have HH:=LH (fun(j:Nat) (h:j<t.kids.length)=>ih l A c t.kids[j])
  have HBJ:=LH (fun(j:Nat) (h:j<t.kids.length)=>bulkL_mem GTree.bulk t.kids t.kids[j] (List.getElem_mem h))
  have HBE:=LH t.bulk_eq
  have HK:=LH hk
  have HM:=LH hm
  have S0:=LH hs
  have T0:=LH hat
  have HV:=LH (t.okS_eq l)
  have R0:=LH (Row.new w 31 #[.int .i64 t.op,.int .i64 t.n,.slice A1 t.path.length c1,.string t.s,.slice A2 t.kids.length c2])
  have E0:=LH (show Below w.heap.size w (w.alloc (.cells #[.int .i64 t.op,.int .i64 t.n,.slice A1 t.path.length c1,.string t.s,.slice A2 t.kids.length c2] 31)) from(Below.refl _ _).alloc (Nat.le_refl _) _)
  clear ih hk hs hat hm
  go_enter Tryz.func44,Tryz.ntmps44
  go_wp2_with fail
  go_loopw [5] (fun i wr=>∃ (j:Nat),j<=t.kids.length/\i= .int .i64 j/\Hid ((t.kids.take j).all (GTree.okS l)=true)/\Hid (Row wr w.heap.size 31 #[.int .i64 t.op,.int .i64 t.n,.slice A1 t.path.length c1,.string t.s,.slice A2 t.kids.length c2])/\Below w.heap.size w wr) (fun i _=>t.kids.length - (intOf i).toNat)
  case atStart=>exact⟨0,by omega,by go_num,LH (by simp),R0,E0.out⟩
  case round=>
   clear R0 E0
   obtain⟨j,hj,rfl,HN,HR,hbl⟩:=hrel
   have hsz:=hbl.size
   have hR:=fun i=>HR.out.cell i
   by_cases hlt:j<t.kids.length
   ·
    obtain⟨b,off,A3,c3,A4,c4,eA,hSb,g0,g1,g2,g3,g4,hatk⟩:=GTree.elem (T0.out.below hbl (Nat.le_refl _)).2.2.2.2 j hlt
    have HA:=LH (hatk.below (Below.refl _ _) hsz)
    have HS:=LH (S0.out.below hbl hsz)
    have HBj:=LH (HBJ.out j hlt)
    subst eA
    clear hatk
    go_wp2_with fail
    refine(HH.out j hlt A3 c3 A4 c4 _ (by have:=HK.out;have:=HBE.out;have:=HBj.out;omega) HM.out HS.out HA.out).mono ?_
    rintro e w1 ⟨rfl,hb1⟩
    have B1:=LH (hbl.trans (hb1.mono hsz))
    have R1:=LH (HR.out.below hb1 HR.out.lt)
    clear hb1
    cases he:(t.kids[j]).okS l
    · have HX:=LH (all_miss (p:=GTree.okS l) hlt he)
      clear he
      go_wp2_with fail
      go_ret
      exact⟨ret_bool (by rw [HV.out,HX.out];simp),B1.out⟩
    · have HN2:=LH (show(t.kids.take (j+1)).all (GTree.okS l)=true by rw [all_take hlt,HN.out,he];rfl)
      clear he
      go_wp2_with fail
      go_roundw
      case rel=>exact⟨j+1,by omega,by go_num,HN2,R1,B1.out⟩
      case measure=>simp [intOf];omega
   ·
    have HKO:=LH (show t.kids.all (GTree.okS l)=true by have:=HN.out;rwa [show j=t.kids.length by omega,List.take_length] at this)
    have HV2:=LH (show t.okS l=((t.path.all fun x=>decide (0<=x))&&tree1 (tagI (tagOf t.s l 0)) t.op t.n t.s t.path.length t.kids.length) by rw [HV.out,HKO.out,Bool.and_true])
    clear HH HBJ HBE HK HN HKO HV
    go_wp2_with fail
    go_loopw [6] (fun i wr=>∃ (j:Nat),j<=t.path.length/\i= .int .i64 j/\Hid ((t.path.take j).all (fun x=>decide (0<=x))=true)/\Hid (Row wr w.heap.size 31 #[.int .i64 t.op,.int .i64 t.n,.slice A1 t.path.length c1,.string t.s,.slice A2 t.kids.length c2])/\Below w.heap.size w wr) (fun i _=>t.path.length - (intOf i).toNat)
    case atStart=>exact⟨0,by omega,by go_num,LH (by simp),HR,hbl⟩
    case round=>
     clear hR HR hbl hsz
     obtain⟨j,hj,rfl,HN,HR,hbl⟩:=hrel
     have hsz:=hbl.size
     have hR:=fun i=>HR.out.cell i
     by_cases hlt:j<t.path.length
     ·
      obtain⟨b,off,eA,hSb,g0,-⟩:=int_elem (T0.out.below hbl (Nat.le_refl _)).2.2.1 j hlt
      subst eA
      by_cases hx:t.path[j]<0
      · have ex:decide (t.path[j]<0)=true:=decide_eq_true hx
        have HX:=LH (all_miss (p:=fun x:Int=>decide (0<=x)) hlt (decide_eq_false (by omega)))
        clear hx
        go_wp2_with fail
        go_ret
        exact⟨ret_bool (by rw [HV2.out,HX.out];rfl),hbl⟩
      · have ex:decide (t.path[j]<0)=false:=decide_eq_false hx
        have HN2:=LH (show(t.path.take (j+1)).all (fun x=>decide (0<=x))=true by rw [all_take hlt,HN.out,decide_eq_true (show 0<=t.path[j] by omega)];rfl)
        clear hx
        go_wp2_with fail
        go_roundw
        case rel=>exact⟨j+1,by omega,by go_num,HN2,HR,hbl⟩
        case measure=>simp [intOf];omega
     ·
      have HPO:=LH (show t.path.all (fun x=>decide (0<=x))=true by have:=HN.out;rwa [show j=t.path.length by omega,List.take_length] at this)
      have HV3:=LH (show t.okS l=tree1 (tagI (tagOf t.s l 0)) t.op t.n t.s t.path.length t.kids.length by rw [HV2.out,HPO.out,Bool.true_and])
      clear HN HPO HV2
      cases o1:(t.op ==1)
      ·
       skip
       cases o2:(t.op ==2)
       ·
        skip
        cases o3:(t.op ==3)
        ·
         skip
         cases o4:(t.op ==4)
         · skip
           have hv:=LH (show tree1 (tagI (tagOf t.s l 0)) t.op t.n t.s t.path.length t.kids.length=false from by
             unfold tree1;simp only [beq_iff_eq,beq_eq_false_iff_ne,ne_eq] at o1 o2 o3 o4;simp [o1,o2,o3,o4])
           go_wp2_with fail
           all_goals
            go_ret
            exact⟨ret_bool (by rw [HV3.out,hv.out]),hbl⟩
         ·
          skip
          by_cases zk:t.kids.length=0
          ·
           have zk2:((t.kids.length:Int) ==0)=true:=by rw [beq_iff_eq];omega
           by_cases zp:t.path.length=0
           ·
            have zp2:((t.path.length:Int) ==0)=true:=by rw [beq_iff_eq];omega
            cases es:(t.s.toList.isEmpty)
            ·
             skip
             go_wp2_with fail
             refine(specWordOkT t.n _).mono ?_
             rintro e w1 ⟨rfl,rfl⟩
             generalize hib:inB t.n (-1073741824) 1073741823=ib at*
             cases ib
             · skip
               have hv:=LH (show tree1 (tagI (tagOf t.s l 0)) t.op t.n t.s t.path.length t.kids.length=false from by
                 unfold tree1;simp only [beq_iff_eq,beq_eq_false_iff_ne,ne_eq] at o1 o2 o3 o4;simp [o1,o2,o3,o4,es,hib])
               clear hib
               go_wp2_with fail
               go_ret
               exact⟨ret_bool (by rw [HV3.out,hv.out]),hbl⟩
             · skip
               have hv:=LH (show tree1 (tagI (tagOf t.s l 0)) t.op t.n t.s t.path.length t.kids.length=false from by
                 unfold tree1;simp only [beq_iff_eq,beq_eq_false_iff_ne,ne_eq] at o1 o2 o3 o4;simp [o1,o2,o3,o4,es,hib])
               clear hib
               go_wp2_with fail
               go_ret
               exact⟨ret_bool (by rw [HV3.out,hv.out]),hbl⟩
            ·
             skip
             go_wp2_with fail
             refine(specWordOkT t.n _).mono ?_
             rintro e w1 ⟨rfl,rfl⟩
             generalize hib:inB t.n (-1073741824) 1073741823=ib at*
             cases ib
             · skip
               have hv:=LH (show tree1 (tagI (tagOf t.s l 0)) t.op t.n t.s t.path.length t.kids.length=false from by
                 unfold tree1;simp only [beq_iff_eq,beq_eq_false_iff_ne,ne_eq] at o1 o2 o3 o4;simp [o1,o2,o3,o4,es,hib])
               clear hib
               go_wp2_with fail
               go_ret
               exact⟨ret_bool (by rw [HV3.out,hv.out]),hbl⟩
             · skip
               have wk:¬ t.kids.length=2:=by omega
               have wk2:((t.kids.length:Int) ==2)=false:=by rw [beq_eq_false_iff_ne];omega
               have hv:=LH (show tree1 (tagI (tagOf t.s l 0)) t.op t.n t.s t.path.length t.kids.length=false from by
                 unfold tree1;simp only [beq_iff_eq,beq_eq_false_iff_ne,ne_eq] at o1 o2 o3 o4;simp [o1,o2,o3,o4,es,hib,wk])
               clear hib
               go_wp2_with fail
               go_ret
               exact⟨ret_bool (by rw [HV3.out,hv.out]),hbl⟩
           ·
            have zp2:((t.path.length:Int) ==0)=false:=by rw [beq_eq_false_iff_ne];omega
            go_wp2_with fail
            refine(specWordOkT t.n _).mono ?_
            rintro e w1 ⟨rfl,rfl⟩
            generalize hib:inB t.n (-1073741824) 1073741823=ib at*
            cases ib
            · skip
              have hv:=LH (show tree1 (tagI (tagOf t.s l 0)) t.op t.n t.s t.path.length t.kids.length=false from by
                unfold tree1;simp only [beq_iff_eq,beq_eq_false_iff_ne,ne_eq] at o1 o2 o3 o4;simp [o1,o2,o3,o4,hib])
              clear hib
              go_wp2_with fail
              go_ret
              exact⟨ret_bool (by rw [HV3.out,hv.out]),hbl⟩
            ·
             skip
             cases es:(t.s.toList.isEmpty)
             · skip
               have hv:=LH (show tree1 (tagI (tagOf t.s l 0)) t.op t.n t.s t.path.length t.kids.length=false from by
                 unfold tree1;simp only [beq_iff_eq,beq_eq_false_iff_ne,ne_eq] at o1 o2 o3 o4;simp [o1,o2,o3,o4,hib,es])
               clear hib
               go_wp2_with fail
               go_ret
               exact⟨ret_bool (by rw [HV3.out,hv.out]),hbl⟩
             · skip
               have wk:¬ t.kids.length=2:=by omega
               have wk2:((t.kids.length:Int) ==2)=false:=by rw [beq_eq_false_iff_ne];omega
               have hv:=LH (show tree1 (tagI (tagOf t.s l 0)) t.op t.n t.s t.path.length t.kids.length=false from by
                 unfold tree1;simp only [beq_iff_eq,beq_eq_false_iff_ne,ne_eq] at o1 o2 o3 o4;simp [o1,o2,o3,o4,hib,es,wk])
               clear hib
               go_wp2_with fail
               go_ret
               exact⟨ret_bool (by rw [HV3.out,hv.out]),hbl⟩
          ·
           have zk2:((t.kids.length:Int) ==0)=false:=by rw [beq_eq_false_iff_ne];omega
           go_wp2_with fail
           refine(specWordOkT t.n _).mono ?_
           rintro e w1 ⟨rfl,rfl⟩
           generalize hib:inB t.n (-1073741824) 1073741823=ib at*
           cases ib
           · skip
             have hv:=LH (show tree1 (tagI (tagOf t.s l 0)) t.op t.n t.s t.path.length t.kids.length=false from by
               unfold tree1;simp only [beq_iff_eq,beq_eq_false_iff_ne,ne_eq] at o1 o2 o3 o4;simp [o1,o2,o3,o4,hib])
             clear hib
             go_wp2_with fail
             go_ret
             exact⟨ret_bool (by rw [HV3.out,hv.out]),hbl⟩
           ·
            skip
            cases es:(t.s.toList.isEmpty)
            · skip
              have hv:=LH (show tree1 (tagI (tagOf t.s l 0)) t.op t.n t.s t.path.length t.kids.length=false from by
                unfold tree1;simp only [beq_iff_eq,beq_eq_false_iff_ne,ne_eq] at o1 o2 o3 o4;simp [o1,o2,o3,o4,hib,es])
              clear hib
              go_wp2_with fail
              go_ret
              exact⟨ret_bool (by rw [HV3.out,hv.out]),hbl⟩
            ·
             skip
             by_cases wk:t.kids.length=2
             · have wk2:((t.kids.length:Int) ==2)=true:=by rw [beq_iff_eq];omega
               by_cases pp:t.path.length<=24
               · have pp1:decide ((t.path.length:Int)<=24)=true:=decide_eq_true (by omega)
                 have hv:=LH (show tree1 (tagI (tagOf t.s l 0)) t.op t.n t.s t.path.length t.kids.length=true from by
                   unfold tree1;simp only [beq_iff_eq,beq_eq_false_iff_ne,ne_eq] at o1 o2 o3 o4;simp [o1,o2,o3,o4,hib,es,wk,pp])
                 clear hib
                 go_wp2_with fail
                 go_ret
                 exact⟨ret_bool (by rw [HV3.out,hv.out]),hbl⟩
               · have pp1:decide ((t.path.length:Int)<=24)=false:=decide_eq_false (by omega)
                 have hv:=LH (show tree1 (tagI (tagOf t.s l 0)) t.op t.n t.s t.path.length t.kids.length=false from by
                   unfold tree1;simp only [beq_iff_eq,beq_eq_false_iff_ne,ne_eq] at o1 o2 o3 o4;simp [o1,o2,o3,o4,hib,es,wk,pp])
                 clear hib
                 go_wp2_with fail
                 go_ret
                 exact⟨ret_bool (by rw [HV3.out,hv.out]),hbl⟩
             · have wk2:((t.kids.length:Int) ==2)=false:=by rw [beq_eq_false_iff_ne];omega
               have hv:=LH (show tree1 (tagI (tagOf t.s l 0)) t.op t.n t.s t.path.length t.kids.length=false from by
                 unfold tree1;simp only [beq_iff_eq,beq_eq_false_iff_ne,ne_eq] at o1 o2 o3 o4;simp [o1,o2,o3,o4,hib,es,wk])
               clear hib
               go_wp2_with fail
               go_ret
               exact⟨ret_bool (by rw [HV3.out,hv.out]),hbl⟩
        ·
         skip
         by_cases zk:t.kids.length=0
         ·
          have zk2:((t.kids.length:Int) ==0)=true:=by rw [beq_iff_eq];omega
          by_cases zp:t.path.length=0
          ·
           have zp2:((t.path.length:Int) ==0)=true:=by rw [beq_iff_eq];omega
           cases es:(t.s.toList.isEmpty)
           ·
            skip
            have HS:=LH (S0.out.below hbl hsz)
            go_wp2_with fail
            refine(specConTag l A c t.s _ HM.out HS.out).mono ?_
            rintro e w1 ⟨rfl,hb1⟩
            have B1:=LH (hbl.trans (hb1.mono hsz))
            have R1:=LH (HR.out.below hb1 HR.out.lt)
            clear hR hb1
            have hR:=fun i=>R1.out.cell i
            generalize tagI (tagOf t.s l 0)=tg at*
            by_cases tt:0<=tg
            · cases en:(t.n ==0)
              · skip
                have hv:=LH (show tree1 tg t.op t.n t.s t.path.length t.kids.length=false from by
                  unfold tree1;simp only [beq_iff_eq,beq_eq_false_iff_ne,ne_eq] at o1 o2 o3 en;simp [o1,o2,o3,es,tt,en])
                go_wp2_with fail
                go_ret
                exact⟨ret_bool (by rw [HV3.out,hv.out]),B1.out⟩
              · skip
                have wk:¬ t.kids.length=2:=by omega
                have wk2:((t.kids.length:Int) ==2)=false:=by rw [beq_eq_false_iff_ne];omega
                have hv:=LH (show tree1 tg t.op t.n t.s t.path.length t.kids.length=false from by
                  unfold tree1;simp only [beq_iff_eq,beq_eq_false_iff_ne,ne_eq] at o1 o2 o3 en;simp [o1,o2,o3,es,tt,en,wk])
                go_wp2_with fail
                go_ret
                exact⟨ret_bool (by rw [HV3.out,hv.out]),B1.out⟩
            · have tt1:decide (0<=tg)=false:=decide_eq_false tt
              have hv:=LH (show tree1 tg t.op t.n t.s t.path.length t.kids.length=false from by
                unfold tree1;simp only [beq_iff_eq,beq_eq_false_iff_ne,ne_eq] at o1 o2 o3;simp [o1,o2,o3,es,tt])
              go_wp2_with fail
              go_ret
              exact⟨ret_bool (by rw [HV3.out,hv.out]),B1.out⟩
           ·
            skip
            have HS:=LH (S0.out.below hbl hsz)
            go_wp2_with fail
            refine(specConTag l A c t.s _ HM.out HS.out).mono ?_
            rintro e w1 ⟨rfl,hb1⟩
            have B1:=LH (hbl.trans (hb1.mono hsz))
            have R1:=LH (HR.out.below hb1 HR.out.lt)
            clear hR hb1
            have hR:=fun i=>R1.out.cell i
            generalize tagI (tagOf t.s l 0)=tg at*
            by_cases tt:0<=tg
            · cases en:(t.n ==0)
              · skip
                have hv:=LH (show tree1 tg t.op t.n t.s t.path.length t.kids.length=false from by
                  unfold tree1;simp only [beq_iff_eq,beq_eq_false_iff_ne,ne_eq] at o1 o2 o3 en;simp [o1,o2,o3,es,tt,en])
                go_wp2_with fail
                go_ret
                exact⟨ret_bool (by rw [HV3.out,hv.out]),B1.out⟩
              · skip
                have wk:¬ t.kids.length=2:=by omega
                have wk2:((t.kids.length:Int) ==2)=false:=by rw [beq_eq_false_iff_ne];omega
                have hv:=LH (show tree1 tg t.op t.n t.s t.path.length t.kids.length=false from by
                  unfold tree1;simp only [beq_iff_eq,beq_eq_false_iff_ne,ne_eq] at o1 o2 o3 en;simp [o1,o2,o3,es,tt,en,wk])
                go_wp2_with fail
                go_ret
                exact⟨ret_bool (by rw [HV3.out,hv.out]),B1.out⟩
            · have tt1:decide (0<=tg)=false:=decide_eq_false tt
              have hv:=LH (show tree1 tg t.op t.n t.s t.path.length t.kids.length=false from by
                unfold tree1;simp only [beq_iff_eq,beq_eq_false_iff_ne,ne_eq] at o1 o2 o3;simp [o1,o2,o3,es,tt])
              go_wp2_with fail
              go_ret
              exact⟨ret_bool (by rw [HV3.out,hv.out]),B1.out⟩
          ·
           have zp2:((t.path.length:Int) ==0)=false:=by rw [beq_eq_false_iff_ne];omega
           have HS:=LH (S0.out.below hbl hsz)
           go_wp2_with fail
           refine(specConTag l A c t.s _ HM.out HS.out).mono ?_
           rintro e w1 ⟨rfl,hb1⟩
           have B1:=LH (hbl.trans (hb1.mono hsz))
           have R1:=LH (HR.out.below hb1 HR.out.lt)
           clear hR hb1
           have hR:=fun i=>R1.out.cell i
           generalize tagI (tagOf t.s l 0)=tg at*
           by_cases tt:0<=tg
           · cases en:(t.n ==0)
             · skip
               have hv:=LH (show tree1 tg t.op t.n t.s t.path.length t.kids.length=false from by
                 unfold tree1;simp only [beq_iff_eq,beq_eq_false_iff_ne,ne_eq] at o1 o2 o3 en;simp [o1,o2,o3,tt,en])
               go_wp2_with fail
               go_ret
               exact⟨ret_bool (by rw [HV3.out,hv.out]),B1.out⟩
             · skip
               have wk:¬ t.kids.length=2:=by omega
               have wk2:((t.kids.length:Int) ==2)=false:=by rw [beq_eq_false_iff_ne];omega
               have hv:=LH (show tree1 tg t.op t.n t.s t.path.length t.kids.length=false from by
                 unfold tree1;simp only [beq_iff_eq,beq_eq_false_iff_ne,ne_eq] at o1 o2 o3 en;simp [o1,o2,o3,tt,en,wk])
               go_wp2_with fail
               go_ret
               exact⟨ret_bool (by rw [HV3.out,hv.out]),B1.out⟩
           · have tt1:decide (0<=tg)=false:=decide_eq_false tt
             have hv:=LH (show tree1 tg t.op t.n t.s t.path.length t.kids.length=false from by
               unfold tree1;simp only [beq_iff_eq,beq_eq_false_iff_ne,ne_eq] at o1 o2 o3;simp [o1,o2,o3,tt])
             go_wp2_with fail
             go_ret
             exact⟨ret_bool (by rw [HV3.out,hv.out]),B1.out⟩
         ·
          have zk2:((t.kids.length:Int) ==0)=false:=by rw [beq_eq_false_iff_ne];omega
          have HS:=LH (S0.out.below hbl hsz)
          go_wp2_with fail
          refine(specConTag l A c t.s _ HM.out HS.out).mono ?_
          rintro e w1 ⟨rfl,hb1⟩
          have B1:=LH (hbl.trans (hb1.mono hsz))
          have R1:=LH (HR.out.below hb1 HR.out.lt)
          clear hR hb1
          have hR:=fun i=>R1.out.cell i
          generalize tagI (tagOf t.s l 0)=tg at*
          by_cases tt:0<=tg
          ·
           cases en:(t.n ==0)
           · skip
             have hv:=LH (show tree1 tg t.op t.n t.s t.path.length t.kids.length=false from by
               unfold tree1;simp only [beq_iff_eq,beq_eq_false_iff_ne,ne_eq] at o1 o2 o3 en;simp [o1,o2,o3,tt,en])
             go_wp2_with fail
             go_ret
             exact⟨ret_bool (by rw [HV3.out,hv.out]),B1.out⟩
           ·
            skip
            by_cases wk:t.kids.length=2
            · have wk2:((t.kids.length:Int) ==2)=true:=by rw [beq_iff_eq];omega
              by_cases pp:t.path.length<=24
              · have pp1:decide ((t.path.length:Int)<=24)=true:=decide_eq_true (by omega)
                have hv:=LH (show tree1 tg t.op t.n t.s t.path.length t.kids.length=true from by
                  unfold tree1;simp only [beq_iff_eq,beq_eq_false_iff_ne,ne_eq] at o1 o2 o3 en;simp [o1,o2,o3,tt,en,wk,pp])
                go_wp2_with fail
                go_ret
                exact⟨ret_bool (by rw [HV3.out,hv.out]),B1.out⟩
              · have pp1:decide ((t.path.length:Int)<=24)=false:=decide_eq_false (by omega)
                have hv:=LH (show tree1 tg t.op t.n t.s t.path.length t.kids.length=false from by
                  unfold tree1;simp only [beq_iff_eq,beq_eq_false_iff_ne,ne_eq] at o1 o2 o3 en;simp [o1,o2,o3,tt,en,wk,pp])
                go_wp2_with fail
                go_ret
                exact⟨ret_bool (by rw [HV3.out,hv.out]),B1.out⟩
            · have wk2:((t.kids.length:Int) ==2)=false:=by rw [beq_eq_false_iff_ne];omega
              have hv:=LH (show tree1 tg t.op t.n t.s t.path.length t.kids.length=false from by
                unfold tree1;simp only [beq_iff_eq,beq_eq_false_iff_ne,ne_eq] at o1 o2 o3 en;simp [o1,o2,o3,tt,en,wk])
              go_wp2_with fail
              go_ret
              exact⟨ret_bool (by rw [HV3.out,hv.out]),B1.out⟩
          · have tt1:decide (0<=tg)=false:=decide_eq_false tt
            have hv:=LH (show tree1 tg t.op t.n t.s t.path.length t.kids.length=false from by
              unfold tree1;simp only [beq_iff_eq,beq_eq_false_iff_ne,ne_eq] at o1 o2 o3;simp [o1,o2,o3,tt])
            go_wp2_with fail
            go_ret
            exact⟨ret_bool (by rw [HV3.out,hv.out]),B1.out⟩
       ·
        skip
        by_cases zk:t.kids.length=0
        ·
         have zk2:((t.kids.length:Int) ==0)=true:=by rw [beq_iff_eq];omega
         by_cases zp:t.path.length=0
         ·
          have zp2:((t.path.length:Int) ==0)=true:=by rw [beq_iff_eq];omega
          cases es:(t.s.toList.isEmpty)
          · skip
            have hv:=LH (show tree1 (tagI (tagOf t.s l 0)) t.op t.n t.s t.path.length t.kids.length=false from by
              unfold tree1;simp only [beq_iff_eq,beq_eq_false_iff_ne,ne_eq] at o1 o2;simp [o1,o2,zk,zp,es])
            clear zk zp
            go_wp2_with fail
            all_goals
             go_ret
             exact⟨ret_bool (by rw [HV3.out,hv.out]),hbl⟩
          ·
           skip
           cases en:(t.n ==0)
           · skip
             have hv:=LH (show tree1 (tagI (tagOf t.s l 0)) t.op t.n t.s t.path.length t.kids.length=false from by
               unfold tree1;simp only [beq_iff_eq,beq_eq_false_iff_ne,ne_eq] at o1 o2 en;simp [o1,o2,zk,zp,es,en])
             clear zk zp
             go_wp2_with fail
             all_goals
              go_ret
              exact⟨ret_bool (by rw [HV3.out,hv.out]),hbl⟩
           · skip
             have hv:=LH (show tree1 (tagI (tagOf t.s l 0)) t.op t.n t.s t.path.length t.kids.length=true from by
               unfold tree1;simp only [beq_iff_eq,beq_eq_false_iff_ne,ne_eq] at o1 o2 en;simp [o1,o2,zk,zp,es,en])
             clear zk zp
             go_wp2_with fail
             all_goals
              go_ret
              exact⟨ret_bool (by rw [HV3.out,hv.out]),hbl⟩
         · have zp2:((t.path.length:Int) ==0)=false:=by rw [beq_eq_false_iff_ne];omega
           have hv:=LH (show tree1 (tagI (tagOf t.s l 0)) t.op t.n t.s t.path.length t.kids.length=false from by
             unfold tree1;simp only [beq_iff_eq,beq_eq_false_iff_ne,ne_eq] at o1 o2;simp [o1,o2,zk,zp])
           clear zk zp
           go_wp2_with fail
           all_goals
            go_ret
            exact⟨ret_bool (by rw [HV3.out,hv.out]),hbl⟩
        · have zk2:((t.kids.length:Int) ==0)=false:=by rw [beq_eq_false_iff_ne];omega
          have hv:=LH (show tree1 (tagI (tagOf t.s l 0)) t.op t.n t.s t.path.length t.kids.length=false from by
            unfold tree1;simp only [beq_iff_eq,beq_eq_false_iff_ne,ne_eq] at o1 o2;simp [o1,o2,zk])
          clear zk
          go_wp2_with fail
          all_goals
           go_ret
           exact⟨ret_bool (by rw [HV3.out,hv.out]),hbl⟩
      ·
       skip
       by_cases zk:t.kids.length=0
       ·
        have zk2:((t.kids.length:Int) ==0)=true:=by rw [beq_iff_eq];omega
        by_cases zp:t.path.length=0
        ·
         have zp2:((t.path.length:Int) ==0)=true:=by rw [beq_iff_eq];omega
         cases es:(t.s.toList.isEmpty)
         · skip
           have hv:=LH (show tree1 (tagI (tagOf t.s l 0)) t.op t.n t.s t.path.length t.kids.length=false from by
             unfold tree1;simp only [beq_iff_eq,beq_eq_false_iff_ne,ne_eq] at o1;simp [o1,zk,zp,es])
           clear zk zp
           go_wp2_with fail
           all_goals
            go_ret
            exact⟨ret_bool (by rw [HV3.out,hv.out]),hbl⟩
         ·
          skip
          by_cases nn:0<=t.n
          · have nn1:decide (0<=t.n)=true:=decide_eq_true nn
            have hv:=LH (show tree1 (tagI (tagOf t.s l 0)) t.op t.n t.s t.path.length t.kids.length=true from by
              unfold tree1;simp only [beq_iff_eq,beq_eq_false_iff_ne,ne_eq] at o1;simp [o1,zk,zp,es,nn])
            clear zk zp nn
            go_wp2_with fail
            all_goals
             go_ret
             exact⟨ret_bool (by rw [HV3.out,hv.out]),hbl⟩
          · have nn1:decide (0<=t.n)=false:=decide_eq_false nn
            have hv:=LH (show tree1 (tagI (tagOf t.s l 0)) t.op t.n t.s t.path.length t.kids.length=false from by
              unfold tree1;simp only [beq_iff_eq,beq_eq_false_iff_ne,ne_eq] at o1;simp [o1,zk,zp,es,nn])
            clear zk zp nn
            go_wp2_with fail
            all_goals
             go_ret
             exact⟨ret_bool (by rw [HV3.out,hv.out]),hbl⟩
        · have zp2:((t.path.length:Int) ==0)=false:=by rw [beq_eq_false_iff_ne];omega
          have hv:=LH (show tree1 (tagI (tagOf t.s l 0)) t.op t.n t.s t.path.length t.kids.length=false from by
            unfold tree1;simp only [beq_iff_eq,beq_eq_false_iff_ne,ne_eq] at o1;simp [o1,zk,zp])
          clear zk zp
          go_wp2_with fail
          all_goals
           go_ret
           exact⟨ret_bool (by rw [HV3.out,hv.out]),hbl⟩
       · have zk2:((t.kids.length:Int) ==0)=false:=by rw [beq_eq_false_iff_ne];omega
         have hv:=LH (show tree1 (tagI (tagOf t.s l 0)) t.op t.n t.s t.path.length t.kids.length=false from by
           unfold tree1;simp only [beq_iff_eq,beq_eq_false_iff_ne,ne_eq] at o1;simp [o1,zk])
         clear zk
         go_wp2_with fail
         all_goals
          go_ret
          exact⟨ret_bool (by rw [HV3.out,hv.out]),hbl⟩
theorem tree1_long {tg op n:Int} {s:ByteArray} {np nk:Nat} (h:24<np):tree1 tg op n s np nk=false:=by
 have h0:¬ np=0:=by omega
 have h1:¬ np<=24:=by omega
 unfold tree1
 split
 · simp [h0]
 · split
   · simp [h0]
   · split
     · simp [h1]
     · split<;>simp [h1]
theorem all_neg (l:List Int):(l.any fun x=>decide (x<0))= !(l.all fun x=>decide (0<=x)):=by
 rw [<- all_not_anyT]
 congr 1
 funext x
 by_cases h:x<0
 · rw [decide_eq_true h,decide_eq_false (by omega)];rfl
 · rw [decide_eq_false h,decide_eq_true (by omega)];rfl
theorem implTreeNeg (x:Int) (w:World):Calls Tryz.prog 65 #[.int .i64 x] w fun e w'=>e= .returned (.bool (decide (x<0)))/\Below w.heap.size w w':=by
 go_enter Tryz.func65,Tryz.ntmps65
 go_wp2_with fail
 go_ret
 exact⟨rfl,Below.refl _ _⟩
def TreeTo (k:Nat):Prop:=∀ (l:List GData) (A:Option Addr) (c:Nat) (t:GTree) (A1:Option Addr) (c1:Nat) (A2:Option Addr) (c2:Nat) (w:World),t.bulk<k->consN l<=1048576->Sl w (Lt w.heap.size) 3 A c (l.map GData.toD)->GTree.At w (Lt w.heap.size) A1 c1 A2 c2 t->
 Calls Tryz.prog 42 #[.slice A l.length c,.agg #[.int .i64 t.op,.int .i64 t.n,.slice A1 t.path.length c1,.string t.s,.slice A2 t.kids.length c2]] w fun e w'=>e= .returned (.bool (t.okS l))/\Below w.heap.size w w'
theorem implTreeKid (k:Nat) (HH:TreeTo k) (l:List GData) (A:Option Addr) (c:Nat) (b:Nat) (x:GTree) (A1:Option Addr) (c1:Nat) (A2:Option Addr) (c2:Nat) (w:World) (hk:x.bulk<k) (hm:consN l<=1048576) (hc:w.cell? ⟨b,0,none⟩=some (.slice A l.length c)) (hb:b<w.heap.size)
 (hs:Sl w (Lt w.heap.size) 3 A c (l.map GData.toD)) (hat:GTree.At w (Lt w.heap.size) A1 c1 A2 c2 x):
 Calls Tryz.prog 69 #[.agg #[.int .i64 x.op,.int .i64 x.n,.slice A1 x.path.length c1,.string x.s,.slice A2 x.kids.length c2],.pointer (some ⟨b,0,none⟩)] w fun e w'=>e= .returned (.bool (!x.okS l))/\Below w.heap.size w w':=by
 have E0:=LH (show Below w.heap.size w (w.alloc (.cells #[.int .i64 x.op,.int .i64 x.n,.slice A1 x.path.length c1,.string x.s,.slice A2 x.kids.length c2] 31)) from(Below.refl _ _).alloc (Nat.le_refl _) _)
 have hc2:=(E0.out.cell (p:=⟨b,0,none⟩) hb).trans hc
 have HC:=LH (HH l A c x A1 c1 A2 c2 (w.alloc (.cells #[.int .i64 x.op,.int .i64 x.n,.slice A1 x.path.length c1,.string x.s,.slice A2 x.kids.length c2] 31)) hk hm (hs.keep (keep_below E0.out E0.out.size)) (hat.below E0.out E0.out.size))
 clear HH hs hat
 go_enter Tryz.func69,Tryz.ntmps69
 go_wp2_with fail
 refine HC.out.mono ?_
 rintro e w1 ⟨rfl,hb1⟩
 have B1:=E0.out.trans (hb1.mono E0.out.size)
 go_wp2_with fail
 go_ret
 exact⟨rfl,B1⟩
theorem implTree (k:Nat):TreeTo k:=by
 induction k with
 | zero=>intro l A c t A1 c1 A2 c2 w hk;omega
 | succ k ih=>
  intro l A c t A1 c1 A2 c2 w hk hm hs hat
  have hpl:t.path.length<=9223372036854775807:=by simpa using hat.2.2.1.len
  have IH:=LH ih
  have HBJ:=LH (show ∀ x∈t.kids,x.bulk<k from fun x hx=>by have:=bulkL_mem GTree.bulk t.kids x hx;have:=t.bulk_eq;omega)
  have HM:=LH hm
  have S0:=LH hs
  have T0:=LH hat
  have HV:=LH (t.okS_eq l)
  have E1:=LH (show Below w.heap.size w ((w.alloc (.cells #[.slice A l.length c] 24)).alloc (.cells #[.int .i64 t.op,.int .i64 t.n,.slice A1 t.path.length c1,.string t.s,.slice A2 t.kids.length c2] 31)) from((Below.refl _ _).alloc (Nat.le_refl _) _).alloc (by simp) _)
  have RL0:=LH ((Row.new w 24 #[.slice A l.length c]).alloc (.cells #[.int .i64 t.op,.int .i64 t.n,.slice A1 t.path.length c1,.string t.s,.slice A2 t.kids.length c2] 31))
  have RT0:=LH (Row.new' (w.alloc (.cells #[.slice A l.length c] 24)) 31 #[.int .i64 t.op,.int .i64 t.n,.slice A1 t.path.length c1,.string t.s,.slice A2 t.kids.length c2] (g:=w.heap.size+1) (by simp))
  clear ih hk hs hat hm
  by_cases pp:t.path.length<=24
  rotate_left
  · have hv:=LH (show t.okS l=false by rw [HV.out,tree1_long (by omega)];simp)
    go_enter Tryz.func42,Tryz.ntmps42
    go_wp2_with fail
    go_ret
    exact⟨ret_bool hv.out.symm,E1.out⟩
  have ppi:(t.path.length:Int)<=24:=by omega
  go_enter Tryz.func42,Tryz.ntmps42
  go_wp2_with fail
  refine(containsFuncint 65 (enters Tryz.func65 (by kernel_rfl) (by kernel_rfl)) #[] (fun x=>decide (x<0)) t.path A1 c1 _ (T0.out.below E1.out E1.out.size).2.2.1
    (fun x hx w2 hb2 _=>implTreeNeg x w2)).mono ?_
  rintro e w1 ⟨rfl,hb1⟩
  have B1:=LH (E1.out.trans (hb1.mono E1.out.size))
  have RL1:=LH (RL0.out.below hb1 RL0.out.lt)
  have RT1:=LH (RT0.out.below hb1 RT0.out.lt)
  have hR:=fun i=>RT1.out.cell i
  have hL:=fun i=>RL1.out.cell i
  clear hb1
  rw [all_neg]
  cases hpa:(t.path.all fun x=>decide (0<=x))
  · have hv:=LH (show t.okS l=false by rw [HV.out,hpa];rfl)
    clear hpa
    go_wp2_with fail
    go_ret
    exact⟨ret_bool hv.out.symm,B1.out⟩
  have HV3:=LH (show t.okS l=(tree1 (tagI (tagOf t.s l 0)) t.op t.n t.s t.path.length t.kids.length&&t.kids.all (GTree.okS l)) by rw [HV.out,hpa,Bool.true_and])
  clear hpa HV
  cases o1:(t.op ==1)
  ·
   skip
   cases o2:(t.op ==2)
   ·
    skip
    cases o3:(t.op ==3)
    ·
     skip
     cases o4:(t.op ==4)
     · skip
       have hv:=LH (show tree1 (tagI (tagOf t.s l 0)) t.op t.n t.s t.path.length t.kids.length=false from by
         unfold tree1;simp only [beq_iff_eq,beq_eq_false_iff_ne,ne_eq] at o1 o2 o3 o4;simp [o1,o2,o3,o4])
       try clear hib
       go_wp2_with fail
       all_goals
        go_ret
        exact⟨ret_bool (by rw [HV3.out,hv.out];rfl),B1.out⟩
     ·
      skip
      go_wp2_with fail
      refine(implWordOkT t.n _).mono ?_
      rintro e w2 ⟨rfl,rfl⟩
      generalize hib:inB t.n (-1073741824) 1073741823=ib at*
      cases ib
      · skip
        have hv:=LH (show tree1 (tagI (tagOf t.s l 0)) t.op t.n t.s t.path.length t.kids.length=false from by
          unfold tree1;simp only [beq_iff_eq,beq_eq_false_iff_ne,ne_eq] at o1 o2 o3 o4;simp [o1,o2,o3,o4,hib])
        try clear hib
        go_wp2_with fail
        all_goals
         go_ret
         exact⟨ret_bool (by rw [HV3.out,hv.out];rfl),B1.out⟩
      ·
       skip
       cases es:(t.s.toList.isEmpty)
       · skip
         have hv:=LH (show tree1 (tagI (tagOf t.s l 0)) t.op t.n t.s t.path.length t.kids.length=false from by
           unfold tree1;simp only [beq_iff_eq,beq_eq_false_iff_ne,ne_eq] at o1 o2 o3 o4;simp [o1,o2,o3,o4,hib,es])
         try clear hib
         go_wp2_with fail
         all_goals
          go_ret
          exact⟨ret_bool (by rw [HV3.out,hv.out];rfl),B1.out⟩
       ·
        skip
        by_cases wk:t.kids.length=2
        ·
         have wk2:((t.kids.length:Int) ==2)=true:=by rw [beq_iff_eq];omega
         have hv:=LH (show tree1 (tagI (tagOf t.s l 0)) t.op t.n t.s t.path.length t.kids.length=true from by
           unfold tree1;simp only [beq_iff_eq,beq_eq_false_iff_ne,ne_eq] at o1 o2 o3 o4;simp [o1,o2,o3,o4,hib,es,pp,wk])
         clear wk
         try clear hib
         go_wp2_with fail
         refine(containsFuncTree 69 (enters Tryz.func69 (by kernel_rfl) (by kernel_rfl)) #[.pointer (some ⟨w.heap.size,0,none⟩)] (fun x=>!x.okS l) t.kids A2 c2 _ (T0.out.below B1.out B1.out.size).2.2.2.2
           (fun x hx A3 c3 A4 c4 w3 hb3 hat3=>by
             have R3:=RL1.out.below hb3 RL1.out.lt
             exact implTreeKid k IH.out l A c w.heap.size x A3 c3 A4 c4 w3 (HBJ.out x hx) HM.out (R3.cell 0) R3.lt (S0.out.below (B1.out.trans (hb3.mono B1.out.size)) (Nat.le_trans B1.out.size hb3.size)) hat3)).mono ?_
         rintro e w3 ⟨rfl,hb3⟩
         rw [all_not_anyT]
         have B3:=LH (B1.out.trans (hb3.mono B1.out.size))
         clear hb3
         go_wp2_with fail
         go_ret
         exact⟨ret_bool (by rw [HV3.out,hv.out];simp),B3.out⟩
        · have wk2:((t.kids.length:Int) ==2)=false:=by rw [beq_eq_false_iff_ne];omega
          have hv:=LH (show tree1 (tagI (tagOf t.s l 0)) t.op t.n t.s t.path.length t.kids.length=false from by
            unfold tree1;simp only [beq_iff_eq,beq_eq_false_iff_ne,ne_eq] at o1 o2 o3 o4;simp [o1,o2,o3,o4,hib,es,pp,wk])
          try clear hib
          go_wp2_with fail
          all_goals
           go_ret
           exact⟨ret_bool (by rw [HV3.out,hv.out];rfl),B1.out⟩
    ·
     skip
     cases en:(t.n ==0)
     · skip
       have hv:=LH (show tree1 (tagI (tagOf t.s l 0)) t.op t.n t.s t.path.length t.kids.length=false from by
         unfold tree1;simp only [beq_iff_eq,beq_eq_false_iff_ne,ne_eq] at o1 o2 o3 en;simp [o1,o2,o3,en])
       try clear hib
       go_wp2_with fail
       all_goals
        go_ret
        exact⟨ret_bool (by rw [HV3.out,hv.out];rfl),B1.out⟩
     ·
      skip
      have HS:=LH (S0.out.below B1.out B1.out.size)
      go_wp2_with fail
      refine(implConTag l A c t.s _ HM.out HS.out).mono ?_
      rintro e w2 ⟨rfl,hb2⟩
      have B2:=LH (B1.out.trans (hb2.mono B1.out.size))
      have RL2:=LH (RL1.out.below hb2 RL1.out.lt)
      have RT2:=LH (RT1.out.below hb2 RT1.out.lt)
      clear hR hL hb2
      have hR:=fun i=>RT2.out.cell i
      generalize tagI (tagOf t.s l 0)=tg at*
      by_cases tt:0<=tg
      ·
       by_cases wk:t.kids.length=2
       ·
        have wk2:((t.kids.length:Int) ==2)=true:=by rw [beq_iff_eq];omega
        have hv:=LH (show tree1 tg t.op t.n t.s t.path.length t.kids.length=true from by
          unfold tree1;simp only [beq_iff_eq,beq_eq_false_iff_ne,ne_eq] at o1 o2 o3 en;simp [o1,o2,o3,en,tt,pp,wk])
        clear wk
        try clear hib
        go_wp2_with fail
        refine(containsFuncTree 69 (enters Tryz.func69 (by kernel_rfl) (by kernel_rfl)) #[.pointer (some ⟨w.heap.size,0,none⟩)] (fun x=>!x.okS l) t.kids A2 c2 _ (T0.out.below B2.out B2.out.size).2.2.2.2
          (fun x hx A3 c3 A4 c4 w3 hb3 hat3=>by
            have R3:=RL2.out.below hb3 RL2.out.lt
            exact implTreeKid k IH.out l A c w.heap.size x A3 c3 A4 c4 w3 (HBJ.out x hx) HM.out (R3.cell 0) R3.lt (S0.out.below (B2.out.trans (hb3.mono B2.out.size)) (Nat.le_trans B2.out.size hb3.size)) hat3)).mono ?_
        rintro e w3 ⟨rfl,hb3⟩
        rw [all_not_anyT]
        have B3:=LH (B2.out.trans (hb3.mono B2.out.size))
        clear hb3
        go_wp2_with fail
        go_ret
        exact⟨ret_bool (by rw [HV3.out,hv.out];simp),B3.out⟩
       · have wk2:((t.kids.length:Int) ==2)=false:=by rw [beq_eq_false_iff_ne];omega
         have hv:=LH (show tree1 tg t.op t.n t.s t.path.length t.kids.length=false from by
           unfold tree1;simp only [beq_iff_eq,beq_eq_false_iff_ne,ne_eq] at o1 o2 o3 en;simp [o1,o2,o3,en,tt,pp,wk])
         try clear hib
         go_wp2_with fail
         all_goals
          go_ret
          exact⟨ret_bool (by rw [HV3.out,hv.out];rfl),B2.out⟩
      · have tt1:decide (0<=tg)=false:=decide_eq_false tt
        have hv:=LH (show tree1 tg t.op t.n t.s t.path.length t.kids.length=false from by
          unfold tree1;simp only [beq_iff_eq,beq_eq_false_iff_ne,ne_eq] at o1 o2 o3 en;simp [o1,o2,o3,en,tt])
        try clear hib
        go_wp2_with fail
        all_goals
         go_ret
         exact⟨ret_bool (by rw [HV3.out,hv.out];rfl),B2.out⟩
   ·
    skip
    cases en:(t.n ==0)
    · skip
      have hv:=LH (show tree1 (tagI (tagOf t.s l 0)) t.op t.n t.s t.path.length t.kids.length=false from by
        unfold tree1;simp only [beq_iff_eq,beq_eq_false_iff_ne,ne_eq] at o1 o2 en;simp [o1,o2,en])
      try clear hib
      go_wp2_with fail
      all_goals
       go_ret
       exact⟨ret_bool (by rw [HV3.out,hv.out];rfl),B1.out⟩
    ·
     skip
     by_cases zp:t.path.length=0
     ·
      have zp2:((t.path.length:Int) ==0)=true:=by rw [beq_iff_eq];omega
      cases es:(t.s.toList.isEmpty)
      · skip
        have hv:=LH (show tree1 (tagI (tagOf t.s l 0)) t.op t.n t.s t.path.length t.kids.length=false from by
          unfold tree1;simp only [beq_iff_eq,beq_eq_false_iff_ne,ne_eq] at o1 o2 en;simp [o1,o2,en,zp,es])
        try clear hib
        go_wp2_with fail
        all_goals
         go_ret
         exact⟨ret_bool (by rw [HV3.out,hv.out];rfl),B1.out⟩
      ·
       skip
       by_cases zk:t.kids.length=0
       ·
        have zk2:((t.kids.length:Int) ==0)=true:=by rw [beq_iff_eq];omega
        have hv:=LH (show tree1 (tagI (tagOf t.s l 0)) t.op t.n t.s t.path.length t.kids.length=true from by
          unfold tree1;simp only [beq_iff_eq,beq_eq_false_iff_ne,ne_eq] at o1 o2 en;simp [o1,o2,en,zp,es,zk])
        clear zk
        try clear hib
        go_wp2_with fail
        refine(containsFuncTree 69 (enters Tryz.func69 (by kernel_rfl) (by kernel_rfl)) #[.pointer (some ⟨w.heap.size,0,none⟩)] (fun x=>!x.okS l) t.kids A2 c2 _ (T0.out.below B1.out B1.out.size).2.2.2.2
          (fun x hx A3 c3 A4 c4 w3 hb3 hat3=>by
            have R3:=RL1.out.below hb3 RL1.out.lt
            exact implTreeKid k IH.out l A c w.heap.size x A3 c3 A4 c4 w3 (HBJ.out x hx) HM.out (R3.cell 0) R3.lt (S0.out.below (B1.out.trans (hb3.mono B1.out.size)) (Nat.le_trans B1.out.size hb3.size)) hat3)).mono ?_
        rintro e w3 ⟨rfl,hb3⟩
        rw [all_not_anyT]
        have B3:=LH (B1.out.trans (hb3.mono B1.out.size))
        clear hb3
        go_wp2_with fail
        go_ret
        exact⟨ret_bool (by rw [HV3.out,hv.out];simp),B3.out⟩
       · have zk2:((t.kids.length:Int) ==0)=false:=by rw [beq_eq_false_iff_ne];omega
         have hv:=LH (show tree1 (tagI (tagOf t.s l 0)) t.op t.n t.s t.path.length t.kids.length=false from by
           unfold tree1;simp only [beq_iff_eq,beq_eq_false_iff_ne,ne_eq] at o1 o2 en;simp [o1,o2,en,zp,es,zk])
         try clear hib
         go_wp2_with fail
         all_goals
          go_ret
          exact⟨ret_bool (by rw [HV3.out,hv.out];rfl),B1.out⟩
     · have zp2:((t.path.length:Int) ==0)=false:=by rw [beq_eq_false_iff_ne];omega
       have hv:=LH (show tree1 (tagI (tagOf t.s l 0)) t.op t.n t.s t.path.length t.kids.length=false from by
         unfold tree1;simp only [beq_iff_eq,beq_eq_false_iff_ne,ne_eq] at o1 o2 en;simp [o1,o2,en,zp])
       try clear hib
       go_wp2_with fail
       all_goals
        go_ret
        exact⟨ret_bool (by rw [HV3.out,hv.out];rfl),B1.out⟩
  ·
   skip
   by_cases nn:0<=t.n
   ·
    by_cases zp:t.path.length=0
    ·
     have zp2:((t.path.length:Int) ==0)=true:=by rw [beq_iff_eq];omega
     cases es:(t.s.toList.isEmpty)
     · skip
       have hv:=LH (show tree1 (tagI (tagOf t.s l 0)) t.op t.n t.s t.path.length t.kids.length=false from by
         unfold tree1;simp only [beq_iff_eq,beq_eq_false_iff_ne,ne_eq] at o1;simp [o1,nn,zp,es])
       try clear hib
       go_wp2_with fail
       all_goals
        go_ret
        exact⟨ret_bool (by rw [HV3.out,hv.out];rfl),B1.out⟩
     ·
      skip
      by_cases zk:t.kids.length=0
      ·
       have zk2:((t.kids.length:Int) ==0)=true:=by rw [beq_iff_eq];omega
       have hv:=LH (show tree1 (tagI (tagOf t.s l 0)) t.op t.n t.s t.path.length t.kids.length=true from by
         unfold tree1;simp only [beq_iff_eq,beq_eq_false_iff_ne,ne_eq] at o1;simp [o1,nn,zp,es,zk])
       clear zk
       try clear hib
       go_wp2_with fail
       refine(containsFuncTree 69 (enters Tryz.func69 (by kernel_rfl) (by kernel_rfl)) #[.pointer (some ⟨w.heap.size,0,none⟩)] (fun x=>!x.okS l) t.kids A2 c2 _ (T0.out.below B1.out B1.out.size).2.2.2.2
         (fun x hx A3 c3 A4 c4 w3 hb3 hat3=>by
           have R3:=RL1.out.below hb3 RL1.out.lt
           exact implTreeKid k IH.out l A c w.heap.size x A3 c3 A4 c4 w3 (HBJ.out x hx) HM.out (R3.cell 0) R3.lt (S0.out.below (B1.out.trans (hb3.mono B1.out.size)) (Nat.le_trans B1.out.size hb3.size)) hat3)).mono ?_
       rintro e w3 ⟨rfl,hb3⟩
       rw [all_not_anyT]
       have B3:=LH (B1.out.trans (hb3.mono B1.out.size))
       clear hb3
       go_wp2_with fail
       go_ret
       exact⟨ret_bool (by rw [HV3.out,hv.out];simp),B3.out⟩
      · have zk2:((t.kids.length:Int) ==0)=false:=by rw [beq_eq_false_iff_ne];omega
        have hv:=LH (show tree1 (tagI (tagOf t.s l 0)) t.op t.n t.s t.path.length t.kids.length=false from by
          unfold tree1;simp only [beq_iff_eq,beq_eq_false_iff_ne,ne_eq] at o1;simp [o1,nn,zp,es,zk])
        try clear hib
        go_wp2_with fail
        all_goals
         go_ret
         exact⟨ret_bool (by rw [HV3.out,hv.out];rfl),B1.out⟩
    · have zp2:((t.path.length:Int) ==0)=false:=by rw [beq_eq_false_iff_ne];omega
      have hv:=LH (show tree1 (tagI (tagOf t.s l 0)) t.op t.n t.s t.path.length t.kids.length=false from by
        unfold tree1;simp only [beq_iff_eq,beq_eq_false_iff_ne,ne_eq] at o1;simp [o1,nn,zp])
      try clear hib
      go_wp2_with fail
      all_goals
       go_ret
       exact⟨ret_bool (by rw [HV3.out,hv.out];rfl),B1.out⟩
   ·
    have nn1:decide (0<=t.n)=false:=decide_eq_false nn
    have hv:=LH (show tree1 (tagI (tagOf t.s l 0)) t.op t.n t.s t.path.length t.kids.length=false from by
      unfold tree1;simp only [beq_iff_eq,beq_eq_false_iff_ne,ne_eq] at o1;simp [o1,nn])
    try clear hib
    go_wp2_with fail
    all_goals
     go_ret
     exact⟨ret_bool (by rw [HV3.out,hv.out];rfl),B1.out⟩
theorem specTreeOk (l:List GData) (A:Option Addr) (c:Nat) (t:GTree) (A1:Option Addr) (c1:Nat) (A2:Option Addr) (c2:Nat) (w:World) (hn:t.nodes<=4611686018427387904) (hm:consN l<=1048576) (hs:Sl w (Lt w.heap.size) 3 A c (l.map GData.toD)) (ht:GTree.At w (Lt w.heap.size) A1 c1 A2 c2 t):
 Calls Tryz.prog 16 #[.slice A l.length c,.agg #[.int .i64 t.op,.int .i64 t.n,.slice A1 t.path.length c1,.string t.s,.slice A2 t.kids.length c2]] w fun e w'=>e= .returned (.bool (t.ok l))/\Below w.heap.size w w':=by
 have E0:Below w.heap.size w (w.alloc (.cells #[.int .i64 t.op,.int .i64 t.n,.slice A1 t.path.length c1,.string t.s,.slice A2 t.kids.length c2] 31)):=(Below.refl _ _).alloc (Nat.le_refl _) _
 have r0:=LH (Row.new w 31 #[.int .i64 t.op,.int .i64 t.n,.slice A1 t.path.length c1,.string t.s,.slice A2 t.kids.length c2])
 have T0:=LH ht
 have S0:=LH hs
 have HM:=LH hm
 clear ht hs hm
 go_enter Tryz.func16,Tryz.ntmps16
 go_wp2_with fail
 refine(specTreeSize t.nodes t A1 c1 A2 c2 _ (Nat.le_refl _) hn (T0.out.below E0 E0.size)).mono ?_
 rintro e w1 ⟨rfl,hb1⟩
 have B1:=E0.trans (hb1.mono E0.size)
 have r1:=LH (r0.out.below hb1 r0.out.lt)
 have hc1:=fun i=>r1.out.cell i
 by_cases h:t.nodes<=300
 ·
  have hI:(t.nodes:Int)<=300:=by omega
  have HS:=LH (S0.out.keep (keep_below B1 B1.size))
  go_wp2_with fail
  refine(specTree (t.bulk+1) l A c t A1 c1 A2 c2 _ (by omega) HM.out HS.out (T0.out.below B1 B1.size)).mono ?_
  rintro e w2 ⟨rfl,hb2⟩
  go_wp2_with fail
  go_ret
  exact⟨ret_bool (by unfold GTree.ok;simp [h]),B1.trans (hb2.mono B1.size)⟩
 ·
  have hI:¬ (t.nodes:Int)<=300:=by omega
  have hI2:decide ((t.nodes:Int)<=300)=false:=by simpa using hI
  go_wp2_with fail
  go_ret
  exact⟨ret_bool (by unfold GTree.ok;simp [h]),B1⟩
theorem implTreeOk (l:List GData) (A:Option Addr) (c:Nat) (t:GTree) (A1:Option Addr) (c1:Nat) (A2:Option Addr) (c2:Nat) (w:World) (hn:t.nodes<=4611686018427387904) (hm:consN l<=1048576) (hs:Sl w (Lt w.heap.size) 3 A c (l.map GData.toD)) (ht:GTree.At w (Lt w.heap.size) A1 c1 A2 c2 t):
 Calls Tryz.prog 15 #[.slice A l.length c,.agg #[.int .i64 t.op,.int .i64 t.n,.slice A1 t.path.length c1,.string t.s,.slice A2 t.kids.length c2]] w fun e w'=>e= .returned (.bool (t.ok l))/\Below w.heap.size w w':=by
 have E0:Below w.heap.size w (w.alloc (.cells #[.int .i64 t.op,.int .i64 t.n,.slice A1 t.path.length c1,.string t.s,.slice A2 t.kids.length c2] 31)):=(Below.refl _ _).alloc (Nat.le_refl _) _
 have r0:=LH (Row.new w 31 #[.int .i64 t.op,.int .i64 t.n,.slice A1 t.path.length c1,.string t.s,.slice A2 t.kids.length c2])
 have T0:=LH ht
 have S0:=LH hs
 have HM:=LH hm
 clear ht hs hm
 go_enter Tryz.func15,Tryz.ntmps15
 go_wp2_with fail
 refine(implTreeSize t.nodes t A1 c1 A2 c2 _ (Nat.le_refl _) hn (T0.out.below E0 E0.size)).mono ?_
 rintro e w1 ⟨rfl,hb1⟩
 have B1:=E0.trans (hb1.mono E0.size)
 have r1:=LH (r0.out.below hb1 r0.out.lt)
 have hc1:=fun i=>r1.out.cell i
 by_cases h:t.nodes<=300
 ·
  have hI:(t.nodes:Int)<=300:=by omega
  have HS:=LH (S0.out.keep (keep_below B1 B1.size))
  go_wp2_with fail
  refine(implTree (t.bulk+1) l A c t A1 c1 A2 c2 _ (by omega) HM.out HS.out (T0.out.below B1 B1.size)).mono ?_
  rintro e w2 ⟨rfl,hb2⟩
  go_wp2_with fail
  go_ret
  exact⟨ret_bool (by unfold GTree.ok;simp [h]),B1.trans (hb2.mono B1.size)⟩
 ·
  have hI:¬ (t.nodes:Int)<=300:=by omega
  have hI2:decide ((t.nodes:Int)<=300)=false:=by simpa using hI
  go_wp2_with fail
  go_ret
  exact⟨ret_bool (by unfold GTree.ok;simp [h]),B1⟩
set_option maxHeartbeats 1000000
theorem kidsA_memP (path:List Int):∀ (i:Nat) (l:List GNode) (x:GAsk),x∈kidsA path i l->∃ j,∃ h:j<l.length,x=⟨path++[((i+j:Nat):Int)],l[j]⟩
 | _,[],x,h=>by simp [kidsA] at h
 | i,k::r,x,h=>by
  simp only [kidsA,List.mem_cons] at h
  rcases h with rfl | h
  · exact⟨0,by simp,rfl⟩
  · obtain⟨j,hj,rfl⟩:=kidsA_memP path (i+1) r x h
    exact⟨j+1,by simpa using hj,by rw [show i+(j+1)=i+1+j by omega];rfl⟩
theorem askT_path (a:GAsk) (kids:List GTree):(askT a kids).path=a.path/\(askT a kids).kids=kids/\(((askT a kids).op ==3)=true\/((askT a kids).op ==4)=true):=by
 unfold askT;split<;>exact⟨rfl,rfl,by simp [GTree.op]⟩
theorem tagIn_both (s:ByteArray):∀ (l:List GCon) (a b:Nat),(tagIn s l a).isSome=(tagIn s l b).isSome
 | [],_,_=>rfl
 | c::r,a,b=>by
  simp only [tagIn]
  split
  · rfl
  · exact tagIn_both s r (a+1) (b+1)
theorem conOf_tag (s:ByteArray):∀ (ds:List GData) (j n:Nat),(conOf s ds j).isSome=true->(tagOf s ds n).isSome=true
 | [],_,_,h=>by simp [conOf] at h
 | d::r,j,n,h=>by
  have hb:=tagIn_both s d.cons 0 n
  simp only [conOf] at h
  simp only [tagOf]
  cases h0:tagIn s d.cons 0 with
  | some k=>
   rw [h0] at hb
   cases h1:tagIn s d.cons n with
   | some x=>rfl
   | none=>rw [h1] at hb;simp at hb
  | none=>
   rw [h0] at h hb
   cases h1:tagIn s d.cons n with
   | some x=>rfl
   | none=>exact conOf_tag s r (j+1) (n+d.cons.length) h
theorem argsOk_tag {ds:List GData} {s:ByteArray} {n:Nat} (h:argsOk ds s n=true):0<=tagI (tagOf s ds 0):=by
 unfold argsOk conConV at h
 have hc:(conOf s ds 0).isSome=true:=by
  cases hco:conOf s ds 0 with
  | some x=>rfl
  | none=>rw [hco] at h;simp at h
 have ht:=conOf_tag s ds 0 0 hc
 cases hto:tagOf s ds 0 with
 | some x=>simp [tagI]
 | none=>rw [hto] at ht;simp at ht
theorem empty_isE:(ByteArray.mk #[]).toList.isEmpty=true:=by rw [ByteArray.toList_eq];rfl
theorem tree1_done (tg n:Int) (s:ByteArray) (np nk:Nat):tree1 tg 1 n s np nk=(decide (0<=n)&&(np ==0&&(s.toList.isEmpty&&nk ==0))):=by unfold tree1;rw [if_pos rfl]
theorem tree1_fail (tg n:Int) (s:ByteArray) (np nk:Nat):tree1 tg 2 n s np nk=(n ==0&&(np ==0&&(s.toList.isEmpty&&nk ==0))):=by unfold tree1;rw [if_neg (by decide),if_pos rfl]
theorem tree1_con (tg n:Int) (s:ByteArray) (np nk:Nat):tree1 tg 3 n s np nk=(n ==0&&(decide (0<=tg)&&(nk ==2&&decide (np<=24)))):=by unfold tree1;rw [if_neg (by decide),if_neg (by decide),if_pos rfl]
theorem tree1_num (tg n:Int) (s:ByteArray) (np nk:Nat):tree1 tg 4 n s np nk=(inB n (-1073741824) 1073741823&&(s.toList.isEmpty&&(nk ==2&&decide (np<=24)))):=by unfold tree1;rw [if_neg (by decide),if_neg (by decide),if_neg (by decide),if_pos rfl]
theorem trees_op {ds:List GData} {l:List GNode} (h:(treesV ds l).2=false):treesV ds l=(zeroT,false):=by
 unfold treesV at h ⊢
 split
 · split
   · rename_i h1 h2;rw [if_pos h1,if_pos h2] at h;cases h
   · rfl
 · rfl
theorem patD_bulk:∀ (d:Nat) (p:GNode),patD d p->p.bulk+6<=6*2 ^ d
 | 0,p,h=>by obtain rfl:=h;rw [GNode.bulk_eq];simp [GNode.s,GNode.t,GNode.kids,bulkL,ByteArray.size]
 | d+1,p,h=>by
  have h1:1<=2 ^ d:=Nat.one_le_two_pow
  rw [Nat.pow_succ]
  rcases h with rfl | ⟨x,hx,rfl⟩ | rfl | rfl | ⟨a,b,ha,hb',rfl⟩ | ⟨a,ha,rfl⟩
  · rw [GNode.bulk_eq];simp [GNode.s,GNode.t,GNode.kids,bulkL,ByteArray.size];omega
  · rw [GNode.bulk_eq];simp [GNode.s,GNode.t,GNode.kids,bulkL,ByteArray.size];omega
  · rw [GNode.bulk_eq];simp [GNode.s,GNode.t,GNode.kids,bulkL,ByteArray.size,sNil];omega
  · rw [GNode.bulk_eq];simp [GNode.s,GNode.t,GNode.kids,bulkL,ByteArray.size,sNone];omega
  · have i1:=patD_bulk d a ha
    have i2:=patD_bulk d b hb'
    rw [GNode.bulk_eq];simp [GNode.s,GNode.t,GNode.kids,bulkL,ByteArray.size,sCons];omega
  · have i1:=patD_bulk d a ha
    rw [GNode.bulk_eq];simp [GNode.s,GNode.t,GNode.kids,bulkL,ByteArray.size,sSome];omega
theorem consN_bulk9 (ds:List GData):consN ds<=bulkL GData.bulk ds:=by
 induction ds with
 | nil=>simp [consN]
 | cons d r ih=>
  have h:=GData.bulk_eq d
  have h2:=bulkL_len GCon.bulk d.cons
  simp only [consN,bulkL]
  omega
end Go.Proofs.YtamfolaicncblaaGreat
