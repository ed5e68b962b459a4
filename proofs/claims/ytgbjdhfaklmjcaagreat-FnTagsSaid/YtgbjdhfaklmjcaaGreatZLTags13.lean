/- Texts of the claim LTags in one: PatTidy NodeP FTy TyTidy Max Deep DeepTy. Conditions: none but bounds on sizes. -/
import Derived.Test.YtgbjdhfaklmjcaaGreatZLTags12
import Derived.Test.YtgbjdhfaklmjcaaGreatRows
import Derived.Test.YtgbjdhfaklmjcaaGreatZLTags0
import Derived.Lib.Hide
import Derived.Test.YtgbjdhfaklmjcaaGreatZLTags1
namespace Go.Proofs.YtgbjdhfaklmjcaaGreat
set_option maxRecDepth 20000
set_option linter.unusedVariables false
set_option linter.unusedSimpArgs false
open Go.RowKit
set_option maxHeartbeats 1000000
def pat1 (op n:Int) (s t:ByteArray) (k:Nat):Bool:=
 t.toList.isEmpty&&(if op=17 then k ==0&&(n ==0&&s.toList.isEmpty)
 else if op=18 then k ==0&&(n ==0&&nameB s)
 else if op=19 then k ==0&&(inB n 0 1073741823&&s.toList.isEmpty)
 else if op=20 then n ==0&&conB s else false)
mutual
def GNode.pat:GNode->Bool | .mk op n s t kids=>pat1 op n s t kids.length&&GNode.patL kids
def GNode.patL:List GNode->Bool | []=>true | t::r=>t.pat&&GNode.patL r
end
theorem GNode.pat_eq (t:GNode):t.pat=(pat1 t.op t.n t.s t.t t.kids.length&&GNode.patL t.kids):=by
 cases t;simp only [GNode.pat,GNode.op,GNode.n,GNode.s,GNode.t,GNode.kids]
theorem GNode.patL_all:∀ l:List GNode,GNode.patL l=l.all GNode.pat
 | []=>rfl
 | t::r=>by simp only [GNode.patL,List.all_cons,GNode.patL_all r]
theorem specPatTidy (k:Nat):∀ (t:GNode) (A1:Option Addr) (c1:Nat) (w:World),t.bulk<k->GNode.At w (Lt w.heap.size) A1 c1 t->
 Calls Tryz.prog 103 #[.agg #[.int .i64 t.op,.int .i64 t.n,.string t.s,.string t.t,.slice A1 t.kids.length c1]] w fun e w'=>e= .returned (.bool t.pat)/\Below w.heap.size w w':=by
 induction k with
 | zero=>intro t A1 c1 w h;omega
 | succ k ih=>
  intro t A1 c1 w hk0 ht
  obtain⟨h0,h1,h2,h3,hs⟩:=id ht
  have hsz2:t.s.size<=9223372036854775807:=by unfold maxLen at h2;omega
  have hlen:t.kids.length<=9223372036854775807:=by simpa using hs.len
  have hte:=LH t.pat_eq
  have hbe:=t.bulk_eq
  go_enter Tryz.func103,Tryz.ntmps103
  go_wp2_with fail
  go_loopw [3] (fun i wr=>∃ j:Nat,j<=t.kids.length/\i= .int .i64 j/\Hid ((t.kids.take j).all GNode.pat=true)/\Hid (Below w.heap.size w wr)/\Hid (Row wr w.heap.size 45 #[.int .i64 t.op,.int .i64 t.n,.string t.s,.string t.t,.slice A1 t.kids.length c1])) (fun i _=>t.kids.length - (intOf i).toNat)
  case atStart=>exact⟨0,by omega,by go_num,LH (by simp),LH ((Below.refl _ _).alloc (Nat.le_refl _) _),LH (Row.new _ _ _)⟩
  case round=>
   obtain⟨j,hj,rfl,Hall,hbl,R⟩:=hrel
   have hsz:=hbl.out.size
   have hc:=fun i=>R.out.cell i
   by_cases hlt:j<t.kids.length
   ·
    have htr:=GNode.elem (hs.below hbl.out (Nat.le_refl _)) j hlt
    obtain⟨b,off,A2,c2,rfl,hSb,g0,g1,g2,g3,g4,hat⟩:=htr
    have hmem:t.kids[j]∈t.kids:=List.getElem_mem hlt
    have hxb:(t.kids[j]).bulk<k:=by have:=bulkL_mem GNode.bulk t.kids _ hmem;omega
    clear hbe
    go_wp2_with fail
    refine(ih _ A2 c2 _ hxb (hat.below (Below.refl _ _) hsz)).mono ?_
    rintro e w1 ⟨rfl,hb1⟩
    cases he:(t.kids[j]).pat
    · have hn:=LH (show t.kids.all GNode.pat=false from by rw [<- Bool.not_eq_true];intro h;have:=List.all_eq_true.1 h _ hmem;rw [he] at this;cases this)
      clear he
      go_wp2_with fail
      go_ret
      exact⟨ret_bool (by rw [hte.out,GNode.patL_all,hn.out];simp),hbl.out.trans (hb1.mono hsz)⟩
    · have he2:=LH he
      clear he
      go_wp2_with fail
      go_roundw
      case rel=>exact⟨j+1,by omega,by go_num,LH (by rw [take_snoc' _ j hlt,List.all_append,Hall.out];simp [he2.out]),LH (hbl.out.trans (hb1.mono hsz)),LH (R.out.below hb1 R.out.lt)⟩
      case measure=>simp [intOf];omega
   ·
    have hjl:j=t.kids.length:=by omega
    have hko:=LH (show GNode.patL t.kids=true from by rw [GNode.patL_all];have:=Hall.out;rwa [hjl,List.take_length] at this)
    clear hjl ih hbe Hall h0 h1 h2 h3 hs ht
    cases te:(t.t.toList.isEmpty)
    · skip
      have hv:=LH (show pat1 t.op t.n t.s t.t t.kids.length=false from by
        unfold pat1;simp [te])
      go_wp2_with fail
      go_ret
      exact⟨ret_bool (by rw [hte.out,hv.out,hko.out];rfl),hbl.out⟩
    ·
     skip
     by_cases o17:t.op=17
     ·
      skip
      by_cases hk:t.kids.length=0
      ·
       skip
       cases a:(t.n ==0)
       ·
        skip
        have hv:=LH (show pat1 t.op t.n t.s t.t t.kids.length=false from by
          unfold pat1;simp [te,o17,hk,a])
        have p17:(t.op ==17)=true:=by rw [o17];rfl
        have r17:(t.op != 17)=false:=by rw [o17];rfl
        have p18:(t.op ==18)=false:=by rw [o17];rfl
        have r18:(t.op != 18)=true:=by rw [o17];rfl
        have p19:(t.op ==19)=false:=by rw [o17];rfl
        have r19:(t.op != 19)=true:=by rw [o17];rfl
        have p20:(t.op ==20)=false:=by rw [o17];rfl
        have r20:(t.op != 20)=true:=by rw [o17];rfl
        clear o17
        have hk1:(t.kids.length ==0)=true:=by simp [hk]
        have hk2:((t.kids.length:Int) ==0)=true:=by rw [beq_iff_eq];omega
        have hk3:¬ (0:Int)<(t.kids.length:Int):=by omega
        have hk4:decide (0<t.kids.length)=false:=by simp [hk]
        have Hhk:=LH hk
        clear hk
        have an:(t.n != 0)=true:=by simp only [bne,a];rfl
        go_wp2_with fail
        go_ret
        exact⟨ret_bool (by rw [hte.out,hv.out,hko.out];rfl),hbl.out⟩
       ·
        skip
        cases b:(t.s.toList.isEmpty)
        ·
         skip
         have hv:=LH (show pat1 t.op t.n t.s t.t t.kids.length=false from by
           unfold pat1;simp [te,o17,hk,a,b])
         have p17:(t.op ==17)=true:=by rw [o17];rfl
         have r17:(t.op != 17)=false:=by rw [o17];rfl
         have p18:(t.op ==18)=false:=by rw [o17];rfl
         have r18:(t.op != 18)=true:=by rw [o17];rfl
         have p19:(t.op ==19)=false:=by rw [o17];rfl
         have r19:(t.op != 19)=true:=by rw [o17];rfl
         have p20:(t.op ==20)=false:=by rw [o17];rfl
         have r20:(t.op != 20)=true:=by rw [o17];rfl
         clear o17
         have hk1:(t.kids.length ==0)=true:=by simp [hk]
         have hk2:((t.kids.length:Int) ==0)=true:=by rw [beq_iff_eq];omega
         have hk3:¬ (0:Int)<(t.kids.length:Int):=by omega
         have hk4:decide (0<t.kids.length)=false:=by simp [hk]
         have Hhk:=LH hk
         clear hk
         have an:(t.n != 0)=false:=by simp only [bne,a];rfl
         go_wp2_with fail
         go_ret
         exact⟨ret_bool (by rw [hte.out,hv.out,hko.out];rfl),hbl.out⟩
        ·
         skip
         have hv:=LH (show pat1 t.op t.n t.s t.t t.kids.length=true from by
           unfold pat1;simp [te,o17,hk,a,b])
         have hkn:=LH (show GNode.patL t.kids=true from by rw [List.eq_nil_of_length_eq_zero hk];rfl)
         have p17:(t.op ==17)=true:=by rw [o17];rfl
         have r17:(t.op != 17)=false:=by rw [o17];rfl
         have p18:(t.op ==18)=false:=by rw [o17];rfl
         have r18:(t.op != 18)=true:=by rw [o17];rfl
         have p19:(t.op ==19)=false:=by rw [o17];rfl
         have r19:(t.op != 19)=true:=by rw [o17];rfl
         have p20:(t.op ==20)=false:=by rw [o17];rfl
         have r20:(t.op != 20)=true:=by rw [o17];rfl
         clear o17
         have hk1:(t.kids.length ==0)=true:=by simp [hk]
         have hk2:((t.kids.length:Int) ==0)=true:=by rw [beq_iff_eq];omega
         have hk3:¬ (0:Int)<(t.kids.length:Int):=by omega
         have hk4:decide (0<t.kids.length)=false:=by simp [hk]
         have Hhk:=LH hk
         clear hk
         have an:(t.n != 0)=false:=by simp only [bne,a];rfl
         go_wp2_with fail
         go_ret
         exact⟨ret_bool (by rw [hte.out,hv.out,hko.out];rfl),hbl.out⟩
      ·
       skip
       have hv:=LH (show pat1 t.op t.n t.s t.t t.kids.length=false from by
         unfold pat1;simp [te,o17,hk])
       have p17:(t.op ==17)=true:=by rw [o17];rfl
       have r17:(t.op != 17)=false:=by rw [o17];rfl
       have p18:(t.op ==18)=false:=by rw [o17];rfl
       have r18:(t.op != 18)=true:=by rw [o17];rfl
       have p19:(t.op ==19)=false:=by rw [o17];rfl
       have r19:(t.op != 19)=true:=by rw [o17];rfl
       have p20:(t.op ==20)=false:=by rw [o17];rfl
       have r20:(t.op != 20)=true:=by rw [o17];rfl
       clear o17
       have hk1:(t.kids.length ==0)=false:=by simp [hk]
       have hk2:((t.kids.length:Int) ==0)=false:=by rw [beq_eq_false_iff_ne];omega
       have hk3:(0:Int)<(t.kids.length:Int):=by omega
       have hk4:decide (0<t.kids.length)=true:=decide_eq_true (by omega)
       have Hhk:=LH hk
       clear hk
       go_wp2_with fail
       go_ret
       exact⟨ret_bool (by rw [hte.out,hv.out,hko.out];rfl),hbl.out⟩
     ·
      skip
      by_cases o18:t.op=18
      ·
       skip
       by_cases hk:t.kids.length=0
       ·
        skip
        cases a:(t.n ==0)
        ·
         skip
         have hv:=LH (show pat1 t.op t.n t.s t.t t.kids.length=false from by
           unfold pat1;simp [te,o17,o18,hk,a])
         have p17:(t.op ==17)=false:=by rw [o18];rfl
         have r17:(t.op != 17)=true:=by rw [o18];rfl
         have p18:(t.op ==18)=true:=by rw [o18];rfl
         have r18:(t.op != 18)=false:=by rw [o18];rfl
         have p19:(t.op ==19)=false:=by rw [o18];rfl
         have r19:(t.op != 19)=true:=by rw [o18];rfl
         have p20:(t.op ==20)=false:=by rw [o18];rfl
         have r20:(t.op != 20)=true:=by rw [o18];rfl
         clear o17
         clear o18
         have hk1:(t.kids.length ==0)=true:=by simp [hk]
         have hk2:((t.kids.length:Int) ==0)=true:=by rw [beq_iff_eq];omega
         have hk3:¬ (0:Int)<(t.kids.length:Int):=by omega
         have hk4:decide (0<t.kids.length)=false:=by simp [hk]
         have Hhk:=LH hk
         clear hk
         have an:(t.n != 0)=true:=by simp only [bne,a];rfl
         go_wp2_with fail
         go_ret
         exact⟨ret_bool (by rw [hte.out,hv.out,hko.out];rfl),hbl.out⟩
        ·
         skip
         cases nb:(nameB t.s)
         ·
          skip
          have hv:=LH (show pat1 t.op t.n t.s t.t t.kids.length=false from by
            unfold pat1;simp [te,o17,o18,hk,a,nb])
          have p17:(t.op ==17)=false:=by rw [o18];rfl
          have r17:(t.op != 17)=true:=by rw [o18];rfl
          have p18:(t.op ==18)=true:=by rw [o18];rfl
          have r18:(t.op != 18)=false:=by rw [o18];rfl
          have p19:(t.op ==19)=false:=by rw [o18];rfl
          have r19:(t.op != 19)=true:=by rw [o18];rfl
          have p20:(t.op ==20)=false:=by rw [o18];rfl
          have r20:(t.op != 20)=true:=by rw [o18];rfl
          clear o17
          clear o18
          have hk1:(t.kids.length ==0)=true:=by simp [hk]
          have hk2:((t.kids.length:Int) ==0)=true:=by rw [beq_iff_eq];omega
          have hk3:¬ (0:Int)<(t.kids.length:Int):=by omega
          have hk4:decide (0<t.kids.length)=false:=by simp [hk]
          have Hhk:=LH hk
          clear hk
          have an:(t.n != 0)=false:=by simp only [bne,a];rfl
          have HNM:=LH (fun(wx:World)=>specName t.s wx hsz2)
          rw [nb] at HNM
          clear nb
          go_wp2_with (first | (go_at_call 92;refine(HNM.out _).mono ?_;rintro e w9 ⟨rfl,hb9⟩;have B9:=LH hb9;have R9:=LH (R.out.below hb9 R.out.lt);have hc9:=fun i=>R9.out.cell i;clear hb9))
          go_ret
          exact⟨ret_bool (by rw [hte.out,hv.out,hko.out];rfl),hbl.out.trans (B9.out.mono hsz)⟩
         ·
          skip
          have hv:=LH (show pat1 t.op t.n t.s t.t t.kids.length=true from by
            unfold pat1;simp [te,o17,o18,hk,a,nb])
          have hkn:=LH (show GNode.patL t.kids=true from by rw [List.eq_nil_of_length_eq_zero hk];rfl)
          have p17:(t.op ==17)=false:=by rw [o18];rfl
          have r17:(t.op != 17)=true:=by rw [o18];rfl
          have p18:(t.op ==18)=true:=by rw [o18];rfl
          have r18:(t.op != 18)=false:=by rw [o18];rfl
          have p19:(t.op ==19)=false:=by rw [o18];rfl
          have r19:(t.op != 19)=true:=by rw [o18];rfl
          have p20:(t.op ==20)=false:=by rw [o18];rfl
          have r20:(t.op != 20)=true:=by rw [o18];rfl
          clear o17
          clear o18
          have hk1:(t.kids.length ==0)=true:=by simp [hk]
          have hk2:((t.kids.length:Int) ==0)=true:=by rw [beq_iff_eq];omega
          have hk3:¬ (0:Int)<(t.kids.length:Int):=by omega
          have hk4:decide (0<t.kids.length)=false:=by simp [hk]
          have Hhk:=LH hk
          clear hk
          have an:(t.n != 0)=false:=by simp only [bne,a];rfl
          have HNM:=LH (fun(wx:World)=>specName t.s wx hsz2)
          rw [nb] at HNM
          clear nb
          go_wp2_with (first | (go_at_call 92;refine(HNM.out _).mono ?_;rintro e w9 ⟨rfl,hb9⟩;have B9:=LH hb9;have R9:=LH (R.out.below hb9 R.out.lt);have hc9:=fun i=>R9.out.cell i;clear hb9))
          go_ret
          exact⟨ret_bool (by rw [hte.out,hv.out,hko.out];rfl),hbl.out.trans (B9.out.mono hsz)⟩
       ·
        skip
        have hv:=LH (show pat1 t.op t.n t.s t.t t.kids.length=false from by
          unfold pat1;simp [te,o17,o18,hk])
        have p17:(t.op ==17)=false:=by rw [o18];rfl
        have r17:(t.op != 17)=true:=by rw [o18];rfl
        have p18:(t.op ==18)=true:=by rw [o18];rfl
        have r18:(t.op != 18)=false:=by rw [o18];rfl
        have p19:(t.op ==19)=false:=by rw [o18];rfl
        have r19:(t.op != 19)=true:=by rw [o18];rfl
        have p20:(t.op ==20)=false:=by rw [o18];rfl
        have r20:(t.op != 20)=true:=by rw [o18];rfl
        clear o17
        clear o18
        have hk1:(t.kids.length ==0)=false:=by simp [hk]
        have hk2:((t.kids.length:Int) ==0)=false:=by rw [beq_eq_false_iff_ne];omega
        have hk3:(0:Int)<(t.kids.length:Int):=by omega
        have hk4:decide (0<t.kids.length)=true:=decide_eq_true (by omega)
        have Hhk:=LH hk
        clear hk
        go_wp2_with fail
        go_ret
        exact⟨ret_bool (by rw [hte.out,hv.out,hko.out];rfl),hbl.out⟩
      ·
       skip
       by_cases o19:t.op=19
       ·
        skip
        by_cases hk:t.kids.length=0
        ·
         skip
         cases b:(t.s.toList.isEmpty)
         ·
          skip
          have hv:=LH (show pat1 t.op t.n t.s t.t t.kids.length=false from by
            unfold pat1;simp [te,o17,o18,o19,hk,b])
          have p17:(t.op ==17)=false:=by rw [o19];rfl
          have r17:(t.op != 17)=true:=by rw [o19];rfl
          have p18:(t.op ==18)=false:=by rw [o19];rfl
          have r18:(t.op != 18)=true:=by rw [o19];rfl
          have p19:(t.op ==19)=true:=by rw [o19];rfl
          have r19:(t.op != 19)=false:=by rw [o19];rfl
          have p20:(t.op ==20)=false:=by rw [o19];rfl
          have r20:(t.op != 20)=true:=by rw [o19];rfl
          clear o17
          clear o18
          clear o19
          have hk1:(t.kids.length ==0)=true:=by simp [hk]
          have hk2:((t.kids.length:Int) ==0)=true:=by rw [beq_iff_eq];omega
          have hk3:¬ (0:Int)<(t.kids.length:Int):=by omega
          have hk4:decide (0<t.kids.length)=false:=by simp [hk]
          have Hhk:=LH hk
          clear hk
          go_wp2_with fail
          go_ret
          exact⟨ret_bool (by rw [hte.out,hv.out,hko.out];rfl),hbl.out⟩
         ·
          skip
          cases v:(inB t.n 0 1073741823)
          ·
           skip
           have hv:=LH (show pat1 t.op t.n t.s t.t t.kids.length=false from by
             unfold pat1;simp [te,o17,o18,o19,hk,b,v])
           have p17:(t.op ==17)=false:=by rw [o19];rfl
           have r17:(t.op != 17)=true:=by rw [o19];rfl
           have p18:(t.op ==18)=false:=by rw [o19];rfl
           have r18:(t.op != 18)=true:=by rw [o19];rfl
           have p19:(t.op ==19)=true:=by rw [o19];rfl
           have r19:(t.op != 19)=false:=by rw [o19];rfl
           have p20:(t.op ==20)=false:=by rw [o19];rfl
           have r20:(t.op != 20)=true:=by rw [o19];rfl
           clear o17
           clear o18
           clear o19
           have hk1:(t.kids.length ==0)=true:=by simp [hk]
           have hk2:((t.kids.length:Int) ==0)=true:=by rw [beq_iff_eq];omega
           have hk3:¬ (0:Int)<(t.kids.length:Int):=by omega
           have hk4:decide (0<t.kids.length)=false:=by simp [hk]
           have Hhk:=LH hk
           clear hk
           have HIN:=LH (fun(wx:World)=>specIn t.n 0 1073741823 wx)
           rw [v] at HIN
           clear v
           go_wp2_with (first | (go_at_call 75;refine(HIN.out _).mono ?_;rintro e w9 ⟨rfl,rfl⟩))
           go_ret
           exact⟨ret_bool (by rw [hte.out,hv.out,hko.out];rfl),hbl.out⟩
          ·
           skip
           have hv:=LH (show pat1 t.op t.n t.s t.t t.kids.length=true from by
             unfold pat1;simp [te,o17,o18,o19,hk,b,v])
           have hkn:=LH (show GNode.patL t.kids=true from by rw [List.eq_nil_of_length_eq_zero hk];rfl)
           have p17:(t.op ==17)=false:=by rw [o19];rfl
           have r17:(t.op != 17)=true:=by rw [o19];rfl
           have p18:(t.op ==18)=false:=by rw [o19];rfl
           have r18:(t.op != 18)=true:=by rw [o19];rfl
           have p19:(t.op ==19)=true:=by rw [o19];rfl
           have r19:(t.op != 19)=false:=by rw [o19];rfl
           have p20:(t.op ==20)=false:=by rw [o19];rfl
           have r20:(t.op != 20)=true:=by rw [o19];rfl
           clear o17
           clear o18
           clear o19
           have hk1:(t.kids.length ==0)=true:=by simp [hk]
           have hk2:((t.kids.length:Int) ==0)=true:=by rw [beq_iff_eq];omega
           have hk3:¬ (0:Int)<(t.kids.length:Int):=by omega
           have hk4:decide (0<t.kids.length)=false:=by simp [hk]
           have Hhk:=LH hk
           clear hk
           have HIN:=LH (fun(wx:World)=>specIn t.n 0 1073741823 wx)
           rw [v] at HIN
           clear v
           go_wp2_with (first | (go_at_call 75;refine(HIN.out _).mono ?_;rintro e w9 ⟨rfl,rfl⟩))
           go_ret
           exact⟨ret_bool (by rw [hte.out,hv.out,hko.out];rfl),hbl.out⟩
        ·
         skip
         have hv:=LH (show pat1 t.op t.n t.s t.t t.kids.length=false from by
           unfold pat1;simp [te,o17,o18,o19,hk])
         have p17:(t.op ==17)=false:=by rw [o19];rfl
         have r17:(t.op != 17)=true:=by rw [o19];rfl
         have p18:(t.op ==18)=false:=by rw [o19];rfl
         have r18:(t.op != 18)=true:=by rw [o19];rfl
         have p19:(t.op ==19)=true:=by rw [o19];rfl
         have r19:(t.op != 19)=false:=by rw [o19];rfl
         have p20:(t.op ==20)=false:=by rw [o19];rfl
         have r20:(t.op != 20)=true:=by rw [o19];rfl
         clear o17
         clear o18
         clear o19
         have hk1:(t.kids.length ==0)=false:=by simp [hk]
         have hk2:((t.kids.length:Int) ==0)=false:=by rw [beq_eq_false_iff_ne];omega
         have hk3:(0:Int)<(t.kids.length:Int):=by omega
         have hk4:decide (0<t.kids.length)=true:=decide_eq_true (by omega)
         have Hhk:=LH hk
         clear hk
         go_wp2_with fail
         go_ret
         exact⟨ret_bool (by rw [hte.out,hv.out,hko.out];rfl),hbl.out⟩
       ·
        skip
        by_cases o20:t.op=20
        ·
         skip
         cases a:(t.n ==0)
         ·
          skip
          have hv:=LH (show pat1 t.op t.n t.s t.t t.kids.length=false from by
            unfold pat1;simp [te,o17,o18,o19,o20,a])
          have p17:(t.op ==17)=false:=by rw [o20];rfl
          have r17:(t.op != 17)=true:=by rw [o20];rfl
          have p18:(t.op ==18)=false:=by rw [o20];rfl
          have r18:(t.op != 18)=true:=by rw [o20];rfl
          have p19:(t.op ==19)=false:=by rw [o20];rfl
          have r19:(t.op != 19)=true:=by rw [o20];rfl
          have p20:(t.op ==20)=true:=by rw [o20];rfl
          have r20:(t.op != 20)=false:=by rw [o20];rfl
          clear o17
          clear o18
          clear o19
          clear o20
          have an:(t.n != 0)=true:=by simp only [bne,a];rfl
          go_wp2_with fail
          go_ret
          exact⟨ret_bool (by rw [hte.out,hv.out,hko.out];rfl),hbl.out⟩
         ·
          skip
          cases cn:(conB t.s)
          ·
           skip
           have hv:=LH (show pat1 t.op t.n t.s t.t t.kids.length=false from by
             unfold pat1;simp [te,o17,o18,o19,o20,a,cn])
           have p17:(t.op ==17)=false:=by rw [o20];rfl
           have r17:(t.op != 17)=true:=by rw [o20];rfl
           have p18:(t.op ==18)=false:=by rw [o20];rfl
           have r18:(t.op != 18)=true:=by rw [o20];rfl
           have p19:(t.op ==19)=false:=by rw [o20];rfl
           have r19:(t.op != 19)=true:=by rw [o20];rfl
           have p20:(t.op ==20)=true:=by rw [o20];rfl
           have r20:(t.op != 20)=false:=by rw [o20];rfl
           clear o17
           clear o18
           clear o19
           clear o20
           have an:(t.n != 0)=false:=by simp only [bne,a];rfl
           have HCN:=LH (fun(wx:World)=>specCon t.s wx hsz2)
           rw [cn] at HCN
           clear cn
           go_wp2_with (first | (go_at_call 74;refine(HCN.out _).mono ?_;rintro e w9 ⟨rfl,rfl⟩))
           go_ret
           exact⟨ret_bool (by rw [hte.out,hv.out,hko.out];rfl),hbl.out⟩
          ·
           skip
           have hv:=LH (show pat1 t.op t.n t.s t.t t.kids.length=true from by
             unfold pat1;simp [te,o17,o18,o19,o20,a,cn])
           have p17:(t.op ==17)=false:=by rw [o20];rfl
           have r17:(t.op != 17)=true:=by rw [o20];rfl
           have p18:(t.op ==18)=false:=by rw [o20];rfl
           have r18:(t.op != 18)=true:=by rw [o20];rfl
           have p19:(t.op ==19)=false:=by rw [o20];rfl
           have r19:(t.op != 19)=true:=by rw [o20];rfl
           have p20:(t.op ==20)=true:=by rw [o20];rfl
           have r20:(t.op != 20)=false:=by rw [o20];rfl
           clear o17
           clear o18
           clear o19
           clear o20
           have an:(t.n != 0)=false:=by simp only [bne,a];rfl
           have HCN:=LH (fun(wx:World)=>specCon t.s wx hsz2)
           rw [cn] at HCN
           clear cn
           go_wp2_with (first | (go_at_call 74;refine(HCN.out _).mono ?_;rintro e w9 ⟨rfl,rfl⟩))
           go_ret
           exact⟨ret_bool (by rw [hte.out,hv.out,hko.out];rfl),hbl.out⟩
        ·
         skip
         by_cases hk:t.kids.length=0
         ·
          skip
          cases a:(t.n ==0)
          ·
           skip
           have hv:=LH (show pat1 t.op t.n t.s t.t t.kids.length=false from by
             unfold pat1;simp [te,o17,o18,o19,o20,hk,a])
           have p17:(t.op ==17)=false:=by simpa using o17
           have r17:(t.op != 17)=true:=by simp [bne,p17]
           have p18:(t.op ==18)=false:=by simpa using o18
           have r18:(t.op != 18)=true:=by simp [bne,p18]
           have p19:(t.op ==19)=false:=by simpa using o19
           have r19:(t.op != 19)=true:=by simp [bne,p19]
           have p20:(t.op ==20)=false:=by simpa using o20
           have r20:(t.op != 20)=true:=by simp [bne,p20]
           clear o17
           clear o18
           clear o19
           clear o20
           have hk1:(t.kids.length ==0)=true:=by simp [hk]
           have hk2:((t.kids.length:Int) ==0)=true:=by rw [beq_iff_eq];omega
           have hk3:¬ (0:Int)<(t.kids.length:Int):=by omega
           have hk4:decide (0<t.kids.length)=false:=by simp [hk]
           have Hhk:=LH hk
           clear hk
           have an:(t.n != 0)=true:=by simp only [bne,a];rfl
           go_wp2_with fail
           go_ret
           exact⟨ret_bool (by rw [hte.out,hv.out,hko.out];rfl),hbl.out⟩
          ·
           skip
           have hv:=LH (show pat1 t.op t.n t.s t.t t.kids.length=false from by
             unfold pat1;simp [te,o17,o18,o19,o20,hk,a])
           have p17:(t.op ==17)=false:=by simpa using o17
           have r17:(t.op != 17)=true:=by simp [bne,p17]
           have p18:(t.op ==18)=false:=by simpa using o18
           have r18:(t.op != 18)=true:=by simp [bne,p18]
           have p19:(t.op ==19)=false:=by simpa using o19
           have r19:(t.op != 19)=true:=by simp [bne,p19]
           have p20:(t.op ==20)=false:=by simpa using o20
           have r20:(t.op != 20)=true:=by simp [bne,p20]
           clear o17
           clear o18
           clear o19
           clear o20
           have hk1:(t.kids.length ==0)=true:=by simp [hk]
           have hk2:((t.kids.length:Int) ==0)=true:=by rw [beq_iff_eq];omega
           have hk3:¬ (0:Int)<(t.kids.length:Int):=by omega
           have hk4:decide (0<t.kids.length)=false:=by simp [hk]
           have Hhk:=LH hk
           clear hk
           have an:(t.n != 0)=false:=by simp only [bne,a];rfl
           go_wp2_with fail
           go_ret
           exact⟨ret_bool (by rw [hte.out,hv.out,hko.out];rfl),hbl.out⟩
         ·
          skip
          have hv:=LH (show pat1 t.op t.n t.s t.t t.kids.length=false from by
            unfold pat1;simp [te,o17,o18,o19,o20,hk])
          have p17:(t.op ==17)=false:=by simpa using o17
          have r17:(t.op != 17)=true:=by simp [bne,p17]
          have p18:(t.op ==18)=false:=by simpa using o18
          have r18:(t.op != 18)=true:=by simp [bne,p18]
          have p19:(t.op ==19)=false:=by simpa using o19
          have r19:(t.op != 19)=true:=by simp [bne,p19]
          have p20:(t.op ==20)=false:=by simpa using o20
          have r20:(t.op != 20)=true:=by simp [bne,p20]
          clear o17
          clear o18
          clear o19
          clear o20
          have hk1:(t.kids.length ==0)=false:=by simp [hk]
          have hk2:((t.kids.length:Int) ==0)=false:=by rw [beq_eq_false_iff_ne];omega
          have hk3:(0:Int)<(t.kids.length:Int):=by omega
          have hk4:decide (0<t.kids.length)=true:=decide_eq_true (by omega)
          have Hhk:=LH hk
          clear hk
          go_wp2_with fail
          go_ret
          exact⟨ret_bool (by rw [hte.out,hv.out,hko.out];rfl),hbl.out⟩
def exp1 (op n:Int) (s t:ByteArray) (k:Nat):Bool:=
 if op=1 then inB n 0 1073741823&&(s.toList.isEmpty&&(t.toList.isEmpty&&k ==0))
 else n ==0&&(if op=2 then nameB s&&(t.toList.isEmpty&&k ==0)
 else if op=3 then nameB s&&(t.toList.isEmpty&&k ==1)
 else if op=5 then nameB s&&(t.toList.isEmpty&&k ==2)
 else if op=6 then nameB s&&(nameB t&&k ==2)
 else if op=15 then conB s&&t.toList.isEmpty
 else s.toList.isEmpty&&(t.toList.isEmpty&&(if op=16 then k ==1 else if op=9 then k ==3 else if op=7 then decide (2<=k) else if op=4 then k ==2 else inB op 10 14&&k ==2)))
def alt1 (op n:Int) (s t:ByteArray) (k:Nat):Bool:=op ==8&&(n ==0&&(s.toList.isEmpty&&(t.toList.isEmpty&&k ==2)))
mutual
def GNode.exp:GNode->Bool | .mk op n s t kids=>exp1 op n s t kids.length&&(if op=7 then GNode.caseL kids else GNode.expL kids)
def GNode.expL:List GNode->Bool | []=>true | x::r=>x.exp&&GNode.expL r
def GNode.caseL:List GNode->Bool | []=>false | x::r=>x.exp&&GNode.altL r
def GNode.altL:List GNode->Bool | []=>true | a::r=>a.alt&&GNode.altL r
def GNode.alt:GNode->Bool | .mk op n s t kids=>alt1 op n s t kids.length&&GNode.altK kids
def GNode.altK:List GNode->Bool | []=>false | p::r=>p.pat&&GNode.altE r
def GNode.altE:List GNode->Bool | []=>false | x::_=>x.exp
end
theorem GNode.exp_eq (t:GNode):t.exp=(exp1 t.op t.n t.s t.t t.kids.length&&(if t.op=7 then GNode.caseL t.kids else GNode.expL t.kids)):=by
 cases t;rw [GNode.exp];rfl
theorem GNode.alt_eq (t:GNode):t.alt=(alt1 t.op t.n t.s t.t t.kids.length&&GNode.altK t.kids):=by
 cases t;rw [GNode.alt];rfl
theorem GNode.expL_all:∀ l:List GNode,GNode.expL l=l.all GNode.exp
 | []=>by rw [GNode.expL];rfl
 | t::r=>by rw [GNode.expL,GNode.expL_all r];rfl
theorem GNode.altL_all:∀ l:List GNode,GNode.altL l=l.all GNode.alt
 | []=>by rw [GNode.altL];rfl
 | t::r=>by rw [GNode.altL,GNode.altL_all r];rfl
theorem GNode.caseL_cons (x:GNode) (r:List GNode):GNode.caseL (x::r)=(x.exp&&r.all GNode.alt):=by rw [GNode.caseL,GNode.altL_all]
theorem GNode.altK_two (p x:GNode):GNode.altK [p,x]=(p.pat&&x.exp):=by rw [GNode.altK,GNode.altE]
set_option maxHeartbeats 400000
theorem indexFuncTy (K:Nat) (hK:∀ (args:Array Value) (w:World),(callFunc K args).run Tryz.prog w= .ok (.enter K args) w) (caps:Array Value) (p:GTy->Bool) (l:List GTy) (A:Option Addr) (c:Nat) (w:World) (hs:Sl w (Lt w.heap.size) 4 A c (l.map GTy.toD))
 (H:∀ x,x∈l->∀ (A1:Option Addr) (c1:Nat) (w2:World),Below w.heap.size w w2->GTy.At w2 (Lt w2.heap.size) A1 c1 x->
   Calls Tryz.prog K (#[.agg #[.int .i64 x.op,.int .i64 x.n,.string x.s,.slice A1 x.kids.length c1]]++caps) w2 fun e w'=>e= .returned (.bool (p x))/\Below w2.heap.size w2 w'):
 Calls Tryz.prog 50 #[.slice A l.length c,.func (.func K) #[] caps] w fun e w'=>e= .returned (.int .i64 (idxI p l))/\Below w.heap.size w w':=by
 have hlen:l.length<=9223372036854775807:=by simpa using hs.len
 have HH:=LH H
 clear H
 go_enter Tryz.func50,Tryz.ntmps50
 go_wp2_with fail
 go_loopw [8] (fun i wr=>∃ j:Nat,j<=l.length/\i= .int .i64 j/\noneTo p l j/\Below w.heap.size w wr) (fun i _=>l.length - (intOf i).toNat)
 case atStart=>exact⟨0,by omega,by go_num,noneTo_zero p l,Below.refl _ _⟩
 case round=>
  obtain⟨j,hj,rfl,hno,hbl⟩:=hrel
  have Hno:=LH hno
  clear hno
  have hsz:=hbl.size
  by_cases hlt:j<l.length
  ·
   have htr:=GTy.elem (hs.below hbl (Nat.le_refl _)) j hlt
   obtain⟨b,off,A1,c1,rfl,hSb,g0,g1,g2,g3,hat⟩:=htr
   have hmem:l[j]∈l:=List.getElem_mem hlt
   go_wp2_with fail
   refine(HH.out _ hmem _ _ _ hbl (hat.below (Below.refl _ _) hsz)).mono ?_
   rintro e w1 ⟨rfl,hb1⟩
   cases he:p l[j]
   · have hn:=LH (noneTo_succ Hno.out hlt he)
     go_wp2_with fail
     go_roundw
     case rel=>exact⟨j+1,by omega,by go_num,hn.out,hbl.trans (hb1.mono hsz)⟩
     case measure=>simp [intOf];omega
   · have hn:=LH (idxI_at Hno.out hlt he)
     go_wp2_with fail
     go_ret
     exact⟨ret_int hn.out.symm,hbl.trans (hb1.mono hsz)⟩
  ·
   have hjl:j=l.length:=by omega
   have Hj:=LH hjl
   clear hjl
   go_wp2_with fail
   go_ret
   exact⟨ret_int (idxI_none (by have:=Hno.out;rw [Hj.out] at this;exact this)).symm,hbl⟩
theorem containsFuncTy (K:Nat) (hK:∀ (args:Array Value) (w:World),(callFunc K args).run Tryz.prog w= .ok (.enter K args) w) (caps:Array Value) (p:GTy->Bool) (l:List GTy) (A:Option Addr) (c:Nat) (w:World) (hs:Sl w (Lt w.heap.size) 4 A c (l.map GTy.toD))
 (H:∀ x,x∈l->∀ (A1:Option Addr) (c1:Nat) (w2:World),Below w.heap.size w w2->GTy.At w2 (Lt w2.heap.size) A1 c1 x->
   Calls Tryz.prog K (#[.agg #[.int .i64 x.op,.int .i64 x.n,.string x.s,.slice A1 x.kids.length c1]]++caps) w2 fun e w'=>e= .returned (.bool (p x))/\Below w2.heap.size w2 w'):
 Calls Tryz.prog 38 #[.slice A l.length c,.func (.func K) #[] caps] w fun e w'=>e= .returned (.bool (l.any p))/\Below w.heap.size w w':=by
 have HH:=LH H
 clear H
 go_enter Tryz.func38,Tryz.ntmps38
 go_wp2_with fail
 refine(indexFuncTy K hK caps p l A c w hs HH.out).mono ?_
 rintro e w1 ⟨rfl,hb1⟩
 cases ha:l.any p
 ·
  have hi:=idxI_any_false ha
  rw [hi]
  have Ha:=LH ha
  clear ha hi
  go_wp2_with fail
  go_ret
  exact⟨ret_bool Ha.out.symm,hb1⟩
 ·
  have hi:=idxI_any_true ha
  have Ha:=LH ha
  clear ha
  generalize idxI p l=x at*
  go_wp2_with fail
  go_ret
  exact⟨ret_bool Ha.out.symm,hb1⟩
set_option maxHeartbeats 1000000
def tidy1 (vs op n:Int) (s:ByteArray) (k:Nat):Bool:=
 if op=1 then n ==0&&(s.toList.isEmpty&&k ==0)
 else if op=2 then inB n 0 (vs - 1)&&(s.toList.isEmpty&&k ==0)
 else if op=3 then n ==0&&(s.toList.isEmpty&&k ==2)
 else if op=4 then n ==0&&conB s else false
mutual
def GTy.tidy (vs:Int):GTy->Bool | .mk op n s kids=>tidy1 vs op n s kids.length&&GTy.tidyL vs kids
def GTy.tidyL (vs:Int):List GTy->Bool | []=>true | t::r=>t.tidy vs&&GTy.tidyL vs r
end
theorem GTy.tidy_eq (vs:Int) (t:GTy):t.tidy vs=(tidy1 vs t.op t.n t.s t.kids.length&&GTy.tidyL vs t.kids):=by
 cases t;simp only [GTy.tidy,GTy.op,GTy.n,GTy.s,GTy.kids]
theorem GTy.tidyL_all (vs:Int):∀ l:List GTy,GTy.tidyL vs l=l.all (GTy.tidy vs)
 | []=>rfl
 | t::r=>by simp only [GTy.tidyL,List.all_cons,GTy.tidyL_all vs r]
theorem specTypeTidy (vs:Int) (hv0:0<=vs) (hv1:vs<=26) (k:Nat):∀ (t:GTy) (A1:Option Addr) (c1:Nat) (w:World),t.bulk<k->GTy.At w (Lt w.heap.size) A1 c1 t->
 Calls Tryz.prog 77 #[.agg #[.int .i64 t.op,.int .i64 t.n,.string t.s,.slice A1 t.kids.length c1],.int .i64 vs] w fun e w'=>e= .returned (.bool (t.tidy vs))/\Below w.heap.size w w':=by
 induction k with
 | zero=>intro t A1 c1 w h;omega
 | succ k ih=>
  intro t A1 c1 w hk0 ht
  obtain⟨h0,h1,h2,hs⟩:=id ht
  have hsz2:t.s.size<=9223372036854775807:=by unfold maxLen at h2;omega
  have hlen:t.kids.length<=9223372036854775807:=by simpa using hs.len
  have hte:=LH (t.tidy_eq vs)
  have hbe:=t.bulk_eq
  go_enter Tryz.func77,Tryz.ntmps77
  go_wp2_with fail
  go_loopw [5] (fun i wr=>∃ j:Nat,j<=t.kids.length/\i= .int .i64 j/\(t.kids.take j).all (GTy.tidy vs)=true/\Below w.heap.size w wr/\Row wr w.heap.size 59 #[.int .i64 t.op,.int .i64 t.n,.string t.s,.slice A1 t.kids.length c1]) (fun i _=>t.kids.length - (intOf i).toNat)
  case atStart=>exact⟨0,by omega,by go_num,by simp,(Below.refl _ _).alloc (Nat.le_refl _) _,Row.new _ _ _⟩
  case round=>
   obtain⟨j,hj,rfl,hall,hbl,hrow⟩:=hrel
   have Hall:=LH hall
   clear hall
   have hsz:=hbl.size
   have hgl:=hrow.lt
   have hc:=fun i=>hrow.cell i
   by_cases hlt:j<t.kids.length
   ·
    have htr:=GTy.elem (hs.below hbl (Nat.le_refl _)) j hlt
    obtain⟨b,off,A2,c2,rfl,hSb,g0,g1,g2,g3,hat⟩:=htr
    have hmem:t.kids[j]∈t.kids:=List.getElem_mem hlt
    have hxb:(t.kids[j]).bulk<k:=by have:=bulkL_mem GTy.bulk t.kids _ hmem;omega
    clear hbe
    go_wp2_with fail
    refine(ih _ A2 c2 _ hxb (hat.below (Below.refl _ _) hsz)).mono ?_
    rintro e w1 ⟨rfl,hb1⟩
    cases he:(t.kids[j]).tidy vs
    · have hn:=LH (show t.kids.all (GTy.tidy vs)=false from by rw [<- Bool.not_eq_true];intro h;have:=List.all_eq_true.1 h _ hmem;rw [he] at this;cases this)
      clear he
      go_wp2_with fail
      go_ret
      exact⟨ret_bool (by rw [hte.out,GTy.tidyL_all,hn.out];simp),hbl.trans (hb1.mono hsz)⟩
    · have he2:=LH he
      clear he
      go_wp2_with fail
      go_roundw
      case rel=>exact⟨j+1,by omega,by go_num,by rw [take_snoc' _ j hlt,List.all_append,Hall.out];simp [he2.out],hbl.trans (hb1.mono hsz),hrow.below hb1 hgl⟩
      case measure=>simp [intOf];omega
   ·
    have hjl:j=t.kids.length:=by omega
    have hko:=LH (show GTy.tidyL vs t.kids=true from by rw [GTy.tidyL_all];have:=Hall.out;rwa [hjl,List.take_length] at this)
    clear hjl ih hbe Hall
    cases o1:(t.op ==1)
    ·
     skip
     cases o2:(t.op ==2)
     ·
      skip
      cases o3:(t.op ==3)
      ·
       skip
       cases o4:(t.op ==4)
       · skip
         have hv:=LH (show tidy1 vs t.op t.n t.s t.kids.length=false from by
           unfold tidy1;simp only [beq_iff_eq,beq_eq_false_iff_ne,ne_eq] at o1 o2 o3 o4;simp [o1,o2,o3,o4])
         go_wp2_with fail
         go_ret
         exact⟨ret_bool (by rw [hte.out,hv.out,hko.out];rfl),hbl⟩
       ·
        skip
        cases a:(t.n ==0)
        · skip
          have hv:=LH (show tidy1 vs t.op t.n t.s t.kids.length=false from by
            unfold tidy1;simp only [beq_iff_eq,beq_eq_false_iff_ne,ne_eq] at o1 o2 o3 o4 a;simp [o1,o2,o3,o4,a])
          go_wp2_with fail
          go_ret
          exact⟨ret_bool (by rw [hte.out,hv.out,hko.out];rfl),hbl⟩
        ·
         skip
         cases cn:(conB t.s)
         · skip
           have hv:=LH (show tidy1 vs t.op t.n t.s t.kids.length=false from by
             unfold tidy1;simp only [beq_iff_eq,beq_eq_false_iff_ne,ne_eq] at o1 o2 o3 o4 a;simp [o1,o2,o3,o4,a,cn])
           have HCN:=LH (fun(wx:World)=>specCon t.s wx hsz2)
           rw [cn] at HCN
           clear cn
           go_wp2_with (first | (go_at_call 74;refine(HCN.out _).mono ?_;rintro e w9 ⟨rfl,rfl⟩))
           go_ret
           exact⟨ret_bool (by rw [hte.out,hv.out,hko.out];rfl),hbl⟩
         · skip
           have hv:=LH (show tidy1 vs t.op t.n t.s t.kids.length=true from by
             unfold tidy1;simp only [beq_iff_eq,beq_eq_false_iff_ne,ne_eq] at o1 o2 o3 o4 a;simp [o1,o2,o3,o4,a,cn])
           have HCN:=LH (fun(wx:World)=>specCon t.s wx hsz2)
           rw [cn] at HCN
           clear cn
           go_wp2_with (first | (go_at_call 74;refine(HCN.out _).mono ?_;rintro e w9 ⟨rfl,rfl⟩))
           go_ret
           exact⟨ret_bool (by rw [hte.out,hv.out,hko.out];rfl),hbl⟩
      ·
       skip
       cases a:(t.n ==0)
       · skip
         have hv:=LH (show tidy1 vs t.op t.n t.s t.kids.length=false from by
           unfold tidy1;simp only [beq_iff_eq,beq_eq_false_iff_ne,ne_eq] at o1 o2 o3 a;simp [o1,o2,o3,a])
         go_wp2_with fail
         go_ret
         exact⟨ret_bool (by rw [hte.out,hv.out,hko.out];rfl),hbl⟩
       ·
        skip
        cases b:(t.s.toList.isEmpty)
        · skip
          have hv:=LH (show tidy1 vs t.op t.n t.s t.kids.length=false from by
            unfold tidy1;simp only [beq_iff_eq,beq_eq_false_iff_ne,ne_eq] at o1 o2 o3 a;simp [o1,o2,o3,a,b])
          go_wp2_with fail
          go_ret
          exact⟨ret_bool (by rw [hte.out,hv.out,hko.out];rfl),hbl⟩
        ·
         skip
         by_cases hk:t.kids.length=2
         · have hk1:(t.kids.length ==2)=true:=by simp [hk]
           have hk2:((t.kids.length:Int) ==2)=true:=by rw [beq_iff_eq];omega
           have hv:=LH (show tidy1 vs t.op t.n t.s t.kids.length=true from by
             unfold tidy1;simp only [beq_iff_eq,beq_eq_false_iff_ne,ne_eq] at o1 o2 o3 a;simp [o1,o2,o3,a,b,hk])
           have Hk:=LH hk
           clear hk
           go_wp2_with fail
           go_ret
           exact⟨ret_bool (by rw [hte.out,hv.out,hko.out];rfl),hbl⟩
         · have hk1:(t.kids.length ==2)=false:=by simp [hk]
           have hk2:((t.kids.length:Int) ==2)=false:=by rw [beq_eq_false_iff_ne];omega
           have hv:=LH (show tidy1 vs t.op t.n t.s t.kids.length=false from by
             unfold tidy1;simp only [beq_iff_eq,beq_eq_false_iff_ne,ne_eq] at o1 o2 o3 a;simp [o1,o2,o3,a,b,hk])
           have Hk:=LH hk
           clear hk
           go_wp2_with fail
           go_ret
           exact⟨ret_bool (by rw [hte.out,hv.out,hko.out];rfl),hbl⟩
     ·
      skip
      cases v:(inB t.n 0 (vs - 1))
      · skip
        have hv:=LH (show tidy1 vs t.op t.n t.s t.kids.length=false from by
          unfold tidy1;simp only [beq_iff_eq,beq_eq_false_iff_ne,ne_eq] at o1 o2;simp [o1,o2,v])
        have HIN:=LH (fun(wx:World)=>specIn t.n 0 (vs - 1) wx)
        rw [v] at HIN
        clear v
        go_wp2_with (first | (go_at_call 75;refine(HIN.out _).mono ?_;rintro e w9 ⟨rfl,rfl⟩))
        go_ret
        exact⟨ret_bool (by rw [hte.out,hv.out,hko.out];rfl),hbl⟩
      ·
       skip
       cases b:(t.s.toList.isEmpty)
       · skip
         have hv:=LH (show tidy1 vs t.op t.n t.s t.kids.length=false from by
           unfold tidy1;simp only [beq_iff_eq,beq_eq_false_iff_ne,ne_eq] at o1 o2;simp [o1,o2,v,b])
         have HIN:=LH (fun(wx:World)=>specIn t.n 0 (vs - 1) wx)
         rw [v] at HIN
         clear v
         go_wp2_with (first | (go_at_call 75;refine(HIN.out _).mono ?_;rintro e w9 ⟨rfl,rfl⟩))
         go_ret
         exact⟨ret_bool (by rw [hte.out,hv.out,hko.out];rfl),hbl⟩
       ·
        skip
        by_cases hk:t.kids.length=0
        · have hk1:(t.kids.length ==0)=true:=by simp [hk]
          have hk2:((t.kids.length:Int) ==0)=true:=by rw [beq_iff_eq];omega
          have hv:=LH (show tidy1 vs t.op t.n t.s t.kids.length=true from by
            unfold tidy1;simp only [beq_iff_eq,beq_eq_false_iff_ne,ne_eq] at o1 o2;simp [o1,o2,v,b,hk])
          have HIN:=LH (fun(wx:World)=>specIn t.n 0 (vs - 1) wx)
          rw [v] at HIN
          clear v
          have Hk:=LH hk
          clear hk
          go_wp2_with (first | (go_at_call 75;refine(HIN.out _).mono ?_;rintro e w9 ⟨rfl,rfl⟩))
          go_ret
          exact⟨ret_bool (by rw [hte.out,hv.out,hko.out];rfl),hbl⟩
        · have hk1:(t.kids.length ==0)=false:=by simp [hk]
          have hk2:((t.kids.length:Int) ==0)=false:=by rw [beq_eq_false_iff_ne];omega
          have hv:=LH (show tidy1 vs t.op t.n t.s t.kids.length=false from by
            unfold tidy1;simp only [beq_iff_eq,beq_eq_false_iff_ne,ne_eq] at o1 o2;simp [o1,o2,v,b,hk])
          have HIN:=LH (fun(wx:World)=>specIn t.n 0 (vs - 1) wx)
          rw [v] at HIN
          clear v
          have Hk:=LH hk
          clear hk
          go_wp2_with (first | (go_at_call 75;refine(HIN.out _).mono ?_;rintro e w9 ⟨rfl,rfl⟩))
          go_ret
          exact⟨ret_bool (by rw [hte.out,hv.out,hko.out];rfl),hbl⟩
    ·
     skip
     cases a:(t.n ==0)
     · skip
       have hv:=LH (show tidy1 vs t.op t.n t.s t.kids.length=false from by
         unfold tidy1;simp only [beq_iff_eq,beq_eq_false_iff_ne,ne_eq] at o1 a;simp [o1,a])
       go_wp2_with fail
       go_ret
       exact⟨ret_bool (by rw [hte.out,hv.out,hko.out];rfl),hbl⟩
     ·
      skip
      cases b:(t.s.toList.isEmpty)
      · skip
        have hv:=LH (show tidy1 vs t.op t.n t.s t.kids.length=false from by
          unfold tidy1;simp only [beq_iff_eq,beq_eq_false_iff_ne,ne_eq] at o1 a;simp [o1,a,b])
        go_wp2_with fail
        go_ret
        exact⟨ret_bool (by rw [hte.out,hv.out,hko.out];rfl),hbl⟩
      ·
       skip
       by_cases hk:t.kids.length=0
       · have hk1:(t.kids.length ==0)=true:=by simp [hk]
         have hk2:((t.kids.length:Int) ==0)=true:=by rw [beq_iff_eq];omega
         have hv:=LH (show tidy1 vs t.op t.n t.s t.kids.length=true from by
           unfold tidy1;simp only [beq_iff_eq,beq_eq_false_iff_ne,ne_eq] at o1 a;simp [o1,a,b,hk])
         have Hk:=LH hk
         clear hk
         go_wp2_with fail
         go_ret
         exact⟨ret_bool (by rw [hte.out,hv.out,hko.out];rfl),hbl⟩
       · have hk1:(t.kids.length ==0)=false:=by simp [hk]
         have hk2:((t.kids.length:Int) ==0)=false:=by rw [beq_eq_false_iff_ne];omega
         have hv:=LH (show tidy1 vs t.op t.n t.s t.kids.length=false from by
           unfold tidy1;simp only [beq_iff_eq,beq_eq_false_iff_ne,ne_eq] at o1 a;simp [o1,a,b,hk])
         have Hk:=LH hk
         clear hk
         go_wp2_with fail
         go_ret
         exact⟨ret_bool (by rw [hte.out,hv.out,hko.out];rfl),hbl⟩
theorem specMax (a b:Int) (w:World):Calls Tryz.prog 91 #[.int .i64 a,.int .i64 b] w fun e w'=>e= .returned (.int .i64 (max a b))/\w=w':=by
 by_cases h:b<a
 · go_enter Tryz.func91,Tryz.ntmps91
   go_wp2_with fail
   go_ret
   exact⟨ret_int (by omega),rfl⟩
 · go_enter Tryz.func91,Tryz.ntmps91
   go_wp2_with fail
   go_ret
   exact⟨ret_int (by omega),rfl⟩
set_option maxHeartbeats 400000
mutual
def GNode.deep:GNode->Nat | .mk _ _ _ _ kids=>GNode.deepL kids+1
def GNode.deepL:List GNode->Nat | []=>0 | t::r=>max t.deep (GNode.deepL r)
end
theorem GNode.deep_eq (t:GNode):t.deep=GNode.deepL t.kids+1:=by cases t;simp only [GNode.deep,GNode.kids]
theorem GNode.deepL_take (l:List GNode) (i:Nat) (h:i<l.length):GNode.deepL (l.take (i+1))=max (GNode.deepL (l.take i)) (l[i]).deep:=by
 induction l generalizing i with
 | nil=>simp at h
 | cons t r ih=>
  match i with
  | 0=>simp [GNode.deepL]
  | i+1=>simp only [List.take_succ_cons,GNode.deepL,List.getElem_cons_succ];rw [ih i (by simpa using h)];omega
theorem GNode.deepL_le (l:List GNode) (i:Nat):GNode.deepL (l.take i)<=GNode.deepL l:=by
 induction l generalizing i with
 | nil=>simp
 | cons t r ih=>
  match i with
  | 0=>simp [GNode.deepL]
  | i+1=>simp only [List.take_succ_cons,GNode.deepL];have:=ih i;omega
mutual
theorem GNode.deep_bulk:∀ t:GNode,t.deep<=t.bulk+1
 | .mk op n s t kids=>by simp only [GNode.deep,GNode.bulk];have:=GNode.deepL_bulk kids;omega
theorem GNode.deepL_bulk:∀ l:List GNode,GNode.deepL l<=GNode.bulks l
 | []=>by simp [GNode.deepL]
 | t::r=>by simp only [GNode.deepL,GNode.bulks];have:=GNode.deep_bulk t;have:=GNode.deepL_bulk r;omega
end
theorem specDeep (k:Nat):∀ (t:GNode) (A1:Option Addr) (c1:Nat) (w:World),t.deep<=k->t.deep<=4611686018427387904->GNode.At w (Lt w.heap.size) A1 c1 t->
 Calls Tryz.prog 78 #[.agg #[.int .i64 t.op,.int .i64 t.n,.string t.s,.string t.t,.slice A1 t.kids.length c1]] w fun e w'=>e= .returned (.int .i64 t.deep)/\Below w.heap.size w w':=by
 induction k with
 | zero=>intro t A1 c1 w h;rw [GNode.deep_eq] at h;omega
 | succ k ih=>
  intro t A1 c1 w hk hb ht
  obtain⟨-,-,-,-,hs⟩:=id ht
  have hlen:t.kids.length<=9223372036854775807:=by simpa using hs.len
  go_enter Tryz.func78,Tryz.ntmps78
  go_wp2_with fail
  go_loopw [3,4] (fun n i wr=>∃ j:Nat,j<=t.kids.length/\i= .int .i64 j/\n= .int .i64 (GNode.deepL (t.kids.take j))/\Below w.heap.size w wr/\Row wr w.heap.size 45 #[.int .i64 t.op,.int .i64 t.n,.string t.s,.string t.t,.slice A1 t.kids.length c1]) (fun _ i _=>t.kids.length - (intOf i).toNat)
  case atStart=>exact⟨0,by omega,by go_num,by simp [GNode.deepL],(Below.refl _ _).alloc (Nat.le_refl _) _,Row.new _ _ _⟩
  case round=>
   obtain⟨j,hj,rfl,rfl,hbl,hrow⟩:=hrel
   have hsz:=hbl.size
   have hgl:=hrow.lt
   have hc:=fun i=>hrow.cell i
   by_cases hlt:j<t.kids.length
   ·
    have htr:=GNode.elem (hs.below hbl (Nat.le_refl _)) j hlt
    obtain⟨b,off,A'1,c'1,rfl,hSb,g0,g1,g2,g3,g4,hat⟩:=htr
    have hs1:=GNode.deepL_take t.kids j hlt
    have hs2:=GNode.deepL_le t.kids (j+1)
    have hs3:=t.deep_eq
    have Hs:=LH hs1
    have hs4:GNode.deepL (t.kids.take j)+0<=4611686018427387904:=by omega
    have hs5:(t.kids[j]).deep<=k:=by omega
    have hs6:(t.kids[j]).deep<=4611686018427387904:=by omega
    clear hs1 hs2 hs3
    go_wp2_with fail
    refine(ih _ _ _ _ hs5 hs6 (hat.below (Below.refl _ _) (by omega))).mono ?_
    rintro e w1 ⟨rfl,hb1⟩
    go_wp2_with fail
    refine(specMax _ _ _).mono ?_
    rintro e w2 ⟨rfl,rfl⟩
    go_wp2_with fail
    all_goals
     go_roundw
     case rel=>exact⟨j+1,by omega,by go_num,by rw [Hs.out];congr 1;omega,hbl.trans (hb1.mono hsz),hrow.below hb1 hgl⟩
     case measure=>simp [intOf];omega
   ·
    have hjl:j=t.kids.length:=by omega
    have Hj:=LH hjl
    clear hjl
    have hbd:=t.deep_eq
    have hbd2:=GNode.deepL_le t.kids j
    have hbd3:GNode.deepL (t.kids.take j)<=4611686018427387904:=by omega
    clear hbd hbd2
    go_wp2_with fail
    go_ret
    exact⟨ret_int (by rw [t.deep_eq,Hj.out,List.take_length];simp),hbl⟩
mutual
def GTy.deep:GTy->Nat | .mk _ _ _ kids=>GTy.deepL kids+1
def GTy.deepL:List GTy->Nat | []=>0 | t::r=>max t.deep (GTy.deepL r)
end
theorem GTy.deep_eq (t:GTy):t.deep=GTy.deepL t.kids+1:=by cases t;simp only [GTy.deep,GTy.kids]
theorem GTy.deepL_take (l:List GTy) (i:Nat) (h:i<l.length):GTy.deepL (l.take (i+1))=max (GTy.deepL (l.take i)) (l[i]).deep:=by
 induction l generalizing i with
 | nil=>simp at h
 | cons t r ih=>
  match i with
  | 0=>simp [GTy.deepL]
  | i+1=>simp only [List.take_succ_cons,GTy.deepL,List.getElem_cons_succ];rw [ih i (by simpa using h)];omega
theorem GTy.deepL_le (l:List GTy) (i:Nat):GTy.deepL (l.take i)<=GTy.deepL l:=by
 induction l generalizing i with
 | nil=>simp
 | cons t r ih=>
  match i with
  | 0=>simp [GTy.deepL]
  | i+1=>simp only [List.take_succ_cons,GTy.deepL];have:=ih i;omega
mutual
theorem GTy.deep_bulk:∀ t:GTy,t.deep<=t.bulk+1
 | .mk op n s kids=>by simp only [GTy.deep,GTy.bulk];have:=GTy.deepL_bulk kids;omega
theorem GTy.deepL_bulk:∀ l:List GTy,GTy.deepL l<=GTy.bulks l
 | []=>by simp [GTy.deepL]
 | t::r=>by simp only [GTy.deepL,GTy.bulks];have:=GTy.deep_bulk t;have:=GTy.deepL_bulk r;omega
end
theorem specDeepTy (k:Nat):∀ (t:GTy) (A1:Option Addr) (c1:Nat) (w:World),t.deep<=k->t.deep<=4611686018427387904->GTy.At w (Lt w.heap.size) A1 c1 t->
 Calls Tryz.prog 76 #[.agg #[.int .i64 t.op,.int .i64 t.n,.string t.s,.slice A1 t.kids.length c1]] w fun e w'=>e= .returned (.int .i64 t.deep)/\Below w.heap.size w w':=by
 induction k with
 | zero=>intro t A1 c1 w h;rw [GTy.deep_eq] at h;omega
 | succ k ih=>
  intro t A1 c1 w hk hb ht
  obtain⟨-,-,-,hs⟩:=id ht
  have hlen:t.kids.length<=9223372036854775807:=by simpa using hs.len
  go_enter Tryz.func76,Tryz.ntmps76
  go_wp2_with fail
  go_loopw [3,4] (fun n i wr=>∃ j:Nat,j<=t.kids.length/\i= .int .i64 j/\n= .int .i64 (GTy.deepL (t.kids.take j))/\Below w.heap.size w wr/\Row wr w.heap.size 59 #[.int .i64 t.op,.int .i64 t.n,.string t.s,.slice A1 t.kids.length c1]) (fun _ i _=>t.kids.length - (intOf i).toNat)
  case atStart=>exact⟨0,by omega,by go_num,by simp [GTy.deepL],(Below.refl _ _).alloc (Nat.le_refl _) _,Row.new _ _ _⟩
  case round=>
   obtain⟨j,hj,rfl,rfl,hbl,hrow⟩:=hrel
   have hsz:=hbl.size
   have hgl:=hrow.lt
   have hc:=fun i=>hrow.cell i
   by_cases hlt:j<t.kids.length
   ·
    have htr:=GTy.elem (hs.below hbl (Nat.le_refl _)) j hlt
    obtain⟨b,off,A'1,c'1,rfl,hSb,g0,g1,g2,g3,hat⟩:=htr
    have hs1:=GTy.deepL_take t.kids j hlt
    have hs2:=GTy.deepL_le t.kids (j+1)
    have hs3:=t.deep_eq
    have Hs:=LH hs1
    have hs4:GTy.deepL (t.kids.take j)+0<=4611686018427387904:=by omega
    have hs5:(t.kids[j]).deep<=k:=by omega
    have hs6:(t.kids[j]).deep<=4611686018427387904:=by omega
    clear hs1 hs2 hs3
    go_wp2_with fail
    refine(ih _ _ _ _ hs5 hs6 (hat.below (Below.refl _ _) (by omega))).mono ?_
    rintro e w1 ⟨rfl,hb1⟩
    go_wp2_with fail
    refine(specMax _ _ _).mono ?_
    rintro e w2 ⟨rfl,rfl⟩
    go_wp2_with fail
    all_goals
     go_roundw
     case rel=>exact⟨j+1,by omega,by go_num,by rw [Hs.out];congr 1;omega,hbl.trans (hb1.mono hsz),hrow.below hb1 hgl⟩
     case measure=>simp [intOf];omega
   ·
    have hjl:j=t.kids.length:=by omega
    have Hj:=LH hjl
    clear hjl
    have hbd:=t.deep_eq
    have hbd2:=GTy.deepL_le t.kids j
    have hbd3:GTy.deepL (t.kids.take j)<=4611686018427387904:=by omega
    clear hbd hbd2
    go_wp2_with fail
    go_ret
    exact⟨ret_int (by rw [t.deep_eq,Hj.out,List.take_length];simp),hbl⟩
end Go.Proofs.YtgbjdhfaklmjcaaGreat
