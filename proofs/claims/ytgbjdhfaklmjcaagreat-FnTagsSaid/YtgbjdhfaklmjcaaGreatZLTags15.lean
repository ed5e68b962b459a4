/- Texts of the claim LTags in one: NodeS. Conditions: none but bounds on sizes. -/
import Derived.Test.YtgbjdhfaklmjcaaGreatZLTags14
import Derived.Deep.RegionLaw
import Derived.Deep.DeepMust
import Derived.Deep.RegionHeld3
import Derived.Test.YtgbjdhfaklmjcaaGreatZLTags1
namespace Go.Proofs.YtgbjdhfaklmjcaaGreat
set_option maxRecDepth 20000
set_option linter.unusedVariables false
set_option linter.unusedSimpArgs false
open Go.RowKit
set_option maxHeartbeats 40000000
theorem bT {a b c:World} (E:Hid (Below a.heap.size a b)) (K:Hid (Below b.heap.size b c)):Below a.heap.size a c:=E.out.trans (K.out.mono E.out.size)
theorem bA (a:World) (o:Obj):Below a.heap.size a (a.alloc o):=(Below.refl _ _).alloc (Nat.le_refl _) _
theorem opf0 {t:GNode} (h:t.op=1):(t.op ==1)=true/\(t.op != 1)=false/\(t.op ==2)=false/\(t.op != 2)=true/\(t.op ==3)=false/\(t.op != 3)=true/\(t.op ==4)=false/\(t.op != 4)=true/\(t.op ==5)=false/\(t.op != 5)=true/\(t.op ==6)=false/\(t.op != 6)=true/\(t.op ==7)=false/\(t.op != 7)=true/\(t.op ==9)=false/\(t.op != 9)=true/\(t.op ==15)=false/\(t.op != 15)=true/\(t.op ==16)=false/\(t.op != 16)=true:=by
 rw [h];exact⟨rfl,rfl,rfl,rfl,rfl,rfl,rfl,rfl,rfl,rfl,rfl,rfl,rfl,rfl,rfl,rfl,rfl,rfl,rfl,rfl⟩
theorem opf1 {t:GNode} (h:t.op=2):(t.op ==1)=false/\(t.op != 1)=true/\(t.op ==2)=true/\(t.op != 2)=false/\(t.op ==3)=false/\(t.op != 3)=true/\(t.op ==4)=false/\(t.op != 4)=true/\(t.op ==5)=false/\(t.op != 5)=true/\(t.op ==6)=false/\(t.op != 6)=true/\(t.op ==7)=false/\(t.op != 7)=true/\(t.op ==9)=false/\(t.op != 9)=true/\(t.op ==15)=false/\(t.op != 15)=true/\(t.op ==16)=false/\(t.op != 16)=true:=by
 rw [h];exact⟨rfl,rfl,rfl,rfl,rfl,rfl,rfl,rfl,rfl,rfl,rfl,rfl,rfl,rfl,rfl,rfl,rfl,rfl,rfl,rfl⟩
theorem opf2 {t:GNode} (h:t.op=3):(t.op ==1)=false/\(t.op != 1)=true/\(t.op ==2)=false/\(t.op != 2)=true/\(t.op ==3)=true/\(t.op != 3)=false/\(t.op ==4)=false/\(t.op != 4)=true/\(t.op ==5)=false/\(t.op != 5)=true/\(t.op ==6)=false/\(t.op != 6)=true/\(t.op ==7)=false/\(t.op != 7)=true/\(t.op ==9)=false/\(t.op != 9)=true/\(t.op ==15)=false/\(t.op != 15)=true/\(t.op ==16)=false/\(t.op != 16)=true:=by
 rw [h];exact⟨rfl,rfl,rfl,rfl,rfl,rfl,rfl,rfl,rfl,rfl,rfl,rfl,rfl,rfl,rfl,rfl,rfl,rfl,rfl,rfl⟩
theorem opf3 {t:GNode} (h:t.op=5):(t.op ==1)=false/\(t.op != 1)=true/\(t.op ==2)=false/\(t.op != 2)=true/\(t.op ==3)=false/\(t.op != 3)=true/\(t.op ==4)=false/\(t.op != 4)=true/\(t.op ==5)=true/\(t.op != 5)=false/\(t.op ==6)=false/\(t.op != 6)=true/\(t.op ==7)=false/\(t.op != 7)=true/\(t.op ==9)=false/\(t.op != 9)=true/\(t.op ==15)=false/\(t.op != 15)=true/\(t.op ==16)=false/\(t.op != 16)=true:=by
 rw [h];exact⟨rfl,rfl,rfl,rfl,rfl,rfl,rfl,rfl,rfl,rfl,rfl,rfl,rfl,rfl,rfl,rfl,rfl,rfl,rfl,rfl⟩
theorem opf4 {t:GNode} (h:t.op=6):(t.op ==1)=false/\(t.op != 1)=true/\(t.op ==2)=false/\(t.op != 2)=true/\(t.op ==3)=false/\(t.op != 3)=true/\(t.op ==4)=false/\(t.op != 4)=true/\(t.op ==5)=false/\(t.op != 5)=true/\(t.op ==6)=true/\(t.op != 6)=false/\(t.op ==7)=false/\(t.op != 7)=true/\(t.op ==9)=false/\(t.op != 9)=true/\(t.op ==15)=false/\(t.op != 15)=true/\(t.op ==16)=false/\(t.op != 16)=true:=by
 rw [h];exact⟨rfl,rfl,rfl,rfl,rfl,rfl,rfl,rfl,rfl,rfl,rfl,rfl,rfl,rfl,rfl,rfl,rfl,rfl,rfl,rfl⟩
theorem opf5 {t:GNode} (h:t.op=7):(t.op ==1)=false/\(t.op != 1)=true/\(t.op ==2)=false/\(t.op != 2)=true/\(t.op ==3)=false/\(t.op != 3)=true/\(t.op ==4)=false/\(t.op != 4)=true/\(t.op ==5)=false/\(t.op != 5)=true/\(t.op ==6)=false/\(t.op != 6)=true/\(t.op ==7)=true/\(t.op != 7)=false/\(t.op ==9)=false/\(t.op != 9)=true/\(t.op ==15)=false/\(t.op != 15)=true/\(t.op ==16)=false/\(t.op != 16)=true:=by
 rw [h];exact⟨rfl,rfl,rfl,rfl,rfl,rfl,rfl,rfl,rfl,rfl,rfl,rfl,rfl,rfl,rfl,rfl,rfl,rfl,rfl,rfl⟩
theorem opf6 {t:GNode} (h:t.op=9):(t.op ==1)=false/\(t.op != 1)=true/\(t.op ==2)=false/\(t.op != 2)=true/\(t.op ==3)=false/\(t.op != 3)=true/\(t.op ==4)=false/\(t.op != 4)=true/\(t.op ==5)=false/\(t.op != 5)=true/\(t.op ==6)=false/\(t.op != 6)=true/\(t.op ==7)=false/\(t.op != 7)=true/\(t.op ==9)=true/\(t.op != 9)=false/\(t.op ==15)=false/\(t.op != 15)=true/\(t.op ==16)=false/\(t.op != 16)=true:=by
 rw [h];exact⟨rfl,rfl,rfl,rfl,rfl,rfl,rfl,rfl,rfl,rfl,rfl,rfl,rfl,rfl,rfl,rfl,rfl,rfl,rfl,rfl⟩
theorem opf7 {t:GNode} (h:t.op=15):(t.op ==1)=false/\(t.op != 1)=true/\(t.op ==2)=false/\(t.op != 2)=true/\(t.op ==3)=false/\(t.op != 3)=true/\(t.op ==4)=false/\(t.op != 4)=true/\(t.op ==5)=false/\(t.op != 5)=true/\(t.op ==6)=false/\(t.op != 6)=true/\(t.op ==7)=false/\(t.op != 7)=true/\(t.op ==9)=false/\(t.op != 9)=true/\(t.op ==15)=true/\(t.op != 15)=false/\(t.op ==16)=false/\(t.op != 16)=true:=by
 rw [h];exact⟨rfl,rfl,rfl,rfl,rfl,rfl,rfl,rfl,rfl,rfl,rfl,rfl,rfl,rfl,rfl,rfl,rfl,rfl,rfl,rfl⟩
theorem opf8 {t:GNode} (h:t.op=16):(t.op ==1)=false/\(t.op != 1)=true/\(t.op ==2)=false/\(t.op != 2)=true/\(t.op ==3)=false/\(t.op != 3)=true/\(t.op ==4)=false/\(t.op != 4)=true/\(t.op ==5)=false/\(t.op != 5)=true/\(t.op ==6)=false/\(t.op != 6)=true/\(t.op ==7)=false/\(t.op != 7)=true/\(t.op ==9)=false/\(t.op != 9)=true/\(t.op ==15)=false/\(t.op != 15)=true/\(t.op ==16)=true/\(t.op != 16)=false:=by
 rw [h];exact⟨rfl,rfl,rfl,rfl,rfl,rfl,rfl,rfl,rfl,rfl,rfl,rfl,rfl,rfl,rfl,rfl,rfl,rfl,rfl,rfl⟩
theorem opf9 {t:GNode} (h:t.op=4):(t.op ==1)=false/\(t.op != 1)=true/\(t.op ==2)=false/\(t.op != 2)=true/\(t.op ==3)=false/\(t.op != 3)=true/\(t.op ==4)=true/\(t.op != 4)=false/\(t.op ==5)=false/\(t.op != 5)=true/\(t.op ==6)=false/\(t.op != 6)=true/\(t.op ==7)=false/\(t.op != 7)=true/\(t.op ==9)=false/\(t.op != 9)=true/\(t.op ==15)=false/\(t.op != 15)=true/\(t.op ==16)=false/\(t.op != 16)=true:=by
 rw [h];exact⟨rfl,rfl,rfl,rfl,rfl,rfl,rfl,rfl,rfl,rfl,rfl,rfl,rfl,rfl,rfl,rfl,rfl,rfl,rfl,rfl⟩
theorem specExp (k:Nat):∀ (t:GNode) (A1:Option Addr) (c1:Nat) (w:World),t.bulk<k->GNode.At w (Lt w.heap.size) A1 c1 t->
 Calls Tryz.prog 79 #[.agg #[.int .i64 t.op,.int .i64 t.n,.string t.s,.string t.t,.slice A1 t.kids.length c1]] w fun e w'=>e= .returned (.bool t.exp)/\Below w.heap.size w w':=by
 induction k with
 | zero=>intro t A1 c1 w h;omega
 | succ k ih=>
  intro t A1 c1 w hk0 ht
  obtain⟨h0,h1,h2,h3,hs⟩:=id ht
  have hsz2:t.s.size<=9223372036854775807:=by unfold maxLen at h2;omega
  have hsz3:t.t.size<=9223372036854775807:=by unfold maxLen at h3;omega
  have hlen:t.kids.length<=9223372036854775807:=by simpa using hs.len
  have hte:=LH t.exp_eq
  have hcv:=LH (caseV_eq t.kids)
  have hbe:=t.bulk_eq
  obtain⟨w0,e0⟩:∃ w0,w0=w.alloc (.cells #[.int .i64 t.op,.int .i64 t.n,.string t.s,.string t.t,.slice A1 t.kids.length c1] 45):=⟨_,rfl⟩
  have E:=LH (show Below w.heap.size w w0 by rw [e0];exact(Below.refl _ _).alloc (Nat.le_refl _) _)
  have R:=LH (show Row w0 w.heap.size 45 #[.int .i64 t.op,.int .i64 t.n,.string t.s,.string t.t,.slice A1 t.kids.length c1] by rw [e0];exact Row.new' _ _ _ rfl)
  have EQ:=LH e0
  have HKK:∀ x∈t.kids,∀ (A2:Option Addr) (c2:Nat) (w2:World),GNode.At w2 (Lt w2.heap.size) A2 c2 x->Calls Tryz.prog 79 #[.agg #[.int .i64 x.op,.int .i64 x.n,.string x.s,.string x.t,.slice A2 x.kids.length c2]] w2 fun e w'=>e= .returned (.bool x.exp)/\Below w2.heap.size w2 w':=
   fun x hx A2 c2 w2 hx2=>ih x A2 c2 w2 (by have:=bulkL_mem GNode.bulk t.kids x hx;omega) hx2
  have HK2:∀ y∈t.kids,∀ x∈y.kids,∀ (A2:Option Addr) (c2:Nat) (w2:World),GNode.At w2 (Lt w2.heap.size) A2 c2 x->Calls Tryz.prog 79 #[.agg #[.int .i64 x.op,.int .i64 x.n,.string x.s,.string x.t,.slice A2 x.kids.length c2]] w2 fun e w'=>e= .returned (.bool x.exp)/\Below w2.heap.size w2 w':=
   fun y hy x hx A2 c2 w2 hx2=>ih x A2 c2 w2 (by have:=bulkL_mem GNode.bulk t.kids y hy;have:=bulkL_mem GNode.bulk y.kids x hx;have:=y.bulk_eq;omega) hx2
  have HES:=LH (fun(wx:World) (hb:Below w0.heap.size w0 wx)=>specEs t A1 c1 wx HKK (ht.keep (keep_below (E.out.trans (hb.mono E.out.size)) (Nat.le_trans E.out.size hb.size))))
  have HCS:=LH (fun(wx:World) (hb:Below w0.heap.size w0 wx)=>specCase t A1 c1 wx HKK HK2 (ht.keep (keep_below (E.out.trans (hb.mono E.out.size)) (Nat.le_trans E.out.size hb.size))))
  have hc0:=fun i=>R.out.cell i
  clear HKK HK2 ih hbe e0 h0 h1 h2 h3 hs ht
  by_cases o1:t.op=1
  ·
   skip
   cases te:(t.t.toList.isEmpty)
   ·
    skip
    have hv:=LH (show exp1 t.op t.n t.s t.t t.kids.length=false from by unfold exp1;simp [o1,te])
    have hx:=LH (show t.exp=false by rw [hte.out,hv.out];rfl)
    obtain⟨p1,r1,p2,r2,p3,r3,p4,r4,p5,r5,p6,r6,p7,r7,p9,r9,p15,r15,p16,r16⟩:=opf0 o1
    clear o1
    go_enter Tryz.func79,Tryz.ntmps79
    go_wp2_with fail
    go_ret
    refine⟨ret_bool hx.out.symm,?_⟩
    first | exact bT E B7 | exact bT E B8 | exact bT E B9 | exact E.out | exact belowN E.out _ | exact(belowN E.out _).drew | exact bA _ _ | exact belowN (bA _ _) _
   ·
    skip
    cases b:(t.s.toList.isEmpty)
    ·
     skip
     have hv:=LH (show exp1 t.op t.n t.s t.t t.kids.length=false from by unfold exp1;simp [o1,te,b])
     have hx:=LH (show t.exp=false by rw [hte.out,hv.out];rfl)
     obtain⟨p1,r1,p2,r2,p3,r3,p4,r4,p5,r5,p6,r6,p7,r7,p9,r9,p15,r15,p16,r16⟩:=opf0 o1
     clear o1
     go_enter Tryz.func79,Tryz.ntmps79
     go_wp2_with fail
     go_ret
     refine⟨ret_bool hx.out.symm,?_⟩
     first | exact bT E B7 | exact bT E B8 | exact bT E B9 | exact E.out | exact belowN E.out _ | exact(belowN E.out _).drew | exact bA _ _ | exact belowN (bA _ _) _
    ·
     skip
     by_cases hk:t.kids.length=0
     ·
      skip
      cases v:(inB t.n 0 1073741823)
      ·
       skip
       have hv:=LH (show exp1 t.op t.n t.s t.t t.kids.length=false from by unfold exp1;simp [o1,te,b,hk,v])
       have hx:=LH (show t.exp=false by rw [hte.out,hv.out];rfl)
       obtain⟨p1,r1,p2,r2,p3,r3,p4,r4,p5,r5,p6,r6,p7,r7,p9,r9,p15,r15,p16,r16⟩:=opf0 o1
       clear o1
       have hk1:(t.kids.length ==0)=true:=by simp [hk]
       have hk2:((t.kids.length:Int) ==0)=true:=by rw [beq_iff_eq];omega
       have hk6:((t.kids.length:Int) != 0)=false:=by simp only [bne,hk2];rfl
       have hk7:(t.kids.length != 0)=false:=by simp only [bne,hk1];rfl
       have hk3:¬ (0:Int)<(t.kids.length:Int):=by omega
       have hk4:decide (0<t.kids.length)=false:=by simp [hk]
       have Hhk:=LH hk
       clear hk
       have HIN:=LH (fun(wx:World)=>specIn t.n 0 1073741823 wx)
       rw [v] at HIN
       clear v
       go_enter Tryz.func79,Tryz.ntmps79
       go_wp2_with (first | (go_at_call 75;(try rw [<- EQ.out]);with_reducible refine(HIN.out _).mono ?_;rintro e w6 ⟨rfl,rfl⟩))
       go_ret
       refine⟨ret_bool hx.out.symm,?_⟩
       first | exact bT E B7 | exact bT E B8 | exact bT E B9 | exact E.out | exact belowN E.out _ | exact(belowN E.out _).drew | exact bA _ _ | exact belowN (bA _ _) _
      ·
       skip
       have hv:=LH (show exp1 t.op t.n t.s t.t t.kids.length=true from by unfold exp1;simp [o1,te,b,hk,v])
       have hx:=LH (show t.exp=true by rw [hte.out,hv.out,if_neg (by omega),List.eq_nil_of_length_eq_zero hk,GNode.expL];rfl)
       obtain⟨p1,r1,p2,r2,p3,r3,p4,r4,p5,r5,p6,r6,p7,r7,p9,r9,p15,r15,p16,r16⟩:=opf0 o1
       clear o1
       have hk1:(t.kids.length ==0)=true:=by simp [hk]
       have hk2:((t.kids.length:Int) ==0)=true:=by rw [beq_iff_eq];omega
       have hk6:((t.kids.length:Int) != 0)=false:=by simp only [bne,hk2];rfl
       have hk7:(t.kids.length != 0)=false:=by simp only [bne,hk1];rfl
       have hk3:¬ (0:Int)<(t.kids.length:Int):=by omega
       have hk4:decide (0<t.kids.length)=false:=by simp [hk]
       have Hhk:=LH hk
       clear hk
       have HIN:=LH (fun(wx:World)=>specIn t.n 0 1073741823 wx)
       rw [v] at HIN
       clear v
       go_enter Tryz.func79,Tryz.ntmps79
       go_wp2_with (first | (go_at_call 75;(try rw [<- EQ.out]);with_reducible refine(HIN.out _).mono ?_;rintro e w6 ⟨rfl,rfl⟩))
       go_ret
       refine⟨ret_bool hx.out.symm,?_⟩
       first | exact bT E B7 | exact bT E B8 | exact bT E B9 | exact E.out | exact belowN E.out _ | exact(belowN E.out _).drew | exact bA _ _ | exact belowN (bA _ _) _
     ·
      skip
      have hv:=LH (show exp1 t.op t.n t.s t.t t.kids.length=false from by unfold exp1;simp [o1,te,b,hk])
      have hx:=LH (show t.exp=false by rw [hte.out,hv.out];rfl)
      obtain⟨p1,r1,p2,r2,p3,r3,p4,r4,p5,r5,p6,r6,p7,r7,p9,r9,p15,r15,p16,r16⟩:=opf0 o1
      clear o1
      have hk1:(t.kids.length ==0)=false:=by simp [hk]
      have hk2:((t.kids.length:Int) ==0)=false:=by rw [beq_eq_false_iff_ne];omega
      have hk6:((t.kids.length:Int) != 0)=true:=by simp only [bne,hk2];rfl
      have hk7:(t.kids.length != 0)=true:=by simp only [bne,hk1];rfl
      have hk3:(0:Int)<(t.kids.length:Int):=by omega
      have hk4:decide (0<t.kids.length)=true:=decide_eq_true (by omega)
      have Hhk:=LH hk
      clear hk
      go_enter Tryz.func79,Tryz.ntmps79
      go_wp2_with fail
      go_ret
      refine⟨ret_bool hx.out.symm,?_⟩
      first | exact bT E B7 | exact bT E B8 | exact bT E B9 | exact E.out | exact belowN E.out _ | exact(belowN E.out _).drew | exact bA _ _ | exact belowN (bA _ _) _
  ·
   skip
   by_cases o2:t.op=2
   ·
    skip
    cases a:(t.n ==0)
    ·
     skip
     have hv:=LH (show exp1 t.op t.n t.s t.t t.kids.length=false from by unfold exp1;simp [o1,o2,a])
     have hx:=LH (show t.exp=false by rw [hte.out,hv.out];rfl)
     obtain⟨p1,r1,p2,r2,p3,r3,p4,r4,p5,r5,p6,r6,p7,r7,p9,r9,p15,r15,p16,r16⟩:=opf1 o2
     clear o1
     clear o2
     have an:(t.n != 0)=true:=by simp only [bne,a];rfl
     go_enter Tryz.func79,Tryz.ntmps79
     go_wp2_with fail
     go_ret
     refine⟨ret_bool hx.out.symm,?_⟩
     first | exact bT E B7 | exact bT E B8 | exact bT E B9 | exact E.out | exact belowN E.out _ | exact(belowN E.out _).drew | exact bA _ _ | exact belowN (bA _ _) _
    ·
     skip
     cases te:(t.t.toList.isEmpty)
     ·
      skip
      have hv:=LH (show exp1 t.op t.n t.s t.t t.kids.length=false from by unfold exp1;simp [o1,o2,a,te])
      have hx:=LH (show t.exp=false by rw [hte.out,hv.out];rfl)
      obtain⟨p1,r1,p2,r2,p3,r3,p4,r4,p5,r5,p6,r6,p7,r7,p9,r9,p15,r15,p16,r16⟩:=opf1 o2
      clear o1
      clear o2
      have an:(t.n != 0)=false:=by simp only [bne,a];rfl
      go_enter Tryz.func79,Tryz.ntmps79
      go_wp2_with fail
      go_ret
      refine⟨ret_bool hx.out.symm,?_⟩
      first | exact bT E B7 | exact bT E B8 | exact bT E B9 | exact E.out | exact belowN E.out _ | exact(belowN E.out _).drew | exact bA _ _ | exact belowN (bA _ _) _
     ·
      skip
      by_cases hk:t.kids.length=0
      ·
       skip
       cases nb:(nameB t.s)
       ·
        skip
        have hv:=LH (show exp1 t.op t.n t.s t.t t.kids.length=false from by unfold exp1;simp [o1,o2,a,te,hk,nb])
        have hx:=LH (show t.exp=false by rw [hte.out,hv.out];rfl)
        obtain⟨p1,r1,p2,r2,p3,r3,p4,r4,p5,r5,p6,r6,p7,r7,p9,r9,p15,r15,p16,r16⟩:=opf1 o2
        clear o1
        clear o2
        have an:(t.n != 0)=false:=by simp only [bne,a];rfl
        have hk1:(t.kids.length ==0)=true:=by simp [hk]
        have hk2:((t.kids.length:Int) ==0)=true:=by rw [beq_iff_eq];omega
        have hk6:((t.kids.length:Int) != 0)=false:=by simp only [bne,hk2];rfl
        have hk7:(t.kids.length != 0)=false:=by simp only [bne,hk1];rfl
        have hk3:¬ (0:Int)<(t.kids.length:Int):=by omega
        have hk4:decide (0<t.kids.length)=false:=by simp [hk]
        have Hhk:=LH hk
        clear hk
        have HNM:=LH (fun(wx:World)=>specName t.s wx hsz2)
        rw [nb] at HNM
        clear nb
        go_enter Tryz.func79,Tryz.ntmps79
        go_wp2_with (first | (go_at_call 92;(try rw [<- EQ.out]);with_reducible refine(HNM.out _).mono ?_;rintro e w9 ⟨rfl,hb9⟩;have B9:Hid (Below w0.heap.size w0 w9):=(by first | exact LH (B8.out.trans (hb9.mono B8.out.size)) | exact LH hb9 | exact LH (((belowN (Below.refl w0.heap.size w0) _).drew).trans hb9) | exact LH ((belowN (Below.refl w0.heap.size w0) _).trans hb9) | exact LH ((belowN (Below.refl w0.heap.size w0) _).trans (hb9.mono (belowN (Below.refl w0.heap.size w0) _).size)) | exact LH (B8.out.trans ((belowN (Below.refl w0.heap.size w8) _).trans (hb9.mono (Nat.le_trans B8.out.size (belowN (Below.refl w0.heap.size w8) _).size)))));have R9:=LH (R.out.below B9.out R.out.lt);have hc9:=fun i=>R9.out.cell i;clear hb9))
        go_ret
        refine⟨ret_bool hx.out.symm,?_⟩
        first | exact bT E B7 | exact bT E B8 | exact bT E B9 | exact E.out | exact belowN E.out _ | exact(belowN E.out _).drew | exact bA _ _ | exact belowN (bA _ _) _
       ·
        skip
        have hv:=LH (show exp1 t.op t.n t.s t.t t.kids.length=true from by unfold exp1;simp [o1,o2,a,te,hk,nb])
        have hx:=LH (show t.exp=true by rw [hte.out,hv.out,if_neg (by omega),List.eq_nil_of_length_eq_zero hk,GNode.expL];rfl)
        obtain⟨p1,r1,p2,r2,p3,r3,p4,r4,p5,r5,p6,r6,p7,r7,p9,r9,p15,r15,p16,r16⟩:=opf1 o2
        clear o1
        clear o2
        have an:(t.n != 0)=false:=by simp only [bne,a];rfl
        have hk1:(t.kids.length ==0)=true:=by simp [hk]
        have hk2:((t.kids.length:Int) ==0)=true:=by rw [beq_iff_eq];omega
        have hk6:((t.kids.length:Int) != 0)=false:=by simp only [bne,hk2];rfl
        have hk7:(t.kids.length != 0)=false:=by simp only [bne,hk1];rfl
        have hk3:¬ (0:Int)<(t.kids.length:Int):=by omega
        have hk4:decide (0<t.kids.length)=false:=by simp [hk]
        have Hhk:=LH hk
        clear hk
        have HNM:=LH (fun(wx:World)=>specName t.s wx hsz2)
        rw [nb] at HNM
        clear nb
        go_enter Tryz.func79,Tryz.ntmps79
        go_wp2_with (first | (go_at_call 92;(try rw [<- EQ.out]);with_reducible refine(HNM.out _).mono ?_;rintro e w9 ⟨rfl,hb9⟩;have B9:Hid (Below w0.heap.size w0 w9):=(by first | exact LH (B8.out.trans (hb9.mono B8.out.size)) | exact LH hb9 | exact LH (((belowN (Below.refl w0.heap.size w0) _).drew).trans hb9) | exact LH ((belowN (Below.refl w0.heap.size w0) _).trans hb9) | exact LH ((belowN (Below.refl w0.heap.size w0) _).trans (hb9.mono (belowN (Below.refl w0.heap.size w0) _).size)) | exact LH (B8.out.trans ((belowN (Below.refl w0.heap.size w8) _).trans (hb9.mono (Nat.le_trans B8.out.size (belowN (Below.refl w0.heap.size w8) _).size)))));have R9:=LH (R.out.below B9.out R.out.lt);have hc9:=fun i=>R9.out.cell i;clear hb9))
        go_ret
        refine⟨ret_bool hx.out.symm,?_⟩
        first | exact bT E B7 | exact bT E B8 | exact bT E B9 | exact E.out | exact belowN E.out _ | exact(belowN E.out _).drew | exact bA _ _ | exact belowN (bA _ _) _
      ·
       skip
       have hv:=LH (show exp1 t.op t.n t.s t.t t.kids.length=false from by unfold exp1;simp [o1,o2,a,te,hk])
       have hx:=LH (show t.exp=false by rw [hte.out,hv.out];rfl)
       obtain⟨p1,r1,p2,r2,p3,r3,p4,r4,p5,r5,p6,r6,p7,r7,p9,r9,p15,r15,p16,r16⟩:=opf1 o2
       clear o1
       clear o2
       have an:(t.n != 0)=false:=by simp only [bne,a];rfl
       have hk1:(t.kids.length ==0)=false:=by simp [hk]
       have hk2:((t.kids.length:Int) ==0)=false:=by rw [beq_eq_false_iff_ne];omega
       have hk6:((t.kids.length:Int) != 0)=true:=by simp only [bne,hk2];rfl
       have hk7:(t.kids.length != 0)=true:=by simp only [bne,hk1];rfl
       have hk3:(0:Int)<(t.kids.length:Int):=by omega
       have hk4:decide (0<t.kids.length)=true:=decide_eq_true (by omega)
       have Hhk:=LH hk
       clear hk
       go_enter Tryz.func79,Tryz.ntmps79
       go_wp2_with fail
       go_ret
       refine⟨ret_bool hx.out.symm,?_⟩
       first | exact bT E B7 | exact bT E B8 | exact bT E B9 | exact E.out | exact belowN E.out _ | exact(belowN E.out _).drew | exact bA _ _ | exact belowN (bA _ _) _
   ·
    skip
    by_cases o3:t.op=3
    ·
     skip
     cases a:(t.n ==0)
     ·
      skip
      have hv:=LH (show exp1 t.op t.n t.s t.t t.kids.length=false from by unfold exp1;simp [o1,o2,o3,a])
      have hx:=LH (show t.exp=false by rw [hte.out,hv.out];rfl)
      obtain⟨p1,r1,p2,r2,p3,r3,p4,r4,p5,r5,p6,r6,p7,r7,p9,r9,p15,r15,p16,r16⟩:=opf2 o3
      clear o1
      clear o2
      clear o3
      have an:(t.n != 0)=true:=by simp only [bne,a];rfl
      go_enter Tryz.func79,Tryz.ntmps79
      go_wp2_with fail
      go_ret
      refine⟨ret_bool hx.out.symm,?_⟩
      first | exact bT E B7 | exact bT E B8 | exact bT E B9 | exact E.out | exact belowN E.out _ | exact(belowN E.out _).drew | exact bA _ _ | exact belowN (bA _ _) _
     ·
      skip
      cases te:(t.t.toList.isEmpty)
      ·
       skip
       have hv:=LH (show exp1 t.op t.n t.s t.t t.kids.length=false from by unfold exp1;simp [o1,o2,o3,a,te])
       have hx:=LH (show t.exp=false by rw [hte.out,hv.out];rfl)
       obtain⟨p1,r1,p2,r2,p3,r3,p4,r4,p5,r5,p6,r6,p7,r7,p9,r9,p15,r15,p16,r16⟩:=opf2 o3
       clear o1
       clear o2
       clear o3
       have an:(t.n != 0)=false:=by simp only [bne,a];rfl
       go_enter Tryz.func79,Tryz.ntmps79
       go_wp2_with fail
       go_ret
       refine⟨ret_bool hx.out.symm,?_⟩
       first | exact bT E B7 | exact bT E B8 | exact bT E B9 | exact E.out | exact belowN E.out _ | exact(belowN E.out _).drew | exact bA _ _ | exact belowN (bA _ _) _
      ·
       skip
       by_cases hk:t.kids.length=1
       ·
        skip
        cases nb:(nameB t.s)
        ·
         skip
         have hv:=LH (show exp1 t.op t.n t.s t.t t.kids.length=false from by unfold exp1;simp [o1,o2,o3,a,te,hk,nb])
         have hx:=LH (show t.exp=false by rw [hte.out,hv.out];rfl)
         obtain⟨p1,r1,p2,r2,p3,r3,p4,r4,p5,r5,p6,r6,p7,r7,p9,r9,p15,r15,p16,r16⟩:=opf2 o3
         clear o1
         clear o2
         clear o3
         have an:(t.n != 0)=false:=by simp only [bne,a];rfl
         have hk1:(t.kids.length ==1)=true:=by simp [hk]
         have hk2:((t.kids.length:Int) ==1)=true:=by rw [beq_iff_eq];omega
         have hk6:((t.kids.length:Int) != 1)=false:=by simp only [bne,hk2];rfl
         have hk7:(t.kids.length != 1)=false:=by simp only [bne,hk1];rfl
         have Hhk:=LH hk
         clear hk
         have HNM:=LH (fun(wx:World)=>specName t.s wx hsz2)
         rw [nb] at HNM
         clear nb
         go_enter Tryz.func79,Tryz.ntmps79
         go_wp2_with (first | (go_at_call 92;(try rw [<- EQ.out]);with_reducible refine(HNM.out _).mono ?_;rintro e w9 ⟨rfl,hb9⟩;have B9:Hid (Below w0.heap.size w0 w9):=(by first | exact LH (B8.out.trans (hb9.mono B8.out.size)) | exact LH hb9 | exact LH (((belowN (Below.refl w0.heap.size w0) _).drew).trans hb9) | exact LH ((belowN (Below.refl w0.heap.size w0) _).trans hb9) | exact LH ((belowN (Below.refl w0.heap.size w0) _).trans (hb9.mono (belowN (Below.refl w0.heap.size w0) _).size)) | exact LH (B8.out.trans ((belowN (Below.refl w0.heap.size w8) _).trans (hb9.mono (Nat.le_trans B8.out.size (belowN (Below.refl w0.heap.size w8) _).size)))));have R9:=LH (R.out.below B9.out R.out.lt);have hc9:=fun i=>R9.out.cell i;clear hb9))
         go_ret
         refine⟨ret_bool hx.out.symm,?_⟩
         first | exact bT E B7 | exact bT E B8 | exact bT E B9 | exact E.out | exact belowN E.out _ | exact(belowN E.out _).drew | exact bA _ _ | exact belowN (bA _ _) _
        ·
         skip
         have hv:=LH (show exp1 t.op t.n t.s t.t t.kids.length=true from by unfold exp1;simp [o1,o2,o3,a,te,hk,nb])
         have hx:=LH (show t.exp=GNode.expL t.kids by rw [hte.out,hv.out,if_neg (by omega)];rfl)
         obtain⟨p1,r1,p2,r2,p3,r3,p4,r4,p5,r5,p6,r6,p7,r7,p9,r9,p15,r15,p16,r16⟩:=opf2 o3
         clear o1
         clear o2
         clear o3
         have an:(t.n != 0)=false:=by simp only [bne,a];rfl
         have hk1:(t.kids.length ==1)=true:=by simp [hk]
         have hk2:((t.kids.length:Int) ==1)=true:=by rw [beq_iff_eq];omega
         have hk6:((t.kids.length:Int) != 1)=false:=by simp only [bne,hk2];rfl
         have hk7:(t.kids.length != 1)=false:=by simp only [bne,hk1];rfl
         have Hhk:=LH hk
         clear hk
         have HNM:=LH (fun(wx:World)=>specName t.s wx hsz2)
         rw [nb] at HNM
         clear nb
         go_enter Tryz.func79,Tryz.ntmps79
         go_wp2_with (first | (go_at_call 92;(try rw [<- EQ.out]);with_reducible refine(HNM.out _).mono ?_;rintro e w9 ⟨rfl,hb9⟩;have B9:Hid (Below w0.heap.size w0 w9):=(by first | exact LH (B8.out.trans (hb9.mono B8.out.size)) | exact LH hb9 | exact LH (((belowN (Below.refl w0.heap.size w0) _).drew).trans hb9) | exact LH ((belowN (Below.refl w0.heap.size w0) _).trans hb9) | exact LH ((belowN (Below.refl w0.heap.size w0) _).trans (hb9.mono (belowN (Below.refl w0.heap.size w0) _).size)) | exact LH (B8.out.trans ((belowN (Below.refl w0.heap.size w8) _).trans (hb9.mono (Nat.le_trans B8.out.size (belowN (Below.refl w0.heap.size w8) _).size)))));have R9:=LH (R.out.below B9.out R.out.lt);have hc9:=fun i=>R9.out.cell i;clear hb9) | (go_at_call 93;(try rw [<- EQ.out]);refine(HES.out _ (by first | exact B8.out | exact B9.out | exact Below.refl _ _ | exact belowN (Below.refl _ _) _ | exact(belowN (Below.refl _ _) _).drew)).mono ?_;rintro e w7 ⟨rfl,hb7⟩;have B7:Hid (Below w0.heap.size w0 w7):=(by first | exact LH (B8.out.trans (hb7.mono B8.out.size)) | exact LH (B9.out.trans (hb7.mono B9.out.size)) | exact LH hb7);clear hb7))
         go_ret
         refine⟨ret_bool hx.out.symm,?_⟩
         first | exact bT E B7 | exact bT E B8 | exact bT E B9 | exact E.out | exact belowN E.out _ | exact(belowN E.out _).drew | exact bA _ _ | exact belowN (bA _ _) _
       ·
        skip
        have hv:=LH (show exp1 t.op t.n t.s t.t t.kids.length=false from by unfold exp1;simp [o1,o2,o3,a,te,hk])
        have hx:=LH (show t.exp=false by rw [hte.out,hv.out];rfl)
        obtain⟨p1,r1,p2,r2,p3,r3,p4,r4,p5,r5,p6,r6,p7,r7,p9,r9,p15,r15,p16,r16⟩:=opf2 o3
        clear o1
        clear o2
        clear o3
        have an:(t.n != 0)=false:=by simp only [bne,a];rfl
        have hk1:(t.kids.length ==1)=false:=by simp [hk]
        have hk2:((t.kids.length:Int) ==1)=false:=by rw [beq_eq_false_iff_ne];omega
        have hk6:((t.kids.length:Int) != 1)=true:=by simp only [bne,hk2];rfl
        have hk7:(t.kids.length != 1)=true:=by simp only [bne,hk1];rfl
        have Hhk:=LH hk
        clear hk
        go_enter Tryz.func79,Tryz.ntmps79
        go_wp2_with fail
        go_ret
        refine⟨ret_bool hx.out.symm,?_⟩
        first | exact bT E B7 | exact bT E B8 | exact bT E B9 | exact E.out | exact belowN E.out _ | exact(belowN E.out _).drew | exact bA _ _ | exact belowN (bA _ _) _
    ·
     skip
     by_cases o5:t.op=5
     ·
      skip
      cases a:(t.n ==0)
      ·
       skip
       have hv:=LH (show exp1 t.op t.n t.s t.t t.kids.length=false from by unfold exp1;simp [o1,o2,o3,o5,a])
       have hx:=LH (show t.exp=false by rw [hte.out,hv.out];rfl)
       obtain⟨p1,r1,p2,r2,p3,r3,p4,r4,p5,r5,p6,r6,p7,r7,p9,r9,p15,r15,p16,r16⟩:=opf3 o5
       clear o1
       clear o2
       clear o3
       clear o5
       have an:(t.n != 0)=true:=by simp only [bne,a];rfl
       go_enter Tryz.func79,Tryz.ntmps79
       go_wp2_with fail
       go_ret
       refine⟨ret_bool hx.out.symm,?_⟩
       first | exact bT E B7 | exact bT E B8 | exact bT E B9 | exact E.out | exact belowN E.out _ | exact(belowN E.out _).drew | exact bA _ _ | exact belowN (bA _ _) _
      ·
       skip
       cases te:(t.t.toList.isEmpty)
       ·
        skip
        have hv:=LH (show exp1 t.op t.n t.s t.t t.kids.length=false from by unfold exp1;simp [o1,o2,o3,o5,a,te])
        have hx:=LH (show t.exp=false by rw [hte.out,hv.out];rfl)
        obtain⟨p1,r1,p2,r2,p3,r3,p4,r4,p5,r5,p6,r6,p7,r7,p9,r9,p15,r15,p16,r16⟩:=opf3 o5
        clear o1
        clear o2
        clear o3
        clear o5
        have an:(t.n != 0)=false:=by simp only [bne,a];rfl
        go_enter Tryz.func79,Tryz.ntmps79
        go_wp2_with fail
        go_ret
        refine⟨ret_bool hx.out.symm,?_⟩
        first | exact bT E B7 | exact bT E B8 | exact bT E B9 | exact E.out | exact belowN E.out _ | exact(belowN E.out _).drew | exact bA _ _ | exact belowN (bA _ _) _
       ·
        skip
        by_cases hk:t.kids.length=2
        ·
         skip
         cases nb:(nameB t.s)
         ·
          skip
          have hv:=LH (show exp1 t.op t.n t.s t.t t.kids.length=false from by unfold exp1;simp [o1,o2,o3,o5,a,te,hk,nb])
          have hx:=LH (show t.exp=false by rw [hte.out,hv.out];rfl)
          obtain⟨p1,r1,p2,r2,p3,r3,p4,r4,p5,r5,p6,r6,p7,r7,p9,r9,p15,r15,p16,r16⟩:=opf3 o5
          clear o1
          clear o2
          clear o3
          clear o5
          have an:(t.n != 0)=false:=by simp only [bne,a];rfl
          have hk1:(t.kids.length ==2)=true:=by simp [hk]
          have hk2:((t.kids.length:Int) ==2)=true:=by rw [beq_iff_eq];omega
          have hk6:((t.kids.length:Int) != 2)=false:=by simp only [bne,hk2];rfl
          have hk7:(t.kids.length != 2)=false:=by simp only [bne,hk1];rfl
          have Hhk:=LH hk
          clear hk
          have HNM:=LH (fun(wx:World)=>specName t.s wx hsz2)
          rw [nb] at HNM
          clear nb
          go_enter Tryz.func79,Tryz.ntmps79
          go_wp2_with (first | (go_at_call 92;(try rw [<- EQ.out]);with_reducible refine(HNM.out _).mono ?_;rintro e w9 ⟨rfl,hb9⟩;have B9:Hid (Below w0.heap.size w0 w9):=(by first | exact LH (B8.out.trans (hb9.mono B8.out.size)) | exact LH hb9 | exact LH (((belowN (Below.refl w0.heap.size w0) _).drew).trans hb9) | exact LH ((belowN (Below.refl w0.heap.size w0) _).trans hb9) | exact LH ((belowN (Below.refl w0.heap.size w0) _).trans (hb9.mono (belowN (Below.refl w0.heap.size w0) _).size)) | exact LH (B8.out.trans ((belowN (Below.refl w0.heap.size w8) _).trans (hb9.mono (Nat.le_trans B8.out.size (belowN (Below.refl w0.heap.size w8) _).size)))));have R9:=LH (R.out.below B9.out R.out.lt);have hc9:=fun i=>R9.out.cell i;clear hb9))
          go_ret
          refine⟨ret_bool hx.out.symm,?_⟩
          first | exact bT E B7 | exact bT E B8 | exact bT E B9 | exact E.out | exact belowN E.out _ | exact(belowN E.out _).drew | exact bA _ _ | exact belowN (bA _ _) _
         ·
          skip
          have hv:=LH (show exp1 t.op t.n t.s t.t t.kids.length=true from by unfold exp1;simp [o1,o2,o3,o5,a,te,hk,nb])
          have hx:=LH (show t.exp=GNode.expL t.kids by rw [hte.out,hv.out,if_neg (by omega)];rfl)
          obtain⟨p1,r1,p2,r2,p3,r3,p4,r4,p5,r5,p6,r6,p7,r7,p9,r9,p15,r15,p16,r16⟩:=opf3 o5
          clear o1
          clear o2
          clear o3
          clear o5
          have an:(t.n != 0)=false:=by simp only [bne,a];rfl
          have hk1:(t.kids.length ==2)=true:=by simp [hk]
          have hk2:((t.kids.length:Int) ==2)=true:=by rw [beq_iff_eq];omega
          have hk6:((t.kids.length:Int) != 2)=false:=by simp only [bne,hk2];rfl
          have hk7:(t.kids.length != 2)=false:=by simp only [bne,hk1];rfl
          have Hhk:=LH hk
          clear hk
          have HNM:=LH (fun(wx:World)=>specName t.s wx hsz2)
          rw [nb] at HNM
          clear nb
          go_enter Tryz.func79,Tryz.ntmps79
          go_wp2_with (first | (go_at_call 92;(try rw [<- EQ.out]);with_reducible refine(HNM.out _).mono ?_;rintro e w9 ⟨rfl,hb9⟩;have B9:Hid (Below w0.heap.size w0 w9):=(by first | exact LH (B8.out.trans (hb9.mono B8.out.size)) | exact LH hb9 | exact LH (((belowN (Below.refl w0.heap.size w0) _).drew).trans hb9) | exact LH ((belowN (Below.refl w0.heap.size w0) _).trans hb9) | exact LH ((belowN (Below.refl w0.heap.size w0) _).trans (hb9.mono (belowN (Below.refl w0.heap.size w0) _).size)) | exact LH (B8.out.trans ((belowN (Below.refl w0.heap.size w8) _).trans (hb9.mono (Nat.le_trans B8.out.size (belowN (Below.refl w0.heap.size w8) _).size)))));have R9:=LH (R.out.below B9.out R.out.lt);have hc9:=fun i=>R9.out.cell i;clear hb9) | (go_at_call 93;(try rw [<- EQ.out]);refine(HES.out _ (by first | exact B8.out | exact B9.out | exact Below.refl _ _ | exact belowN (Below.refl _ _) _ | exact(belowN (Below.refl _ _) _).drew)).mono ?_;rintro e w7 ⟨rfl,hb7⟩;have B7:Hid (Below w0.heap.size w0 w7):=(by first | exact LH (B8.out.trans (hb7.mono B8.out.size)) | exact LH (B9.out.trans (hb7.mono B9.out.size)) | exact LH hb7);clear hb7))
          go_ret
          refine⟨ret_bool hx.out.symm,?_⟩
          first | exact bT E B7 | exact bT E B8 | exact bT E B9 | exact E.out | exact belowN E.out _ | exact(belowN E.out _).drew | exact bA _ _ | exact belowN (bA _ _) _
        ·
         skip
         have hv:=LH (show exp1 t.op t.n t.s t.t t.kids.length=false from by unfold exp1;simp [o1,o2,o3,o5,a,te,hk])
         have hx:=LH (show t.exp=false by rw [hte.out,hv.out];rfl)
         obtain⟨p1,r1,p2,r2,p3,r3,p4,r4,p5,r5,p6,r6,p7,r7,p9,r9,p15,r15,p16,r16⟩:=opf3 o5
         clear o1
         clear o2
         clear o3
         clear o5
         have an:(t.n != 0)=false:=by simp only [bne,a];rfl
         have hk1:(t.kids.length ==2)=false:=by simp [hk]
         have hk2:((t.kids.length:Int) ==2)=false:=by rw [beq_eq_false_iff_ne];omega
         have hk6:((t.kids.length:Int) != 2)=true:=by simp only [bne,hk2];rfl
         have hk7:(t.kids.length != 2)=true:=by simp only [bne,hk1];rfl
         have Hhk:=LH hk
         clear hk
         go_enter Tryz.func79,Tryz.ntmps79
         go_wp2_with fail
         go_ret
         refine⟨ret_bool hx.out.symm,?_⟩
         first | exact bT E B7 | exact bT E B8 | exact bT E B9 | exact E.out | exact belowN E.out _ | exact(belowN E.out _).drew | exact bA _ _ | exact belowN (bA _ _) _
     ·
      skip
      by_cases o6:t.op=6
      ·
       skip
       cases a:(t.n ==0)
       ·
        skip
        have hv:=LH (show exp1 t.op t.n t.s t.t t.kids.length=false from by unfold exp1;simp [o1,o2,o3,o5,o6,a])
        have hx:=LH (show t.exp=false by rw [hte.out,hv.out];rfl)
        obtain⟨p1,r1,p2,r2,p3,r3,p4,r4,p5,r5,p6,r6,p7,r7,p9,r9,p15,r15,p16,r16⟩:=opf4 o6
        clear o1
        clear o2
        clear o3
        clear o5
        clear o6
        have an:(t.n != 0)=true:=by simp only [bne,a];rfl
        go_enter Tryz.func79,Tryz.ntmps79
        go_wp2_with fail
        go_ret
        refine⟨ret_bool hx.out.symm,?_⟩
        first | exact bT E B7 | exact bT E B8 | exact bT E B9 | exact E.out | exact belowN E.out _ | exact(belowN E.out _).drew | exact bA _ _ | exact belowN (bA _ _) _
       ·
        skip
        by_cases hk:t.kids.length=2
        ·
         skip
         cases nb:(nameB t.s)
         ·
          skip
          have hv:=LH (show exp1 t.op t.n t.s t.t t.kids.length=false from by unfold exp1;simp [o1,o2,o3,o5,o6,a,hk,nb])
          have hx:=LH (show t.exp=false by rw [hte.out,hv.out];rfl)
          obtain⟨p1,r1,p2,r2,p3,r3,p4,r4,p5,r5,p6,r6,p7,r7,p9,r9,p15,r15,p16,r16⟩:=opf4 o6
          clear o1
          clear o2
          clear o3
          clear o5
          clear o6
          have an:(t.n != 0)=false:=by simp only [bne,a];rfl
          have hk1:(t.kids.length ==2)=true:=by simp [hk]
          have hk2:((t.kids.length:Int) ==2)=true:=by rw [beq_iff_eq];omega
          have hk6:((t.kids.length:Int) != 2)=false:=by simp only [bne,hk2];rfl
          have hk7:(t.kids.length != 2)=false:=by simp only [bne,hk1];rfl
          have Hhk:=LH hk
          clear hk
          have HNM:=LH (fun(wx:World)=>specName t.s wx hsz2)
          rw [nb] at HNM
          clear nb
          go_enter Tryz.func79,Tryz.ntmps79
          go_wp2_with (first | (go_at_call 92;(try rw [<- EQ.out]);with_reducible refine(HNM.out _).mono ?_;rintro e w9 ⟨rfl,hb9⟩;have B9:Hid (Below w0.heap.size w0 w9):=(by first | exact LH (B8.out.trans (hb9.mono B8.out.size)) | exact LH hb9 | exact LH (((belowN (Below.refl w0.heap.size w0) _).drew).trans hb9) | exact LH ((belowN (Below.refl w0.heap.size w0) _).trans hb9) | exact LH ((belowN (Below.refl w0.heap.size w0) _).trans (hb9.mono (belowN (Below.refl w0.heap.size w0) _).size)) | exact LH (B8.out.trans ((belowN (Below.refl w0.heap.size w8) _).trans (hb9.mono (Nat.le_trans B8.out.size (belowN (Below.refl w0.heap.size w8) _).size)))));have R9:=LH (R.out.below B9.out R.out.lt);have hc9:=fun i=>R9.out.cell i;clear hb9))
          go_ret
          refine⟨ret_bool hx.out.symm,?_⟩
          first | exact bT E B7 | exact bT E B8 | exact bT E B9 | exact E.out | exact belowN E.out _ | exact(belowN E.out _).drew | exact bA _ _ | exact belowN (bA _ _) _
         ·
          skip
          cases nt:(nameB t.t)
          ·
           skip
           have hv:=LH (show exp1 t.op t.n t.s t.t t.kids.length=false from by unfold exp1;simp [o1,o2,o3,o5,o6,a,hk,nb,nt])
           have hx:=LH (show t.exp=false by rw [hte.out,hv.out];rfl)
           obtain⟨p1,r1,p2,r2,p3,r3,p4,r4,p5,r5,p6,r6,p7,r7,p9,r9,p15,r15,p16,r16⟩:=opf4 o6
           clear o1
           clear o2
           clear o3
           clear o5
           clear o6
           have an:(t.n != 0)=false:=by simp only [bne,a];rfl
           have hk1:(t.kids.length ==2)=true:=by simp [hk]
           have hk2:((t.kids.length:Int) ==2)=true:=by rw [beq_iff_eq];omega
           have hk6:((t.kids.length:Int) != 2)=false:=by simp only [bne,hk2];rfl
           have hk7:(t.kids.length != 2)=false:=by simp only [bne,hk1];rfl
           have Hhk:=LH hk
           clear hk
           have HNM:=LH (fun(wx:World)=>specName t.s wx hsz2)
           rw [nb] at HNM
           clear nb
           have HNT:=LH (fun(wx:World)=>specName t.t wx hsz3)
           rw [nt] at HNT
           clear nt
           go_enter Tryz.func79,Tryz.ntmps79
           go_wp2_with (first | (go_at_call 92;(try rw [<- EQ.out]);with_reducible refine(HNM.out _).mono ?_;rintro e w9 ⟨rfl,hb9⟩;have B9:Hid (Below w0.heap.size w0 w9):=(by first | exact LH (B8.out.trans (hb9.mono B8.out.size)) | exact LH hb9 | exact LH (((belowN (Below.refl w0.heap.size w0) _).drew).trans hb9) | exact LH ((belowN (Below.refl w0.heap.size w0) _).trans hb9) | exact LH ((belowN (Below.refl w0.heap.size w0) _).trans (hb9.mono (belowN (Below.refl w0.heap.size w0) _).size)) | exact LH (B8.out.trans ((belowN (Below.refl w0.heap.size w8) _).trans (hb9.mono (Nat.le_trans B8.out.size (belowN (Below.refl w0.heap.size w8) _).size)))));have R9:=LH (R.out.below B9.out R.out.lt);have hc9:=fun i=>R9.out.cell i;clear hb9) | (go_at_call 92;(try rw [<- EQ.out]);with_reducible refine(HNT.out _).mono ?_;rintro e w8 ⟨rfl,hb8⟩;have B8:Hid (Below w0.heap.size w0 w8):=(by first | exact LH (B9.out.trans (hb8.mono B9.out.size)) | exact LH hb8 | exact LH (((belowN (Below.refl w0.heap.size w0) _).drew).trans hb8) | exact LH ((belowN (Below.refl w0.heap.size w0) _).trans hb8) | exact LH ((belowN (Below.refl w0.heap.size w0) _).trans (hb8.mono (belowN (Below.refl w0.heap.size w0) _).size)) | exact LH (B9.out.trans ((belowN (Below.refl w0.heap.size w9) _).trans (hb8.mono (Nat.le_trans B9.out.size (belowN (Below.refl w0.heap.size w9) _).size)))));have R8:=LH (R.out.below B8.out R.out.lt);have hc8:=fun i=>R8.out.cell i;clear hb8))
           go_ret
           refine⟨ret_bool hx.out.symm,?_⟩
           first | exact bT E B7 | exact bT E B8 | exact bT E B9 | exact E.out | exact belowN E.out _ | exact(belowN E.out _).drew | exact bA _ _ | exact belowN (bA _ _) _
          ·
           skip
           have hv:=LH (show exp1 t.op t.n t.s t.t t.kids.length=true from by unfold exp1;simp [o1,o2,o3,o5,o6,a,hk,nb,nt])
           have hx:=LH (show t.exp=GNode.expL t.kids by rw [hte.out,hv.out,if_neg (by omega)];rfl)
           obtain⟨p1,r1,p2,r2,p3,r3,p4,r4,p5,r5,p6,r6,p7,r7,p9,r9,p15,r15,p16,r16⟩:=opf4 o6
           clear o1
           clear o2
           clear o3
           clear o5
           clear o6
           have an:(t.n != 0)=false:=by simp only [bne,a];rfl
           have hk1:(t.kids.length ==2)=true:=by simp [hk]
           have hk2:((t.kids.length:Int) ==2)=true:=by rw [beq_iff_eq];omega
           have hk6:((t.kids.length:Int) != 2)=false:=by simp only [bne,hk2];rfl
           have hk7:(t.kids.length != 2)=false:=by simp only [bne,hk1];rfl
           have Hhk:=LH hk
           clear hk
           have HNM:=LH (fun(wx:World)=>specName t.s wx hsz2)
           rw [nb] at HNM
           clear nb
           have HNT:=LH (fun(wx:World)=>specName t.t wx hsz3)
           rw [nt] at HNT
           clear nt
           go_enter Tryz.func79,Tryz.ntmps79
           go_wp2_with (first | (go_at_call 92;(try rw [<- EQ.out]);with_reducible refine(HNM.out _).mono ?_;rintro e w9 ⟨rfl,hb9⟩;have B9:Hid (Below w0.heap.size w0 w9):=(by first | exact LH (B8.out.trans (hb9.mono B8.out.size)) | exact LH hb9 | exact LH (((belowN (Below.refl w0.heap.size w0) _).drew).trans hb9) | exact LH ((belowN (Below.refl w0.heap.size w0) _).trans hb9) | exact LH ((belowN (Below.refl w0.heap.size w0) _).trans (hb9.mono (belowN (Below.refl w0.heap.size w0) _).size)) | exact LH (B8.out.trans ((belowN (Below.refl w0.heap.size w8) _).trans (hb9.mono (Nat.le_trans B8.out.size (belowN (Below.refl w0.heap.size w8) _).size)))));have R9:=LH (R.out.below B9.out R.out.lt);have hc9:=fun i=>R9.out.cell i;clear hb9) | (go_at_call 92;(try rw [<- EQ.out]);with_reducible refine(HNT.out _).mono ?_;rintro e w8 ⟨rfl,hb8⟩;have B8:Hid (Below w0.heap.size w0 w8):=(by first | exact LH (B9.out.trans (hb8.mono B9.out.size)) | exact LH hb8 | exact LH (((belowN (Below.refl w0.heap.size w0) _).drew).trans hb8) | exact LH ((belowN (Below.refl w0.heap.size w0) _).trans hb8) | exact LH ((belowN (Below.refl w0.heap.size w0) _).trans (hb8.mono (belowN (Below.refl w0.heap.size w0) _).size)) | exact LH (B9.out.trans ((belowN (Below.refl w0.heap.size w9) _).trans (hb8.mono (Nat.le_trans B9.out.size (belowN (Below.refl w0.heap.size w9) _).size)))));have R8:=LH (R.out.below B8.out R.out.lt);have hc8:=fun i=>R8.out.cell i;clear hb8) | (go_at_call 93;(try rw [<- EQ.out]);refine(HES.out _ (by first | exact B8.out | exact B9.out | exact Below.refl _ _ | exact belowN (Below.refl _ _) _ | exact(belowN (Below.refl _ _) _).drew)).mono ?_;rintro e w7 ⟨rfl,hb7⟩;have B7:Hid (Below w0.heap.size w0 w7):=(by first | exact LH (B8.out.trans (hb7.mono B8.out.size)) | exact LH (B9.out.trans (hb7.mono B9.out.size)) | exact LH hb7);clear hb7))
           go_ret
           refine⟨ret_bool hx.out.symm,?_⟩
           first | exact bT E B7 | exact bT E B8 | exact bT E B9 | exact E.out | exact belowN E.out _ | exact(belowN E.out _).drew | exact bA _ _ | exact belowN (bA _ _) _
        ·
         skip
         have hv:=LH (show exp1 t.op t.n t.s t.t t.kids.length=false from by unfold exp1;simp [o1,o2,o3,o5,o6,a,hk])
         have hx:=LH (show t.exp=false by rw [hte.out,hv.out];rfl)
         obtain⟨p1,r1,p2,r2,p3,r3,p4,r4,p5,r5,p6,r6,p7,r7,p9,r9,p15,r15,p16,r16⟩:=opf4 o6
         clear o1
         clear o2
         clear o3
         clear o5
         clear o6
         have an:(t.n != 0)=false:=by simp only [bne,a];rfl
         have hk1:(t.kids.length ==2)=false:=by simp [hk]
         have hk2:((t.kids.length:Int) ==2)=false:=by rw [beq_eq_false_iff_ne];omega
         have hk6:((t.kids.length:Int) != 2)=true:=by simp only [bne,hk2];rfl
         have hk7:(t.kids.length != 2)=true:=by simp only [bne,hk1];rfl
         have Hhk:=LH hk
         clear hk
         go_enter Tryz.func79,Tryz.ntmps79
         go_wp2_with fail
         go_ret
         refine⟨ret_bool hx.out.symm,?_⟩
         first | exact bT E B7 | exact bT E B8 | exact bT E B9 | exact E.out | exact belowN E.out _ | exact(belowN E.out _).drew | exact bA _ _ | exact belowN (bA _ _) _
      ·
       skip
       by_cases o7:t.op=7
       ·
        skip
        cases a:(t.n ==0)
        ·
         skip
         have hv:=LH (show exp1 t.op t.n t.s t.t t.kids.length=false from by unfold exp1;simp [o1,o2,o3,o5,o6,o7,a])
         have hx:=LH (show t.exp=false by rw [hte.out,hv.out];rfl)
         obtain⟨p1,r1,p2,r2,p3,r3,p4,r4,p5,r5,p6,r6,p7,r7,p9,r9,p15,r15,p16,r16⟩:=opf5 o7
         clear o1
         clear o2
         clear o3
         clear o5
         clear o6
         clear o7
         have an:(t.n != 0)=true:=by simp only [bne,a];rfl
         go_enter Tryz.func79,Tryz.ntmps79
         go_wp2_with fail
         go_ret
         refine⟨ret_bool hx.out.symm,?_⟩
         first | exact bT E B7 | exact bT E B8 | exact bT E B9 | exact E.out | exact belowN E.out _ | exact(belowN E.out _).drew | exact bA _ _ | exact belowN (bA _ _) _
        ·
         skip
         cases te:(t.t.toList.isEmpty)
         ·
          skip
          have hv:=LH (show exp1 t.op t.n t.s t.t t.kids.length=false from by unfold exp1;simp [o1,o2,o3,o5,o6,o7,a,te])
          have hx:=LH (show t.exp=false by rw [hte.out,hv.out];rfl)
          obtain⟨p1,r1,p2,r2,p3,r3,p4,r4,p5,r5,p6,r6,p7,r7,p9,r9,p15,r15,p16,r16⟩:=opf5 o7
          clear o1
          clear o2
          clear o3
          clear o5
          clear o6
          clear o7
          have an:(t.n != 0)=false:=by simp only [bne,a];rfl
          go_enter Tryz.func79,Tryz.ntmps79
          go_wp2_with fail
          go_ret
          refine⟨ret_bool hx.out.symm,?_⟩
          first | exact bT E B7 | exact bT E B8 | exact bT E B9 | exact E.out | exact belowN E.out _ | exact(belowN E.out _).drew | exact bA _ _ | exact belowN (bA _ _) _
         ·
          skip
          cases b:(t.s.toList.isEmpty)
          ·
           skip
           have hv:=LH (show exp1 t.op t.n t.s t.t t.kids.length=false from by unfold exp1;simp [o1,o2,o3,o5,o6,o7,a,te,b])
           have hx:=LH (show t.exp=false by rw [hte.out,hv.out];rfl)
           obtain⟨p1,r1,p2,r2,p3,r3,p4,r4,p5,r5,p6,r6,p7,r7,p9,r9,p15,r15,p16,r16⟩:=opf5 o7
           clear o1
           clear o2
           clear o3
           clear o5
           clear o6
           clear o7
           have an:(t.n != 0)=false:=by simp only [bne,a];rfl
           go_enter Tryz.func79,Tryz.ntmps79
           go_wp2_with fail
           go_ret
           refine⟨ret_bool hx.out.symm,?_⟩
           first | exact bT E B7 | exact bT E B8 | exact bT E B9 | exact E.out | exact belowN E.out _ | exact(belowN E.out _).drew | exact bA _ _ | exact belowN (bA _ _) _
          ·
           skip
           have hv:=LH (show exp1 t.op t.n t.s t.t t.kids.length=decide (2<=t.kids.length) from by unfold exp1;simp [o1,o2,o3,o5,o6,o7,a,te,b])
           have hx:=LH (show t.exp=caseV t.kids by rw [hte.out,hv.out,if_pos o7,hcv.out])
           obtain⟨p1,r1,p2,r2,p3,r3,p4,r4,p5,r5,p6,r6,p7,r7,p9,r9,p15,r15,p16,r16⟩:=opf5 o7
           clear o1
           clear o2
           clear o3
           clear o5
           clear o6
           clear o7
           have an:(t.n != 0)=false:=by simp only [bne,a];rfl
           go_enter Tryz.func79,Tryz.ntmps79
           go_wp2_with (first | (go_at_call 94;(try rw [<- EQ.out]);refine(HCS.out _ (by first | exact B8.out | exact B9.out | exact Below.refl _ _ | exact belowN (Below.refl _ _) _ | exact(belowN (Below.refl _ _) _).drew)).mono ?_;rintro e w7 ⟨rfl,hb7⟩;have B7:Hid (Below w0.heap.size w0 w7):=LH hb7;clear hb7))
           go_ret
           refine⟨ret_bool hx.out.symm,?_⟩
           first | exact bT E B7 | exact bT E B8 | exact bT E B9 | exact E.out | exact belowN E.out _ | exact(belowN E.out _).drew | exact bA _ _ | exact belowN (bA _ _) _
       ·
        skip
        by_cases o9:t.op=9
        ·
         skip
         cases a:(t.n ==0)
         ·
          skip
          have hv:=LH (show exp1 t.op t.n t.s t.t t.kids.length=false from by unfold exp1;simp [o1,o2,o3,o5,o6,o7,o9,a])
          have hx:=LH (show t.exp=false by rw [hte.out,hv.out];rfl)
          obtain⟨p1,r1,p2,r2,p3,r3,p4,r4,p5,r5,p6,r6,p7,r7,p9,r9,p15,r15,p16,r16⟩:=opf6 o9
          clear o1
          clear o2
          clear o3
          clear o5
          clear o6
          clear o7
          clear o9
          have an:(t.n != 0)=true:=by simp only [bne,a];rfl
          go_enter Tryz.func79,Tryz.ntmps79
          go_wp2_with fail
          go_ret
          refine⟨ret_bool hx.out.symm,?_⟩
          first | exact bT E B7 | exact bT E B8 | exact bT E B9 | exact E.out | exact belowN E.out _ | exact(belowN E.out _).drew | exact bA _ _ | exact belowN (bA _ _) _
         ·
          skip
          cases te:(t.t.toList.isEmpty)
          ·
           skip
           have hv:=LH (show exp1 t.op t.n t.s t.t t.kids.length=false from by unfold exp1;simp [o1,o2,o3,o5,o6,o7,o9,a,te])
           have hx:=LH (show t.exp=false by rw [hte.out,hv.out];rfl)
           obtain⟨p1,r1,p2,r2,p3,r3,p4,r4,p5,r5,p6,r6,p7,r7,p9,r9,p15,r15,p16,r16⟩:=opf6 o9
           clear o1
           clear o2
           clear o3
           clear o5
           clear o6
           clear o7
           clear o9
           have an:(t.n != 0)=false:=by simp only [bne,a];rfl
           go_enter Tryz.func79,Tryz.ntmps79
           go_wp2_with fail
           go_ret
           refine⟨ret_bool hx.out.symm,?_⟩
           first | exact bT E B7 | exact bT E B8 | exact bT E B9 | exact E.out | exact belowN E.out _ | exact(belowN E.out _).drew | exact bA _ _ | exact belowN (bA _ _) _
          ·
           skip
           cases b:(t.s.toList.isEmpty)
           ·
            skip
            have hv:=LH (show exp1 t.op t.n t.s t.t t.kids.length=false from by unfold exp1;simp [o1,o2,o3,o5,o6,o7,o9,a,te,b])
            have hx:=LH (show t.exp=false by rw [hte.out,hv.out];rfl)
            obtain⟨p1,r1,p2,r2,p3,r3,p4,r4,p5,r5,p6,r6,p7,r7,p9,r9,p15,r15,p16,r16⟩:=opf6 o9
            clear o1
            clear o2
            clear o3
            clear o5
            clear o6
            clear o7
            clear o9
            have an:(t.n != 0)=false:=by simp only [bne,a];rfl
            go_enter Tryz.func79,Tryz.ntmps79
            go_wp2_with fail
            go_ret
            refine⟨ret_bool hx.out.symm,?_⟩
            first | exact bT E B7 | exact bT E B8 | exact bT E B9 | exact E.out | exact belowN E.out _ | exact(belowN E.out _).drew | exact bA _ _ | exact belowN (bA _ _) _
           ·
            skip
            by_cases hk:t.kids.length=3
            ·
             skip
             have hv:=LH (show exp1 t.op t.n t.s t.t t.kids.length=true from by unfold exp1;simp [o1,o2,o3,o5,o6,o7,o9,a,te,b,hk])
             have hx:=LH (show t.exp=GNode.expL t.kids by rw [hte.out,hv.out,if_neg (by omega)];rfl)
             obtain⟨p1,r1,p2,r2,p3,r3,p4,r4,p5,r5,p6,r6,p7,r7,p9,r9,p15,r15,p16,r16⟩:=opf6 o9
             clear o1
             clear o2
             clear o3
             clear o5
             clear o6
             clear o7
             clear o9
             have an:(t.n != 0)=false:=by simp only [bne,a];rfl
             have hk1:(t.kids.length ==3)=true:=by simp [hk]
             have hk2:((t.kids.length:Int) ==3)=true:=by rw [beq_iff_eq];omega
             have hk6:((t.kids.length:Int) != 3)=false:=by simp only [bne,hk2];rfl
             have hk7:(t.kids.length != 3)=false:=by simp only [bne,hk1];rfl
             have Hhk:=LH hk
             clear hk
             go_enter Tryz.func79,Tryz.ntmps79
             go_wp2_with (first | (go_at_call 93;(try rw [<- EQ.out]);refine(HES.out _ (by first | exact B8.out | exact B9.out | exact Below.refl _ _ | exact belowN (Below.refl _ _) _ | exact(belowN (Below.refl _ _) _).drew)).mono ?_;rintro e w7 ⟨rfl,hb7⟩;have B7:Hid (Below w0.heap.size w0 w7):=(by first | exact LH (B8.out.trans (hb7.mono B8.out.size)) | exact LH (B9.out.trans (hb7.mono B9.out.size)) | exact LH hb7);clear hb7))
             go_ret
             refine⟨ret_bool hx.out.symm,?_⟩
             first | exact bT E B7 | exact bT E B8 | exact bT E B9 | exact E.out | exact belowN E.out _ | exact(belowN E.out _).drew | exact bA _ _ | exact belowN (bA _ _) _
            ·
             skip
             have hv:=LH (show exp1 t.op t.n t.s t.t t.kids.length=false from by unfold exp1;simp [o1,o2,o3,o5,o6,o7,o9,a,te,b,hk])
             have hx:=LH (show t.exp=false by rw [hte.out,hv.out];rfl)
             obtain⟨p1,r1,p2,r2,p3,r3,p4,r4,p5,r5,p6,r6,p7,r7,p9,r9,p15,r15,p16,r16⟩:=opf6 o9
             clear o1
             clear o2
             clear o3
             clear o5
             clear o6
             clear o7
             clear o9
             have an:(t.n != 0)=false:=by simp only [bne,a];rfl
             have hk1:(t.kids.length ==3)=false:=by simp [hk]
             have hk2:((t.kids.length:Int) ==3)=false:=by rw [beq_eq_false_iff_ne];omega
             have hk6:((t.kids.length:Int) != 3)=true:=by simp only [bne,hk2];rfl
             have hk7:(t.kids.length != 3)=true:=by simp only [bne,hk1];rfl
             have Hhk:=LH hk
             clear hk
             go_enter Tryz.func79,Tryz.ntmps79
             go_wp2_with fail
             go_ret
             refine⟨ret_bool hx.out.symm,?_⟩
             first | exact bT E B7 | exact bT E B8 | exact bT E B9 | exact E.out | exact belowN E.out _ | exact(belowN E.out _).drew | exact bA _ _ | exact belowN (bA _ _) _
        ·
         skip
         by_cases o15:t.op=15
         ·
          skip
          cases a:(t.n ==0)
          ·
           skip
           have hv:=LH (show exp1 t.op t.n t.s t.t t.kids.length=false from by unfold exp1;simp [o1,o2,o3,o5,o6,o7,o9,o15,a])
           have hx:=LH (show t.exp=false by rw [hte.out,hv.out];rfl)
           obtain⟨p1,r1,p2,r2,p3,r3,p4,r4,p5,r5,p6,r6,p7,r7,p9,r9,p15,r15,p16,r16⟩:=opf7 o15
           clear o1
           clear o2
           clear o3
           clear o5
           clear o6
           clear o7
           clear o9
           clear o15
           have an:(t.n != 0)=true:=by simp only [bne,a];rfl
           go_enter Tryz.func79,Tryz.ntmps79
           go_wp2_with fail
           go_ret
           refine⟨ret_bool hx.out.symm,?_⟩
           first | exact bT E B7 | exact bT E B8 | exact bT E B9 | exact E.out | exact belowN E.out _ | exact(belowN E.out _).drew | exact bA _ _ | exact belowN (bA _ _) _
          ·
           skip
           cases te:(t.t.toList.isEmpty)
           ·
            skip
            have hv:=LH (show exp1 t.op t.n t.s t.t t.kids.length=false from by unfold exp1;simp [o1,o2,o3,o5,o6,o7,o9,o15,a,te])
            have hx:=LH (show t.exp=false by rw [hte.out,hv.out];rfl)
            obtain⟨p1,r1,p2,r2,p3,r3,p4,r4,p5,r5,p6,r6,p7,r7,p9,r9,p15,r15,p16,r16⟩:=opf7 o15
            clear o1
            clear o2
            clear o3
            clear o5
            clear o6
            clear o7
            clear o9
            clear o15
            have an:(t.n != 0)=false:=by simp only [bne,a];rfl
            go_enter Tryz.func79,Tryz.ntmps79
            go_wp2_with fail
            go_ret
            refine⟨ret_bool hx.out.symm,?_⟩
            first | exact bT E B7 | exact bT E B8 | exact bT E B9 | exact E.out | exact belowN E.out _ | exact(belowN E.out _).drew | exact bA _ _ | exact belowN (bA _ _) _
           ·
            skip
            cases cn:(conB t.s)
            ·
             skip
             have hv:=LH (show exp1 t.op t.n t.s t.t t.kids.length=false from by unfold exp1;simp [o1,o2,o3,o5,o6,o7,o9,o15,a,te,cn])
             have hx:=LH (show t.exp=false by rw [hte.out,hv.out];rfl)
             obtain⟨p1,r1,p2,r2,p3,r3,p4,r4,p5,r5,p6,r6,p7,r7,p9,r9,p15,r15,p16,r16⟩:=opf7 o15
             clear o1
             clear o2
             clear o3
             clear o5
             clear o6
             clear o7
             clear o9
             clear o15
             have an:(t.n != 0)=false:=by simp only [bne,a];rfl
             have HCN:=LH (fun(wx:World)=>specCon t.s wx hsz2)
             rw [cn] at HCN
             clear cn
             go_enter Tryz.func79,Tryz.ntmps79
             go_wp2_with (first | (go_at_call 74;(try rw [<- EQ.out]);with_reducible refine(HCN.out _).mono ?_;rintro e w6 ⟨rfl,rfl⟩))
             go_ret
             refine⟨ret_bool hx.out.symm,?_⟩
             first | exact bT E B7 | exact bT E B8 | exact bT E B9 | exact E.out | exact belowN E.out _ | exact(belowN E.out _).drew | exact bA _ _ | exact belowN (bA _ _) _
            ·
             skip
             have hv:=LH (show exp1 t.op t.n t.s t.t t.kids.length=true from by unfold exp1;simp [o1,o2,o3,o5,o6,o7,o9,o15,a,te,cn])
             have hx:=LH (show t.exp=GNode.expL t.kids by rw [hte.out,hv.out,if_neg (by omega)];rfl)
             obtain⟨p1,r1,p2,r2,p3,r3,p4,r4,p5,r5,p6,r6,p7,r7,p9,r9,p15,r15,p16,r16⟩:=opf7 o15
             clear o1
             clear o2
             clear o3
             clear o5
             clear o6
             clear o7
             clear o9
             clear o15
             have an:(t.n != 0)=false:=by simp only [bne,a];rfl
             have HCN:=LH (fun(wx:World)=>specCon t.s wx hsz2)
             rw [cn] at HCN
             clear cn
             go_enter Tryz.func79,Tryz.ntmps79
             go_wp2_with (first | (go_at_call 74;(try rw [<- EQ.out]);with_reducible refine(HCN.out _).mono ?_;rintro e w6 ⟨rfl,rfl⟩) | (go_at_call 93;(try rw [<- EQ.out]);refine(HES.out _ (by first | exact B8.out | exact B9.out | exact Below.refl _ _ | exact belowN (Below.refl _ _) _ | exact(belowN (Below.refl _ _) _).drew)).mono ?_;rintro e w7 ⟨rfl,hb7⟩;have B7:Hid (Below w0.heap.size w0 w7):=(by first | exact LH (B8.out.trans (hb7.mono B8.out.size)) | exact LH (B9.out.trans (hb7.mono B9.out.size)) | exact LH hb7);clear hb7))
             go_ret
             refine⟨ret_bool hx.out.symm,?_⟩
             first | exact bT E B7 | exact bT E B8 | exact bT E B9 | exact E.out | exact belowN E.out _ | exact(belowN E.out _).drew | exact bA _ _ | exact belowN (bA _ _) _
         ·
          skip
          by_cases o16:t.op=16
          ·
           skip
           cases a:(t.n ==0)
           ·
            skip
            have hv:=LH (show exp1 t.op t.n t.s t.t t.kids.length=false from by unfold exp1;simp [o1,o2,o3,o5,o6,o7,o9,o15,o16,a])
            have hx:=LH (show t.exp=false by rw [hte.out,hv.out];rfl)
            obtain⟨p1,r1,p2,r2,p3,r3,p4,r4,p5,r5,p6,r6,p7,r7,p9,r9,p15,r15,p16,r16⟩:=opf8 o16
            clear o1
            clear o2
            clear o3
            clear o5
            clear o6
            clear o7
            clear o9
            clear o15
            clear o16
            have an:(t.n != 0)=true:=by simp only [bne,a];rfl
            go_enter Tryz.func79,Tryz.ntmps79
            go_wp2_with fail
            go_ret
            refine⟨ret_bool hx.out.symm,?_⟩
            first | exact bT E B7 | exact bT E B8 | exact bT E B9 | exact E.out | exact belowN E.out _ | exact(belowN E.out _).drew | exact bA _ _ | exact belowN (bA _ _) _
           ·
            skip
            cases te:(t.t.toList.isEmpty)
            ·
             skip
             have hv:=LH (show exp1 t.op t.n t.s t.t t.kids.length=false from by unfold exp1;simp [o1,o2,o3,o5,o6,o7,o9,o15,o16,a,te])
             have hx:=LH (show t.exp=false by rw [hte.out,hv.out];rfl)
             obtain⟨p1,r1,p2,r2,p3,r3,p4,r4,p5,r5,p6,r6,p7,r7,p9,r9,p15,r15,p16,r16⟩:=opf8 o16
             clear o1
             clear o2
             clear o3
             clear o5
             clear o6
             clear o7
             clear o9
             clear o15
             clear o16
             have an:(t.n != 0)=false:=by simp only [bne,a];rfl
             go_enter Tryz.func79,Tryz.ntmps79
             go_wp2_with fail
             go_ret
             refine⟨ret_bool hx.out.symm,?_⟩
             first | exact bT E B7 | exact bT E B8 | exact bT E B9 | exact E.out | exact belowN E.out _ | exact(belowN E.out _).drew | exact bA _ _ | exact belowN (bA _ _) _
            ·
             skip
             cases b:(t.s.toList.isEmpty)
             ·
              skip
              have hv:=LH (show exp1 t.op t.n t.s t.t t.kids.length=false from by unfold exp1;simp [o1,o2,o3,o5,o6,o7,o9,o15,o16,a,te,b])
              have hx:=LH (show t.exp=false by rw [hte.out,hv.out];rfl)
              obtain⟨p1,r1,p2,r2,p3,r3,p4,r4,p5,r5,p6,r6,p7,r7,p9,r9,p15,r15,p16,r16⟩:=opf8 o16
              clear o1
              clear o2
              clear o3
              clear o5
              clear o6
              clear o7
              clear o9
              clear o15
              clear o16
              have an:(t.n != 0)=false:=by simp only [bne,a];rfl
              go_enter Tryz.func79,Tryz.ntmps79
              go_wp2_with fail
              go_ret
              refine⟨ret_bool hx.out.symm,?_⟩
              first | exact bT E B7 | exact bT E B8 | exact bT E B9 | exact E.out | exact belowN E.out _ | exact(belowN E.out _).drew | exact bA _ _ | exact belowN (bA _ _) _
             ·
              skip
              by_cases hk:t.kids.length=1
              ·
               skip
               have hv:=LH (show exp1 t.op t.n t.s t.t t.kids.length=true from by unfold exp1;simp [o1,o2,o3,o5,o6,o7,o9,o15,o16,a,te,b,hk])
               have hx:=LH (show t.exp=GNode.expL t.kids by rw [hte.out,hv.out,if_neg (by omega)];rfl)
               obtain⟨p1,r1,p2,r2,p3,r3,p4,r4,p5,r5,p6,r6,p7,r7,p9,r9,p15,r15,p16,r16⟩:=opf8 o16
               clear o1
               clear o2
               clear o3
               clear o5
               clear o6
               clear o7
               clear o9
               clear o15
               clear o16
               have an:(t.n != 0)=false:=by simp only [bne,a];rfl
               have hk1:(t.kids.length ==1)=true:=by simp [hk]
               have hk2:((t.kids.length:Int) ==1)=true:=by rw [beq_iff_eq];omega
               have hk6:((t.kids.length:Int) != 1)=false:=by simp only [bne,hk2];rfl
               have hk7:(t.kids.length != 1)=false:=by simp only [bne,hk1];rfl
               have Hhk:=LH hk
               clear hk
               go_enter Tryz.func79,Tryz.ntmps79
               go_wp2_with (first | (go_at_call 93;(try rw [<- EQ.out]);refine(HES.out _ (by first | exact B8.out | exact B9.out | exact Below.refl _ _ | exact belowN (Below.refl _ _) _ | exact(belowN (Below.refl _ _) _).drew)).mono ?_;rintro e w7 ⟨rfl,hb7⟩;have B7:Hid (Below w0.heap.size w0 w7):=(by first | exact LH (B8.out.trans (hb7.mono B8.out.size)) | exact LH (B9.out.trans (hb7.mono B9.out.size)) | exact LH hb7);clear hb7))
               go_ret
               refine⟨ret_bool hx.out.symm,?_⟩
               first | exact bT E B7 | exact bT E B8 | exact bT E B9 | exact E.out | exact belowN E.out _ | exact(belowN E.out _).drew | exact bA _ _ | exact belowN (bA _ _) _
              ·
               skip
               have hv:=LH (show exp1 t.op t.n t.s t.t t.kids.length=false from by unfold exp1;simp [o1,o2,o3,o5,o6,o7,o9,o15,o16,a,te,b,hk])
               have hx:=LH (show t.exp=false by rw [hte.out,hv.out];rfl)
               obtain⟨p1,r1,p2,r2,p3,r3,p4,r4,p5,r5,p6,r6,p7,r7,p9,r9,p15,r15,p16,r16⟩:=opf8 o16
               clear o1
               clear o2
               clear o3
               clear o5
               clear o6
               clear o7
               clear o9
               clear o15
               clear o16
               have an:(t.n != 0)=false:=by simp only [bne,a];rfl
               have hk1:(t.kids.length ==1)=false:=by simp [hk]
               have hk2:((t.kids.length:Int) ==1)=false:=by rw [beq_eq_false_iff_ne];omega
               have hk6:((t.kids.length:Int) != 1)=true:=by simp only [bne,hk2];rfl
               have hk7:(t.kids.length != 1)=true:=by simp only [bne,hk1];rfl
               have Hhk:=LH hk
               clear hk
               go_enter Tryz.func79,Tryz.ntmps79
               go_wp2_with fail
               go_ret
               refine⟨ret_bool hx.out.symm,?_⟩
               first | exact bT E B7 | exact bT E B8 | exact bT E B9 | exact E.out | exact belowN E.out _ | exact(belowN E.out _).drew | exact bA _ _ | exact belowN (bA _ _) _
          ·
           skip
           by_cases o4:t.op=4
           ·
            skip
            cases a:(t.n ==0)
            ·
             skip
             have hv:=LH (show exp1 t.op t.n t.s t.t t.kids.length=false from by unfold exp1;simp [o1,o2,o3,o5,o6,o7,o9,o15,o16,o4,a])
             have hx:=LH (show t.exp=false by rw [hte.out,hv.out];rfl)
             obtain⟨p1,r1,p2,r2,p3,r3,p4,r4,p5,r5,p6,r6,p7,r7,p9,r9,p15,r15,p16,r16⟩:=opf9 o4
             clear o1
             clear o2
             clear o3
             clear o5
             clear o6
             clear o7
             clear o9
             clear o15
             clear o16
             clear o4
             have an:(t.n != 0)=true:=by simp only [bne,a];rfl
             go_enter Tryz.func79,Tryz.ntmps79
             go_wp2_with fail
             go_ret
             refine⟨ret_bool hx.out.symm,?_⟩
             first | exact bT E B7 | exact bT E B8 | exact bT E B9 | exact E.out | exact belowN E.out _ | exact(belowN E.out _).drew | exact bA _ _ | exact belowN (bA _ _) _
            ·
             skip
             cases te:(t.t.toList.isEmpty)
             ·
              skip
              have hv:=LH (show exp1 t.op t.n t.s t.t t.kids.length=false from by unfold exp1;simp [o1,o2,o3,o5,o6,o7,o9,o15,o16,o4,a,te])
              have hx:=LH (show t.exp=false by rw [hte.out,hv.out];rfl)
              obtain⟨p1,r1,p2,r2,p3,r3,p4,r4,p5,r5,p6,r6,p7,r7,p9,r9,p15,r15,p16,r16⟩:=opf9 o4
              clear o1
              clear o2
              clear o3
              clear o5
              clear o6
              clear o7
              clear o9
              clear o15
              clear o16
              clear o4
              have an:(t.n != 0)=false:=by simp only [bne,a];rfl
              go_enter Tryz.func79,Tryz.ntmps79
              go_wp2_with fail
              go_ret
              refine⟨ret_bool hx.out.symm,?_⟩
              first | exact bT E B7 | exact bT E B8 | exact bT E B9 | exact E.out | exact belowN E.out _ | exact(belowN E.out _).drew | exact bA _ _ | exact belowN (bA _ _) _
             ·
              skip
              cases b:(t.s.toList.isEmpty)
              ·
               skip
               have hv:=LH (show exp1 t.op t.n t.s t.t t.kids.length=false from by unfold exp1;simp [o1,o2,o3,o5,o6,o7,o9,o15,o16,o4,a,te,b])
               have hx:=LH (show t.exp=false by rw [hte.out,hv.out];rfl)
               obtain⟨p1,r1,p2,r2,p3,r3,p4,r4,p5,r5,p6,r6,p7,r7,p9,r9,p15,r15,p16,r16⟩:=opf9 o4
               clear o1
               clear o2
               clear o3
               clear o5
               clear o6
               clear o7
               clear o9
               clear o15
               clear o16
               clear o4
               have an:(t.n != 0)=false:=by simp only [bne,a];rfl
               go_enter Tryz.func79,Tryz.ntmps79
               go_wp2_with fail
               go_ret
               refine⟨ret_bool hx.out.symm,?_⟩
               first | exact bT E B7 | exact bT E B8 | exact bT E B9 | exact E.out | exact belowN E.out _ | exact(belowN E.out _).drew | exact bA _ _ | exact belowN (bA _ _) _
              ·
               skip
               by_cases hk:t.kids.length=2
               ·
                skip
                have hv:=LH (show exp1 t.op t.n t.s t.t t.kids.length=true from by unfold exp1;simp [o1,o2,o3,o5,o6,o7,o9,o15,o16,o4,a,te,b,hk])
                have hx:=LH (show t.exp=GNode.expL t.kids by rw [hte.out,hv.out,if_neg (by omega)];rfl)
                obtain⟨p1,r1,p2,r2,p3,r3,p4,r4,p5,r5,p6,r6,p7,r7,p9,r9,p15,r15,p16,r16⟩:=opf9 o4
                clear o1
                clear o2
                clear o3
                clear o5
                clear o6
                clear o7
                clear o9
                clear o15
                clear o16
                clear o4
                have an:(t.n != 0)=false:=by simp only [bne,a];rfl
                have hk1:(t.kids.length ==2)=true:=by simp [hk]
                have hk2:((t.kids.length:Int) ==2)=true:=by rw [beq_iff_eq];omega
                have hk6:((t.kids.length:Int) != 2)=false:=by simp only [bne,hk2];rfl
                have hk7:(t.kids.length != 2)=false:=by simp only [bne,hk1];rfl
                have Hhk:=LH hk
                clear hk
                go_enter Tryz.func79,Tryz.ntmps79
                go_wp2_with (first | (go_at_call 93;(try rw [<- EQ.out]);refine(HES.out _ (by first | exact B8.out | exact B9.out | exact Below.refl _ _ | exact belowN (Below.refl _ _) _ | exact(belowN (Below.refl _ _) _).drew)).mono ?_;rintro e w7 ⟨rfl,hb7⟩;have B7:Hid (Below w0.heap.size w0 w7):=(by first | exact LH (B8.out.trans (hb7.mono B8.out.size)) | exact LH (B9.out.trans (hb7.mono B9.out.size)) | exact LH hb7);clear hb7))
                go_ret
                refine⟨ret_bool hx.out.symm,?_⟩
                first | exact bT E B7 | exact bT E B8 | exact bT E B9 | exact E.out | exact belowN E.out _ | exact(belowN E.out _).drew | exact bA _ _ | exact belowN (bA _ _) _
               ·
                skip
                have hv:=LH (show exp1 t.op t.n t.s t.t t.kids.length=false from by unfold exp1;simp [o1,o2,o3,o5,o6,o7,o9,o15,o16,o4,a,te,b,hk])
                have hx:=LH (show t.exp=false by rw [hte.out,hv.out];rfl)
                obtain⟨p1,r1,p2,r2,p3,r3,p4,r4,p5,r5,p6,r6,p7,r7,p9,r9,p15,r15,p16,r16⟩:=opf9 o4
                clear o1
                clear o2
                clear o3
                clear o5
                clear o6
                clear o7
                clear o9
                clear o15
                clear o16
                clear o4
                have an:(t.n != 0)=false:=by simp only [bne,a];rfl
                have hk1:(t.kids.length ==2)=false:=by simp [hk]
                have hk2:((t.kids.length:Int) ==2)=false:=by rw [beq_eq_false_iff_ne];omega
                have hk6:((t.kids.length:Int) != 2)=true:=by simp only [bne,hk2];rfl
                have hk7:(t.kids.length != 2)=true:=by simp only [bne,hk1];rfl
                have Hhk:=LH hk
                clear hk
                go_enter Tryz.func79,Tryz.ntmps79
                go_wp2_with fail
                go_ret
                refine⟨ret_bool hx.out.symm,?_⟩
                first | exact bT E B7 | exact bT E B8 | exact bT E B9 | exact E.out | exact belowN E.out _ | exact(belowN E.out _).drew | exact bA _ _ | exact belowN (bA _ _) _
           ·
            skip
            cases a:(t.n ==0)
            ·
             skip
             have hv:=LH (show exp1 t.op t.n t.s t.t t.kids.length=false from by unfold exp1;simp [o1,o2,o3,o5,o6,o7,o9,o15,o16,o4,a])
             have hx:=LH (show t.exp=false by rw [hte.out,hv.out];rfl)
             have p1:(t.op ==1)=false:=by simpa using o1
             have r1:(t.op != 1)=true:=by simp [bne,p1]
             have p2:(t.op ==2)=false:=by simpa using o2
             have r2:(t.op != 2)=true:=by simp [bne,p2]
             have p3:(t.op ==3)=false:=by simpa using o3
             have r3:(t.op != 3)=true:=by simp [bne,p3]
             have p4:(t.op ==4)=false:=by simpa using o4
             have r4:(t.op != 4)=true:=by simp [bne,p4]
             have p5:(t.op ==5)=false:=by simpa using o5
             have r5:(t.op != 5)=true:=by simp [bne,p5]
             have p6:(t.op ==6)=false:=by simpa using o6
             have r6:(t.op != 6)=true:=by simp [bne,p6]
             have p7:(t.op ==7)=false:=by simpa using o7
             have r7:(t.op != 7)=true:=by simp [bne,p7]
             have p9:(t.op ==9)=false:=by simpa using o9
             have r9:(t.op != 9)=true:=by simp [bne,p9]
             have p15:(t.op ==15)=false:=by simpa using o15
             have r15:(t.op != 15)=true:=by simp [bne,p15]
             have p16:(t.op ==16)=false:=by simpa using o16
             have r16:(t.op != 16)=true:=by simp [bne,p16]
             clear o1
             clear o2
             clear o3
             clear o5
             clear o6
             clear o7
             clear o9
             clear o15
             clear o16
             clear o4
             have an:(t.n != 0)=true:=by simp only [bne,a];rfl
             go_enter Tryz.func79,Tryz.ntmps79
             go_wp2_with fail
             go_ret
             refine⟨ret_bool hx.out.symm,?_⟩
             first | exact bT E B7 | exact bT E B8 | exact bT E B9 | exact E.out | exact belowN E.out _ | exact(belowN E.out _).drew | exact bA _ _ | exact belowN (bA _ _) _
            ·
             skip
             cases te:(t.t.toList.isEmpty)
             ·
              skip
              have hv:=LH (show exp1 t.op t.n t.s t.t t.kids.length=false from by unfold exp1;simp [o1,o2,o3,o5,o6,o7,o9,o15,o16,o4,a,te])
              have hx:=LH (show t.exp=false by rw [hte.out,hv.out];rfl)
              have p1:(t.op ==1)=false:=by simpa using o1
              have r1:(t.op != 1)=true:=by simp [bne,p1]
              have p2:(t.op ==2)=false:=by simpa using o2
              have r2:(t.op != 2)=true:=by simp [bne,p2]
              have p3:(t.op ==3)=false:=by simpa using o3
              have r3:(t.op != 3)=true:=by simp [bne,p3]
              have p4:(t.op ==4)=false:=by simpa using o4
              have r4:(t.op != 4)=true:=by simp [bne,p4]
              have p5:(t.op ==5)=false:=by simpa using o5
              have r5:(t.op != 5)=true:=by simp [bne,p5]
              have p6:(t.op ==6)=false:=by simpa using o6
              have r6:(t.op != 6)=true:=by simp [bne,p6]
              have p7:(t.op ==7)=false:=by simpa using o7
              have r7:(t.op != 7)=true:=by simp [bne,p7]
              have p9:(t.op ==9)=false:=by simpa using o9
              have r9:(t.op != 9)=true:=by simp [bne,p9]
              have p15:(t.op ==15)=false:=by simpa using o15
              have r15:(t.op != 15)=true:=by simp [bne,p15]
              have p16:(t.op ==16)=false:=by simpa using o16
              have r16:(t.op != 16)=true:=by simp [bne,p16]
              clear o1
              clear o2
              clear o3
              clear o5
              clear o6
              clear o7
              clear o9
              clear o15
              clear o16
              clear o4
              have an:(t.n != 0)=false:=by simp only [bne,a];rfl
              go_enter Tryz.func79,Tryz.ntmps79
              go_wp2_with fail
              go_ret
              refine⟨ret_bool hx.out.symm,?_⟩
              first | exact bT E B7 | exact bT E B8 | exact bT E B9 | exact E.out | exact belowN E.out _ | exact(belowN E.out _).drew | exact bA _ _ | exact belowN (bA _ _) _
             ·
              skip
              cases iv:(inB t.op 10 14)
              ·
               skip
               have hv:=LH (show exp1 t.op t.n t.s t.t t.kids.length=false from by unfold exp1;simp [o1,o2,o3,o5,o6,o7,o9,o15,o16,o4,a,te,iv])
               have hx:=LH (show t.exp=false by rw [hte.out,hv.out];rfl)
               have p1:(t.op ==1)=false:=by simpa using o1
               have r1:(t.op != 1)=true:=by simp [bne,p1]
               have p2:(t.op ==2)=false:=by simpa using o2
               have r2:(t.op != 2)=true:=by simp [bne,p2]
               have p3:(t.op ==3)=false:=by simpa using o3
               have r3:(t.op != 3)=true:=by simp [bne,p3]
               have p4:(t.op ==4)=false:=by simpa using o4
               have r4:(t.op != 4)=true:=by simp [bne,p4]
               have p5:(t.op ==5)=false:=by simpa using o5
               have r5:(t.op != 5)=true:=by simp [bne,p5]
               have p6:(t.op ==6)=false:=by simpa using o6
               have r6:(t.op != 6)=true:=by simp [bne,p6]
               have p7:(t.op ==7)=false:=by simpa using o7
               have r7:(t.op != 7)=true:=by simp [bne,p7]
               have p9:(t.op ==9)=false:=by simpa using o9
               have r9:(t.op != 9)=true:=by simp [bne,p9]
               have p15:(t.op ==15)=false:=by simpa using o15
               have r15:(t.op != 15)=true:=by simp [bne,p15]
               have p16:(t.op ==16)=false:=by simpa using o16
               have r16:(t.op != 16)=true:=by simp [bne,p16]
               clear o1
               clear o2
               clear o3
               clear o5
               clear o6
               clear o7
               clear o9
               clear o15
               clear o16
               clear o4
               have an:(t.n != 0)=false:=by simp only [bne,a];rfl
               have HIV:=LH (fun(wx:World)=>specIn t.op 10 14 wx)
               rw [iv] at HIV
               clear iv
               go_enter Tryz.func79,Tryz.ntmps79
               go_wp2_with (first | (go_at_call 75;(try rw [<- EQ.out]);with_reducible refine(HIV.out _).mono ?_;rintro e w6 ⟨rfl,rfl⟩))
               go_ret
               refine⟨ret_bool hx.out.symm,?_⟩
               first | exact bT E B7 | exact bT E B8 | exact bT E B9 | exact E.out | exact belowN E.out _ | exact(belowN E.out _).drew | exact bA _ _ | exact belowN (bA _ _) _
              ·
               skip
               cases b:(t.s.toList.isEmpty)
               ·
                skip
                have hv:=LH (show exp1 t.op t.n t.s t.t t.kids.length=false from by unfold exp1;simp [o1,o2,o3,o5,o6,o7,o9,o15,o16,o4,a,te,iv,b])
                have hx:=LH (show t.exp=false by rw [hte.out,hv.out];rfl)
                have p1:(t.op ==1)=false:=by simpa using o1
                have r1:(t.op != 1)=true:=by simp [bne,p1]
                have p2:(t.op ==2)=false:=by simpa using o2
                have r2:(t.op != 2)=true:=by simp [bne,p2]
                have p3:(t.op ==3)=false:=by simpa using o3
                have r3:(t.op != 3)=true:=by simp [bne,p3]
                have p4:(t.op ==4)=false:=by simpa using o4
                have r4:(t.op != 4)=true:=by simp [bne,p4]
                have p5:(t.op ==5)=false:=by simpa using o5
                have r5:(t.op != 5)=true:=by simp [bne,p5]
                have p6:(t.op ==6)=false:=by simpa using o6
                have r6:(t.op != 6)=true:=by simp [bne,p6]
                have p7:(t.op ==7)=false:=by simpa using o7
                have r7:(t.op != 7)=true:=by simp [bne,p7]
                have p9:(t.op ==9)=false:=by simpa using o9
                have r9:(t.op != 9)=true:=by simp [bne,p9]
                have p15:(t.op ==15)=false:=by simpa using o15
                have r15:(t.op != 15)=true:=by simp [bne,p15]
                have p16:(t.op ==16)=false:=by simpa using o16
                have r16:(t.op != 16)=true:=by simp [bne,p16]
                clear o1
                clear o2
                clear o3
                clear o5
                clear o6
                clear o7
                clear o9
                clear o15
                clear o16
                clear o4
                have an:(t.n != 0)=false:=by simp only [bne,a];rfl
                have HIV:=LH (fun(wx:World)=>specIn t.op 10 14 wx)
                rw [iv] at HIV
                clear iv
                go_enter Tryz.func79,Tryz.ntmps79
                go_wp2_with (first | (go_at_call 75;(try rw [<- EQ.out]);with_reducible refine(HIV.out _).mono ?_;rintro e w6 ⟨rfl,rfl⟩))
                go_ret
                refine⟨ret_bool hx.out.symm,?_⟩
                first | exact bT E B7 | exact bT E B8 | exact bT E B9 | exact E.out | exact belowN E.out _ | exact(belowN E.out _).drew | exact bA _ _ | exact belowN (bA _ _) _
               ·
                skip
                by_cases hk:t.kids.length=2
                ·
                 skip
                 have hv:=LH (show exp1 t.op t.n t.s t.t t.kids.length=true from by unfold exp1;simp [o1,o2,o3,o5,o6,o7,o9,o15,o16,o4,a,te,iv,b,hk])
                 have hx:=LH (show t.exp=GNode.expL t.kids by rw [hte.out,hv.out,if_neg (by omega)];rfl)
                 have p1:(t.op ==1)=false:=by simpa using o1
                 have r1:(t.op != 1)=true:=by simp [bne,p1]
                 have p2:(t.op ==2)=false:=by simpa using o2
                 have r2:(t.op != 2)=true:=by simp [bne,p2]
                 have p3:(t.op ==3)=false:=by simpa using o3
                 have r3:(t.op != 3)=true:=by simp [bne,p3]
                 have p4:(t.op ==4)=false:=by simpa using o4
                 have r4:(t.op != 4)=true:=by simp [bne,p4]
                 have p5:(t.op ==5)=false:=by simpa using o5
                 have r5:(t.op != 5)=true:=by simp [bne,p5]
                 have p6:(t.op ==6)=false:=by simpa using o6
                 have r6:(t.op != 6)=true:=by simp [bne,p6]
                 have p7:(t.op ==7)=false:=by simpa using o7
                 have r7:(t.op != 7)=true:=by simp [bne,p7]
                 have p9:(t.op ==9)=false:=by simpa using o9
                 have r9:(t.op != 9)=true:=by simp [bne,p9]
                 have p15:(t.op ==15)=false:=by simpa using o15
                 have r15:(t.op != 15)=true:=by simp [bne,p15]
                 have p16:(t.op ==16)=false:=by simpa using o16
                 have r16:(t.op != 16)=true:=by simp [bne,p16]
                 clear o1
                 clear o2
                 clear o3
                 clear o5
                 clear o6
                 clear o7
                 clear o9
                 clear o15
                 clear o16
                 clear o4
                 have an:(t.n != 0)=false:=by simp only [bne,a];rfl
                 have hk1:(t.kids.length ==2)=true:=by simp [hk]
                 have hk2:((t.kids.length:Int) ==2)=true:=by rw [beq_iff_eq];omega
                 have hk6:((t.kids.length:Int) != 2)=false:=by simp only [bne,hk2];rfl
                 have hk7:(t.kids.length != 2)=false:=by simp only [bne,hk1];rfl
                 have Hhk:=LH hk
                 clear hk
                 have HIV:=LH (fun(wx:World)=>specIn t.op 10 14 wx)
                 rw [iv] at HIV
                 clear iv
                 go_enter Tryz.func79,Tryz.ntmps79
                 go_wp2_with (first | (go_at_call 75;(try rw [<- EQ.out]);with_reducible refine(HIV.out _).mono ?_;rintro e w6 ⟨rfl,rfl⟩) | (go_at_call 93;(try rw [<- EQ.out]);refine(HES.out _ (by first | exact B8.out | exact B9.out | exact Below.refl _ _ | exact belowN (Below.refl _ _) _ | exact(belowN (Below.refl _ _) _).drew)).mono ?_;rintro e w7 ⟨rfl,hb7⟩;have B7:Hid (Below w0.heap.size w0 w7):=(by first | exact LH (B8.out.trans (hb7.mono B8.out.size)) | exact LH (B9.out.trans (hb7.mono B9.out.size)) | exact LH hb7);clear hb7))
                 go_ret
                 refine⟨ret_bool hx.out.symm,?_⟩
                 first | exact bT E B7 | exact bT E B8 | exact bT E B9 | exact E.out | exact belowN E.out _ | exact(belowN E.out _).drew | exact bA _ _ | exact belowN (bA _ _) _
                ·
                 skip
                 have hv:=LH (show exp1 t.op t.n t.s t.t t.kids.length=false from by unfold exp1;simp [o1,o2,o3,o5,o6,o7,o9,o15,o16,o4,a,te,iv,b,hk])
                 have hx:=LH (show t.exp=false by rw [hte.out,hv.out];rfl)
                 have p1:(t.op ==1)=false:=by simpa using o1
                 have r1:(t.op != 1)=true:=by simp [bne,p1]
                 have p2:(t.op ==2)=false:=by simpa using o2
                 have r2:(t.op != 2)=true:=by simp [bne,p2]
                 have p3:(t.op ==3)=false:=by simpa using o3
                 have r3:(t.op != 3)=true:=by simp [bne,p3]
                 have p4:(t.op ==4)=false:=by simpa using o4
                 have r4:(t.op != 4)=true:=by simp [bne,p4]
                 have p5:(t.op ==5)=false:=by simpa using o5
                 have r5:(t.op != 5)=true:=by simp [bne,p5]
                 have p6:(t.op ==6)=false:=by simpa using o6
                 have r6:(t.op != 6)=true:=by simp [bne,p6]
                 have p7:(t.op ==7)=false:=by simpa using o7
                 have r7:(t.op != 7)=true:=by simp [bne,p7]
                 have p9:(t.op ==9)=false:=by simpa using o9
                 have r9:(t.op != 9)=true:=by simp [bne,p9]
                 have p15:(t.op ==15)=false:=by simpa using o15
                 have r15:(t.op != 15)=true:=by simp [bne,p15]
                 have p16:(t.op ==16)=false:=by simpa using o16
                 have r16:(t.op != 16)=true:=by simp [bne,p16]
                 clear o1
                 clear o2
                 clear o3
                 clear o5
                 clear o6
                 clear o7
                 clear o9
                 clear o15
                 clear o16
                 clear o4
                 have an:(t.n != 0)=false:=by simp only [bne,a];rfl
                 have hk1:(t.kids.length ==2)=false:=by simp [hk]
                 have hk2:((t.kids.length:Int) ==2)=false:=by rw [beq_eq_false_iff_ne];omega
                 have hk6:((t.kids.length:Int) != 2)=true:=by simp only [bne,hk2];rfl
                 have hk7:(t.kids.length != 2)=true:=by simp only [bne,hk1];rfl
                 have Hhk:=LH hk
                 clear hk
                 have HIV:=LH (fun(wx:World)=>specIn t.op 10 14 wx)
                 rw [iv] at HIV
                 clear iv
                 go_enter Tryz.func79,Tryz.ntmps79
                 go_wp2_with (first | (go_at_call 75;(try rw [<- EQ.out]);with_reducible refine(HIV.out _).mono ?_;rintro e w6 ⟨rfl,rfl⟩))
                 go_ret
                 refine⟨ret_bool hx.out.symm,?_⟩
                 first | exact bT E B7 | exact bT E B8 | exact bT E B9 | exact E.out | exact belowN E.out _ | exact(belowN E.out _).drew | exact bA _ _ | exact belowN (bA _ _) _
end Go.Proofs.YtgbjdhfaklmjcaaGreat
