/- Texts of the claim LTags in one: PaD App AppS Grow AppM. Conditions: none but bounds on sizes. -/
import Derived.Test.YtgbjdhfaklmjcaaGreatZLTags1
import Derived.Test.YtgbjdhfaklmjcaaGreatZLTags0
import Derived.Deep.AppendLies
import Derived.Maps.Range
import Derived.Maps.AppendAt
import Derived.Deep.AppendSrc
namespace Go.Proofs.YtgbjdhfaklmjcaaGreat
set_option maxRecDepth 20000
set_option linter.unusedVariables false
set_option linter.unusedSimpArgs false
open Go.RowKit
set_option maxHeartbeats 1000000
theorem l3Next (ts:List GToken) (g:Nat) (L:Option Addr) (cl:Nat) (V:Option Addr) (cv:Nat) (st:PSt) (w:World) (h:PCur ts g L cl V cv st w):
 Calls Tryz.prog 68 #[.pointer (some ⟨g,0,none⟩)] w fun e w'=>e= .returned (.tuple #[])/\Mv ts g L cl V cv st.vars (pNext ts st) w w':=by
 have HC:=LH h
 have HR:=LH h.row
 have hca:=fun i=>HR.out.cell i
 have hfa:=fun i=>HR.out.frozen i
 have hgl:=HR.out.lt
 have hlen:=h.few
 have hpos:=h.pos
 clear h
 go_enter Tryz.func68,Tryz.ntmps68
 have hw1:IntKind.i64.wrap ((ts.length:Int) - 1)=(ts.length:Int) - 1:=(IntWalk.i64_left _).trans (IntWalk.wrap64_in ((ts.length:Int) - 1) (by omega))
 by_cases hb:st.pos+1<ts.length
 ·
  have HV:=LH (show pNext ts st= {st with pos:=st.pos+1} by unfold pNext;rw [if_pos hb])
  have d1:decide ((st.pos:Int)<(ts.length:Int) - 1)=true:=decide_eq_true (by omega)
  have hw2:IntKind.i64.wrap ((st.pos:Int)+1)=(st.pos:Int)+1:=(IntWalk.i64_left _).trans (IntWalk.wrap64_in ((st.pos:Int)+1) (by omega))
  go_wp2_with fail
  go_quiet (fail)
  go_wp2_with fail
  (try simp only [Exit.inBlock,Exit.then]);first | (refine bodyPost_ret (results_tmp rfl _ _ _) rfl ?_) | (refine bodyPost_ret (results_none rfl _ _ _) rfl ?_) | (refine bodyPost_end (results_none rfl _ _ _) rfl ?_) | go_ret2 | go_ret3
  refine⟨rfl,?_⟩
  rw [HV.out]
  exact⟨((Bx.refl g w).trans (Bx.of_below (belowN (Below.refl _ _) _) (Nat.le_refl _))).set (p:=⟨g,1,none⟩) (.inl rfl) _,Row.set (HR.out.below (belowN (Below.refl _ _) _) HR.out.lt) 1 _,rfl,hb⟩
 ·
  have HV:=LH (show pNext ts st=st by unfold pNext;rw [if_neg hb])
  have d1:decide ((st.pos:Int)<(ts.length:Int) - 1)=false:=decide_eq_false (by omega)
  go_wp2_with fail
  go_quiet (fail)
  go_wp2_with fail
  (try simp only [Exit.inBlock,Exit.then]);first | (refine bodyPost_ret (results_tmp rfl _ _ _) rfl ?_) | (refine bodyPost_ret (results_none rfl _ _ _) rfl ?_) | (refine bodyPost_end (results_none rfl _ _ _) rfl ?_) | go_ret2 | go_ret3
  exact⟨rfl,by rw [HV.out];exact HC.out.mv.below (belowN (Below.refl _ _) _)⟩
theorem l3Take (ts:List GToken) (g:Nat) (L:Option Addr) (cl:Nat) (V:Option Addr) (cv:Nat) (st:PSt) (w:World) (h:PCur ts g L cl V cv st w) (s:ByteArray):
 Calls Tryz.prog 65 #[.pointer (some ⟨g,0,none⟩),.string s] w fun e w'=>e= .returned (.tuple #[])/\Mv ts g L cl V cv st.vars (pTake ts s.data.toList st) w w':=by
 have HC:=LH h
 have HR:=LH h.row
 have hca:=fun i=>HR.out.cell i
 have hfa:=fun i=>HR.out.frozen i
 have hgl:=HR.out.lt
 clear h
 go_enter Tryz.func65,Tryz.ntmps65
 have HV:=LH (show pTake ts s.data.toList st=if pSign ts s.data.toList st then pNext ts st else pBad ts st from rfl)
 go_wp2_with fail
 refine(l3Sign ts g L cl V cv st w HC.out s).mono ?_
 rintro e w1 ⟨rfl,hb1⟩
 have E1:=LH hb1
 have C1:=LH (HC.out.below hb1)
 clear hb1
 cases h1:pSign ts s.data.toList st
 ·
  go_wp2_with fail
  refine(l3Bad ts g L cl V cv st w1 C1.out).mono ?_
  rintro e w2 ⟨rfl,hm⟩
  have MF:=LH ((HC.out.mv.below E1.out).trans hm)
  clear hm
  go_wp2_with fail
  (try simp only [Exit.inBlock,Exit.then]);first | (refine bodyPost_ret (results_tmp rfl _ _ _) rfl ?_) | (refine bodyPost_ret (results_none rfl _ _ _) rfl ?_) | (refine bodyPost_end (results_none rfl _ _ _) rfl ?_) | go_ret2 | go_ret3
  exact⟨rfl,by rw [HV.out,h1];exact MF.out⟩
 ·
  go_wp2_with fail
  refine(l3Next ts g L cl V cv st w1 C1.out).mono ?_
  rintro e w2 ⟨rfl,hm⟩
  have MF:=LH ((HC.out.mv.below E1.out).trans hm)
  clear hm
  go_wp2_with fail
  (try simp only [Exit.inBlock,Exit.then]);first | (refine bodyPost_ret (results_tmp rfl _ _ _) rfl ?_) | (refine bodyPost_ret (results_none rfl _ _ _) rfl ?_) | (refine bodyPost_end (results_none rfl _ _ _) rfl ?_) | go_ret2 | go_ret3
  exact⟨rfl,by rw [HV.out,h1];exact MF.out⟩
theorem l3Word (ts:List GToken) (g:Nat) (L:Option Addr) (cl:Nat) (V:Option Addr) (cv:Nat) (st:PSt) (w:World) (h:PCur ts g L cl V cv st w) (s:ByteArray):
 Calls Tryz.prog 62 #[.pointer (some ⟨g,0,none⟩),.string s] w fun e w'=>e= .returned (.tuple #[])/\Mv ts g L cl V cv st.vars (pWord ts s.data.toList st) w w':=by
 have HC:=LH h
 have HR:=LH h.row
 have hca:=fun i=>HR.out.cell i
 have hfa:=fun i=>HR.out.frozen i
 have hgl:=HR.out.lt
 clear h
 go_enter Tryz.func62,Tryz.ntmps62
 have HV:=LH (show pWord ts s.data.toList st=if pIs ts s.data.toList st then pNext ts st else pBad ts st from rfl)
 go_wp2_with fail
 refine(l3Is ts g L cl V cv st w HC.out s).mono ?_
 rintro e w1 ⟨rfl,hb1⟩
 have E1:=LH hb1
 have C1:=LH (HC.out.below hb1)
 clear hb1
 cases h1:pIs ts s.data.toList st
 ·
  go_wp2_with fail
  refine(l3Bad ts g L cl V cv st w1 C1.out).mono ?_
  rintro e w2 ⟨rfl,hm⟩
  have MF:=LH ((HC.out.mv.below E1.out).trans hm)
  clear hm
  go_wp2_with fail
  (try simp only [Exit.inBlock,Exit.then]);first | (refine bodyPost_ret (results_tmp rfl _ _ _) rfl ?_) | (refine bodyPost_ret (results_none rfl _ _ _) rfl ?_) | (refine bodyPost_end (results_none rfl _ _ _) rfl ?_) | go_ret2 | go_ret3
  exact⟨rfl,by rw [HV.out,h1];exact MF.out⟩
 ·
  go_wp2_with fail
  refine(l3Next ts g L cl V cv st w1 C1.out).mono ?_
  rintro e w2 ⟨rfl,hm⟩
  have MF:=LH ((HC.out.mv.below E1.out).trans hm)
  clear hm
  go_wp2_with fail
  (try simp only [Exit.inBlock,Exit.then]);first | (refine bodyPost_ret (results_tmp rfl _ _ _) rfl ?_) | (refine bodyPost_ret (results_none rfl _ _ _) rfl ?_) | (refine bodyPost_end (results_none rfl _ _ _) rfl ?_) | go_ret2 | go_ret3
  exact⟨rfl,by rw [HV.out,h1];exact MF.out⟩
theorem l3TextC (ts:List GToken) (g:Nat) (L:Option Addr) (cl:Nat) (V:Option Addr) (cv:Nat) (st:PSt) (w:World) (h:PCur ts g L cl V cv st w):
 Calls Tryz.prog 63 #[.pointer (some ⟨g,0,none⟩),.bool true] w fun e w'=>e= .returned (.string (pText ts true st).1)/\Mv ts g L cl V cv st.vars (pText ts true st).2 w w':=by
 have HC:=LH h
 have HR:=LH h.row
 have hca:=fun i=>HR.out.cell i
 have hfa:=fun i=>HR.out.frozen i
 have hgl:=HR.out.lt
 clear h
 go_enter Tryz.func63,Tryz.ntmps63
 go_wp2_with fail
 refine(l3Con ts g L cl V cv st w HC.out).mono ?_
 rintro e w1 ⟨rfl,hb1⟩
 have E1:=LH hb1
 have C1:=LH (HC.out.below hb1)
 clear hb1
 cases h1:pCon ts st
 ·
  have HV:=LH (show pText ts true st=(⟨#[]⟩,pBad ts st) by simp [pText,h1])
  go_wp2_with fail
  refine(l3Bad ts g L cl V cv st w1 C1.out).mono ?_
  rintro e w2 ⟨rfl,hm⟩
  have MF:=LH ((HC.out.mv.below E1.out).trans hm)
  clear hm
  go_wp2_with fail
  (try simp only [Exit.inBlock,Exit.then]);first | (refine bodyPost_ret (results_tmp rfl _ _ _) rfl ?_) | (refine bodyPost_ret (results_none rfl _ _ _) rfl ?_) | (refine bodyPost_end (results_none rfl _ _ _) rfl ?_) | go_ret2 | go_ret3
  exact⟨by rw [HV.out];rfl,by rw [HV.out];exact MF.out⟩
 ·
  have HV:=LH (show pText ts true st=((pNow ts st).text,pNext ts st) by simp [pText,h1])
  have hfd:∀ w:World,(Instr.field 95 (.agg #[.int .i64 (pNow ts st).kind,.string (pNow ts st).text,.int .i64 (pNow ts st).n,.int .i64 (pNow ts st).pos]) 1).run Tryz.prog w= .ok (.string (pNow ts st).text) w:=fun _=>by kernel_rfl
  go_wp2_with fail
  refine(l3Now ts g L cl V cv st w1 C1.out).mono ?_
  rintro e w2 ⟨rfl,hb2⟩
  have E2:=LH hb2
  have C2:=LH (C1.out.below hb2)
  clear hb2
  go_wp2_with fail
  refine(l3Next ts g L cl V cv st w2 C2.out).mono ?_
  rintro e w3 ⟨rfl,hm⟩
  have MF:=LH (((HC.out.mv.below E1.out).below E2.out).trans hm)
  clear hm
  go_wp2_with fail
  (try simp only [Exit.inBlock,Exit.then]);first | (refine bodyPost_ret (results_tmp rfl _ _ _) rfl ?_) | (refine bodyPost_ret (results_none rfl _ _ _) rfl ?_) | (refine bodyPost_end (results_none rfl _ _ _) rfl ?_) | go_ret2 | go_ret3
  exact⟨by rw [HV.out];rfl,by rw [HV.out];exact MF.out⟩
theorem l3TextN (ts:List GToken) (g:Nat) (L:Option Addr) (cl:Nat) (V:Option Addr) (cv:Nat) (st:PSt) (w:World) (h:PCur ts g L cl V cv st w):
 Calls Tryz.prog 63 #[.pointer (some ⟨g,0,none⟩),.bool false] w fun e w'=>e= .returned (.string (pText ts false st).1)/\Mv ts g L cl V cv st.vars (pText ts false st).2 w w':=by
 have HC:=LH h
 have HR:=LH h.row
 have hca:=fun i=>HR.out.cell i
 have hfa:=fun i=>HR.out.frozen i
 have hgl:=HR.out.lt
 clear h
 go_enter Tryz.func63,Tryz.ntmps63
 go_wp2_with fail
 refine(l3Name ts g L cl V cv st w HC.out).mono ?_
 rintro e w1 ⟨rfl,hb1⟩
 have E1:=LH hb1
 have C1:=LH (HC.out.below hb1)
 clear hb1
 cases h1:pName ts st
 ·
  have HV:=LH (show pText ts false st=(⟨#[]⟩,pBad ts st) by simp [pText,h1])
  go_wp2_with fail
  refine(l3Bad ts g L cl V cv st w1 C1.out).mono ?_
  rintro e w2 ⟨rfl,hm⟩
  have MF:=LH ((HC.out.mv.below E1.out).trans hm)
  clear hm
  go_wp2_with fail
  (try simp only [Exit.inBlock,Exit.then]);first | (refine bodyPost_ret (results_tmp rfl _ _ _) rfl ?_) | (refine bodyPost_ret (results_none rfl _ _ _) rfl ?_) | (refine bodyPost_end (results_none rfl _ _ _) rfl ?_) | go_ret2 | go_ret3
  exact⟨by rw [HV.out];rfl,by rw [HV.out];exact MF.out⟩
 ·
  have HV:=LH (show pText ts false st=((pNow ts st).text,pNext ts st) by simp [pText,h1])
  have hfd:∀ w:World,(Instr.field 95 (.agg #[.int .i64 (pNow ts st).kind,.string (pNow ts st).text,.int .i64 (pNow ts st).n,.int .i64 (pNow ts st).pos]) 1).run Tryz.prog w= .ok (.string (pNow ts st).text) w:=fun _=>by kernel_rfl
  go_wp2_with fail
  refine(l3Now ts g L cl V cv st w1 C1.out).mono ?_
  rintro e w2 ⟨rfl,hb2⟩
  have E2:=LH hb2
  have C2:=LH (C1.out.below hb2)
  clear hb2
  go_wp2_with fail
  refine(l3Next ts g L cl V cv st w2 C2.out).mono ?_
  rintro e w3 ⟨rfl,hm⟩
  have MF:=LH (((HC.out.mv.below E1.out).below E2.out).trans hm)
  clear hm
  go_wp2_with fail
  (try simp only [Exit.inBlock,Exit.then]);first | (refine bodyPost_ret (results_tmp rfl _ _ _) rfl ?_) | (refine bodyPost_ret (results_none rfl _ _ _) rfl ?_) | (refine bodyPost_end (results_none rfl _ _ _) rfl ?_) | go_ret2 | go_ret3
  exact⟨by rw [HV.out];rfl,by rw [HV.out];exact MF.out⟩
theorem l3Small (ts:List GToken) (g:Nat) (L:Option Addr) (cl:Nat) (V:Option Addr) (cv:Nat) (st:PSt) (w:World) (h:PCur ts g L cl V cv st w):
 Calls Tryz.prog 87 #[.pointer (some ⟨g,0,none⟩)] w fun e w'=>e= .returned (.bool (pSmall ts st))/\Below w.heap.size w w':=by
 have HC:=LH h
 have HR:=LH h.row
 have hca:=fun i=>HR.out.cell i
 have hfa:=fun i=>HR.out.frozen i
 have hgl:=HR.out.lt
 have HN:=LH (l3Now ts g L cl V cv st w h)
 clear h
 obtain⟨t,ht⟩:∃ t,pNow ts st=t:=⟨_,rfl⟩
 rw [ht] at HN
 have HV:=LH (show pSmall ts st=(pName ts st||(decide (st.bad<0)&&t.kind ==2)||pSign ts [40] st) by unfold pSmall;rw [ht])
 clear ht
 go_enter Tryz.func87,Tryz.ntmps87
 go_wp2_with fail
 refine HN.out.mono ?_
 rintro e w1 ⟨rfl,hb1⟩
 have E1:=LH hb1
 clear hb1 HN
 go_wp2_with fail
 obtain⟨w2,e2⟩:∃ w2,w2=w1.alloc (.cells #[.int .i64 t.kind,.string t.text,.int .i64 t.n,.int .i64 t.pos] 95):=⟨_,rfl⟩
 rw [<- e2]
 have E2:=LH (show Below w.heap.size w w2 by rw [e2];exact E1.out.alloc E1.out.size _)
 have RT2:=LH (show Row w2 w1.heap.size 95 #[.int .i64 t.kind,.string t.text,.int .i64 t.n,.int .i64 t.pos] by rw [e2];exact Row.new _ _ _)
 have C2:=LH (HC.out.below E2.out)
 clear e2
 refine(l3Name ts g L cl V cv st w2 C2.out).mono ?_
 rintro e w3 ⟨rfl,hb3⟩
 have E3:=LH (E2.out.trans (hb3.mono E2.out.size))
 have RT3:=LH (RT2.out.below hb3 RT2.out.lt)
 have C3:=LH (HC.out.below E3.out)
 have hct:=fun i=>RT3.out.cell i
 have hc3:=fun i=>C3.out.row.cell i
 clear hb3 hca hfa
 cases h1:pName ts st
 case' true=>
  go_wp2_with fail
  (try simp only [Exit.inBlock,Exit.then]);first | (refine bodyPost_ret (results_tmp rfl _ _ _) rfl ?_) | (refine bodyPost_ret (results_none rfl _ _ _) rfl ?_) | (refine bodyPost_end (results_none rfl _ _ _) rfl ?_) | go_ret2 | go_ret3
  exact⟨congrArg (fun b=>Ending.returned (Value.bool b)) (by rw [HV.out];simp [*]),E3.out⟩
 cases h2:decide (st.bad<0)
 case' false.true=>cases h3:(t.kind ==2)
 case' false.true.true=>
  go_wp2_with fail
  (try simp only [Exit.inBlock,Exit.then]);first | (refine bodyPost_ret (results_tmp rfl _ _ _) rfl ?_) | (refine bodyPost_ret (results_none rfl _ _ _) rfl ?_) | (refine bodyPost_end (results_none rfl _ _ _) rfl ?_) | go_ret2 | go_ret3
  exact⟨congrArg (fun b=>Ending.returned (Value.bool b)) (by rw [HV.out];simp [*]),E3.out⟩
 all_goals
  go_wp2_with fail
  refine(l3Sign ts g L cl V cv st w3 C3.out ⟨#[40]⟩).mono ?_
  rintro e w4 ⟨rfl,hb4⟩
  have E4:=LH (E3.out.trans (hb4.mono E3.out.size))
  clear hb4
  go_wp2_with fail
  (try simp only [Exit.inBlock,Exit.then]);first | (refine bodyPost_ret (results_tmp rfl _ _ _) rfl ?_) | (refine bodyPost_ret (results_none rfl _ _ _) rfl ?_) | (refine bodyPost_end (results_none rfl _ _ _) rfl ?_) | go_ret2 | go_ret3
  exact⟨congrArg (fun b=>Ending.returned (Value.bool b)) (by rw [HV.out];simp [*]),E4.out⟩
theorem l3Atomic (ts:List GToken) (g:Nat) (L:Option Addr) (cl:Nat) (V:Option Addr) (cv:Nat) (st:PSt) (w:World) (h:PCur ts g L cl V cv st w):
 Calls Tryz.prog 101 #[.pointer (some ⟨g,0,none⟩)] w fun e w'=>e= .returned (.bool (pAtomic ts st))/\Below w.heap.size w w':=by
 have HC:=LH h
 have HR:=LH h.row
 have hca:=fun i=>HR.out.cell i
 have hfa:=fun i=>HR.out.frozen i
 have hgl:=HR.out.lt
 clear h
 obtain⟨t,ht⟩:∃ t,pNow ts st=t:=⟨_,rfl⟩
 have HT:=LH ht
 have HV:=LH (show pAtomic ts st=(pName ts st||pCon ts st||pSign ts [40] st||(decide (st.bad<0)&&t.kind ==3)) by unfold pAtomic;rw [ht])
 clear ht
 have hfd:∀ w:World,(Instr.field 95 (.agg #[.int .i64 t.kind,.string t.text,.int .i64 t.n,.int .i64 t.pos]) 0).run Tryz.prog w= .ok (.int .i64 t.kind) w:=fun _=>by kernel_rfl
 go_enter Tryz.func101,Tryz.ntmps101
 go_wp2_with fail
 refine(l3Name ts g L cl V cv st w HC.out).mono ?_
 rintro e w1 ⟨rfl,hb1⟩
 have E1:=LH hb1
 have C1:=LH (HC.out.below hb1)
 have hc1:=fun i=>C1.out.row.cell i
 clear hb1 hca hfa
 cases h1:pName ts st
 case' true=>
  go_wp2_with fail
  (try simp only [Exit.inBlock,Exit.then]);first | (refine bodyPost_ret (results_tmp rfl _ _ _) rfl ?_) | (refine bodyPost_ret (results_none rfl _ _ _) rfl ?_) | (refine bodyPost_end (results_none rfl _ _ _) rfl ?_) | go_ret2 | go_ret3
  exact⟨congrArg (fun b=>Ending.returned (Value.bool b)) (by rw [HV.out];simp [*]),E1.out⟩
 go_wp2_with fail
 refine(l3Con ts g L cl V cv st w1 C1.out).mono ?_
 rintro e w2 ⟨rfl,hb2⟩
 have E2:=LH (E1.out.trans (hb2.mono E1.out.size))
 have C2:=LH (HC.out.below E2.out)
 have hc2:=fun i=>C2.out.row.cell i
 clear hb2 hc1
 cases h2:pCon ts st
 case' true=>
  go_wp2_with fail
  (try simp only [Exit.inBlock,Exit.then]);first | (refine bodyPost_ret (results_tmp rfl _ _ _) rfl ?_) | (refine bodyPost_ret (results_none rfl _ _ _) rfl ?_) | (refine bodyPost_end (results_none rfl _ _ _) rfl ?_) | go_ret2 | go_ret3
  exact⟨congrArg (fun b=>Ending.returned (Value.bool b)) (by rw [HV.out];simp [*]),E2.out⟩
 go_wp2_with fail
 refine(l3Sign ts g L cl V cv st w2 C2.out ⟨#[40]⟩).mono ?_
 rintro e w3 ⟨rfl,hb3⟩
 have E3:=LH (E2.out.trans (hb3.mono E2.out.size))
 have C3:=LH (HC.out.below E3.out)
 have hc3:=fun i=>C3.out.row.cell i
 clear hb3 hc2
 cases h3:pSign ts [40] st
 case' true=>
  go_wp2_with fail
  (try simp only [Exit.inBlock,Exit.then]);first | (refine bodyPost_ret (results_tmp rfl _ _ _) rfl ?_) | (refine bodyPost_ret (results_none rfl _ _ _) rfl ?_) | (refine bodyPost_end (results_none rfl _ _ _) rfl ?_) | go_ret2 | go_ret3
  exact⟨congrArg (fun b=>Ending.returned (Value.bool b)) (by rw [HV.out];simp [*]),E3.out⟩
 cases h4:decide (st.bad<0)
 case' false=>
  go_wp2_with fail
  (try simp only [Exit.inBlock,Exit.then]);first | (refine bodyPost_ret (results_tmp rfl _ _ _) rfl ?_) | (refine bodyPost_ret (results_none rfl _ _ _) rfl ?_) | (refine bodyPost_end (results_none rfl _ _ _) rfl ?_) | go_ret2 | go_ret3
  exact⟨congrArg (fun b=>Ending.returned (Value.bool b)) (by rw [HV.out];simp [*]),E3.out⟩
 have HN:=LH (l3Now ts g L cl V cv st w3 C3.out)
 rw [HT.out] at HN
 go_wp2_with fail
 refine HN.out.mono ?_
 rintro e w4 ⟨rfl,hb4⟩
 have E4:=LH (E3.out.trans (hb4.mono E3.out.size))
 clear hb4
 cases h5:(t.kind ==3)
 all_goals
  go_wp2_with fail
  (try simp only [Exit.inBlock,Exit.then]);first | (refine bodyPost_ret (results_tmp rfl _ _ _) rfl ?_) | (refine bodyPost_ret (results_none rfl _ _ _) rfl ?_) | (refine bodyPost_end (results_none rfl _ _ _) rfl ?_) | go_ret2 | go_ret3
  exact⟨congrArg (fun b=>Ending.returned (Value.bool b)) (by rw [HV.out];simp [*]),E4.out⟩
def ownC (w:World) (size:Nat):List D->(Nat->Prop)->List Value->Prop
 | [],_,cs=>cs= []
 | d::r,S,cs=>∃ (S1 S2:Nat->Prop) (c1 c2:List Value),(∀ x,S1 x->S x/\¬ S2 x)/\(∀ x,S2 x->S x)/\cs=c1++c2/\c1.length=size/\d.own w S1 c1/\ownC w size r S2 c2
theorem ownC_keep {w w':World} {size:Nat}:∀ (xs:List D) (S S':Nat->Prop) (cs:List Value),(∀ b,S b->S' b/\w'.heap[b]? =w.heap[b]?)->ownC w size xs S cs->ownC w' size xs S' cs
 | [],_,_,_,_,h=>h
 | d::r,S,S',cs,hk,h=>by
  simp only [ownC] at h ⊢
  obtain⟨S1,S2,c1,c2,g1,g2,e,hl,h1,h2⟩:=h
  exact⟨S1,S2,c1,c2,fun x hx=>⟨(hk x (g1 x hx).1).1,(g1 x hx).2⟩,fun x hx=>(hk x (g2 x hx)).1,e,hl,D.own_keep d S1 S1 c1 (fun b hb=>⟨hb,(hk b (g1 b hb).1).2⟩) h1,ownC_keep r S2 S2 c2 (fun b hb=>⟨hb,(hk b (g2 b hb)).2⟩) h2⟩
theorem ownC_snoc {w:World} {size:Nat} {d:D} {c:List Value} {T S:Nat->Prop} (hd:d.own w T c) (hc:c.length=size) (hT:∀ x,T x->S x):
 ∀ (xs:List D) (U:Nat->Prop) (cs:List Value),(∀ x,U x->S x/\¬ T x)->ownC w size xs U cs->ownC w size (xs++[d]) (fun x=>U x\/T x) (cs++c)
 | [],U,cs,_,h=>by
  simp only [ownC] at h
  subst h
  simp only [List.nil_append,ownC]
  exact⟨T,fun _=>False,c,[],fun x hx=>⟨.inr hx,fun h=>h⟩,fun x hx=>hx.elim,by simp,hc,hd,rfl⟩
 | e::r,U,cs,hU,h=>by
  simp only [ownC,List.cons_append] at h ⊢
  obtain⟨S1,S2,c1,c2,g1,g2,rfl,hl,h1,h2⟩:=h
  refine⟨S1,fun x=>S2 x\/T x,c1,c2++c,fun x hx=>⟨.inl (g1 x hx).1,fun h=>?_⟩,fun x hx=>hx.elim (fun h=>.inl (g2 x h)) .inr,by simp,hl,h1,ownC_snoc hd hc hT r S2 c2 (fun x hx=>hU x (g2 x hx)) h2⟩
  rcases h with h | h
  · exact(g1 x hx).2 h
  · exact(hU x (g1 x hx).1).2 h
theorem ownC_row {w:World} {size b:Nat}:∀ (xs:List D) (S:Nat->Prop) (cs:List Value) (off:Nat),(∀ j v,cs[j]? =some v->w.cell? ⟨b,off+j,none⟩=some v)->ownC w size xs S cs->D.ownR w size b xs S off
 | [],_,_,_,_,_=>by simp only [D.ownR]
 | d::r,S,cs,off,hc,h=>by
  simp only [ownC,D.ownR] at h ⊢
  obtain⟨S1,S2,c1,c2,g1,g2,rfl,hl,h1,h2⟩:=h
  refine⟨S1,S2,c1,g1,g2,hl,fun j v hj=>hc j v ?_,h1,ownC_row r S2 c2 (off+size) (fun j v hj=>?_) h2⟩
  · have:j<c1.length:=(List.getElem?_eq_some_iff.1 hj).1
    rw [List.getElem?_append_left this];exact hj
  · have:=hc (size+j) v (by rw [List.getElem?_append_right (by omega),hl];simpa using hj)
    rwa [<- Nat.add_assoc] at this
def Gow (w:World) (B m:Nat) (e:TypeId) (size:Nat) (v:Value) (n:Nat) (xs:List D):Prop:=
 xs.length=n/\∃ cs,w.ownsRow B e size v n cs/\(∀ g,v.ownBlock=some g->g<m)/\ownC w size xs (fun b=>B<=b/\b<m/\v.ownBlock≠some b) cs
theorem Gow.nil (w:World) (B m:Nat) (e:TypeId) (size:Nat):Gow w B m e size (.slice none 0 0) 0 []:=
 ⟨rfl,[],World.ownsRow_nil w B e size,fun g h=>by simp [Value.ownBlock] at h,rfl⟩
theorem Gow.keep {w w':World} {B m m':Nat} {e:TypeId} {size:Nat} {v:Value} {n:Nat} {xs:List D} (h:Gow w B m e size v n xs) (hm:m<=m') (hk:∀ b,B<=b->b<m->w'.heap[b]? =w.heap[b]?):Gow w' B m' e size v n xs:=by
 obtain⟨h1,cs,h2,h3,h4⟩:=h
 refine⟨h1,cs,?_,fun g hg=>Nat.lt_of_lt_of_le (h3 g hg) hm,ownC_keep xs _ _ cs (fun b hb=>⟨⟨hb.1,Nat.lt_of_lt_of_le hb.2.1 hm,hb.2.2⟩,hk b hb.1 hb.2.1⟩) h4⟩
 refine⟨h2.1,?_⟩
 rcases h2.2 with h | ⟨g,cap,cur,rfl,a1,a2,a3⟩
 · exact .inl h
 · exact .inr ⟨g,cap,cur,rfl,a1,(hk g a1 (h3 g rfl)).trans a2,a3⟩
theorem Gow.below {w w':World} {B m m':Nat} {e:TypeId} {size:Nat} {v:Value} {n:Nat} {xs:List D} (h:Gow w B m e size v n xs) (hb:Below m w w') (hm:m<=m'):Gow w' B m' e size v n xs:=
 h.keep hm fun b _ hb'=>hb.block b hb'
theorem Gow.made {w:World} {B m g:Nat} {e:TypeId} {size:Nat} (hr:Row w g e #[]) (hB:B<=g) (hm:g<m):Gow w B m e size (.slice (some ⟨g,0,none⟩) 0 0) 0 []:=
 ⟨rfl,[],⟨by simp,.inr ⟨g,0,#[],rfl,hB,hr,Nat.le_refl _,by unfold maxLen;omega,by simp,by simp⟩⟩,fun g' h=>by simp [Value.ownBlock] at h;omega,rfl⟩
theorem Gow.osl {w:World} {B m:Nat} {e:TypeId} {size:Nat} {v:Value} {n:Nat} {xs:List D} (h:Gow w B m e size v n xs):∃ A c,v= .slice A n c/\Osl w (Btw B m) size A c xs:=by
 obtain⟨h1,cs,h2,h3,h4⟩:=h
 rcases h2.2 with ⟨rfl,h⟩ | ⟨g,cap,cur,rfl,a1,a2,a3,a4,a5,a6⟩
 · have:xs= []:=List.eq_nil_of_length_eq_zero (by omega)
   subst this
   exact⟨none,0,by rw [h],Osl.nil (by unfold maxLen;omega)⟩
 ·
  refine⟨_,cap,rfl,by omega,a4,.inr ⟨g,rfl,⟨a1,h3 g rfl⟩,fun o=>Row.frozen (t:=e) (cs:=cur) a2 o,?_⟩⟩
  refine ownC_row xs _ cs 0 (fun j v hj=>?_) (ownC_keep xs _ _ cs (fun b hb=>⟨⟨⟨hb.1,hb.2.1⟩,fun e=>hb.2.2 (by rw [e];rfl)⟩,rfl⟩) h4)
  rw [Nat.zero_add,Row.cell (t:=e) (cs:=cur) a2]
  rw [<- a6,List.getElem?_take] at hj
  split at hj
  · simpa using hj
  · cases hj
theorem Gow.step {w w':World} {B m g cap H:Nat} {e e':TypeId} {size:Nat} {v:Value} {n:Nat} {xs:List D} {d:D} {cs:List Value} {cells:List Value} (hB:B<=m) (hm:m<=w.heap.size)
 (hxs:xs.length=n) (hlt0:∀ g,v.ownBlock=some g->g<m) (hoc:ownC w size xs (fun b=>B<=b/\b<m/\v.ownBlock≠some b) cells) (hd:d.own w (Btw m w.heap.size) cs) (hcs:cs.length=size)
 (hH:H=w.heap.size+1) (hown:w'.ownsRow B e size (.slice (some ⟨g,0,none⟩) (n+1) cap) (n+1) (cells++cs)) (hgrow:(w.alloc (.cells cs.toArray e')).grownBy w' v.ownBlock) (hat:v.ownBlock=some g\/g=H) (hlt:g<w'.heap.size):
 Gow w' B w'.heap.size e size (.slice (some ⟨g,0,none⟩) (n+1) cap) (n+1) (xs++[d]):=by
 have hsz:(w.alloc (.cells cs.toArray e')).heap.size<=w'.heap.size:=hgrow.size
 have hsz':w.heap.size+1<=w'.heap.size:=by simpa using hsz
 have hne:∀ b,b<w.heap.size->v.ownBlock≠some b->w'.heap[b]? =w.heap[b]?:=fun b hb hb2=>
  (hgrow.block b (by simp;omega) (fun e=>hb2 e.symm)).trans (Below.heap_alloc w _ b hb)
 refine⟨by simp [hxs],cells++cs,hown,fun g' hg'=>by simp [Value.ownBlock] at hg';omega,?_⟩
 have hgm:g<m\/g=H:=by
  rcases hat with h | h
  · exact .inl (hlt0 g h)
  · exact .inr h
 have k1:=ownC_keep (w':=w') xs _ (fun b=>B<=b/\b<m/\v.ownBlock≠some b) cells (fun b hb=>⟨hb,hne b (by omega) hb.2.2⟩) hoc
 have k2:=D.own_keep (w':=w') d _ (Btw m w.heap.size) cs (fun b hb=>⟨hb,hne b hb.2 (fun e=>by have:=hlt0 b e;have:=hb.1;omega)⟩) hd
 have k3:=ownC_snoc (S:=fun b=>B<=b) k2 hcs (fun x hx=>Nat.le_trans hB hx.1) xs _ cells (fun x hx=>⟨hx.1,fun h=>by have:=h.1;omega⟩) k1
 refine ownC_keep _ _ _ _ (fun b hb=>⟨?_,rfl⟩) k3
 rcases hb with ⟨b1,b2,b3⟩ | ⟨b1,b2⟩
 ·
  refine⟨b1,by omega,fun e=>?_⟩
  simp only [Value.ownBlock,Option.some.injEq] at e
  subst e
  rcases hat with h | h
  · exact b3 h
  · omega
 · refine⟨by omega,by omega,fun e=>?_⟩
   simp only [Value.ownBlock,Option.some.injEq] at e
   omega
theorem Gow.grown {w w':World} {B m:Nat} {e:TypeId} {size:Nat} {v:Value} {n:Nat} {xs:List D} (h:Gow w B m e size v n xs) (hg:w.grownBy w' v.ownBlock) (hm:B<=w.heap.size):Below B w w':=by
 refine⟨hg.os,hg.tape,hg.output,hg.size,fun b hb=>hg.block b (by omega) (fun e=>?_)⟩
 obtain⟨_,cs,h2,_,_⟩:=h
 have:=h2.lt b e.symm
 omega
theorem step_append_D {P:Program} (w:World) {ops:Array Oper} {o:Oper} {a:Act} {K:Act->World->Prop} {Q:Exit->Act->World->Prop} {E:Prop} (hgd:o.guard=none) (s x:Operand) (t:TypeId) (ho:o.op= .call {callee:=.builtin .append,args:=#[s,x],argTypes:=#[t,t]})
 (e:TypeId) (z:Value) (size bytes:Nat) (ht:P.underlying t=some (.slice e)) (hi:(P.info? e).map (fun i=>(i.zero,i.size,i.bytes))=some (some z,size,bytes)) (hzs:z.cells.size=size) (hsz:0<size)
 (B m:Nat) (v:Value) (n:Nat) (xs:List D) (hg:Gow w B m e size v n xs) (d:D) (cs:List Value) (hd:d.own w (Btw m w.heap.size) cs) (hB:B<=m) (hm:m<=w.heap.size) (hcs:cs.length=size) (h1:∀ u∈cs,u.oneCell'=true)
 (hn:n<1048577) (hby:bytes<=1048576) (e':TypeId) (hs:a.eval s=v) (A:Nat) (hA:A=w.heap.size) (hx:a.eval x= .slice (some ⟨A,0,none⟩) 1 1)
 (h:∀ g cap w',Gow w' B w'.heap.size e size (.slice (some ⟨g,0,none⟩) (n+1) cap) (n+1) (xs++[d])->Below B w w'->w.heap.size<=w'.heap.size->B<=g->g<w'.heap.size->K (a.put o.dst (.slice (some ⟨g,0,none⟩) (n+1) cap)) w'):if Region.wanted o (yielded ops a.tmps)=true then Oper.wp P o a (w.alloc (.cells cs.toArray e')) K Q else E:=by
 obtain⟨i,i1,i2,i3,i4⟩:=info_parts hi
 obtain⟨hxs,cells,g2,g3,g4⟩:=id hg
 have e1:w.heap.size<(w.alloc (.cells cs.toArray e')).heap.size:=by simp
 have hga:=g2.alloc (.cells cs.toArray e')
 have hnews:∀ j u,cs[j]? =some u->(w.alloc (.cells cs.toArray e')).cell? ((⟨A,0,none⟩:Addr).add j)=some u:=fun j u hu=>by
  subst hA
  exact World.news_of_block (cs:=cs.toArray) (heap_alloc_new w _) j u (by simpa using hu)
 have hbt:(n+1)*bytes<=140737488355328:=Nat.le_trans (Nat.mul_le_mul (show n+1<=1048577 by omega) hby) (by omega)
 exact step_append_lies (w.alloc (.cells cs.toArray e')) hgd s x t ho B e i z size bytes ht i1 i2 i3 i4 hzs hsz v n cells hs hga ⟨A,0,none⟩ 1 1 cs hx (by omega) hnews h1 (by omega) (by unfold maxLen;omega) hbt (by simp;omega) _ rfl fun g cap w' h2 h3 h4 h5=>h g cap w' (Gow.step (e':=e') hB hm hxs g3 g4 hd hcs (by simp) h2 h3 h4 h5)
  (((Below.refl _ _).alloc (by omega) _).trans (Gow.grown (hg.below (m:=m) (m':=m) ((Below.refl _ _).alloc hm _) (Nat.le_refl _)) h3 (by omega))) (Nat.le_trans (Nat.le_of_lt e1) h3.size) (h2.lt g rfl).1 h5
def rdC (w:World) (size:Nat) (S:Nat->Prop):List D->List Value->Prop
 | [],cs=>cs= []
 | d::r,cs=>∃ c1 c2,cs=c1++c2/\c1.length=size/\d.rd w S c1/\rdC w size S r c2
theorem rdC_keep {w w':World} {size:Nat} {S S':Nat->Prop} (hk:∀ b,S b->S' b/\w'.heap[b]? =w.heap[b]?):∀ (xs:List D) (cs:List Value),rdC w size S xs cs->rdC w' size S' xs cs
 | [],_,h=>h
 | d::r,cs,h=>by
  simp only [rdC] at h ⊢
  obtain⟨c1,c2,e,hl,h1,h2⟩:=h
  exact⟨c1,c2,e,hl,D.rd_keep hk d c1 h1,rdC_keep hk r c2 h2⟩
theorem rdC_snoc {w:World} {size:Nat} {S:Nat->Prop} {d:D} {c:List Value} (hd:d.rd w S c) (hc:c.length=size):∀ (xs:List D) (cs:List Value),rdC w size S xs cs->rdC w size S (xs++[d]) (cs++c)
 | [],cs,h=>by
  simp only [rdC] at h
  subst h
  simp only [List.nil_append,rdC]
  exact⟨c,[],by simp,hc,hd,rfl⟩
 | e::r,cs,h=>by
  simp only [rdC,List.cons_append] at h ⊢
  obtain⟨c1,c2,rfl,hl,h1,h2⟩:=h
  exact⟨c1,c2++c,by simp,hl,h1,rdC_snoc hd hc r c2 h2⟩
theorem rdC_row {w:World} {size b:Nat} {S:Nat->Prop}:∀ (xs:List D) (cs:List Value) (off:Nat),(∀ j v,cs[j]? =some v->w.cell? ⟨b,off+j,none⟩=some v)->rdC w size S xs cs->D.rdR w S size b xs off
 | [],_,_,_,_=>by simp only [D.rdR]
 | d::r,cs,off,hc,h=>by
  simp only [rdC,D.rdR] at h ⊢
  obtain⟨c1,c2,rfl,hl,h1,h2⟩:=h
  refine⟨⟨c1,hl,fun j v hj=>hc j v ?_,h1⟩,rdC_row r c2 (off+size) (fun j v hj=>?_) h2⟩
  · have:j<c1.length:=(List.getElem?_eq_some_iff.1 hj).1
    rw [List.getElem?_append_left this];exact hj
  · have:=hc (size+j) v (by rw [List.getElem?_append_right (by omega),hl];simpa using hj)
    rwa [<- Nat.add_assoc] at this
def Gsh (w:World) (B:Nat) (e:TypeId) (size:Nat) (v:Value) (n:Nat) (xs:List D):Prop:=
 xs.length=n/\∃ cs,w.ownsRow B e size v n cs/\rdC w size (Lt B) xs cs
theorem Gsh.nil (w:World) (B:Nat) (e:TypeId) (size:Nat):Gsh w B e size (.slice none 0 0) 0 []:=
 ⟨rfl,[],World.ownsRow_nil w B e size,rfl⟩
theorem Gsh.made {w:World} {B g:Nat} {e:TypeId} {size:Nat} (hr:Row w g e #[]) (hB:B<=g):Gsh w B e size (.slice (some ⟨g,0,none⟩) 0 0) 0 []:=
 ⟨rfl,[],⟨by simp,.inr ⟨g,0,#[],rfl,hB,hr,Nat.le_refl _,by unfold maxLen;omega,by simp,by simp⟩⟩,rfl⟩
theorem Gsh.below {w w':World} {B:Nat} {e:TypeId} {size:Nat} {v:Value} {n:Nat} {xs:List D} (h:Gsh w B e size v n xs) (hb:Below w.heap.size w w') (hB:B<=w.heap.size):Gsh w' B e size v n xs:=by
 obtain⟨h1,cs,h2,h4⟩:=h
 refine⟨h1,cs,?_,rdC_keep (fun b hb'=>⟨hb',hb.block b (Nat.lt_of_lt_of_le hb' hB)⟩) xs cs h4⟩
 refine⟨h2.1,?_⟩
 rcases h2.2 with h | ⟨g,cap,cur,rfl,a1,a2,a3⟩
 · exact .inl h
 · exact .inr ⟨g,cap,cur,rfl,a1,(hb.block g (h2.lt g rfl).2).trans a2,a3⟩
theorem Gsh.sl {w:World} {B:Nat} {e:TypeId} {size:Nat} {v:Value} {n:Nat} {xs:List D} (h:Gsh w B e size v n xs) (hB:B<=w.heap.size):∃ A c,v= .slice A n c/\Sl w (Lt w.heap.size) size A c xs:=by
 obtain⟨h1,cs,h2,h4⟩:=h
 have hlt:=h2.lt
 rcases h2.2 with ⟨rfl,h⟩ | ⟨g,cap,cur,rfl,a1,a2,a3,a4,a5,a6⟩
 · have:xs= []:=List.eq_nil_of_length_eq_zero (by omega)
   subst this
   exact⟨none,0,by rw [h],Sl.nil (by unfold maxLen;omega)⟩
 ·
  refine⟨_,cap,rfl,by omega,a4,.inr ⟨g,0,rfl,(hlt g rfl).2,?_⟩⟩
  refine rdC_row xs cs 0 (fun j v hj=>?_) (rdC_keep (fun b hb=>⟨Nat.lt_of_lt_of_le hb hB,rfl⟩) xs cs h4)
  rw [Nat.zero_add,Row.cell (t:=e) (cs:=cur) a2]
  rw [<- a6,List.getElem?_take] at hj
  split at hj
  · simpa using hj
  · cases hj
theorem Gsh.step {w w':World} {B g cap:Nat} {e e':TypeId} {size:Nat} {v:Value} {n:Nat} {xs:List D} {d:D} {cs cells:List Value} (hB:B<=w.heap.size)
 (hxs:xs.length=n) (hbase:∀ g,v.ownBlock=some g->B<=g) (hoc:rdC w size (Lt B) xs cells) (hd:d.rd w (Lt B) cs) (hcs:cs.length=size)
 (hown:w'.ownsRow B e size (.slice (some ⟨g,0,none⟩) (n+1) cap) (n+1) (cells++cs)) (hgrow:(w.alloc (.cells cs.toArray e')).grownBy w' v.ownBlock):
 Gsh w' B e size (.slice (some ⟨g,0,none⟩) (n+1) cap) (n+1) (xs++[d]):=by
 have hne:∀ b,b<B->w'.heap[b]? =w.heap[b]?:=fun b hb=>
  (hgrow.block b (by simp;omega) (fun e=>by have:=hbase b e.symm;omega)).trans (Below.heap_alloc w _ b (by omega))
 exact⟨by simp [hxs],cells++cs,hown,rdC_snoc (D.rd_keep (fun b hb=>⟨hb,hne b hb⟩) d cs hd) hcs xs cells (rdC_keep (fun b hb=>⟨hb,hne b hb⟩) xs cells hoc)⟩
theorem wpList_append_S {P:Program} (w:World) {ops:Array Oper} {rest:List Oper} {o:Oper} {a:Act} {Q:Exit->Act->World->Prop} (hgd:o.guard=none) (s x:Operand) (t:TypeId) (ho:o.op= .call {callee:=.builtin .append,args:=#[s,x],argTypes:=#[t,t]})
 (e:TypeId) (z:Value) (size bytes:Nat) (ht:P.underlying t=some (.slice e)) (hi:(P.info? e).map (fun i=>(i.zero,i.size,i.bytes))=some (some z,size,bytes)) (hzs:z.cells.size=size) (hsz:0<size)
 (B:Nat) (v:Value) (n:Nat) (xs:List D) (hg:Gsh w B e size v n xs) (d:D) (cs:List Value) (hd:d.rd w (Lt B) cs) (hB:B<=w.heap.size) (hcs:cs.length=size) (h1:∀ u∈cs,u.oneCell'=true)
 (hn:n<1048577) (hby:bytes<=1048576) (e':TypeId) (hs:a.eval s=v) (A:Nat) (hA:A=w.heap.size) (hx:a.eval x= .slice (some ⟨A,0,none⟩) 1 1)
 (h:∀ g cap w',Gsh w' B e size (.slice (some ⟨g,0,none⟩) (n+1) cap) (n+1) (xs++[d])->Below B w w'->w.heap.size<=w'.heap.size->B<=g->g<w'.heap.size->wpList P ops Q rest (a.put o.dst (.slice (some ⟨g,0,none⟩) (n+1) cap)) w'):wpList P ops Q (o::rest) a (w.alloc (.cells cs.toArray e')):=by
 obtain⟨i,i1,i2,i3,i4⟩:=info_parts hi
 obtain⟨hxs,cells,g2,g4⟩:=id hg
 have e1:w.heap.size<(w.alloc (.cells cs.toArray e')).heap.size:=by simp
 have hga:=g2.alloc (.cells cs.toArray e')
 have hnews:∀ j u,cs[j]? =some u->(w.alloc (.cells cs.toArray e')).cell? ((⟨A,0,none⟩:Addr).add j)=some u:=fun j u hu=>by
  subst hA
  exact World.news_of_block (cs:=cs.toArray) (heap_alloc_new w _) j u (by simpa using hu)
 have hbt:(n+1)*bytes<=140737488355328:=Nat.le_trans (Nat.mul_le_mul (show n+1<=1048577 by omega) hby) (by omega)
 exact wpList_append_lies (w.alloc (.cells cs.toArray e')) hgd s x t ho B e i z size bytes ht i1 i2 i3 i4 hzs hsz v n cells hs hga ⟨A,0,none⟩ 1 1 cs hx (by omega) hnews h1 (by omega) (by unfold maxLen;omega) hbt (by simp;omega) _ rfl fun g cap w' h2 h3 h4 h5=>h g cap w' (Gsh.step (e':=e') hB hxs (fun g hg=>(g2.lt g hg).1) g4 hd hcs h2 h3)
  (((Below.refl _ _).alloc (by omega) _).trans (⟨h3.os,h3.tape,h3.output,h3.size,fun b hb=>h3.block b (by omega) (fun e=>by have:=(g2.lt b e.symm).1;omega)⟩)) (Nat.le_trans (Nat.le_of_lt e1) h3.size) (h2.lt g rfl).1 h5
structure Gr (w w':World) (v v':Value):Prop where
 grow:w.grownBy w' v.ownBlock
 own:v'.ownBlock=v.ownBlock\/∃ g,v'.ownBlock=some g/\w.heap.size<=g
theorem Gr.refl (w:World) (v:Value):Gr w w v v:=⟨⟨rfl,rfl,rfl,Nat.le_refl _,fun _ _ _=>rfl⟩,.inl rfl⟩
theorem Gr.size {w w':World} {v v':Value} (h:Gr w w' v v'):w.heap.size<=w'.heap.size:=h.grow.size
theorem Gr.trans {a b c:World} {v v1 v2:Value} (h:Gr a b v v1) (k:Gr b c v1 v2):Gr a c v v2:=by
 refine⟨h.grow.andThen k.grow fun j e=>?_,?_⟩
 · rcases h.own with h1 | ⟨g,h1,h2⟩
   · exact .inr (h1.symm.trans e)
   · rw [h1] at e;cases e;exact .inl h2
 · rcases k.own with h1 | ⟨g,h1,h2⟩
   · rw [h1];exact h.own
   · exact .inr ⟨g,h1,Nat.le_trans h.size h2⟩
theorem Gr.of_below {w w':World} {v:Value} (h:Below w.heap.size w w'):Gr w w' v v:=⟨⟨h.os,h.tape,h.output,h.size,fun b hb _=>h.block b hb⟩,.inl rfl⟩
theorem Gr.alloc {w w':World} {v v':Value} (h:Gr w w' v v') (o:Obj):Gr w (w'.alloc o) v v':=h.trans (Gr.of_below ((Below.refl _ _).alloc (Nat.le_refl _) _))
theorem Gr.below {B:Nat} {w w':World} {v v':Value} (h:Gr w w' v v') (hB:B<=w.heap.size) (hv:∀ g,v.ownBlock=some g->B<=g):Below B w w':=
 ⟨h.grow.os,h.grow.tape,h.grow.output,h.size,fun b hb=>h.grow.block b (by omega) fun e=>by have:=hv b e.symm;omega⟩
theorem Gr.row {w w':World} {v v':Value} {b:Nat} {T:TypeId} {cs:Array Value} (h:Gr w w' v v') (hr:Row w b T cs) (hne:v.ownBlock≠some b):Row w' b T cs:=
 (h.grow.block b hr.lt fun e=>hne e.symm).trans hr
theorem Gr.ne {w w':World} {v v':Value} {b:Nat} (h:Gr w w' v v') (hv:v.ownBlock≠some b) (hb:b<w.heap.size):v'.ownBlock≠some b:=by
 rcases h.own with h1 | ⟨g,h1,h2⟩
 · rw [h1];exact hv
 · rw [h1];intro e;cases e;omega
theorem Gsh.own {w:World} {B:Nat} {e:TypeId} {size:Nat} {v:Value} {n:Nat} {xs:List D} (h:Gsh w B e size v n xs):∀ g,v.ownBlock=some g->B<=g/\g<w.heap.size:=by
 obtain⟨h1,cs,h2,h4⟩:=h
 exact fun g hg=>h2.lt g hg
theorem Gsh.form {w:World} {B:Nat} {e:TypeId} {size:Nat} {v:Value} {n:Nat} {xs:List D} (h:Gsh w B e size v n xs):∃ A c,v= .slice A n c:=by
 obtain⟨h1,cs,h2,h4⟩:=h
 rcases h2.2 with ⟨rfl,h0⟩ | ⟨g,cap,cur,rfl,_⟩
 · exact⟨none,0,by rw [h0]⟩
 · exact⟨_,cap,rfl⟩
theorem run_append_many {P:Program} (w:World) (base:Nat) (t ty e:TypeId) (i:TypeInfo) (z:Value) (size bytes:Nat) (ht:P.underlying t=some (.slice e)) (hi:P.info? e=some i) (hz:i.zero=some z)
 (hsize:i.size=size) (hby:i.bytes=bytes) (hzs:z.cells.size=size) (hsz:0<size)
 (v:Value) (n:Nat) (xs:List Value) (hown:w.ownsRow base e size v n xs)
 (A:Option Addr) (m c:Nat) (news:List Value) (hA:A=none->m=0) (hl:news.length=m*size) (hnews:∀ a,A=some a->∀ j u,news[j]? =some u->w.cell? (a.add j)=some u) (h1:∀ u∈news,u.oneCell'=true)
 (h63:n+m<=maxLen) (hbytes:(n+m)*bytes<=140737488355328) (hbase:base<=w.heap.size):
 ∃ v' w',(Builtin.append_ #[t,t] ty #[v,.slice A m c]).run P w= .ok v' w'/\w'.ownsRow base e size v' (n+m) (xs++news)/\w.grownBy w' v.ownBlock/\(v'.ownBlock=v.ownBlock\/v'.ownBlock=some w.heap.size):=by
 match A with
 | some a=>
  obtain⟨v',w',a1,a2,a3,_,a4⟩:=run_append_own_at (P:=P) w base t ty e i z size bytes ht hi hz hsize hby hzs hsz v n xs hown a m c news hl (hnews a rfl) h1 h63 hbytes hbase
  exact⟨v',w',a1,a2,a3,a4⟩
 | none=>
  have hm:=hA rfl
  subst hm
  have hn:news= []:=List.eq_nil_of_length_eq_zero (by simpa using hl)
  subst hn
  subst hsize
  subst hby
  refine⟨v,w,?_,by simpa using hown,⟨rfl,rfl,rfl,Nat.le_refl _,fun _ _ _=>rfl⟩,.inl rfl⟩
  rcases hown.2 with ⟨rfl,rfl⟩ | ⟨g,cap,cur,rfl,hbg,hg,hnc,hcm,hcs,htake⟩
  · simp [Builtin.append_,run_underlying ht,sizeOf,typeInfo,hi,Builtin.lenOf,Builtin.firstCells,loadCells,loadCellsFrom]
  · have hr:=run_append_room_src (P:=P) w t t ty e i ht hi g 0 n cap (.slice none 0 c) 0 [] (Src.ofNil w ht c) (by omega) (by simp) (by simp)
    simpa [World.setCells] using hr
mutual
theorem D.rd_one {w:World} {S:Nat->Prop}:∀ (d:D) (cs:List Value),d.rd w S cs->∀ u∈cs,u.oneCell'=true
 | .num k n,cs,h,u,hu=>by obtain⟨rfl,_⟩:=D.rd_num.1 h;simp at hu;subst hu;rfl
 | .str s,cs,h,u,hu=>by obtain⟨rfl,_⟩:=D.rd_str.1 h;simp at hu;subst hu;rfl
 | .bool b,cs,h,u,hu=>by obtain rfl:=D.rd_bool.1 h;simp at hu;subst hu;rfl
 | .agg fs,cs,h,u,hu=>D.rdF_one fs cs (D.rd_agg.1 h) u hu
 | .sl size xs,cs,h,u,hu=>by obtain⟨A,c,rfl,_⟩:=D.rd_sl.1 h;simp at hu;subst hu;rfl
theorem D.rdF_one {w:World} {S:Nat->Prop}:∀ (fs:List D) (cs:List Value),D.rdF w S fs cs->∀ u∈cs,u.oneCell'=true
 | [],cs,h,u,hu=>by obtain rfl:=D.rdF_nil.1 h;simp at hu
 | d::r,cs,h,u,hu=>by
  obtain⟨c1,c2,rfl,h1,h2⟩:=D.rdF_cons.1 h
  rcases List.mem_append.1 hu with hu | hu
  · exact D.rd_one d c1 h1 u hu
  · exact D.rdF_one r c2 h2 u hu
end
theorem rdC_one {w:World} {size:Nat} {S:Nat->Prop}:∀ (xs:List D) (cs:List Value),rdC w size S xs cs->∀ u∈cs,u.oneCell'=true
 | [],cs,h,u,hu=>by simp only [rdC] at h;subst h;simp at hu
 | d::r,cs,h,u,hu=>by
  simp only [rdC] at h
  obtain⟨c1,c2,rfl,hl,h1,h2⟩:=h
  rcases List.mem_append.1 hu with hu | hu
  · exact D.rd_one d c1 h1 u hu
  · exact rdC_one r c2 h2 u hu
theorem rdC_length {w:World} {size:Nat} {S:Nat->Prop}:∀ (xs:List D) (cs:List Value),rdC w size S xs cs->cs.length=xs.length*size
 | [],cs,h=>by simp only [rdC] at h;simp [h]
 | d::r,cs,h=>by
  simp only [rdC] at h
  obtain⟨c1,c2,rfl,hl,_,h2⟩:=h
  have:=rdC_length r c2 h2
  rw [List.length_append,hl,this,List.length_cons,Nat.add_mul];omega
theorem rdC_append {w:World} {size:Nat} {S:Nat->Prop} {ys:List D} {es:List Value} (hy:rdC w size S ys es):∀ (xs:List D) (cs:List Value),rdC w size S xs cs->rdC w size S (xs++ys) (cs++es)
 | [],cs,h=>by simp only [rdC] at h;subst h;simpa using hy
 | d::r,cs,h=>by
  simp only [rdC,List.cons_append] at h ⊢
  obtain⟨c1,c2,rfl,hl,h1,h2⟩:=h
  exact⟨c1,c2++es,by simp,hl,h1,rdC_append hy r c2 h2⟩
theorem rdR_cells {w:World} {size b:Nat} {S:Nat->Prop}:∀ (xs:List D) (off:Nat),D.rdR w S size b xs off->∃ cs,rdC w size S xs cs/\∀ j u,cs[j]? =some u->w.cell? ⟨b,off+j,none⟩=some u
 | [],off,_=>⟨[],rfl,fun j u h=>by simp at h⟩
 | d::r,off,h=>by
  simp only [D.rdR] at h
  obtain⟨⟨c1,hl,hc,h1⟩,h2⟩:=h
  obtain⟨c2,k1,k2⟩:=rdR_cells r (off+size) h2
  refine⟨c1++c2,by simp only [rdC];exact⟨c1,c2,rfl,hl,h1,k1⟩,fun j u hj=>?_⟩
  by_cases hlt:j<c1.length
  · rw [List.getElem?_append_left hlt] at hj;exact hc j u hj
  · rw [List.getElem?_append_right (by omega)] at hj
    have:=k2 (j - c1.length) u hj
    rwa [show off+size+(j - c1.length)=off+j by omega] at this
theorem rdR_take {w:World} {size b:Nat} {S:Nat->Prop}:∀ (xs:List D) (off j:Nat),D.rdR w S size b xs off->D.rdR w S size b (xs.take j) off
 | [],_,j,h=>by simpa using h
 | x::r,off,0,h=>by simp only [List.take_zero,D.rdR]
 | x::r,off,j+1,h=>by
  simp only [List.take_succ_cons,D.rdR] at h ⊢
  exact⟨h.1,rdR_take r (off+size) j h.2⟩
theorem rdR_drop {w:World} {size b:Nat} {S:Nat->Prop}:∀ (xs:List D) (off j:Nat),D.rdR w S size b xs off->D.rdR w S size b (xs.drop j) (off+j*size)
 | [],_,j,h=>by simp only [List.drop_nil,D.rdR]
 | x::r,off,0,h=>by simpa using h
 | x::r,off,j+1,h=>by
  simp only [D.rdR] at h
  have:=rdR_drop r (off+size) j h.2
  rw [List.drop_succ_cons,Nat.add_mul,Nat.one_mul,show off+(j*size+size)=off+size+j*size by omega]
  exact this
theorem Sl.take {w:World} {S:Nat->Prop} {size:Nat} {A:Option Addr} {c:Nat} {xs:List D} (h:Sl w S size A c xs) (j:Nat):Sl w S size A c (xs.take j):=by
 obtain⟨h1,h2,h3⟩:=h
 refine⟨by rw [List.length_take];omega,h2,?_⟩
 rcases h3 with rfl | ⟨b,off,e,hS,hr⟩
 · exact .inl (by simp)
 · exact .inr ⟨b,off,e,hS,rdR_take xs off j hr⟩
theorem Sl.drop {w:World} {S:Nat->Prop} {size b off c:Nat} {xs:List D} (h:Sl w S size (some ⟨b,off,none⟩) c xs) (j:Nat) (hj:j<=xs.length):Sl w S size (some ⟨b,off+j*size,none⟩) (c - j) (xs.drop j):=by
 obtain⟨h1,h2,h3⟩:=h
 refine⟨by rw [List.length_drop];omega,by omega,?_⟩
 rcases h3 with rfl | ⟨b',off',e,hS,hr⟩
 · exact .inl (by simp)
 · obtain⟨rfl,rfl⟩:b=b'/\off=off':=by simpa using e
   exact .inr ⟨b,off+j*size,rfl,hS,rdR_drop xs off j hr⟩
def Gre (w:World) (B:Nat) (e:TypeId) (size:Nat) (v:Value) (n:Nat) (xs:List D):Prop:=
 xs.length=n/\∃ cs,w.ownsRow B e size v n cs/\rdC w size (fun b=>b<w.heap.size/\v.ownBlock≠some b) xs cs
theorem Gre.nil (w:World) (B:Nat) (e:TypeId) (size:Nat):Gre w B e size (.slice none 0 0) 0 []:=⟨rfl,[],World.ownsRow_nil w B e size,rfl⟩
theorem Gre.made {w:World} {B g:Nat} {e:TypeId} {size:Nat} (hr:Row w g e #[]) (hB:B<=g):Gre w B e size (.slice (some ⟨g,0,none⟩) 0 0) 0 []:=
 ⟨rfl,[],⟨by simp,.inr ⟨g,0,#[],rfl,hB,hr,Nat.le_refl _,by unfold maxLen;omega,by simp,by simp⟩⟩,rfl⟩
theorem Gre.own {w:World} {B:Nat} {e:TypeId} {size:Nat} {v:Value} {n:Nat} {xs:List D} (h:Gre w B e size v n xs):∀ g,v.ownBlock=some g->B<=g/\g<w.heap.size:=by
 obtain⟨h1,cs,h2,h4⟩:=h
 exact fun g hg=>h2.lt g hg
theorem Gre.form {w:World} {B:Nat} {e:TypeId} {size:Nat} {v:Value} {n:Nat} {xs:List D} (h:Gre w B e size v n xs):∃ A c,v= .slice A n c:=by
 obtain⟨h1,cs,h2,h4⟩:=h
 rcases h2.2 with ⟨rfl,h0⟩ | ⟨g,cap,cur,rfl,_⟩
 · exact⟨none,0,by rw [h0]⟩
 · exact⟨_,cap,rfl⟩
theorem Gre.keep {w w':World} {B:Nat} {e:TypeId} {size:Nat} {v:Value} {n:Nat} {xs:List D} (h:Gre w B e size v n xs) (hs:w.heap.size<=w'.heap.size) (hk:∀ b,b<w.heap.size->w'.heap[b]? =w.heap[b]?):Gre w' B e size v n xs:=by
 have ho:=h.own
 obtain⟨h1,cs,h2,h4⟩:=h
 refine⟨h1,cs,⟨h2.1,?_⟩,rdC_keep (fun b hb=>⟨⟨Nat.lt_of_lt_of_le hb.1 hs,hb.2⟩,hk b hb.1⟩) xs cs h4⟩
 rcases h2.2 with h | ⟨g,cap,cur,rfl,a1,a2,a3⟩
 · exact .inl h
 · exact .inr ⟨g,cap,cur,rfl,a1,(hk g (ho g rfl).2).trans a2,a3⟩
theorem Gre.below {w w':World} {B:Nat} {e:TypeId} {size:Nat} {v:Value} {n:Nat} {xs:List D} (h:Gre w B e size v n xs) (hb:Below w.heap.size w w'):Gre w' B e size v n xs:=h.keep hb.size hb.block
theorem Gre.sl {w:World} {B:Nat} {e:TypeId} {size:Nat} {v:Value} {n:Nat} {xs:List D} (h:Gre w B e size v n xs):∃ A c,v= .slice A n c/\Sl w (Lt w.heap.size) size A c xs:=by
 have hlt:=h.own
 obtain⟨h1,cs,h2,h4⟩:=h
 rcases h2.2 with ⟨rfl,h⟩ | ⟨g,cap,cur,rfl,a1,a2,a3,a4,a5,a6⟩
 · have:xs= []:=List.eq_nil_of_length_eq_zero (by omega)
   subst this
   exact⟨none,0,by rw [h],Sl.nil (by unfold maxLen;omega)⟩
 ·
  refine⟨_,cap,rfl,by omega,a4,.inr ⟨g,0,rfl,(hlt g rfl).2,?_⟩⟩
  refine rdC_row xs cs 0 (fun j v hj=>?_) (rdC_keep (fun b hb=>⟨hb.1,rfl⟩) xs cs h4)
  rw [Nat.zero_add,Row.cell (t:=e) (cs:=cur) a2]
  rw [<- a6,List.getElem?_take] at hj
  split at hj
  · simpa using hj
  · cases hj
theorem Gre.step {P:Program} (w:World) (t ty e:TypeId) (z:Value) (size bytes:Nat) (ht:P.underlying t=some (.slice e)) (hi:(P.info? e).map (fun i=>(i.zero,i.size,i.bytes))=some (some z,size,bytes)) (hzs:z.cells.size=size) (hsz:0<size)
 (B:Nat) (v:Value) (n:Nat) (xs:List D) (hg:Gre w B e size v n xs) (A:Option Addr) (c m:Nat) (ys:List D) (hm:ys.length=m) (hy:Sl w (fun b=>b<w.heap.size/\v.ownBlock≠some b) size A c ys) (hB:B<=w.heap.size)
 (hn:n+m<=maxLen) (hbt:(n+m)*bytes<=140737488355328):
 ∃ A' c' w',(Builtin.append_ #[t,t] ty #[v,.slice A m c]).run P w= .ok (.slice A' (n+m) c') w'/\Gre w' B e size (.slice A' (n+m) c') (n+m) (xs++ys)/\Gr w w' v (.slice A' (n+m) c'):=by
 obtain⟨i,i1,i2,i3,i4⟩:=info_parts hi
 have ho:=hg.own
 obtain⟨hxs,cells,g2,g4⟩:=id hg
 obtain⟨es,k1,k2,k3⟩:∃ es,rdC w size (fun b=>b<w.heap.size/\v.ownBlock≠some b) ys es/\(A=none->m=0)/\∀ a,A=some a->∀ j u,es[j]? =some u->w.cell? (a.add j)=some u:=by
  rcases hy.2.2 with rfl | ⟨b,off,rfl,hS,hr⟩
  · exact⟨[],rfl,fun _=>by simpa using hm.symm,fun _ _ j u h=>by simp at h⟩
  · obtain⟨es,h1,h2⟩:=rdR_cells ys off hr
    refine⟨es,h1,fun h=>by simp at h,fun a ha j u hj=>?_⟩
    obtain rfl:⟨b,off,none⟩=a:=by simpa using ha
    have hadd:(⟨b,off,none⟩:Addr).add j=⟨b,off+j,none⟩:=by unfold Addr.add;split<;>simp_all
    rw [hadd];exact h2 j u hj
 obtain⟨v',w',hr,hown,hgr,hat⟩:=run_append_many (P:=P) w B t ty e i z size bytes ht i1 i2 i3 i4 hzs hsz v n cells g2 A m c es k2 (by rw [rdC_length _ _ k1,hm]) k3 (rdC_one _ _ k1) hn hbt hB
 have hfm:∃ A' c',v'= .slice A' (n+m) c':=by
  rcases hown.2 with ⟨rfl,h0⟩ | ⟨g,cap,cur,rfl,_⟩
  · exact⟨none,0,by rw [h0]⟩
  · exact⟨_,cap,rfl⟩
 obtain⟨A',c',rfl⟩:=hfm
 have hG:Gr w w' v (.slice A' (n+m) c'):=⟨hgr,hat.imp id fun h=>⟨_,h,Nat.le_refl _⟩⟩
 refine⟨A',c',w',hr,⟨by simp [hxs,hm],cells++es,hown,rdC_keep (fun b hb=>⟨⟨Nat.lt_of_lt_of_le hb.1 hgr.size,hG.ne hb.2 hb.1⟩,hgr.block b hb.1 fun e=>hb.2 e.symm⟩) _ _ (rdC_append k1 _ _ g4)⟩,hG⟩
end Go.Proofs.YtgbjdhfaklmjcaaGreat
