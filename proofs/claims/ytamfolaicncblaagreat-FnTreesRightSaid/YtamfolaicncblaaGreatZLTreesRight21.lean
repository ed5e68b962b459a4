/- Texts of the claim LTreesRight in one: TiD TiE TiF. Conditions: none but bounds on sizes. -/
import Derived.Test.YtamfolaicncblaaGreatZLTreesRight20
import Derived.Test.YtamfolaicncblaaGreatZLTreesRight18
import Derived.Test.YtamfolaicncblaaGreatZLTreesRight3
import Derived.Test.YtamfolaicncblaaGreatZLTreesRight17
import Derived.Test.YtamfolaicncblaaGreatZLTreesRight2
namespace Go.Proofs.YtamfolaicncblaaGreat
set_option maxRecDepth 20000
set_option linter.unusedVariables false
set_option linter.unusedSimpArgs false
open Go.RowKit
set_option maxHeartbeats 1000000
def ToClone (l:List Int) (w:World) (e:Ending) (w':World):Prop:=∃ A1 c1,e= .returned (.slice A1 l.length c1)/\Grx AnyB w' w.heap.size 3 1 (.slice A1 l.length c1) l.length (l.map (D.num .i64))/\Below w.heap.size w w'
theorem cloneInts (l:List Int) (A:Option Addr) (c:Nat) (w:World) (hl:l.length<=1048577) (hs:Sl w (Lt w.heap.size) 1 A c (l.map (D.num .i64))):
 Calls Tryz.prog 56 #[.slice A l.length c] w (ToClone l w):=by
 have S0:=LH hs
 have heq:=fun(u:World)=>Lib.run_eql_slice_nil (P:=Tryz.prog) u 28 3 A l.length c 0 0 Tryz.underlying28
 cases hA:A with
 | none=>
  have HL:=LH (show l= [] by
    have h:=hs.2.2
    rw [hA] at h
    rcases h with h | ⟨b,off,e,-⟩
    · simpa using h
    · cases e)
  rw [hA] at heq
  clear hA hs S0
  go_enter Tryz.func56,Tryz.ntmps56
  go_wp2_with fail
  go_ret
  rw [HL.out]
  exact⟨none,0,rfl,Grx.nil _ _ _ _ _,Below.refl _ _⟩
 | some a0=>
  rw [hA] at heq S0
  obtain⟨w0,e0⟩:∃ w0,w0=w.alloc (.cells #[] 3):=⟨_,rfl⟩
  have B0:=LH (show Below w.heap.size w w0 by rw [e0];exact(Below.refl _ _).alloc (Nat.le_refl _) _)
  have G0:=LH (show Grx AnyB w0 w.heap.size 3 1 (.slice (some ⟨w.heap.size,0,none⟩) 0 0) 0 [] from Grx.made (by rw [e0];exact Row.new' _ _ _ rfl) (Nat.le_refl _))
  have S1:=LH (S0.out.any B0.out B0.out.size (v:=.slice (some ⟨w.heap.size,0,none⟩) 0 0) (fun g hg=>own_ge hg))
  have EQ:=LH e0
  clear hA hs e0
  go_enter Tryz.func56,Tryz.ntmps56
  go_wp2_with (first
    | (at_builtin
       rw [<- EQ.out]
       refine wpList_append_X (X:=AnyB) w0 rfl (.tmp 5) (.tmp 6) 28 rfl 3 (.int .i64 0) 1 8 Tryz.underlying28 (by kernel_rfl) rfl (by omega) w.heap.size (.slice (some ⟨w.heap.size,0,none⟩) 0 0) 0 _ G0.out _ c l.length _ (by simp) S1.out B0.out.size (by unfold maxLen;omega) (by omega) rfl rfl ?_
       intro A4 c4 w4 G4 hGr4
       have HE:=LH (show Value.slice A4 (0+l.length) c4= .slice A4 l.length c4 by rw [Nat.zero_add])
       have HF:=LH (show ToClone l w (.returned (.slice A4 l.length c4)) w4 from⟨A4,c4,rfl,by simpa using G4,B0.out.trans (hGr4.below B0.out.size (fun g hg=>(G0.out.own g hg).1))⟩)
       clear G4 hGr4
       rw [HE.out]))
  go_ret
  exact Hid.out (by assumption)
def ToAsksS (S:Nat->Prop) (l:List GAsk) (w:World) (e:Ending) (w':World):Prop:=∃ A1 c1,e= .returned (.slice A1 l.length c1)/\Sl w' (fun b=>Xs S w.heap.size b/\b<w'.heap.size) 6 A1 c1 (l.map GAsk.toD)/\Below w.heap.size w w'
theorem implInside (S:Nat->Prop) (a:GAsk) (A1:Option Addr) (c1:Nat) (A2:Option Addr) (c2:Nat) (w:World) (hp:a.path.length<=1048575) (hkl:a.pat.kids.length<=1048576) (hS:∀ b,S b->b<w.heap.size) (ha:GAsk.At w S A1 c1 A2 c2 a):
 Calls Tryz.prog 88 #[.agg #[.slice A1 a.path.length c1,.int .i64 a.pat.op,.int .i64 a.pat.n,.string a.pat.s,.string a.pat.t,.slice A2 a.pat.kids.length c2]] w (ToAsksS S (bareA (kidsA a.path 0 a.pat.kids)) w):=by
 have HA:=LH ha
 have HSL:=LH hS
 obtain⟨w0,e0⟩:∃ w0,w0=(w.alloc (.cells #[.slice A1 a.path.length c1,.int .i64 a.pat.op,.int .i64 a.pat.n,.string a.pat.s,.string a.pat.t,.slice A2 a.pat.kids.length c2] 68)).alloc (.cells #[] 68):=⟨_,rfl⟩
 have E0:=LH (show Below w.heap.size w w0 by rw [e0];exact((Below.refl _ _).alloc (Nat.le_refl _) _).alloc (by simp) _)
 have R0:=LH (show Row w0 w.heap.size 68 #[.slice A1 a.path.length c1,.int .i64 a.pat.op,.int .i64 a.pat.n,.string a.pat.s,.string a.pat.t,.slice A2 a.pat.kids.length c2] by rw [e0];exact(Row.new' _ _ _ rfl).alloc _)
 have G0:=LH (show Grx (Xs S w.heap.size) w0 (w.heap.size+1) 68 6 (.slice (some ⟨w.heap.size+1,0,none⟩) 0 0) 0 [] from Grx.made (by rw [e0];exact Row.new' _ _ _ (by simp)) (Nat.le_refl _))
 have hz0:w.heap.size+1<=w0.heap.size:=by rw [e0];simp
 clear ha hS
 go_enter Tryz.func88,Tryz.ntmps88
 go_wp2_with fail
 rw [<- e0]
 clear e0
 go_loopw [3,11] (fun v i wr=>∃ (j:Nat) (A':Option Addr) (c':Nat),j<=a.pat.kids.length/\i= .int .i64 j/\v= .slice A' j c'/\Hid (Grx (Xs S w.heap.size) wr (w.heap.size+1) 68 6 (.slice A' j c') j ((kidsA a.path 0 (a.pat.kids.take j)).map GAsk.toD))/\Hid (Row wr w.heap.size 68 #[.slice A1 a.path.length c1,.int .i64 a.pat.op,.int .i64 a.pat.n,.string a.pat.s,.string a.pat.t,.slice A2 a.pat.kids.length c2])/\w.heap.size+1<=wr.heap.size/\Hid (Below w.heap.size w wr)) (fun _ i _=>a.pat.kids.length - (intOf i).toNat)
 case atStart=>exact⟨0,_,_,by omega,by go_num,rfl,G0,R0,hz0,E0⟩
 case round=>
  clear G0 R0 E0 hz0
  obtain⟨j,A',c',hj,rfl,rfl,HG,HR,hz,HB⟩:=hrel
  have hsz:=HB.out.size
  have HOW:=LH (fun g (hg:(Value.slice A' j c').ownBlock=some g)=>HG.out.own g hg)
  by_cases hlt:j<a.pat.kids.length
  ·
   obtain⟨b,off,A3,c3,rfl,hSb,q0,q1,q2,q3,q4,hk⟩:=GNode.elem (HA.out.2.2.2.2.2.keep (w':=wr) (S':=S) fun q hq=>⟨hq,HB.out.block q (HSL.out q hq)⟩) j hlt
   obtain⟨p,hp2⟩:∃ p,a.pat.kids[j]=p:=⟨_,rfl⟩
   have HT:=LH (show kidsA a.path 0 (a.pat.kids.take (j+1))=kidsA a.path 0 (a.pat.kids.take j)++[⟨a.path++[(j:Int)],p⟩] by rw [kidsA_take a.path _ j hlt,hp2])
   rw [hp2] at q0 q1 q2 q3 q4 hk
   have HK:=LH hk
   clear hk hp2
   obtain⟨w2,e2⟩:∃ w2,w2=wr.alloc (.cells #[.int .i64 p.op,.int .i64 p.n,.string p.s,.string p.t,.slice A3 p.kids.length c3] 49):=⟨_,rfl⟩
   have E2:=LH (show Below wr.heap.size wr w2 by rw [e2];exact(Below.refl _ _).alloc (Nat.le_refl _) _)
   have hz2:wr.heap.size<w2.heap.size:=by rw [e2];simp
   have RK2:=LH (show Row w2 wr.heap.size 49 #[.int .i64 p.op,.int .i64 p.n,.string p.s,.string p.t,.slice A3 p.kids.length c3] by rw [e2];exact Row.new _ _ _)
   have RA2:=LH (HR.out.below E2.out HR.out.lt)
   have G2:=LH (HG.out.below E2.out)
   have F5:=LH (fun(x:World) (hx:Below w2.heap.size w2 x)=>show(∀ i,x.cell? ⟨w.heap.size,i,none⟩=(#[.slice A1 a.path.length c1,.int .i64 a.pat.op,.int .i64 a.pat.n,.string a.pat.s,.string a.pat.t,.slice (some ⟨b,off,none⟩) a.pat.kids.length c2]:Array Value)[i]?)/\(∀ i,x.cell? ⟨wr.heap.size,i,none⟩=(#[.int .i64 p.op,.int .i64 p.n,.string p.s,.string p.t,.slice A3 p.kids.length c3]:Array Value)[i]?) from⟨fun i=>(RA2.out.below hx RA2.out.lt).cell i,fun i=>(RK2.out.below hx RK2.out.lt).cell i⟩)
   go_upto_region 5 with (fail)
   rw [<- e2]
   clear e2 q0 q1 q2 q3 q4
   have SP:=LH (fun(x:World) (hx:Below w2.heap.size w2 x)=>show Sl x (Lt x.heap.size) 1 A1 c1 (a.path.map (D.num .i64)) from HA.out.1.keep fun q hq=>⟨Nat.lt_of_lt_of_le (HSL.out q hq) (Nat.le_trans hsz (Nat.le_trans E2.out.size hx.size)),(hx.block q (by have:=HSL.out q hq;omega)).trans ((E2.out.block q (by have:=HSL.out q hq;omega)).trans (HB.out.block q (HSL.out q hq)))⟩)
   have hj3:(Lit.int .i64 (j:Int)).wf=true:=wf_i64 (by omega) (by omega)
   have ED:=LH (show Below w2.heap.size w2 w2.drew from(Below.refl _ _).drew)
   have EA:=LH (show Below w2.heap.size w2 (w2.alloc (.cells #[.int .i64 (j:Int)] 3)).drew from((Below.refl _ _).alloc (Nat.le_refl _) _).drew)
   have RJ:=LH (show Row (w2.alloc (.cells #[.int .i64 (j:Int)] 3)).drew w2.heap.size 3 #[.int .i64 (j:Int)] from(show Row (w2.alloc (.cells #[.int .i64 (j:Int)] 3)) w2.heap.size 3 #[.int .i64 (j:Int)] from Row.new _ _ _))
   refine wp_region_T (fun x=>(∀ i,x.cell? ⟨w.heap.size,i,none⟩=(#[.slice A1 a.path.length c1,.int .i64 a.pat.op,.int .i64 a.pat.n,.string a.pat.s,.string a.pat.t,.slice (some ⟨b,off,none⟩) a.pat.kids.length c2]:Array Value)[i]?)/\(∀ i,x.cell? ⟨wr.heap.size,i,none⟩=(#[.int .i64 p.op,.int .i64 p.n,.string p.s,.string p.t,.slice A3 p.kids.length c3]:Array Value)[i]?)) 11 (by kernel_rfl) ?_
   have hS1:=F5.out _ ED.out
   refine wpAnyT_tk (i:=0) (oi:=_) (v:=?tv1) rfl (Or.inl ⟨by rfl,?th1⟩) hS1 ?_
   case th1=>(intro x hSx;(try dsimp only at hSx);go_simp;(try with_reducible rfl))
   try simp only [nA,nB,nC,Act.put,nD,nE,nF]
   refine wpAnyT_tk (i:=1) (oi:=_) (v:=?tv2) rfl (Or.inl ⟨by rfl,?th2⟩) hS1 ?_
   case th2=>(intro x hSx;(try dsimp only at hSx);go_simp;(try with_reducible rfl))
   try simp only [nA,nB,nC,Act.put,nD,nE,nF]
   refine wpAnyT_tk (i:=2) (oi:=_) (v:=?tv3) rfl (Or.inl ⟨by rfl,?th3⟩) hS1 ?_
   case th3=>(intro x hSx;(try dsimp only at hSx);go_simp;(try with_reducible rfl))
   try simp only [nA,nB,nC,Act.put,nD,nE,nF]
   refine wpAnyT_tk (i:=4) (oi:=_) (v:=?tv4) rfl (Or.inl ⟨by rfl,?th4⟩) hS1 ?_
   case th4=>(intro x hSx;(try dsimp only at hSx);go_simp;(try with_reducible rfl))
   try simp only [nA,nB,nC,Act.put,nD,nE,nF]
   refine wpAnyT_tk (i:=7) (oi:=_) (v:=?tv5) rfl (Or.inl ⟨by rfl,?th5⟩) hS1 ?_
   case th5=>(intro x hSx;(try dsimp only at hSx);go_simp;(try with_reducible rfl))
   try simp only [nA,nB,nC,Act.put,nD,nE,nF]
   refine wpAnyT_two (i:=3) (j:=5) (by kernel_rfl) rfl rfl (fun K hK=>?_) (fun K hK=>?_)
   ·
    try simp only [nA,nB,nC]
    go_simp
    go_at_call 56
    refine(cloneInts a.path A1 c1 w2.drew (by omega) (SP.out _ ED.out)).mono ?_
    rintro e w3 ⟨Ap,cp,rfl,gp,hb3⟩
    have E3:=LH (ED.out.trans hb3)
    have GP3:=LH (show Grx AnyB w3 w2.heap.size 3 1 (.slice Ap a.path.length cp) a.path.length (a.path.map (D.num .i64)) from gp)
    clear gp hb3
    refine hK.out _ _ (F5.out _ E3.out) (fun hS3=>?_)
    clear hK K hS1
    try simp only [nA,nB,nC,Act.put,nD,nE,nF]
    refine wpAnyT_step (i:=5) (by kernel_rfl) rfl (fun K hK=>?_)
    try simp only [nA,nB,nC]
    go_simp
    have E4:=LH (show Below w2.heap.size w2 (w3.alloc (.cells #[.int .i64 (j:Int)] 3)) from E3.out.alloc E3.out.size _)
    have GP4:=LH (GP3.out.below (show Below w3.heap.size w3 (w3.alloc (.cells #[.int .i64 (j:Int)] 3)) from(Below.refl _ _).alloc (Nat.le_refl _) _))
    have HOP:=LH (fun g (hg:(Value.slice Ap a.path.length cp).ownBlock=some g)=>GP3.out.own g hg)
    have T4:=LH (show Sl (w3.alloc (.cells #[.int .i64 (j:Int)] 3)) (fun b=>b<(w3.alloc (.cells #[.int .i64 (j:Int)] 3)).heap.size/\(Value.slice Ap a.path.length cp).ownBlock≠some b/\AnyB b) 1 (some ⟨w3.heap.size,0,none⟩) 1 [D.num .i64 (j:Int)] from
      slOne (T:=3) (cs:=[.int .i64 (j:Int)]) (Row.new _ _ _) (D.rd_num.2 ⟨rfl,hj3⟩) rfl ⟨by simp,fun e=>by have:=(HOP.out _ e).2;omega,trivial⟩)
    refine hK.out _ _ (F5.out _ E4.out) (fun hS4=>?_)
    clear hK K hS3
    try simp only [nA,nB,nC,Act.put,nD,nE,nF]
    refine wpAnyT_step (i:=6) (by kernel_rfl) rfl (fun K hK=>?_)
    refine step_append_X (X:=AnyB) _ rfl (.tmp 19) (.tmp 21) 28 rfl 3 (.int .i64 0) 1 8 Tryz.underlying28 (by kernel_rfl) rfl (by omega) w2.heap.size (.slice Ap a.path.length cp) a.path.length _ GP4.out (some ⟨w3.heap.size,0,none⟩) 1 1 _ rfl T4.out E4.out.size (by unfold maxLen;omega) (by omega) rfl rfl ?_
    intro Aq cq w5 GQ hGr5
    have FQ:=LH (show Below w2.heap.size w2 w5/\Sl w5 (Btw w2.heap.size w5.heap.size) 1 Aq cq ((a.path++[(j:Int)]).map (D.num .i64)) from⟨E4.out.trans (hGr5.below E4.out.size (fun g hg=>(HOP.out g hg).1)),by
      obtain⟨A9,c9,e9,h9⟩:=Grx.slInts (l:=a.path++[(j:Int)]) (by rw [List.map_append];exact GQ)
      obtain⟨rfl,rfl⟩:Aq=A9/\cq=c9:=by simpa using e9
      exact h9⟩)
    clear GQ hGr5
    refine hK.out _ _ (F5.out _ FQ.out.1) (fun hS5=>?_)
    clear hK K hS4
    try simp only [nA,nB,nC,Act.put,nD,nE,nF]
    refine wpAnyT_tk (i:=8) (oi:=_) (v:=?tv6) rfl (Or.inl ⟨by rfl,?th6⟩) hS5 ?_
    case th6=>(intro x hSx;(try dsimp only at hSx);go_simp;(try with_reducible rfl))
    try simp only [nA,nB,nC,Act.put,nD,nE,nF]
    refine wpAnyT_step (i:=9) (by kernel_rfl) rfl (fun K hK=>?_)
    try simp only [nA,nB,nC]
    go_simp
    have E6:=LH (show Below w2.heap.size w2 (w5.alloc (.cells #[.slice Aq (a.path.length+1) cq,.int .i64 p.op,.int .i64 p.n,.string p.s,.string p.t,.slice A3 p.kids.length c3] 68)) from FQ.out.1.alloc FQ.out.1.size _)
    have T6:=LH (show Sl (w5.alloc (.cells #[.slice Aq (a.path.length+1) cq,.int .i64 p.op,.int .i64 p.n,.string p.s,.string p.t,.slice A3 p.kids.length c3] 68)) (fun b=>b<(w5.alloc (.cells #[.slice Aq (a.path.length+1) cq,.int .i64 p.op,.int .i64 p.n,.string p.s,.string p.t,.slice A3 p.kids.length c3] 68)).heap.size/\(Value.slice A' j c').ownBlock≠some b/\Xs S w.heap.size b) 6 (some ⟨w5.heap.size,0,none⟩) 1 [(⟨a.path++[(j:Int)],p⟩:GAsk).toD] from by
      have hsz5:=FQ.out.1.size
      refine slOne (T:=68) (cs:=[.slice Aq (a.path.length+1) cq,.int .i64 p.op,.int .i64 p.n,.string p.s,.string p.t,.slice A3 p.kids.length c3]) (Row.new _ _ _) ?_ rfl ⟨by simp,fun e=>by have:=(HOW.out _ e).2;omega,.inr (by omega)⟩
      have hrd:=GAsk.rd_mk (w:=w5.alloc (.cells #[.slice Aq (a.path.length+1) cq,.int .i64 p.op,.int .i64 p.n,.string p.s,.string p.t,.slice A3 p.kids.length c3] 68)) (S:=fun b=>b<(w5.alloc (.cells #[.slice Aq (a.path.length+1) cq,.int .i64 p.op,.int .i64 p.n,.string p.s,.string p.t,.slice A3 p.kids.length c3] 68)).heap.size/\(Value.slice A' j c').ownBlock≠some b/\Xs S w.heap.size b) (t:=⟨a.path++[(j:Int)],p⟩) (A1:=Aq) (c1:=cq) (A2:=A3) (c2:=c3) ⟨FQ.out.2.keep fun b hb=>⟨⟨by have:=hb.2;simp;omega,fun e=>by have:=(HOW.out _ e).2;have:=hb.1;omega,.inr (by have:=hb.1;omega)⟩,Below.heap_alloc _ _ _ hb.2⟩,HK.out.keep fun b hb=>⟨⟨by have:=HSL.out b hb;simp;omega,fun e=>by have:=(HOW.out _ e).1;have:=HSL.out b hb;omega,.inl hb⟩,(E6.out.block b (by have:=HSL.out b hb;omega)).trans (E2.out.block b (by have:=HSL.out b hb;omega))⟩⟩
      simpa using hrd)
    have G6:=LH (G2.out.below E6.out)
    have hsz6:=E6.out.size
    refine hK.out _ _ (F5.out _ E6.out) (fun hS6=>?_)
    clear hK K hS5
    try simp only [nA,nB,nC,Act.put,nD,nE,nF]
    refine wpAnyT_step (i:=10) (by kernel_rfl) rfl (fun K hK=>?_)
    refine step_append_X _ rfl (.tmp 16) (.tmp 25) 65 rfl 68 zAsk 6 96 Tryz.underlying65 (by kernel_rfl) rfl (by omega) (w.heap.size+1) (.slice A' j c') j _ G6.out (some ⟨w5.heap.size,0,none⟩) 1 1 _ rfl T6.out (by omega) (by unfold maxLen;omega) (by omega) rfl rfl ?_
    intro A7 c7 w7 G7 hGr7
    have G7h:=LH G7
    have R7:=LH (hGr7.row (RA2.out.below E6.out RA2.out.lt) (fun e=>by have:=(HOW.out _ e).1;omega))
    have RK7:=LH (hGr7.row (RK2.out.below E6.out RK2.out.lt) (fun e=>by have:=(HOW.out _ e).2;omega))
    have Z7:=LH hGr7.size
    have B7:=LH (((HB.out.trans (E2.out.mono hsz)).trans (E6.out.mono (by omega))).trans (hGr7.below (B:=w.heap.size) (by omega) (fun g hg=>by have:=(HOW.out g hg).1;omega)))
    clear G7 hGr7
    refine hK.out _ _ ⟨fun i=>R7.out.cell i,fun i=>RK7.out.cell i⟩ (fun hS7=>?_)
    clear hK K hS6
    try simp only [nA,nB,nC,Act.put,nD,nE,nF]
    refine wpAnyT_last (by kernel_rfl) (by kernel_rfl) rfl (fun K hK=>?_)
    try simp only [nA,nB,nC]
    go_simp
    refine hK.out _ _ ?_
    clear hK K
    try simp only [nA,nB,nC,Act.put,nD,nE,nF]
    go_wp2_with fail
    go_roundw
    case rel=>exact⟨j+1,A7,c7,by omega,by go_num,rfl,LH (by rw [HT.out,List.map_append];exact G7h.out),R7,by have:=Z7.out;omega,B7⟩
    case measure=>simp [intOf];omega
   ·
    try simp only [nA,nB,nC]
    go_simp
    refine hK.out _ _ (F5.out _ EA.out) (fun hS3=>?_)
    clear hK K hS1
    try simp only [nA,nB,nC,Act.put,nD,nE,nF]
    refine wpAnyT_step (i:=3) (by kernel_rfl) rfl (fun K hK=>?_)
    try simp only [nA,nB,nC]
    go_simp
    go_at_call 56
    refine(cloneInts a.path A1 c1 _ (by omega) (SP.out _ EA.out)).mono ?_
    rintro e w3 ⟨Ap,cp,rfl,gp,hb3⟩
    have E4:=LH (EA.out.trans (hb3.mono EA.out.size))
    have RJ3:=LH (RJ.out.below hb3 RJ.out.lt)
    have hzj:=RJ.out.lt
    have GP4:=LH gp
    have HOP:=LH (fun g (hg:(Value.slice Ap a.path.length cp).ownBlock=some g)=>gp.own g hg)
    have T4:=LH (show Sl w3 (fun b=>b<w3.heap.size/\(Value.slice Ap a.path.length cp).ownBlock≠some b/\AnyB b) 1 (some ⟨w2.heap.size,0,none⟩) 1 [D.num .i64 (j:Int)] from
      slOne (T:=3) (cs:=[.int .i64 (j:Int)]) RJ3.out (D.rd_num.2 ⟨rfl,hj3⟩) rfl ⟨RJ3.out.lt,fun e=>by have:=(HOP.out _ e).1;omega,trivial⟩)
    have hzb:=hb3.size
    clear gp hb3
    refine hK.out _ _ (F5.out _ E4.out) (fun hS4=>?_)
    clear hK K hS3
    try simp only [nA,nB,nC,Act.put,nD,nE,nF]
    refine wpAnyT_step (i:=6) (by kernel_rfl) rfl (fun K hK=>?_)
    refine step_append_X (X:=AnyB) _ rfl (.tmp 19) (.tmp 21) 28 rfl 3 (.int .i64 0) 1 8 Tryz.underlying28 (by kernel_rfl) rfl (by omega) _ (.slice Ap a.path.length cp) a.path.length _ GP4.out (some ⟨w2.heap.size,0,none⟩) 1 1 _ rfl T4.out hzb (by unfold maxLen;omega) (by omega) rfl rfl ?_
    intro Aq cq w5 GQ hGr5
    have FQ:=LH (show Below w2.heap.size w2 w5/\Sl w5 (Btw w2.heap.size w5.heap.size) 1 Aq cq ((a.path++[(j:Int)]).map (D.num .i64)) from⟨E4.out.trans (hGr5.below E4.out.size (fun g hg=>by have:=(HOP.out g hg).1;omega)),by
      obtain⟨A9,c9,e9,h9⟩:=Grx.slInts (l:=a.path++[(j:Int)]) (by rw [List.map_append];exact GQ)
      obtain⟨rfl,rfl⟩:Aq=A9/\cq=c9:=by simpa using e9
      exact h9.keep fun b hb=>⟨⟨by have:=hb.1;omega,hb.2⟩,rfl⟩⟩)
    clear GQ hGr5
    refine hK.out _ _ (F5.out _ FQ.out.1) (fun hS5=>?_)
    clear hK K hS4
    try simp only [nA,nB,nC,Act.put,nD,nE,nF]
    refine wpAnyT_tk (i:=8) (oi:=_) (v:=?tv7) rfl (Or.inl ⟨by rfl,?th7⟩) hS5 ?_
    case th7=>(intro x hSx;(try dsimp only at hSx);go_simp;(try with_reducible rfl))
    try simp only [nA,nB,nC,Act.put,nD,nE,nF]
    refine wpAnyT_step (i:=9) (by kernel_rfl) rfl (fun K hK=>?_)
    try simp only [nA,nB,nC]
    go_simp
    have E6:=LH (show Below w2.heap.size w2 (w5.alloc (.cells #[.slice Aq (a.path.length+1) cq,.int .i64 p.op,.int .i64 p.n,.string p.s,.string p.t,.slice A3 p.kids.length c3] 68)) from FQ.out.1.alloc FQ.out.1.size _)
    have T6:=LH (show Sl (w5.alloc (.cells #[.slice Aq (a.path.length+1) cq,.int .i64 p.op,.int .i64 p.n,.string p.s,.string p.t,.slice A3 p.kids.length c3] 68)) (fun b=>b<(w5.alloc (.cells #[.slice Aq (a.path.length+1) cq,.int .i64 p.op,.int .i64 p.n,.string p.s,.string p.t,.slice A3 p.kids.length c3] 68)).heap.size/\(Value.slice A' j c').ownBlock≠some b/\Xs S w.heap.size b) 6 (some ⟨w5.heap.size,0,none⟩) 1 [(⟨a.path++[(j:Int)],p⟩:GAsk).toD] from by
      have hsz5:=FQ.out.1.size
      refine slOne (T:=68) (cs:=[.slice Aq (a.path.length+1) cq,.int .i64 p.op,.int .i64 p.n,.string p.s,.string p.t,.slice A3 p.kids.length c3]) (Row.new _ _ _) ?_ rfl ⟨by simp,fun e=>by have:=(HOW.out _ e).2;omega,.inr (by omega)⟩
      have hrd:=GAsk.rd_mk (w:=w5.alloc (.cells #[.slice Aq (a.path.length+1) cq,.int .i64 p.op,.int .i64 p.n,.string p.s,.string p.t,.slice A3 p.kids.length c3] 68)) (S:=fun b=>b<(w5.alloc (.cells #[.slice Aq (a.path.length+1) cq,.int .i64 p.op,.int .i64 p.n,.string p.s,.string p.t,.slice A3 p.kids.length c3] 68)).heap.size/\(Value.slice A' j c').ownBlock≠some b/\Xs S w.heap.size b) (t:=⟨a.path++[(j:Int)],p⟩) (A1:=Aq) (c1:=cq) (A2:=A3) (c2:=c3) ⟨FQ.out.2.keep fun b hb=>⟨⟨by have:=hb.2;simp;omega,fun e=>by have:=(HOW.out _ e).2;have:=hb.1;omega,.inr (by have:=hb.1;omega)⟩,Below.heap_alloc _ _ _ hb.2⟩,HK.out.keep fun b hb=>⟨⟨by have:=HSL.out b hb;simp;omega,fun e=>by have:=(HOW.out _ e).1;have:=HSL.out b hb;omega,.inl hb⟩,(E6.out.block b (by have:=HSL.out b hb;omega)).trans (E2.out.block b (by have:=HSL.out b hb;omega))⟩⟩
      simpa using hrd)
    have G6:=LH (G2.out.below E6.out)
    have hsz6:=E6.out.size
    refine hK.out _ _ (F5.out _ E6.out) (fun hS6=>?_)
    clear hK K hS5
    try simp only [nA,nB,nC,Act.put,nD,nE,nF]
    refine wpAnyT_step (i:=10) (by kernel_rfl) rfl (fun K hK=>?_)
    refine step_append_X _ rfl (.tmp 16) (.tmp 25) 65 rfl 68 zAsk 6 96 Tryz.underlying65 (by kernel_rfl) rfl (by omega) (w.heap.size+1) (.slice A' j c') j _ G6.out (some ⟨w5.heap.size,0,none⟩) 1 1 _ rfl T6.out (by omega) (by unfold maxLen;omega) (by omega) rfl rfl ?_
    intro A7 c7 w7 G7 hGr7
    have G7h:=LH G7
    have R7:=LH (hGr7.row (RA2.out.below E6.out RA2.out.lt) (fun e=>by have:=(HOW.out _ e).1;omega))
    have RK7:=LH (hGr7.row (RK2.out.below E6.out RK2.out.lt) (fun e=>by have:=(HOW.out _ e).2;omega))
    have Z7:=LH hGr7.size
    have B7:=LH (((HB.out.trans (E2.out.mono hsz)).trans (E6.out.mono (by omega))).trans (hGr7.below (B:=w.heap.size) (by omega) (fun g hg=>by have:=(HOW.out g hg).1;omega)))
    clear G7 hGr7
    refine hK.out _ _ ⟨fun i=>R7.out.cell i,fun i=>RK7.out.cell i⟩ (fun hS7=>?_)
    clear hK K hS6
    try simp only [nA,nB,nC,Act.put,nD,nE,nF]
    refine wpAnyT_last (by kernel_rfl) (by kernel_rfl) rfl (fun K hK=>?_)
    try simp only [nA,nB,nC]
    go_simp
    refine hK.out _ _ ?_
    clear hK K
    try simp only [nA,nB,nC,Act.put,nD,nE,nF]
    go_wp2_with fail
    go_roundw
    case rel=>exact⟨j+1,A7,c7,by omega,by go_num,rfl,LH (by rw [HT.out,List.map_append];exact G7h.out),R7,by have:=Z7.out;omega,B7⟩
    case measure=>simp [intOf];omega
  ·
   obtain rfl:j=a.pat.kids.length:=by omega
   have hG:=HG.out
   rw [List.take_length] at hG
   have hl:=hG.1
   rw [List.length_map] at hl
   have HGL:=LH (show Grx (Xs S w.heap.size) wr (w.heap.size+1) 68 6 (.slice A' (kidsA a.path 0 a.pat.kids).length c') (kidsA a.path 0 a.pat.kids).length ((kidsA a.path 0 a.pat.kids).map GAsk.toD) by rw [hl];exact hG)
   have hll:=implLasting (Xs S w.heap.size) (w.heap.size+1) (kidsA a.path 0 a.pat.kids) A' c' wr (by rw [hl];omega) HGL.out
   rw [hl] at hll
   have HLL:=LH hll
   clear hll hl hG HGL
   go_wp2_with fail
   refine HLL.out.mono ?_
   rintro e w2 ⟨rfl,hg,hgr⟩
   have GG:=LH hg
   have BB:=LH (HB.out.trans (hgr.below (B:=w.heap.size) (by omega) (fun g hg=>by have:=(HOW.out g hg).1;omega)))
   clear hg hgr HLL
   go_wp2_with fail
   go_ret
   obtain⟨A5,c5,e5,hs5⟩:=GG.out.slY (Y:=Xs S w.heap.size) (fun _ h=>h) (fun b h=>.inr (by omega))
   obtain⟨rfl,rfl⟩:A'=A5/\c'=c5:=by simpa using e5
   exact⟨A',c',rfl,hs5,BB.out⟩
def rowDA (r:List GAsk):D:=.sl 6 (r.map GAsk.toD)
theorem rowDA_elem {w:World} {S:Nat->Prop} {A:Option Addr} {c:Nat} {rows:List (List GAsk)} (h:Sl w S 1 A c (rows.map rowDA)) (i:Nat) (hi:i<rows.length):
 ∃ b off A1 c1,A=some ⟨b,off,none⟩/\S b/\w.cell? ⟨b,off+i,none⟩=some (.slice A1 rows[i].length c1)/\Sl w S 6 A1 c1 (rows[i].map GAsk.toD):=by
 obtain⟨b,off,cs,e,hb,hl,hc,hr⟩:=Sl.get h i (by simpa using hi)
 rw [List.getElem_map] at hr
 obtain⟨A1,c1,rfl,h1⟩:=D.rd_sl.1 hr
 have:=hc 0 _ rfl
 simp only [Nat.mul_one,Nat.add_zero,List.length_map] at this
 exact⟨b,off,A1,c1,e,hb,this,h1⟩
def LToA (X:Nat->Prop) (xs:List GAsk) (w:World) (e:Ending) (w':World):Prop:=∃ A c,e= .returned (.slice A xs.length c)/\Sl w' (Lx X w') 6 A c (xs.map GAsk.toD)/\Below w.heap.size w w'
theorem zAsk_cells:zAsk.cells.size=6:=rfl
theorem implGrowA (X:Nat->Prop) (n:Nat) (w:World) (hn:n<=1099511627776):
 Calls Tryz.prog 116 #[.slice none 0 0,.int .i64 n] w (fun e w'=>∃ A c,e= .returned (.slice A 0 c)/\Grx X w' w.heap.size 68 6 (.slice A 0 c) 0 []/\Below w.heap.size w w'):=by
 by_cases h0:n=0
 · subst h0
   go_enter Tryz.func116,Tryz.ntmps116
   go_wp2_with fail
   go_ret
   exact⟨none,0,rfl,Grx.nil _ _ _ _ _,Below.refl _ _⟩
 ·
  obtain⟨i,hi⟩:∃ i,Tryz.prog.info? 68=some i:=Option.isSome_iff_exists.1 (by kernel_rfl)
  have hp:(Tryz.prog.info? 68).map (fun i=>(i.zero,i.size,i.bytes))=some (some zAsk,6,96):=by kernel_rfl
  obtain⟨i',i1,i2,i3,i4⟩:=info_parts hp
  have hold:(Builtin.firstCells i'.size 0 (.slice none 0 0)).run Tryz.prog w.drew= .ok ([]:List Value).toArray w.drew:=run_firstCells_none w.drew i'.size 0 0 0
  have hrz:=fun ty=>Lib.run_append_grow_zeros (P:=Tryz.prog) w 65 3 ty 68 i' zAsk .i64 .i64 Tryz.underlying65 (by kernel_rfl) i1 i2 none 0 0 [] hold n (by omega) (by rw [i3];omega) (by omega) (by omega) (by rw [i4];omega) (by rw [i4];exact growslice_fits (by omega) (by omega))
  rw [Nat.zero_add] at hrz
  obtain⟨G,hG⟩:∃ G,G=grownCap w n 0 68:=⟨_,rfl⟩
  rw [<- hG] at hrz
  have hGn:n<=G:=by rw [hG];exact grownCap_ge w _ _ _
  have hG63:G<=maxLen:=by rw [hG];exact grownCap_le_maxLen w n 0 _ (by unfold maxLen;omega)
  have hni:(0:Int)<n:=by omega
  have h1:¬ ((n:Int)<0):=by omega
  have h2:wrap64 ((n:Int) - 0)=(n:Int):=by unfold wrap64;omega
  obtain⟨cs,hcs⟩:∃ cs:Array Value,cs=([]:List Value).toArray++Builtin.zeroCells zAsk.cells n++Builtin.zeroCells zAsk.cells (G - n):=⟨_,rfl⟩
  rw [<- hcs] at hrz
  have HC:=LH (show cs.size=G*6 by rw [hcs];simp [Builtin.zeroCells,zAsk_cells];omega)
  have HG63:=LH hG63
  obtain⟨w1,e1⟩:∃ w1,w1=w.drew.alloc (.cells cs 68):=⟨_,rfl⟩
  have B1:=LH (show Below w.heap.size w w1 by rw [e1];exact(Below.refl w.heap.size w).drew.alloc (Nat.le_refl _) _)
  have R1:=LH (show Row w1 w.heap.size 68 cs by rw [e1];exact Row.new' _ _ _ rfl)
  rw [<- e1] at hrz
  clear hold hG hcs e1 i1 i2 i3 i4 hp hi
  go_enter Tryz.func116,Tryz.ntmps116
  go_wp2_with (at_builtin;refine Lib.wpList_append_run _ rfl _ _ _ _ rfl _ _ rfl rfl _ _ (hrz _) ?_)
  go_ret
  exact⟨some ⟨w.heap.size,0,none⟩,G,rfl,Grx.roomy R1.out (Nat.le_refl _) HG63.out HC.out,B1.out⟩
theorem implConcatA (X:Nat->Prop) (ls:List (List GAsk)) (A:Option Addr) (c:Nat) (w:World) (hX:∀ b,w.heap.size<=b->X b) (hn:ls.flatten.length<=1099511627776) (hs:Sl w (Lx X w) 1 A c (ls.map rowDA)):
 Calls Tryz.prog 87 #[.slice A ls.length c] w (LToA X ls.flatten w):=by
 have HX:=LH hX
 have hlen:ls.length<=9223372036854775807:=by simpa using hs.len
 have HS:=LH hs
 have HF:=LH (fun(j:Nat) (h:j<ls.length)=>flat_take ls h)
 have HL:=LH (fun(j:Nat)=>Nat.le_trans (flat_le ls j) hn)
 clear hX hs hn
 go_enter Tryz.func87,Tryz.ntmps87
 go_wp2_with fail
 go_loopw [3,11] (fun s i wr=>∃ (j n:Nat),j<=ls.length/\i= .int .i64 j/\s= .int .i64 n/\n<=1099511627776/\Hid (n=(ls.take j).flatten.length)/\Hid (Below w.heap.size w wr)) (fun _ i _=>ls.length - (intOf i).toNat)
 case atStart=>exact⟨0,0,by omega,by go_num,by go_num,by omega,LH (by simp),LH (Below.refl _ _)⟩
 case round=>
  obtain⟨j,n,hj,rfl,rfl,hn,HN,HB⟩:=hrel
  have hsz:=HB.out.size
  by_cases hlt:j<ls.length
  ·
   obtain⟨b,off,A1,c1,rfl,hSb,g0,hs1⟩:=rowDA_elem (HS.out.stay HB.out) j hlt
   have hl1:n+(ls[j]).length<=1099511627776:=by
    have h1:=HL.out (j+1)
    rw [HF.out j hlt,List.length_append,<- HN.out] at h1
    exact h1
   have hn0:¬ ((n:Int)+((ls[j]).length:Int)<0):=by omega
   clear hs1
   go_wp2_with fail
   go_roundw
   case rel=>exact⟨j+1,n+(ls[j]).length,by omega,by go_num,by go_num,hl1,LH (by rw [HF.out j hlt,List.length_append,<- HN.out]),HB⟩
   case measure=>simp [intOf];omega
  ·
   go_wp2_with fail
   refine(implGrowA X n _ hn).mono ?_
   rintro e w1 ⟨A1,c1,rfl,hG,hb1⟩
   have HG:=LH (show Grx X w1 w.heap.size 68 6 (.slice A1 0 c1) 0 [] from by
     obtain⟨h1,cs,h2,h3⟩:=hG
     refine⟨h1,cs,⟨h2.1,?_⟩,h3⟩
     rcases h2.2 with h | ⟨g,cap,cur,r1,r2,r3⟩
     · exact .inl h
     · exact .inr ⟨g,cap,cur,r1,by omega,r3⟩)
   have HB1:=LH (HB.out.trans (hb1.mono hsz))
   clear hG hb1 hlt
   go_wp2_with fail
   go_loopw [6,27] (fun v i wr=>∃ (j n:Nat) (A:Option Addr) (c:Nat),j<=ls.length/\i= .int .i64 j/\v= .slice A n c/\n<=1099511627776/\Hid (n=(ls.take j).flatten.length)/\Hid (Grx X wr w.heap.size 68 6 (.slice A n c) n ((ls.take j).flatten.map GAsk.toD))/\Hid (Below w.heap.size w wr)) (fun _ i _=>ls.length - (intOf i).toNat)
   case atStart=>exact⟨0,0,A1,c1,by omega,by go_num,rfl,by omega,LH (by simp),HG,HB1⟩
   case round=>
    obtain⟨i,m,A2,c2,hi,rfl,rfl,hm,HM,HG2,HB2⟩:=hrel
    have hsz2:=HB2.out.size
    have HOW:=LH (fun g (hg:(Value.slice A2 m c2).ownBlock=some g)=>HG2.out.own g hg)
    by_cases hlt:i<ls.length
    ·
     obtain⟨b,off,A3,c3,rfl,hSb,g0,hs1⟩:=rowDA_elem (HS.out.stay HB2.out) i hlt
     have TA:=LH (show Sl wr (fun b=>b<wr.heap.size/\(Value.slice A2 m c2).ownBlock≠some b/\X b) 6 A3 c3 (ls[i].map GAsk.toD) from hs1.keep fun b hb=>⟨⟨Nat.lt_of_lt_of_le hb.1 hsz2,fun e=>by have:=(HOW.out b e).1;have:=hb.1;omega,hb.2⟩,rfl⟩)
     have hl1:m+(ls[i]).length<=1099511627776:=by
      have h1:=HL.out (i+1)
      rw [HF.out i hlt,List.length_append,<- HM.out] at h1
      exact h1
     clear hs1
     go_wp2_with (first | (at_builtin;refine wpList_append_X wr rfl (.tmp 31) (.tmp 32) 65 rfl 68 zAsk 6 96 Tryz.underlying65 (by kernel_rfl) rfl (by omega) w.heap.size (.slice A2 m c2) m _ HG2.out A3 c3 (ls[i]).length _ (by simp) TA.out hsz2 (by unfold maxLen;omega) (by omega) rfl rfl ?_;intro A5 c5 w5 G5 hGr5;have G5h:=LH G5;have B5:=LH (HB2.out.trans (hGr5.below hsz2 (fun g hg=>(HOW.out g hg).1)));clear G5 hGr5))
     go_roundw
     case rel=>exact⟨i+1,m+(ls[i]).length,A5,c5,by omega,by go_num,rfl,hl1,LH (by rw [HF.out i hlt,List.length_append,<- HM.out]),LH (by rw [HF.out i hlt,List.map_append];exact G5h.out),B5⟩
     case measure=>simp [intOf];omega
    ·
     have hie:i=ls.length:=by omega
     have HME:=LH (show m=ls.flatten.length by rw [HM.out,hie,List.take_length])
     have HLE:=LH (show ls.take i=ls by rw [hie,List.take_length])
     clear hie
     go_wp2_with fail
     go_ret
     obtain⟨A5,c5,e5,hs5⟩:=HG2.out.sl HX.out
     obtain⟨rfl,rfl⟩:A2=A5/\c2=c5:=by simpa using e5
     rw [HLE.out] at hs5
     exact⟨A2,c2,ret_sl HME.out,hs5,HB2.out⟩
theorem implHolding1 (a x:GAsk) (A1:Option Addr) (c1:Nat) (A2:Option Addr) (c2:Nat) (B1:Option Addr) (d1:Nat) (B2:Option Addr) (d2:Nat) (g:Nat) (w:World) (hr:Row w g 68 #[.slice A1 a.path.length c1,.int .i64 a.pat.op,.int .i64 a.pat.n,.string a.pat.s,.string a.pat.t,.slice A2 a.pat.kids.length c2]) (ha:Sl w (Lt w.heap.size) 1 A1 c1 (a.path.map (D.num .i64))) (hx:Sl w (Lt w.heap.size) 1 B1 d1 (x.path.map (D.num .i64))):
 Calls Tryz.prog 84 (#[.agg #[.slice B1 x.path.length d1,.int .i64 x.pat.op,.int .i64 x.pat.n,.string x.pat.s,.string x.pat.t,.slice B2 x.pat.kids.length d2]]++#[.pointer (some ⟨g,0,none⟩)]) w fun e w'=>e= .returned (.bool (x.path ==a.path))/\Below w.heap.size w w':=by
 obtain⟨w0,e0⟩:∃ w0,w0=w.alloc (.cells #[.slice B1 x.path.length d1,.int .i64 x.pat.op,.int .i64 x.pat.n,.string x.pat.s,.string x.pat.t,.slice B2 x.pat.kids.length d2] 68):=⟨_,rfl⟩
 have E0:=LH (show Below w.heap.size w w0 by rw [e0];exact(Below.refl _ _).alloc (Nat.le_refl _) _)
 have HR:=LH hr
 have hgl:=hr.lt
 have hca:=fun i=>HR.out.cell i
 have HC:=LH (equalInts x.path a.path B1 d1 A1 c1 w0 (hx.below E0.out E0.out.size) (ha.below E0.out E0.out.size))
 clear hr ha hx
 go_enter Tryz.func84,Tryz.ntmps84
 go_wp2_with fail
 rw [<- e0]
 refine HC.out.mono ?_
 rintro e w1 ⟨rfl,hb1⟩
 go_wp2_with fail
 go_ret
 exact⟨rfl,E0.out.trans (hb1.mono E0.out.size)⟩
theorem implFindH (a:GAsk) (l:List GAsk) (A:Option Addr) (c:Nat) (A1:Option Addr) (c1:Nat) (A2:Option Addr) (c2:Nat) (g:Nat) (w:World) (hr:Row w g 68 #[.slice A1 a.path.length c1,.int .i64 a.pat.op,.int .i64 a.pat.n,.string a.pat.s,.string a.pat.t,.slice A2 a.pat.kids.length c2]) (ha:Sl w (Lt w.heap.size) 1 A1 c1 (a.path.map (D.num .i64))) (hs:Sl w (Lt w.heap.size) 6 A c (l.map GAsk.toD)):
 Calls Tryz.prog 83 #[.slice A l.length c,.func (.func 84) #[] #[.pointer (some ⟨g,0,none⟩)]] w fun e w'=>e= .returned (.int .i64 (findA l a.path))/\Below w.heap.size w w':=
 indexFuncAsk 84 (enters Tryz.func84 (by kernel_rfl) (by kernel_rfl)) #[.pointer (some ⟨g,0,none⟩)] (fun x=>x.path ==a.path) l A c w hs
  (fun x hx B1 d1 B2 d2 w2 hb hat=>implHolding1 a x A1 c1 A2 c2 B1 d1 B2 d2 g w2 (hr.below hb hr.lt) (ha.below hb hb.size) hat.1)
theorem slThreeRows {X:Nat->Prop} {w':World} {g:Nat} {T:TypeId} {A1 A2 A3:Option Addr} {c1 c2 c3:Nat} {r1 r2 r3:List GAsk} (hr:Row w' g T #[.slice A1 r1.length c1,.slice A2 r2.length c2,.slice A3 r3.length c3]) (hX:X g) (h1:Sl w' (Lx X w') 6 A1 c1 (r1.map GAsk.toD)) (h2:Sl w' (Lx X w') 6 A2 c2 (r2.map GAsk.toD)) (h3:Sl w' (Lx X w') 6 A3 c3 (r3.map GAsk.toD)):
 Sl w' (Lx X w') 1 (some ⟨g,0,none⟩) 3 ([r1,r2,r3].map rowDA):=by
 refine⟨by simp,by unfold maxLen;omega,.inr ⟨g,0,rfl,⟨hr.lt,hX⟩,?_⟩⟩
 refine rdC_row [rowDA r1,rowDA r2,rowDA r3] [.slice A1 r1.length c1,.slice A2 r2.length c2,.slice A3 r3.length c3] 0 (fun j v hj=>?_) ?_
 · rw [Nat.zero_add,hr.cell];simpa using hj
 · simp only [rdC]
   refine⟨[.slice A1 r1.length c1],[.slice A2 r2.length c2,.slice A3 r3.length c3],by simp,rfl,?_,[.slice A2 r2.length c2],[.slice A3 r3.length c3],by simp,rfl,?_,[.slice A3 r3.length c3],[],by simp,rfl,?_,rfl⟩
   · unfold rowDA;rw [D.rd_sl];exact⟨A1,c1,by simp,h1⟩
   · unfold rowDA;rw [D.rd_sl];exact⟨A2,c2,by simp,h2⟩
   · unfold rowDA;rw [D.rd_sl];exact⟨A3,c3,by simp,h3⟩
end Go.Proofs.YtamfolaicncblaaGreat
