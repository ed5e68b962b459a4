/- Texts of the claim LTreesRight in one: DnB Digits DrawNum DnF DnA. Conditions: none but bounds on sizes. -/
import Derived.Test.YtamfolaicncblaaGreatZLTreesRight5
import Derived.Test.YtamfolaicncblaaGreatRows
import Derived.Test.YtamfolaicncblaaGreatZLTreesRight0
import Derived.Lib.Hide
import Derived.Test.YtamfolaicncblaaGreatZLTreesRight2
namespace Go.Proofs.YtamfolaicncblaaGreat
set_option maxRecDepth 20000
set_option linter.unusedVariables false
set_option linter.unusedSimpArgs false
open Go.RowKit
set_option maxHeartbeats 2000000
theorem drawValI (dd:Int) {l:List Int} {A:Option Addr} {c:Nat} {g:Nat} {w0 w:World} (hm0:Dm l A c g w0 w):
 Calls Tryz.prog 63 #[.pointer (some ⟨g,0,none⟩),.int .i64 2,.int .i64 dd] w (DrawnV l A c g valI w):=by
 have hm:=hm0.again
 clear hm0
 have hgl:=hm.lt
 have M0:=LH hm
 clear hm
 go_enter Tryz.func63,Tryz.ntmps63
 refine wp_hide (fun BP hBP=>?_)
 have HBP:=LH hBP
 clear hBP
 go_wp2_with fail
 obtain⟨w1,e1,Rr1,hz1,K1⟩:=boxed w 36 #[.int .i64 0,.int .i64 0,.string ⟨#[]⟩,.slice none 0 0]
 have M1:=LH (M0.out.chg K1.out (by omega) (by omega))
 rw [<- e1]
 clear e1
 refine(drawBelowD M1.out 4 (by omega) (by omega)).mono ?_
 rintro e w2 ⟨x,rfl,hx,hm2⟩
 have K2:=LH hm2.bx
 have Rr2:=LH (K2.out.row Rr1.out (by omega))
 have M2:=LH (M1.out.trans hm2)
 clear Rr1 M1
 clear hm2
 have hcr2:=fun i=>Rr2.out.cell i
 have hfr2:=fun i=>Rr2.out.frozen i
 go_wp2_with fail
 clear hcr2 hfr2
 obtain⟨w3,e3,RN3,hz3,K3⟩:=stored4 Rr2.out (.int .i64 1) (.int .i64 x) (.string ⟨#[]⟩) (.slice none 0 0)
 have M3:=LH (M2.out.chg K3.out (by omega) (by omega))
 clear M2
 clear Rr2
 rw [<- e3]
 clear e3
 have hcr3:=fun i=>RN3.out.cell i
 show BP _ _
 rw [HBP.out]
 refine bodyPost_ret (v:=.agg #[.int .i64 1,.int .i64 x,.string ⟨#[]⟩,.slice none 0 0]) (by simp [results,Tryz.results63,go_sem,hcr3]) rfl ?_
 exact⟨.mk 1 x ⟨#[]⟩ [],none,0,rfl,⟨x,hx,rfl⟩,GValue.leaf (show(Lit.int .i64 1).wf=true by decide) (int_wfS (by omega)) empty_le,M3.out⟩
theorem drawValO (dd:Int) {l:List Int} {A:Option Addr} {c:Nat} {g:Nat} {w0 w:World} (hm0:Dm l A c g w0 w):
 Calls Tryz.prog 63 #[.pointer (some ⟨g,0,none⟩),.int .i64 1,.int .i64 dd] w (DrawnV l A c g valO w):=by
 have hm:=hm0.again
 clear hm0
 have hgl:=hm.lt
 have M0:=LH hm
 clear hm
 go_enter Tryz.func63,Tryz.ntmps63
 refine wp_hide (fun BP hBP=>?_)
 have HBP:=LH hBP
 clear hBP
 go_wp2_with fail
 obtain⟨w1,e1,Rr1,hz1,K1⟩:=boxed w 36 #[.int .i64 0,.int .i64 0,.string ⟨#[]⟩,.slice none 0 0]
 have M1:=LH (M0.out.chg K1.out (by omega) (by omega))
 rw [<- e1]
 clear e1
 refine(drawOnceD M1.out 2 (by omega) (by omega)).mono ?_
 rintro e w2 ⟨b1,rfl,hm2⟩
 have hz2:=hm2.size
 have K2:=LH hm2.bx
 have Rr2:=LH (K2.out.row Rr1.out (by omega))
 have M2:=LH (M1.out.trans hm2)
 clear Rr1 M1
 clear hm2
 have hcr2:=fun i=>Rr2.out.cell i
 have hfr2:=fun i=>Rr2.out.frozen i
 cases b1
 ·
  go_wp2_with fail
  refine(drawValI 0 M2.out).mono ?_
  clear hcr2 hfr2
  rintro e w3 ⟨x,Ax,cx,rfl,px,ha3,hm3⟩
  have DN3:=LH ha3
  have hz3:=hm3.size
  have K3:=LH hm3.bx
  have Rr3:=LH (K3.out.row Rr2.out (by omega))
  have M3:=LH (M2.out.trans hm3)
  clear Rr2 M2
  clear hm3 ha3
  have hcr3:=fun i=>Rr3.out.cell i
  have hfr3:=fun i=>Rr3.out.frozen i
  have hlr3:=Rr3.out.lt
  go_wp2_with fail
  clear hcr3 hlr3
  obtain⟨w4,e4,RN4,hz4,K4⟩:=stored4 Rr3.out (.int .i64 2) (.int .i64 0) (.string ⟨#[83,111,109,101]⟩) (.slice (some ⟨w3.heap.size,0,none⟩) 1 1)
  have Dx4:=LH (DN3.out.keep fun b hb=>K4.out.kq hb (by omega))
  have M4:=LH (M3.out.chg K4.out (by omega) (by omega))
  clear DN3 M3
  clear Rr3
  obtain⟨w5,e5,Rrow5,hz5,K5⟩:=boxed w4 36 #[.int .i64 x.kind,.int .i64 x.n,.string x.s,.slice Ax x.kids.length cx]
  have hy5:w4.heap.size=w3.heap.size:=by omega
  rw [hy5] at Rrow5 K5
  have Rr5:=LH (K5.out.row RN4.out (by omega))
  have Dx5:=LH (Dx4.out.keep fun b hb=>K5.out.kq hb (by omega))
  have M5:=LH (M4.out.chg K5.out (by omega) (by omega))
  clear RN4 Dx4 M4
  have SL5:=LH (show Sl w5 (fun b=>b<w5.heap.size/\w.heap.size<=b/\b≠w.heap.size) 4 (some ⟨w3.heap.size,0,none⟩) 1 ([x].map GValue.toD) from Sl.ofRow Rrow5.out (rdC_one1 (GValue.rd_mk (Dx5.out.keep (w':=w5) (S':=fun b=>b<w5.heap.size/\w.heap.size<=b/\b≠w.heap.size) fun b hb=>⟨⟨by omega,by omega⟩,rfl⟩)) rfl) ⟨by omega,by omega⟩ (by simp) (by unfold maxLen;omega))
  rw [<- e4,<- e5]
  clear e4 e5
  have hcr5:=fun i=>Rr5.out.cell i
  show BP _ _
  rw [HBP.out]
  refine bodyPost_ret (v:=.agg #[.int .i64 2,.int .i64 0,.string ⟨#[83,111,109,101]⟩,.slice (some ⟨w3.heap.size,0,none⟩) 1 1]) (by simp [results,Tryz.results63,go_sem,hcr5]) rfl ?_
  exact⟨.mk 2 0 sSome [x],some ⟨w3.heap.size,0,none⟩,1,rfl,.inr ⟨x,px,rfl⟩,⟨show(Lit.int .i64 2).wf=true by decide,show(Lit.int .i64 0).wf=true by decide,short_le (show sSome.size<=8 by decide),SL5.out.keep fun b hb=>⟨⟨by have h1:=hb.1;omega,by have h1:=hb.1;omega⟩,rfl⟩⟩,M5.out⟩
 ·
  go_wp2_with fail
  clear hcr2 hfr2
  obtain⟨w3,e3,RN3,hz3,K3⟩:=stored4 Rr2.out (.int .i64 2) (.int .i64 0) (.string ⟨#[78,111,110,101]⟩) (.slice none 0 0)
  have M3:=LH (M2.out.chg K3.out (by omega) (by omega))
  clear M2
  clear Rr2
  rw [<- e3]
  clear e3
  have hcr3:=fun i=>RN3.out.cell i
  show BP _ _
  rw [HBP.out]
  refine bodyPost_ret (v:=.agg #[.int .i64 2,.int .i64 0,.string ⟨#[78,111,110,101]⟩,.slice none 0 0]) (by simp [results,Tryz.results63,go_sem,hcr3]) rfl ?_
  exact⟨.mk 2 0 sNone [],none,0,rfl,.inl rfl,GValue.leaf (show(Lit.int .i64 2).wf=true by decide) (show(Lit.int .i64 0).wf=true by decide) (short_le (show sNone.size<=8 by decide)),M3.out⟩
theorem drawValL (d:Nat):∀ (dd:Int) {l:List Int} {A:Option Addr} {c:Nat} {g:Nat} {w0 w:World},dd=(d:Int)->d<=100->Dm l A c g w0 w->
 Calls Tryz.prog 63 #[.pointer (some ⟨g,0,none⟩),.int .i64 0,.int .i64 dd] w (DrawnV l A c g (valL d) w):=by
 induction d with
 | zero=>
  intro dd l A c g w0 w hdd hd hm0
  have hm:=hm0.again
  clear hm0
  have h0:(dd ==0)=true:=by rw [hdd];rfl
  clear hdd
  have hgl:=hm.lt
  have M0:=LH hm
  clear hm
  go_enter Tryz.func63,Tryz.ntmps63
  refine wp_hide (fun BP hBP=>?_)
  have HBP:=LH hBP
  clear hBP
  go_wp2_with fail
  obtain⟨w1,e1,Rr1,hz1,K1⟩:=boxed w 36 #[.int .i64 2,.int .i64 0,.string ⟨#[78,105,108]⟩,.slice none 0 0]
  have M1:=LH (M0.out.chg K1.out (by omega) (by omega))
  rw [<- e1]
  clear e1
  have hcr1:=fun i=>Rr1.out.cell i
  show BP _ _
  rw [HBP.out]
  refine bodyPost_ret (v:=.agg #[.int .i64 2,.int .i64 0,.string ⟨#[78,105,108]⟩,.slice none 0 0]) (by simp [results,Tryz.results63,go_sem,hcr1]) rfl ?_
  exact⟨.mk 2 0 sNil [],none,0,rfl,rfl,GValue.leaf (show(Lit.int .i64 2).wf=true by decide) (show(Lit.int .i64 0).wf=true by decide) (short_le (show sNil.size<=8 by decide)),M1.out⟩
 | succ d ih=>
  intro dd l A c g w0 w hdd hd hm0
  have hm:=hm0.again
  clear hm0
  have h0:(dd ==0)=false:=by rw [beq_eq_false_iff_ne,hdd];omega
  have hwd:IntKind.i64.wrap (dd - 1)=dd - 1:=by rw [IntKind.wrap_i64];omega
  have hIH:=LH (fun(wa wb:World) (m:Dm l A c g wa wb)=>ih (dd - 1) (w0:=wa) (w:=wb) (by omega) (by omega) m)
  clear ih hdd hd
  have hgl:=hm.lt
  have M0:=LH hm
  clear hm
  go_enter Tryz.func63,Tryz.ntmps63
  refine wp_hide (fun BP hBP=>?_)
  have HBP:=LH hBP
  clear hBP
  go_wp2_with fail
  obtain⟨w1,e1,Rr1,hz1,K1⟩:=boxed w 36 #[.int .i64 0,.int .i64 0,.string ⟨#[]⟩,.slice none 0 0]
  have M1:=LH (M0.out.chg K1.out (by omega) (by omega))
  rw [<- e1]
  clear e1
  refine(drawOnceD M1.out 3 (by omega) (by omega)).mono ?_
  rintro e w2 ⟨b1,rfl,hm2⟩
  have hz2:=hm2.size
  have K2:=LH hm2.bx
  have Rr2:=LH (K2.out.row Rr1.out (by omega))
  have M2:=LH (M1.out.trans hm2)
  clear Rr1 M1
  clear hm2
  have hcr2:=fun i=>Rr2.out.cell i
  have hfr2:=fun i=>Rr2.out.frozen i
  cases b1
  ·
   go_wp2_with fail
   refine(drawValO (dd - 1) M2.out).mono ?_
   clear hcr2 hfr2
   rintro e w3 ⟨x,Ax,cx,rfl,px,ha3,hm3⟩
   have DN3:=LH ha3
   have hz3:=hm3.size
   have K3:=LH hm3.bx
   have Rr3:=LH (K3.out.row Rr2.out (by omega))
   have M3:=LH (M2.out.trans hm3)
   clear Rr2 M2
   clear hm3 ha3
   go_wp2_with fail
   obtain⟨w4,e4,Rxa4,hz4,K4⟩:=boxed w3 36 #[.int .i64 x.kind,.int .i64 x.n,.string x.s,.slice Ax x.kids.length cx]
   have Rr4:=LH (K4.out.row Rr3.out (by omega))
   have Dx4:=LH (DN3.out.keep fun b hb=>K4.out.kq hb (by omega))
   have M4:=LH (M3.out.chg K4.out (by omega) (by omega))
   clear Rr3 DN3 M3
   rw [<- e4]
   clear e4
   refine(hIH.out _ _ M4.out).mono ?_
   rintro e w5 ⟨y,Ay,cy,rfl,py,ha5,hm5⟩
   have DN5:=LH ha5
   have hz5:=hm5.size
   have K5:=LH hm5.bx
   have Rr5:=LH (K5.out.row Rr4.out (by omega))
   have Rxa5:=LH (K5.out.row Rxa4.out (by omega))
   have Dx5:=LH (Dx4.out.keep fun b hb=>K5.out.kq hb (by omega))
   have M5:=LH (M4.out.trans hm5)
   clear Rr4 Rxa4 Dx4 M4
   clear hm5 ha5
   have hcr5:=fun i=>Rr5.out.cell i
   have hfr5:=fun i=>Rr5.out.frozen i
   have hlr5:=Rr5.out.lt
   have hcxa5:=fun i=>Rxa5.out.cell i
   have hlxa5:=Rxa5.out.lt
   go_wp2_with fail
   clear hcr5 hfr5 hlr5 hcxa5 hlxa5
   obtain⟨w6,e6,RN6,hz6,K6⟩:=stored4 Rr5.out (.int .i64 2) (.int .i64 0) (.string ⟨#[67,111,110,115]⟩) (.slice (some ⟨(w5.heap.size+1),0,none⟩) 2 2)
   have Dx6:=LH (Dx5.out.keep fun b hb=>K6.out.kq hb (by omega))
   have Dy6:=LH (DN5.out.keep fun b hb=>K6.out.kq hb (by omega))
   have M6:=LH (M5.out.chg K6.out (by omega) (by omega))
   clear Rxa5 Dx5 DN5 M5
   clear Rr5
   obtain⟨w7,e7,Rbx7,hz7,K7⟩:=boxed w6 36 #[.int .i64 y.kind,.int .i64 y.n,.string y.s,.slice Ay y.kids.length cy]
   have hy7:w6.heap.size=w5.heap.size:=by omega
   rw [hy7] at Rbx7 K7
   have Rr7:=LH (K7.out.row RN6.out (by omega))
   have Dx7:=LH (Dx6.out.keep fun b hb=>K7.out.kq hb (by omega))
   have Dy7:=LH (Dy6.out.keep fun b hb=>K7.out.kq hb (by omega))
   have M7:=LH (M6.out.chg K7.out (by omega) (by omega))
   clear RN6 Dx6 Dy6 M6
   obtain⟨w8,e8,Rrow8,hz8,K8⟩:=boxed w7 36 #[.int .i64 x.kind,.int .i64 x.n,.string x.s,.slice Ax x.kids.length cx,.int .i64 y.kind,.int .i64 y.n,.string y.s,.slice Ay y.kids.length cy]
   have hy8:w7.heap.size=(w5.heap.size+1):=by omega
   rw [hy8] at Rrow8 K8
   have Rr8:=LH (K8.out.row Rr7.out (by omega))
   have Dx8:=LH (Dx7.out.keep fun b hb=>K8.out.kq hb (by omega))
   have Dy8:=LH (Dy7.out.keep fun b hb=>K8.out.kq hb (by omega))
   have M8:=LH (M7.out.chg K8.out (by omega) (by omega))
   clear Rr7 Rbx7 Dx7 Dy7 M7
   have SL8:=LH (show Sl w8 (fun b=>b<w8.heap.size/\w.heap.size<=b/\b≠w.heap.size) 4 (some ⟨(w5.heap.size+1),0,none⟩) 2 ([x,y].map GValue.toD) from Sl.ofRow Rrow8.out (rdC_cons (GValue.rd_mk (Dx8.out.keep (w':=w8) (S':=fun b=>b<w8.heap.size/\w.heap.size<=b/\b≠w.heap.size) fun b hb=>⟨⟨by omega,by omega⟩,rfl⟩)) rfl (rdC_one1 (GValue.rd_mk (Dy8.out.keep (w':=w8) (S':=fun b=>b<w8.heap.size/\w.heap.size<=b/\b≠w.heap.size) fun b hb=>⟨⟨by omega,by omega⟩,rfl⟩)) rfl)) ⟨by omega,by omega⟩ (by simp) (by unfold maxLen;omega))
   rw [<- e6,<- e7,<- e8]
   clear e6 e7 e8
   have hcr8:=fun i=>Rr8.out.cell i
   show BP _ _
   rw [HBP.out]
   refine bodyPost_ret (v:=.agg #[.int .i64 2,.int .i64 0,.string ⟨#[67,111,110,115]⟩,.slice (some ⟨(w5.heap.size+1),0,none⟩) 2 2]) (by simp [results,Tryz.results63,go_sem,hcr8]) rfl ?_
   exact⟨.mk 2 0 sCons [x,y],some ⟨(w5.heap.size+1),0,none⟩,2,rfl,.inr ⟨x,y,px,py,rfl⟩,⟨show(Lit.int .i64 2).wf=true by decide,show(Lit.int .i64 0).wf=true by decide,short_le (show sCons.size<=8 by decide),SL8.out.keep fun b hb=>⟨⟨by have h1:=hb.1;omega,by have h1:=hb.1;omega⟩,rfl⟩⟩,M8.out⟩
  ·
   go_wp2_with fail
   clear hcr2 hfr2
   obtain⟨w3,e3,RN3,hz3,K3⟩:=stored4 Rr2.out (.int .i64 2) (.int .i64 0) (.string ⟨#[78,105,108]⟩) (.slice none 0 0)
   have M3:=LH (M2.out.chg K3.out (by omega) (by omega))
   clear M2
   clear Rr2
   rw [<- e3]
   clear e3
   have hcr3:=fun i=>RN3.out.cell i
   show BP _ _
   rw [HBP.out]
   refine bodyPost_ret (v:=.agg #[.int .i64 2,.int .i64 0,.string ⟨#[78,105,108]⟩,.slice none 0 0]) (by simp [results,Tryz.results63,go_sem,hcr3]) rfl ?_
   exact⟨.mk 2 0 sNil [],none,0,rfl,.inl rfl,GValue.leaf (show(Lit.int .i64 2).wf=true by decide) (show(Lit.int .i64 0).wf=true by decide) (short_le (show sNil.size<=8 by decide)),M3.out⟩
theorem digI_size (n:Int) (h1: -9223372036854775808<=n) (h2:n<=9223372036854775807):(digI n).size<=20:=by
 unfold digI
 split
 · rw [ByteArray.size_append']
   have:=digU_size19 (-n).toNat (by omega)
   have h1:(ByteArray.mk #[45]).size=1:=rfl
   omega
 · have:=digU_size19 n.toNat (by omega);omega
theorem digI_neg1 {n:Int} (h1:n<0):digI n=⟨#[45]⟩++digI (-n):=by
 unfold digI;rw [if_pos h1,if_neg (by omega)]
theorem digI_lt {n:Int} (h1:0<=n) (h:n<10):digI n=one (48+n):=by
 unfold digI;rw [if_neg (by omega),digU_lt (by omega)]
 congr 1;omega
theorem digI_ge {n:Int} (h:10<=n):digI n=digI (n / 10)++one (48+n % 10):=by
 unfold digI;rw [if_neg (by omega),if_neg (by omega),digU_ge (by omega)]
 congr 2
 · omega
 · omega
theorem digI_neg10 {n:Int} (h:n<= -10):digI n=digI (n.tdiv 10)++digI (-(n.tmod 10)):=by
 have h3:=tdiv10 n
 have h4:=tmod10 n
 have e1:n.tdiv 10= -((-n) / 10):=h3.2 (by omega)
 have e2:n.tmod 10= -((-n) % 10):=h4.2 (by omega)
 rw [e1,e2,digI_neg1 (n:=n) (by omega),digI_neg1 (n:= -((-n) / 10)) (by omega),digI_ge (n:= -n) (by omega),digI_lt (n:= - -(-n % 10)) (by omega) (by omega),ba_assoc]
 simp
theorem implDigits (k:Nat):∀ (n:Int) (w:World),((0<=n->2*n<=k)/\(n<0-> -2*n+1<=k))-> -9223372036854775808<=n->n<=9223372036854775807->
 Calls Tryz.prog 45 #[.int .i64 n] w fun e w'=>e= .returned (.string (digI n))/\w=w':=by
 induction k with
 | zero=>
  intro n w hk h1 h2
  obtain rfl:n=0:=by omega
  clear hk
  go_enter Tryz.func45,Tryz.ntmps45
  go_wp2_with fail
  go_ret
  exact⟨ret_str (by decide+kernel),rfl⟩
 | succ k ih=>
  intro n w hk h1 h2
  by_cases hn:n<0
  ·
   by_cases h10: -10<n
   ·
    have Hd:=LH (digI_neg1 hn)
    have hsz:=digI_size (-n) (by omega) (by omega)
    go_enter Tryz.func45,Tryz.ntmps45
    go_wp2_with fail
    refine(ih (-n) _ (by omega) (by omega) (by omega)).mono ?_;rintro e w' ⟨rfl,rfl⟩
    go_wp2_with fail
    go_ret
    exact⟨ret_str Hd.out.symm,rfl⟩
   ·
    have Hd:=LH (digI_neg10 (n:=n) (by omega))
    have h3:=tdiv10 n
    have h4:=tmod10 n
    have hsz:=digI_size (n.tdiv 10) (by omega) (by omega)
    have hsz2:=digI_size (-(n.tmod 10)) (by omega) (by omega)
    have hb: -9<=n.tmod 10/\n.tmod 10<=0:=by omega
    have hb2: -922337203685477580<=n.tdiv 10/\n.tdiv 10<= -1:=by omega
    have hb3: -2*n.tdiv 10+1<=k:=by omega
    clear h3 h4
    go_enter Tryz.func45,Tryz.ntmps45
    go_wp2_with fail
    refine(ih (n.tdiv 10) _ (by omega) (by omega) (by omega)).mono ?_;rintro e w' ⟨rfl,rfl⟩
    go_wp2_with fail
    refine(ih (-(n.tmod 10)) _ (by omega) (by omega) (by omega)).mono ?_;rintro e w' ⟨rfl,rfl⟩
    go_wp2_with fail
    go_ret
    exact⟨ret_str Hd.out.symm,rfl⟩
  ·
   by_cases h10:n<10
   · have Hd:=LH (digI_lt (n:=n) (by omega) h10)
     have He:=LH (encode_one (r:=48+n) (by omega) (by omega))
     go_enter Tryz.func45,Tryz.ntmps45
     go_wp2_with fail
     go_ret
     exact⟨ret_str (by rw [Hd.out,<- He.out]),rfl⟩
   ·
    have Hd:=LH (digI_ge (n:=n) (by omega))
    have He:=LH (encode_one (r:=48+n % 10) (by omega) (by omega))
    have hsz:=digI_size (n / 10) (by omega) (by omega)
    have hs2:(Utf8.encode (48+n % 10)).size<=1:=by rw [He.out];exact Nat.le_refl 1
    have hn0:10<=n:=by omega
    go_enter Tryz.func45,Tryz.ntmps45
    go_wp2_with fail
    refine(ih (n / 10) _ (by omega) (by omega) (by omega)).mono ?_;rintro e w' ⟨rfl,rfl⟩
    go_wp2_with fail
    go_ret
    exact⟨ret_str (by rw [Hd.out,<- He.out]),rfl⟩
theorem implDigits' (n:Int) (w:World) (h1: -9223372036854775808<=n) (h2:n<=9223372036854775807):
 Calls Tryz.prog 45 #[.int .i64 n] w fun e w'=>e= .returned (.string (digI n))/\w=w':=
 implDigits (2*n.natAbs+1) n w (by omega) h1 h2
theorem specDigits (n:Int) (w:World) (h1: -9223372036854775808<=n) (h2:n<=9223372036854775807):
 Calls Tryz.prog 133 #[.int .i64 n] w fun e w'=>e= .returned (.string (digI n))/\Below w.heap.size w w':=by
 have hcv:=fun(w:World) (x:Int)=>run_string_one (P:=Tryz.prog) w 22 9 5 x Tryz.underlying22 Tryz.underlying5 Tryz.underlying9
 by_cases h0:n=0
 · subst h0
   go_enter Tryz.func133,Tryz.ntmps133
   go_wp2
   go_ret
   exact⟨ret_str (by decide+kernel),Below.refl _ _⟩
 ·
  have hz:(n ==0)=false:=by simp [h0]
  by_cases hn:n<0
  ·
   go_enter Tryz.func133,Tryz.ntmps133
   go_wp2
   go_loopw [0,4,5] (fun t i _ wr=>∃ (a:Nat) (s:ByteArray),a<=9223372036854775808/\t= .int .i64 (-a)/\i= .string s/\digR a s=digR n.natAbs ⟨#[]⟩/\Below w.heap.size w wr) (fun t _ _ _=>(- (intOf t)).toNat)
   case atStart=>exact⟨n.natAbs,⟨#[]⟩,by omega,by go_num,rfl,rfl,Below.refl _ _⟩
   case round=>
    obtain⟨a,s,ha,rfl,rfl,hd,hb⟩:=hrel
    have hs:s.size<=19:=by
     have g1:=digR_size a s
     rw [hd,digR_start (by omega)] at g1
     have:=digU_size19 n.natAbs (by omega)
     omega
    have Hd:=LH hd
    clear hd
    have hbs:=hb.size
    rcases Nat.eq_zero_or_pos a with hz0 | hp
    · subst hz0
      go_wp2
      go_ret
      refine⟨ret_str ?_,hb⟩
      have e:=Hd.out
      rw [digR_zero,digR_start (by omega)] at e
      rw [e];unfold digI;rw [if_pos hn];congr 2;omega
    ·
     have hk1:(-(a:Int) != 0)=true:=by simp;omega
     have e1:(-(a:Int)).tmod 10= -((a:Int) % 10):=by have:=(tmod10 (-(a:Int))).2 (by omega);rw [this];simp
     have e2:(-(a:Int)).tdiv 10= -((a:Int) / 10):=by have:=(tdiv10 (-(a:Int))).2 (by omega);rw [this];simp
     have Hst:=LH (digR_step (a:=a) (by omega) s)
     by_cases hq:0<(a:Int) % 10
     · go_wp2
       go_roundw
       case rel=>exact⟨a / 10,one (48+(a:Int) % 10)++s,by omega,by go_num,rfl,by rw [<- Hd.out,<- Hst.out];simp,hb.alloc hbs _⟩
       case measure=>simp [intOf];omega
     · have hq0:(a:Int) % 10=0:=by omega
       have Hq:=LH hq0
       clear hq0
       go_wp2
       go_roundw
       case rel=>exact⟨a / 10,one (48+ -((a:Int) % 10))++s,by omega,by go_num,rfl,by rw [<- Hd.out,<- Hst.out,Hq.out];congr 3;omega,hb.alloc hbs _⟩
       case measure=>simp [intOf];omega
  ·
   go_enter Tryz.func133,Tryz.ntmps133
   go_wp2
   go_loopw [0,4,5] (fun t i _ wr=>∃ (a:Nat) (s:ByteArray),a<=9223372036854775807/\t= .int .i64 a/\i= .string s/\digR a s=digR n.toNat ⟨#[]⟩/\Below w.heap.size w wr) (fun t _ _ _=>(intOf t).toNat)
   case atStart=>exact⟨n.toNat,⟨#[]⟩,by omega,by go_num,rfl,rfl,Below.refl _ _⟩
   case round=>
    obtain⟨a,s,ha,rfl,rfl,hd,hb⟩:=hrel
    have hs:s.size<=19:=by
     have g1:=digR_size a s
     rw [hd,digR_start (by omega)] at g1
     have:=digU_size19 n.toNat (by omega)
     omega
    have Hd:=LH hd
    clear hd
    have hbs:=hb.size
    rcases Nat.eq_zero_or_pos a with hz0 | hp
    · subst hz0
      go_wp2
      go_ret
      refine⟨ret_str ?_,hb⟩
      have e:=Hd.out
      rw [digR_zero,digR_start (by omega)] at e
      rw [e];unfold digI;rw [if_neg (by omega)]
    · have hk1:((a:Int) != 0)=true:=by simp;omega
      have hm:0<=(a:Int) % 10/\(a:Int) % 10<=9:=by omega
      have Hst:=LH (digR_step (a:=a) (by omega) s)
      go_wp2
      go_roundw
      case rel=>exact⟨a / 10,one (48+(a:Int) % 10)++s,by omega,by go_num,rfl,by rw [<- Hd.out,<- Hst.out];simp,hb.alloc hbs _⟩
      case measure=>simp [intOf];omega
set_option maxHeartbeats 1000000
theorem drawAny {l:List Int} {A:Option Addr} {c:Nat} {w:World} {g i:Nat} {h:Int} (hc:Cur l A c w g i h):
 Calls Tryz.prog 62 #[.pointer (some ⟨g,0,none⟩)] w (Drawn l A c g (fun x=> -9223372036854775808<=x/\x<=9223372036854775807) w):=by
 have C0:=LH hc
 clear hc
 go_enter Tryz.func62,Tryz.ntmps62
 go_wp2_with fail
 refine(drawPickInt (l:=l) (A:=A) (c:=c) (C0.out.turned ((Turned.refl (g+1) w).alloc _) (Nat.lt_succ_self g)) [0,1,-1,5,1073741823,1073741824,-1073741824,-1073741825,9223372036854775807,-9223372036854775808] w.heap.size (Nat.ne_of_gt C0.out.row.lt) _ (Row.new _ _ _) (by decide) (by decide) (fun x=> -9223372036854775808<=x/\x<=9223372036854775807) (by decide)).mono ?_
 rintro e w1 ⟨x,i1,h1',rfl,hx,hc1,ht⟩
 go_wp2_with fail
 go_ret
 exact⟨_,i1,h1',rfl,hx,hc1,((Turned.refl g w).alloc _).trans ht⟩
set_option maxHeartbeats 2000000
theorem drawPickD {l:List Int} {A:Option Addr} {c:Nat} {g:Nat} {a w:World} (m:Dm l A c g a w) (vs:List ByteArray) (b:Nat) (hb:b≠g) (t:TypeId) (hr:Row w b t (vs.map Value.string).toArray) (h1:1<=vs.length) (h2:vs.length<=256) (P:ByteArray->Prop) (hP:∀ x∈vs,P x):
 Calls Tryz.prog 24 #[.pointer (some ⟨g,0,none⟩),.slice (some ⟨b,0,none⟩) vs.length vs.length] w fun e w'=>∃ x:ByteArray,e= .returned (.string x)/\P x/\Dm l A c g w w':=by
 obtain⟨i,h,hc⟩:=m.cur
 refine(drawPick hc vs b hb t hr h1 h2 P hP).mono ?_
 rintro e w1 ⟨x,i1,k1,rfl,hx,hc1,ht⟩
 exact⟨x,rfl,hx,⟨⟨i1,k1,hc1⟩,ht.bx⟩⟩
theorem drawAnyD {l:List Int} {A:Option Addr} {c:Nat} {g:Nat} {a w:World} (m:Dm l A c g a w):
 Calls Tryz.prog 62 #[.pointer (some ⟨g,0,none⟩)] w fun e w'=>∃ x:Int,e= .returned (.int .i64 x)/\(-9223372036854775808<=x/\x<=9223372036854775807)/\Dm l A c g w w':=by
 obtain⟨i,h,hc⟩:=m.cur
 refine(drawAny hc).mono ?_
 rintro e w1 ⟨x,i1,k1,rfl,hx,hc1,ht⟩
 exact⟨x,rfl,hx,⟨⟨i1,k1,hc1⟩,ht.bx⟩⟩
theorem wf64R {n:Int} (h: -9223372036854775808<=n/\n<=9223372036854775807):(Lit.int .i64 n).wf=true:=by
 simp [Lit.wf,IntKind.min,IntKind.max,IntKind.signed,IntKind.bits];omega
def valB (v:GValue):Prop:=v.bulk<=60
theorem valB_with {v:GValue} (h:v.bulk<=40) (k n:Int) (s:ByteArray) (hs:s.size<=8):valB (.mk k n s v.kids):=by
 cases v with
 | mk a b e f=>
  have h1:=GValue.bulk_eq (.mk a b e f)
  have h2:=GValue.bulk_eq (.mk k n s f)
  simp only [GValue.s,GValue.kids] at h1 h2
  show(GValue.mk k n s f).bulk<=60
  omega
theorem valB_leaf (k n:Int):valB (.mk k n ⟨#[]⟩ []):=by unfold valB;rw [GValue.bulk_eq];simp [GValue.s,GValue.kids,bulkL,ByteArray.size]
theorem valL_bulkD:∀ (d:Nat) (v:GValue),valL d v->v.bulk<=3+11*d/\v.s.size<=8
 | 0,v,h=>by obtain rfl:=h;rw [GValue.bulk_eq];simp [GValue.s,GValue.kids,bulkL,ByteArray.size,sNil]
 | d+1,v,h=>by
  have hI:∀ {v:GValue},valI v->v.bulk=0:=by rintro v ⟨x,-,rfl⟩;rw [GValue.bulk_eq];simp [GValue.s,GValue.kids,bulkL,ByteArray.size]
  have hO:∀ {v:GValue},valO v->v.bulk<=5:=by
   rintro v (rfl | ⟨a,ha,rfl⟩)
   · rw [GValue.bulk_eq];simp [GValue.s,GValue.kids,bulkL,ByteArray.size,sNone]
   · have:=hI ha;rw [GValue.bulk_eq];simp [GValue.s,GValue.kids,bulkL,ByteArray.size,sSome];omega
  rcases h with rfl | ⟨a,b,ha,hb,rfl⟩
  · rw [GValue.bulk_eq];simp [GValue.s,GValue.kids,bulkL,ByteArray.size,sNil]
  · have i1:=hO ha
    have i2:=(valL_bulkD d b hb).1
    rw [GValue.bulk_eq];simp [GValue.s,GValue.kids,bulkL,ByteArray.size,sCons];omega
theorem drawVal10 {l:List Int} {A:Option Addr} {c:Nat} {g:Nat} {w0 w:World} (hm0:Dm l A c g w0 w):
 Calls Tryz.prog 37 #[.pointer (some ⟨g,0,none⟩)] w (DrawnV l A c g valB w):=by
 have hm:=hm0.again
 clear hm0
 have hgl:=hm.lt
 have M0:=LH hm
 clear hm
 go_enter Tryz.func37,Tryz.ntmps37
 refine wp_hide (fun BP hBP=>?_)
 have HBP:=LH hBP
 clear hBP
 go_wp2_with fail
 obtain⟨w1,e1,Rr1,hz1,K1⟩:=boxed w 36 #[.int .i64 0,.int .i64 0,.string ⟨#[]⟩,.slice none 0 0]
 have M1:=LH (M0.out.chg K1.out (by omega) (by omega))
 rw [<- e1]
 clear e1
 refine(drawValL 3 3 rfl (by omega) M1.out).mono ?_
 rintro e w2 ⟨v,Av,cv,rfl,pv,ha2,hm2⟩
 have DN2:=LH ha2
 have hz2:=hm2.size
 have K2:=LH hm2.bx
 have Rr2:=LH (K2.out.row Rr1.out (by omega))
 have M2:=LH (M1.out.trans hm2)
 clear Rr1 M1
 clear hm2 ha2
 have hvb:=valL_bulkD 3 v pv
 have HVB:=LH (show v.bulk<=40 by have:=hvb.1;omega)
 have HVS:=LH hvb.2
 clear hvb pv
 go_wp2_with fail
 obtain⟨w3,e3,Rv3,hz3,K3⟩:=boxed w2 36 #[.int .i64 v.kind,.int .i64 v.n,.string v.s,.slice Av v.kids.length cv]
 have Rr3:=LH (K3.out.row Rr2.out (by omega))
 have Dv3:=LH (DN2.out.keep fun b hb=>⟨hb,K3.out.block b (by have:=hb.1;have:=hb.2;omega) (by have:=hb.1;have:=hb.2;omega)⟩)
 have M3:=LH (M2.out.chg K3.out (by omega) (by omega))
 clear Rr2 DN2 M2
 rw [<- e3]
 clear e3
 refine(drawBelowD M3.out 12 (by omega) (by omega)).mono ?_
 rintro e w4 ⟨x,rfl,hx,hm4⟩
 have hz4:=hm4.size
 have K4:=LH hm4.bx
 have Rr4:=LH (K4.out.row Rr3.out (by omega))
 have Rv4:=LH (K4.out.row Rv3.out (by omega))
 have Dv4:=LH (Dv3.out.keep fun b hb=>⟨hb,K4.out.block b (by have:=hb.1;have:=hb.2;omega) (by have:=hb.1;have:=hb.2;omega)⟩)
 have M4:=LH (M3.out.trans hm4)
 clear Rr3 Rv3 Dv3 M3
 clear hm4
 have hcr4:=fun i=>Rr4.out.cell i
 have hfr4:=fun i=>Rr4.out.frozen i
 have hcv4:=fun i=>Rv4.out.cell i
 by_cases x0:x=0
 ·
  go_wp2_with fail
  refine(drawBelowD M4.out 6 (by omega) (by omega)).mono ?_
  clear hcr4 hfr4 hcv4
  rintro e w5 ⟨y,rfl,hy,hm5⟩
  have hz5:=hm5.size
  have K5:=LH hm5.bx
  have Rr5:=LH (K5.out.row Rr4.out (by omega))
  have Rv5:=LH (K5.out.row Rv4.out (by omega))
  have Dv5:=LH (Dv4.out.keep fun b hb=>⟨hb,K5.out.block b (by have:=hb.1;have:=hb.2;omega) (by have:=hb.1;have:=hb.2;omega)⟩)
  have M5:=LH (M4.out.trans hm5)
  clear Rr4 Rv4 Dv4 M4
  clear hm5
  have hcr5:=fun i=>Rr5.out.cell i
  have hfr5:=fun i=>Rr5.out.frozen i
  have hcv5:=fun i=>Rv5.out.cell i
  have hfv5:=fun i=>Rv5.out.frozen i
  have hwy:IntKind.i64.wrap (y - 1)=y - 1:=by rw [IntKind.wrap_i64];omega
  go_wp2_with fail
  clear hcr5 hfr5 hcv5 hfv5
  obtain⟨w6,e6,RO6,hz6,K6⟩:=storedF Rv5.out 0 (.int .i64 (y - 1))
  have RN6:=LH (show Row w6 w2.heap.size 36 #[.int .i64 (y - 1),.int .i64 v.n,.string v.s,.slice Av v.kids.length cv] from RO6.out)
  clear RO6
  have Rr6:=LH (K6.out.row Rr5.out (by omega))
  have Dv6:=LH (Dv5.out.keep fun b hb=>⟨hb,K6.out.block b (by have:=hb.1;have:=hb.2;omega) (by have:=hb.1;have:=hb.2;omega)⟩)
  have M6:=LH (M5.out.chg K6.out (by omega) (by omega))
  clear Rr5 Dv5 M5
  clear Rv5
  obtain⟨w7,e7,RN7,hz7,K7⟩:=stored4 Rr6.out (.int .i64 (y - 1)) (.int .i64 v.n) (.string v.s) (.slice Av v.kids.length cv)
  have Rv7:=LH (K7.out.row RN6.out (by omega))
  have Dv7:=LH (Dv6.out.keep fun b hb=>⟨hb,K7.out.block b (by have:=hb.1;have:=hb.2;omega) (by have:=hb.1;have:=hb.2;omega)⟩)
  have M7:=LH (M6.out.chg K7.out (by omega) (by omega))
  clear RN6 Dv6 M6
  clear Rr6
  rw [<- e6,<- e7]
  clear e6 e7
  have hlv7:=Rv7.out.lt
  have hcr7:=fun i=>RN7.out.cell i
  show BP _ _
  rw [HBP.out]
  refine bodyPost_ret (v:=.agg #[.int .i64 (y - 1),.int .i64 v.n,.string v.s,.slice Av v.kids.length cv]) (by simp [results,Tryz.results37,go_sem,hcr7]) rfl ?_
  exact⟨(GValue.mk (y - 1) v.n v.s v.kids),Av,cv,rfl,valB_with HVB.out _ _ _ HVS.out,(show GValue.At _ _ Av cv (GValue.mk (y - 1) v.n v.s v.kids) from(fun h=>⟨show(Lit.int .i64 (y - 1)).wf=true from int_wfS (by omega),h.2.1,h.2.2.1,h.2.2.2⟩) (Dv7.out.keep fun b hb=>⟨⟨by omega,by omega⟩,rfl⟩)),M7.out⟩
 by_cases x1:x=1
 ·
  go_wp2_with fail
  clear hcr4 hfr4 hcv4
  obtain⟨w5,e5,Rrow5,hz5,K5⟩:=boxed w4 9 #[.string ⟨#[67,111,110,115]⟩,.string ⟨#[81]⟩,.string ⟨#[]⟩]
  have Rr5:=LH (K5.out.row Rr4.out (by omega))
  have Rv5:=LH (K5.out.row Rv4.out (by omega))
  have Dv5:=LH (Dv4.out.keep fun b hb=>⟨hb,K5.out.block b (by have:=hb.1;have:=hb.2;omega) (by have:=hb.1;have:=hb.2;omega)⟩)
  have M5:=LH (M4.out.chg K5.out (by omega) (by omega))
  clear Rr4 Rv4 Dv4 M4
  rw [<- e5]
  clear e5
  have hlr5:=Rr5.out.lt
  refine(drawPickD M5.out [⟨#[67,111,110,115]⟩,⟨#[81]⟩,⟨#[]⟩] w4.heap.size (by omega) 9 Rrow5.out (by simp) (by simp) (fun s=>s.size<=8) (by intro s hs;simp at hs;rcases hs with rfl | rfl | rfl<;>decide)).mono ?_
  clear hlr5
  rintro e w6 ⟨y,rfl,hy,hm6⟩
  have hz6:=hm6.size
  have K6:=LH hm6.bx
  have Rr6:=LH (K6.out.row Rr5.out (by omega))
  have Rv6:=LH (K6.out.row Rv5.out (by omega))
  have Dv6:=LH (Dv5.out.keep fun b hb=>⟨hb,K6.out.block b (by have:=hb.1;have:=hb.2;omega) (by have:=hb.1;have:=hb.2;omega)⟩)
  have M6:=LH (M5.out.trans hm6)
  clear Rr5 Rv5 Rrow5 Dv5 M5
  clear hm6
  have hcr6:=fun i=>Rr6.out.cell i
  have hfr6:=fun i=>Rr6.out.frozen i
  have hcv6:=fun i=>Rv6.out.cell i
  have hfv6:=fun i=>Rv6.out.frozen i
  go_wp2_with fail
  clear hcr6 hfr6 hcv6 hfv6
  obtain⟨w7,e7,RO7,hz7,K7⟩:=storedF Rv6.out 2 (.string y)
  clear RO7
  have Rr7:=LH (K7.out.row Rr6.out (by omega))
  have Dv7:=LH (Dv6.out.keep fun b hb=>⟨hb,K7.out.block b (by have:=hb.1;have:=hb.2;omega) (by have:=hb.1;have:=hb.2;omega)⟩)
  have M7:=LH (M6.out.chg K7.out (by omega) (by omega))
  clear Rr6 Dv6 M6
  clear Rv6
  obtain⟨w8,e8,RN8,hz8,K8⟩:=stored4 Rr7.out (.int .i64 v.kind) (.int .i64 v.n) (.string y) (.slice Av v.kids.length cv)
  have Dv8:=LH (Dv7.out.keep fun b hb=>⟨hb,K8.out.block b (by have:=hb.1;have:=hb.2;omega) (by have:=hb.1;have:=hb.2;omega)⟩)
  have M8:=LH (M7.out.chg K8.out (by omega) (by omega))
  clear Dv7 M7
  clear Rr7
  rw [<- e7,<- e8]
  clear e7 e8
  have hcr8:=fun i=>RN8.out.cell i
  show BP _ _
  rw [HBP.out]
  refine bodyPost_ret (v:=.agg #[.int .i64 v.kind,.int .i64 v.n,.string y,.slice Av v.kids.length cv]) (by simp [results,Tryz.results37,go_sem,hcr8]) rfl ?_
  exact⟨(GValue.mk v.kind v.n y v.kids),Av,cv,rfl,valB_with HVB.out _ _ _ hy,(show GValue.At _ _ Av cv (GValue.mk v.kind v.n y v.kids) from(fun h=>⟨h.1,h.2.1,short_le hy,h.2.2.2⟩) (Dv8.out.keep fun b hb=>⟨⟨by omega,by omega⟩,rfl⟩)),M8.out⟩
 by_cases x2:x=2
 ·
  go_wp2_with fail
  refine(drawAnyD M4.out).mono ?_
  clear hcr4 hfr4 hcv4
  rintro e w5 ⟨y,rfl,hy,hm5⟩
  have hz5:=hm5.size
  have K5:=LH hm5.bx
  have Rr5:=LH (K5.out.row Rr4.out (by omega))
  have Rv5:=LH (K5.out.row Rv4.out (by omega))
  have Dv5:=LH (Dv4.out.keep fun b hb=>⟨hb,K5.out.block b (by have:=hb.1;have:=hb.2;omega) (by have:=hb.1;have:=hb.2;omega)⟩)
  have M5:=LH (M4.out.trans hm5)
  clear Rr4 Rv4 Dv4 M4
  clear hm5
  have hcr5:=fun i=>Rr5.out.cell i
  have hfr5:=fun i=>Rr5.out.frozen i
  have hcv5:=fun i=>Rv5.out.cell i
  have hfv5:=fun i=>Rv5.out.frozen i
  go_wp2_with fail
  clear hcr5 hfr5 hcv5 hfv5
  obtain⟨w6,e6,RO6,hz6,K6⟩:=storedF Rv5.out 1 (.int .i64 y)
  have RN6:=LH (show Row w6 w2.heap.size 36 #[.int .i64 v.kind,.int .i64 y,.string v.s,.slice Av v.kids.length cv] from RO6.out)
  clear RO6
  have Rr6:=LH (K6.out.row Rr5.out (by omega))
  have Dv6:=LH (Dv5.out.keep fun b hb=>⟨hb,K6.out.block b (by have:=hb.1;have:=hb.2;omega) (by have:=hb.1;have:=hb.2;omega)⟩)
  have M6:=LH (M5.out.chg K6.out (by omega) (by omega))
  clear Rr5 Dv5 M5
  clear Rv5
  obtain⟨w7,e7,RN7,hz7,K7⟩:=stored4 Rr6.out (.int .i64 v.kind) (.int .i64 y) (.string v.s) (.slice Av v.kids.length cv)
  have Rv7:=LH (K7.out.row RN6.out (by omega))
  have Dv7:=LH (Dv6.out.keep fun b hb=>⟨hb,K7.out.block b (by have:=hb.1;have:=hb.2;omega) (by have:=hb.1;have:=hb.2;omega)⟩)
  have M7:=LH (M6.out.chg K7.out (by omega) (by omega))
  clear RN6 Dv6 M6
  clear Rr6
  rw [<- e6,<- e7]
  clear e6 e7
  have hlv7:=Rv7.out.lt
  have hcr7:=fun i=>RN7.out.cell i
  show BP _ _
  rw [HBP.out]
  refine bodyPost_ret (v:=.agg #[.int .i64 v.kind,.int .i64 y,.string v.s,.slice Av v.kids.length cv]) (by simp [results,Tryz.results37,go_sem,hcr7]) rfl ?_
  exact⟨(GValue.mk v.kind y v.s v.kids),Av,cv,rfl,valB_with HVB.out _ _ _ HVS.out,(show GValue.At _ _ Av cv (GValue.mk v.kind y v.s v.kids) from(fun h=>⟨h.1,wf64R hy,h.2.2.1,h.2.2.2⟩) (Dv7.out.keep fun b hb=>⟨⟨by omega,by omega⟩,rfl⟩)),M7.out⟩
 by_cases x3:x=3
 ·
  go_wp2_with fail
  refine(drawAnyD M4.out).mono ?_
  clear hcr4 hfr4 hcv4
  rintro e w5 ⟨y,rfl,hy,hm5⟩
  have K5:=LH hm5.bx
  have Rr5:=LH (K5.out.row Rr4.out (by omega))
  have M5:=LH (M4.out.trans hm5)
  clear Rr4 Rv4 Dv4 M4
  clear hm5
  have hcr5:=fun i=>Rr5.out.cell i
  have hfr5:=fun i=>Rr5.out.frozen i
  go_wp2_with fail
  clear hcr5 hfr5
  obtain⟨w6,e6,RN6,hz6,K6⟩:=stored4 Rr5.out (.int .i64 1) (.int .i64 y) (.string ⟨#[]⟩) (.slice none 0 0)
  have M6:=LH (M5.out.chg K6.out (by omega) (by omega))
  clear M5
  clear Rr5
  rw [<- e6]
  clear e6
  have hcr6:=fun i=>RN6.out.cell i
  show BP _ _
  rw [HBP.out]
  refine bodyPost_ret (v:=.agg #[.int .i64 1,.int .i64 y,.string ⟨#[]⟩,.slice none 0 0]) (by simp [results,Tryz.results37,go_sem,hcr6]) rfl ?_
  exact⟨.mk 1 y ⟨#[]⟩ [],none,0,rfl,valB_leaf _ _,GValue.leaf (show(Lit.int .i64 1).wf=true by decide) (wf64R hy) empty_le,M6.out⟩
 by_cases x4:x=4
 ·
  go_wp2_with fail
  clear hcr4 hfr4 hcv4
  obtain⟨w5,e5,RN5,hz5,K5⟩:=stored4 Rr4.out (.int .i64 3) (.int .i64 0) (.string ⟨#[]⟩) (.slice none 0 0)
  have M5:=LH (M4.out.chg K5.out (by omega) (by omega))
  clear Rv4 Dv4 M4
  clear Rr4
  rw [<- e5]
  clear e5
  have hcr5:=fun i=>RN5.out.cell i
  show BP _ _
  rw [HBP.out]
  refine bodyPost_ret (v:=.agg #[.int .i64 3,.int .i64 0,.string ⟨#[]⟩,.slice none 0 0]) (by simp [results,Tryz.results37,go_sem,hcr5]) rfl ?_
  exact⟨.mk 3 0 ⟨#[]⟩ [],none,0,rfl,valB_leaf _ _,GValue.leaf (show(Lit.int .i64 3).wf=true by decide) (show(Lit.int .i64 0).wf=true by decide) empty_le,M5.out⟩
 have y0:(x ==0)=false:=beq_eq_false_iff_ne.2 (by omega)
 have y1:(x ==1)=false:=beq_eq_false_iff_ne.2 (by omega)
 have y2:(x ==2)=false:=beq_eq_false_iff_ne.2 (by omega)
 have y3:(x ==3)=false:=beq_eq_false_iff_ne.2 (by omega)
 have y4:(x ==4)=false:=beq_eq_false_iff_ne.2 (by omega)
 go_wp2_with fail
 clear hcr4 hfr4 hcv4
 obtain⟨w5,e5,RN5,hz5,K5⟩:=stored4 Rr4.out (.int .i64 v.kind) (.int .i64 v.n) (.string v.s) (.slice Av v.kids.length cv)
 have Dv5:=LH (Dv4.out.keep fun b hb=>⟨hb,K5.out.block b (by have:=hb.1;have:=hb.2;omega) (by have:=hb.1;have:=hb.2;omega)⟩)
 have M5:=LH (M4.out.chg K5.out (by omega) (by omega))
 clear Rv4 Dv4 M4
 clear Rr4
 rw [<- e5]
 clear e5
 have hcr5:=fun i=>RN5.out.cell i
 show BP _ _
 rw [HBP.out]
 refine bodyPost_ret (v:=.agg #[.int .i64 v.kind,.int .i64 v.n,.string v.s,.slice Av v.kids.length cv]) (by simp [results,Tryz.results37,go_sem,hcr5]) rfl ?_
 exact⟨v,Av,cv,rfl,(by have:=HVB.out;unfold valB;omega),Dv5.out.keep fun b hb=>⟨⟨by omega,by omega⟩,rfl⟩,M5.out⟩
theorem drawOf (d:Nat):∀ (dd kind:Int) {l:List Int} {A:Option Addr} {c:Nat} {g:Nat} {w0 w:World},dd=(d:Int)->d<=100->(kind=0\/kind=1\/kind=2)->Dm l A c g w0 w->
 Calls Tryz.prog 46 #[.pointer (some ⟨g,0,none⟩),.int .i64 kind,.int .i64 dd] w (DrawnN l A c g (patD d) w):=by
 induction d with
 | zero=>
  intro dd kind l A c g w0 w hdd hd hk hm0
  have hm:=hm0.again
  clear hm0 hk
  have h0:(dd ==0)=true:=by rw [hdd];rfl
  clear hdd
  have hgl:=hm.lt
  have M0:=LH hm
  clear hm
  go_enter Tryz.func46,Tryz.ntmps46
  refine wp_hide (fun BP hBP=>?_)
  have HBP:=LH hBP
  clear hBP
  go_wp2_with fail
  obtain⟨w1,e1,Rr1,hz1,K1⟩:=boxed w 49 #[.int .i64 17,.int .i64 0,.string ⟨#[]⟩,.string ⟨#[]⟩,.slice none 0 0]
  have M1:=LH (M0.out.chg K1.out (by omega) (by omega))
  rw [<- e1]
  clear e1
  have hcr1:=fun i=>Rr1.out.cell i
  show BP _ _
  rw [HBP.out]
  refine bodyPost_ret (v:=.agg #[.int .i64 17,.int .i64 0,.string ⟨#[]⟩,.string ⟨#[]⟩,.slice none 0 0]) (by simp [results,Tryz.results46,go_sem,hcr1]) rfl ?_
  exact⟨.mk 17 0 ⟨#[]⟩ ⟨#[]⟩ [],none,0,rfl,rfl,GNode.leaf (show(Lit.int .i64 17).wf=true by decide) (show(Lit.int .i64 0).wf=true by decide) empty_le empty_le,M1.out⟩
 | succ d ih=>
  intro dd kind l A c g w0 w hdd hd hk hm0
  have hm:=hm0.again
  clear hm0
  have h0:(dd ==0)=false:=by rw [beq_eq_false_iff_ne,hdd];omega
  have hwd:IntKind.i64.wrap (dd - 1)=dd - 1:=by rw [IntKind.wrap_i64];omega
  have hIH:=LH (fun(k:Int) (wa wb:World) (hk2:k=0\/k=1\/k=2) (m:Dm l A c g wa wb)=>ih (dd - 1) k (w0:=wa) (w:=wb) (by omega) (by omega) hk2 m)
  clear ih hdd hd
  have hgl:=hm.lt
  have M0:=LH hm
  clear hm
  rcases hk with rfl | rfl | rfl
  ·
   go_enter Tryz.func46,Tryz.ntmps46
   refine wp_hide (fun BP hBP=>?_)
   have HBP:=LH hBP
   clear hBP
   go_wp2_with fail
   obtain⟨w1,e1,Rr1,hz1,K1⟩:=boxed w 49 #[.int .i64 0,.int .i64 0,.string ⟨#[]⟩,.string ⟨#[]⟩,.slice none 0 0]
   have M1:=LH (M0.out.chg K1.out (by omega) (by omega))
   rw [<- e1]
   clear e1
   refine(drawOnceD M1.out 3 (by omega) (by omega)).mono ?_
   rintro e w2 ⟨b0,rfl,hm2⟩
   have hz2:=hm2.size
   have K2:=LH hm2.bx
   have Rr2:=LH (K2.out.row Rr1.out (by omega))
   have M2:=LH (M1.out.trans hm2)
   clear Rr1 M1
   clear hm2
   have hcr2:=fun i=>Rr2.out.cell i
   have hfr2:=fun i=>Rr2.out.frozen i
   cases b0
   ·
    go_wp2_with fail
    refine(drawOnceD M2.out 3 (by omega) (by omega)).mono ?_
    clear hcr2 hfr2
    rintro e w3 ⟨b1,rfl,hm3⟩
    have hz3:=hm3.size
    have K3:=LH hm3.bx
    have Rr3:=LH (K3.out.row Rr2.out (by omega))
    have M3:=LH (M2.out.trans hm3)
    clear Rr2 M2
    clear hm3
    have hcr3:=fun i=>Rr3.out.cell i
    have hfr3:=fun i=>Rr3.out.frozen i
    cases b1
    ·
     go_wp2_with fail
     refine(hIH.out 1 _ _ (by omega) M3.out).mono ?_
     clear hcr3
     rintro e w4 ⟨x,Ax,cx,rfl,px,ha4,hm4⟩
     have DN4:=LH ha4
     have hz4:=hm4.size
     have K4:=LH hm4.bx
     have Rr4:=LH (K4.out.row Rr3.out (by omega))
     have M4:=LH (M3.out.trans hm4)
     clear Rr3 M3
     clear hm4 ha4
     go_wp2_with fail
     obtain⟨w5,e5,Rxa5,hz5,K5⟩:=boxed w4 49 #[.int .i64 x.op,.int .i64 x.n,.string x.s,.string x.t,.slice Ax x.kids.length cx]
     have Rr5:=LH (K5.out.row Rr4.out (by omega))
     have Dx5:=LH (DN4.out.keep fun b hb=>K5.out.kq hb (by omega))
     have M5:=LH (M4.out.chg K5.out (by omega) (by omega))
     clear Rr4 DN4 M4
     rw [<- e5]
     clear e5
     refine(hIH.out 0 _ _ (by omega) M5.out).mono ?_
     rintro e w6 ⟨y,Ay,cy,rfl,py,ha6,hm6⟩
     have DN6:=LH ha6
     have hz6:=hm6.size
     have K6:=LH hm6.bx
     have Rr6:=LH (K6.out.row Rr5.out (by omega))
     have Rxa6:=LH (K6.out.row Rxa5.out (by omega))
     have Dx6:=LH (Dx5.out.keep fun b hb=>K6.out.kq hb (by omega))
     have M6:=LH (M5.out.trans hm6)
     clear Rr5 Rxa5 Dx5 M5
     clear hm6 ha6
     have hcr6:=fun i=>Rr6.out.cell i
     have hfr6:=fun i=>Rr6.out.frozen i
     have hlr6:=Rr6.out.lt
     have hcxa6:=fun i=>Rxa6.out.cell i
     have hlxa6:=Rxa6.out.lt
     go_wp2_with fail
     clear hcr6 hfr6 hlr6 hcxa6 hlxa6
     obtain⟨w7,e7,RN7,hz7,K7⟩:=stored5 Rr6.out (.int .i64 20) (.int .i64 0) (.string ⟨#[67,111,110,115]⟩) (.string ⟨#[]⟩) (.slice (some ⟨(w6.heap.size+1),0,none⟩) 2 2)
     have Dx7:=LH (Dx6.out.keep fun b hb=>K7.out.kq hb (by omega))
     have Dy7:=LH (DN6.out.keep fun b hb=>K7.out.kq hb (by omega))
     have M7:=LH (M6.out.chg K7.out (by omega) (by omega))
     clear Rxa6 Dx6 DN6 M6
     clear Rr6
     obtain⟨w8,e8,Rbx8,hz8,K8⟩:=boxed w7 49 #[.int .i64 y.op,.int .i64 y.n,.string y.s,.string y.t,.slice Ay y.kids.length cy]
     have hy8:w7.heap.size=w6.heap.size:=by omega
     rw [hy8] at Rbx8 K8
     have Rr8:=LH (K8.out.row RN7.out (by omega))
     have Dx8:=LH (Dx7.out.keep fun b hb=>K8.out.kq hb (by omega))
     have Dy8:=LH (Dy7.out.keep fun b hb=>K8.out.kq hb (by omega))
     have M8:=LH (M7.out.chg K8.out (by omega) (by omega))
     clear RN7 Dx7 Dy7 M7
     obtain⟨w9,e9,Rrow9,hz9,K9⟩:=boxed w8 49 #[.int .i64 x.op,.int .i64 x.n,.string x.s,.string x.t,.slice Ax x.kids.length cx,.int .i64 y.op,.int .i64 y.n,.string y.s,.string y.t,.slice Ay y.kids.length cy]
     have hy9:w8.heap.size=(w6.heap.size+1):=by omega
     rw [hy9] at Rrow9 K9
     have Rr9:=LH (K9.out.row Rr8.out (by omega))
     have Dx9:=LH (Dx8.out.keep fun b hb=>K9.out.kq hb (by omega))
     have Dy9:=LH (Dy8.out.keep fun b hb=>K9.out.kq hb (by omega))
     have M9:=LH (M8.out.chg K9.out (by omega) (by omega))
     clear Rr8 Rbx8 Dx8 Dy8 M8
     have SL9:=LH (show Sl w9 (fun b=>b<w9.heap.size/\w.heap.size<=b/\b≠w.heap.size) 5 (some ⟨(w6.heap.size+1),0,none⟩) 2 ([x,y].map GNode.toD) from Sl.ofRow Rrow9.out (rdC_cons (GNode.rd_mk (Dx9.out.keep (w':=w9) (S':=fun b=>b<w9.heap.size/\w.heap.size<=b/\b≠w.heap.size) fun b hb=>⟨⟨by omega,by omega⟩,rfl⟩)) rfl (rdC_one1 (GNode.rd_mk (Dy9.out.keep (w':=w9) (S':=fun b=>b<w9.heap.size/\w.heap.size<=b/\b≠w.heap.size) fun b hb=>⟨⟨by omega,by omega⟩,rfl⟩)) rfl)) ⟨by omega,by omega⟩ (by simp) (by unfold maxLen;omega))
     rw [<- e7,<- e8,<- e9]
     clear e7 e8 e9
     have hcr9:=fun i=>Rr9.out.cell i
     show BP _ _
     rw [HBP.out]
     refine bodyPost_ret (v:=.agg #[.int .i64 20,.int .i64 0,.string ⟨#[67,111,110,115]⟩,.string ⟨#[]⟩,.slice (some ⟨(w6.heap.size+1),0,none⟩) 2 2]) (by simp [results,Tryz.results46,go_sem,hcr9]) rfl ?_
     exact⟨.mk 20 0 sCons ⟨#[]⟩ [x,y],some ⟨(w6.heap.size+1),0,none⟩,2,rfl,.inr (.inr (.inr (.inr (.inl ⟨x,y,px,py,rfl⟩)))),⟨show(Lit.int .i64 20).wf=true by decide,show(Lit.int .i64 0).wf=true by decide,short_le (show sCons.size<=8 by decide),empty_le,SL9.out.keep fun b hb=>⟨⟨by have h1:=hb.1;omega,by have h1:=hb.1;omega⟩,rfl⟩⟩,M9.out⟩
    ·
     go_wp2_with fail
     clear hcr3
     obtain⟨w4,e4,RN4,hz4,K4⟩:=stored5 Rr3.out (.int .i64 20) (.int .i64 0) (.string ⟨#[78,105,108]⟩) (.string ⟨#[]⟩) (.slice none 0 0)
     have M4:=LH (M3.out.chg K4.out (by omega) (by omega))
     clear M3
     clear Rr3
     rw [<- e4]
     clear e4
     have hcr4:=fun i=>RN4.out.cell i
     show BP _ _
     rw [HBP.out]
     refine bodyPost_ret (v:=.agg #[.int .i64 20,.int .i64 0,.string ⟨#[78,105,108]⟩,.string ⟨#[]⟩,.slice none 0 0]) (by simp [results,Tryz.results46,go_sem,hcr4]) rfl ?_
     exact⟨.mk 20 0 sNil ⟨#[]⟩ [],none,0,rfl,.inr (.inr (.inl rfl)),GNode.leaf (show(Lit.int .i64 20).wf=true by decide) (show(Lit.int .i64 0).wf=true by decide) (short_le (show sNil.size<=8 by decide)) empty_le,M4.out⟩
   ·
    go_wp2_with fail
    clear hcr2 hfr2
    obtain⟨w3,e3,RN3,hz3,K3⟩:=stored5 Rr2.out (.int .i64 17) (.int .i64 0) (.string ⟨#[]⟩) (.string ⟨#[]⟩) (.slice none 0 0)
    have M3:=LH (M2.out.chg K3.out (by omega) (by omega))
    clear M2
    clear Rr2
    rw [<- e3]
    clear e3
    have hcr3:=fun i=>RN3.out.cell i
    show BP _ _
    rw [HBP.out]
    refine bodyPost_ret (v:=.agg #[.int .i64 17,.int .i64 0,.string ⟨#[]⟩,.string ⟨#[]⟩,.slice none 0 0]) (by simp [results,Tryz.results46,go_sem,hcr3]) rfl ?_
    exact⟨.mk 17 0 ⟨#[]⟩ ⟨#[]⟩ [],none,0,rfl,.inl rfl,GNode.leaf (show(Lit.int .i64 17).wf=true by decide) (show(Lit.int .i64 0).wf=true by decide) empty_le empty_le,M3.out⟩
  ·
   go_enter Tryz.func46,Tryz.ntmps46
   refine wp_hide (fun BP hBP=>?_)
   have HBP:=LH hBP
   clear hBP
   go_wp2_with fail
   obtain⟨w1,e1,Rr1,hz1,K1⟩:=boxed w 49 #[.int .i64 0,.int .i64 0,.string ⟨#[]⟩,.string ⟨#[]⟩,.slice none 0 0]
   have M1:=LH (M0.out.chg K1.out (by omega) (by omega))
   rw [<- e1]
   clear e1
   refine(drawOnceD M1.out 3 (by omega) (by omega)).mono ?_
   rintro e w2 ⟨b0,rfl,hm2⟩
   have hz2:=hm2.size
   have K2:=LH hm2.bx
   have Rr2:=LH (K2.out.row Rr1.out (by omega))
   have M2:=LH (M1.out.trans hm2)
   clear Rr1 M1
   clear hm2
   have hcr2:=fun i=>Rr2.out.cell i
   have hfr2:=fun i=>Rr2.out.frozen i
   cases b0
   ·
    go_wp2_with fail
    refine(drawOnceD M2.out 2 (by omega) (by omega)).mono ?_
    clear hcr2 hfr2
    rintro e w3 ⟨b1,rfl,hm3⟩
    have hz3:=hm3.size
    have K3:=LH hm3.bx
    have Rr3:=LH (K3.out.row Rr2.out (by omega))
    have M3:=LH (M2.out.trans hm3)
    clear Rr2 M2
    clear hm3
    have hcr3:=fun i=>Rr3.out.cell i
    have hfr3:=fun i=>Rr3.out.frozen i
    cases b1
    ·
     go_wp2_with fail
     refine(hIH.out 2 _ _ (by omega) M3.out).mono ?_
     clear hcr3
     rintro e w4 ⟨x,Ax,cx,rfl,px,ha4,hm4⟩
     have DN4:=LH ha4
     have hz4:=hm4.size
     have K4:=LH hm4.bx
     have Rr4:=LH (K4.out.row Rr3.out (by omega))
     have M4:=LH (M3.out.trans hm4)
     clear Rr3 M3
     clear hm4 ha4
     have hcr4:=fun i=>Rr4.out.cell i
     have hfr4:=fun i=>Rr4.out.frozen i
     have hlr4:=Rr4.out.lt
     go_wp2_with fail
     clear hcr4 hlr4
     obtain⟨w5,e5,RN5,hz5,K5⟩:=stored5 Rr4.out (.int .i64 20) (.int .i64 0) (.string ⟨#[83,111,109,101]⟩) (.string ⟨#[]⟩) (.slice (some ⟨w4.heap.size,0,none⟩) 1 1)
     have Dx5:=LH (DN4.out.keep fun b hb=>K5.out.kq hb (by omega))
     have M5:=LH (M4.out.chg K5.out (by omega) (by omega))
     clear DN4 M4
     clear Rr4
     obtain⟨w6,e6,Rrow6,hz6,K6⟩:=boxed w5 49 #[.int .i64 x.op,.int .i64 x.n,.string x.s,.string x.t,.slice Ax x.kids.length cx]
     have hy6:w5.heap.size=w4.heap.size:=by omega
     rw [hy6] at Rrow6 K6
     have Rr6:=LH (K6.out.row RN5.out (by omega))
     have Dx6:=LH (Dx5.out.keep fun b hb=>K6.out.kq hb (by omega))
     have M6:=LH (M5.out.chg K6.out (by omega) (by omega))
     clear RN5 Dx5 M5
     have SL6:=LH (show Sl w6 (fun b=>b<w6.heap.size/\w.heap.size<=b/\b≠w.heap.size) 5 (some ⟨w4.heap.size,0,none⟩) 1 ([x].map GNode.toD) from Sl.ofRow Rrow6.out (rdC_one1 (GNode.rd_mk (Dx6.out.keep (w':=w6) (S':=fun b=>b<w6.heap.size/\w.heap.size<=b/\b≠w.heap.size) fun b hb=>⟨⟨by omega,by omega⟩,rfl⟩)) rfl) ⟨by omega,by omega⟩ (by simp) (by unfold maxLen;omega))
     rw [<- e5,<- e6]
     clear e5 e6
     have hcr6:=fun i=>Rr6.out.cell i
     show BP _ _
     rw [HBP.out]
     refine bodyPost_ret (v:=.agg #[.int .i64 20,.int .i64 0,.string ⟨#[83,111,109,101]⟩,.string ⟨#[]⟩,.slice (some ⟨w4.heap.size,0,none⟩) 1 1]) (by simp [results,Tryz.results46,go_sem,hcr6]) rfl ?_
     exact⟨.mk 20 0 sSome ⟨#[]⟩ [x],some ⟨w4.heap.size,0,none⟩,1,rfl,.inr (.inr (.inr (.inr (.inr ⟨x,px,rfl⟩)))),⟨show(Lit.int .i64 20).wf=true by decide,show(Lit.int .i64 0).wf=true by decide,short_le (show sSome.size<=8 by decide),empty_le,SL6.out.keep fun b hb=>⟨⟨by have h1:=hb.1;omega,by have h1:=hb.1;omega⟩,rfl⟩⟩,M6.out⟩
    ·
     go_wp2_with fail
     clear hcr3
     obtain⟨w4,e4,RN4,hz4,K4⟩:=stored5 Rr3.out (.int .i64 20) (.int .i64 0) (.string ⟨#[78,111,110,101]⟩) (.string ⟨#[]⟩) (.slice none 0 0)
     have M4:=LH (M3.out.chg K4.out (by omega) (by omega))
     clear M3
     clear Rr3
     rw [<- e4]
     clear e4
     have hcr4:=fun i=>RN4.out.cell i
     show BP _ _
     rw [HBP.out]
     refine bodyPost_ret (v:=.agg #[.int .i64 20,.int .i64 0,.string ⟨#[78,111,110,101]⟩,.string ⟨#[]⟩,.slice none 0 0]) (by simp [results,Tryz.results46,go_sem,hcr4]) rfl ?_
     exact⟨.mk 20 0 sNone ⟨#[]⟩ [],none,0,rfl,.inr (.inr (.inr (.inl rfl))),GNode.leaf (show(Lit.int .i64 20).wf=true by decide) (show(Lit.int .i64 0).wf=true by decide) (short_le (show sNone.size<=8 by decide)) empty_le,M4.out⟩
   ·
    go_wp2_with fail
    clear hcr2 hfr2
    obtain⟨w3,e3,RN3,hz3,K3⟩:=stored5 Rr2.out (.int .i64 17) (.int .i64 0) (.string ⟨#[]⟩) (.string ⟨#[]⟩) (.slice none 0 0)
    have M3:=LH (M2.out.chg K3.out (by omega) (by omega))
    clear M2
    clear Rr2
    rw [<- e3]
    clear e3
    have hcr3:=fun i=>RN3.out.cell i
    show BP _ _
    rw [HBP.out]
    refine bodyPost_ret (v:=.agg #[.int .i64 17,.int .i64 0,.string ⟨#[]⟩,.string ⟨#[]⟩,.slice none 0 0]) (by simp [results,Tryz.results46,go_sem,hcr3]) rfl ?_
    exact⟨.mk 17 0 ⟨#[]⟩ ⟨#[]⟩ [],none,0,rfl,.inl rfl,GNode.leaf (show(Lit.int .i64 17).wf=true by decide) (show(Lit.int .i64 0).wf=true by decide) empty_le empty_le,M3.out⟩
  ·
   go_enter Tryz.func46,Tryz.ntmps46
   refine wp_hide (fun BP hBP=>?_)
   have HBP:=LH hBP
   clear hBP
   go_wp2_with fail
   obtain⟨w1,e1,Rr1,hz1,K1⟩:=boxed w 49 #[.int .i64 0,.int .i64 0,.string ⟨#[]⟩,.string ⟨#[]⟩,.slice none 0 0]
   have M1:=LH (M0.out.chg K1.out (by omega) (by omega))
   rw [<- e1]
   clear e1
   refine(drawOnceD M1.out 3 (by omega) (by omega)).mono ?_
   rintro e w2 ⟨b0,rfl,hm2⟩
   have K2:=LH hm2.bx
   have Rr2:=LH (K2.out.row Rr1.out (by omega))
   have M2:=LH (M1.out.trans hm2)
   clear Rr1 M1
   clear hm2
   have hcr2:=fun i=>Rr2.out.cell i
   have hfr2:=fun i=>Rr2.out.frozen i
   cases b0
   ·
    go_wp2_with fail
    refine(drawBelowD M2.out 3 (by omega) (by omega)).mono ?_
    clear hcr2 hfr2
    rintro e w3 ⟨x,rfl,hx,hm3⟩
    have K3:=LH hm3.bx
    have Rr3:=LH (K3.out.row Rr2.out (by omega))
    have M3:=LH (M2.out.trans hm3)
    clear Rr2 M2
    clear hm3
    have hcr3:=fun i=>Rr3.out.cell i
    have hfr3:=fun i=>Rr3.out.frozen i
    go_wp2_with fail
    clear hcr3
    obtain⟨w4,e4,RN4,hz4,K4⟩:=stored5 Rr3.out (.int .i64 19) (.int .i64 x) (.string ⟨#[]⟩) (.string ⟨#[]⟩) (.slice none 0 0)
    have M4:=LH (M3.out.chg K4.out (by omega) (by omega))
    clear M3
    clear Rr3
    rw [<- e4]
    clear e4
    have hcr4:=fun i=>RN4.out.cell i
    show BP _ _
    rw [HBP.out]
    refine bodyPost_ret (v:=.agg #[.int .i64 19,.int .i64 x,.string ⟨#[]⟩,.string ⟨#[]⟩,.slice none 0 0]) (by simp [results,Tryz.results46,go_sem,hcr4]) rfl ?_
    exact⟨.mk 19 x ⟨#[]⟩ ⟨#[]⟩ [],none,0,rfl,.inr (.inl ⟨x,hx,rfl⟩),GNode.leaf (show(Lit.int .i64 19).wf=true by decide) (int_wfS (by omega)) empty_le empty_le,M4.out⟩
   ·
    go_wp2_with fail
    clear hcr2 hfr2
    obtain⟨w3,e3,RN3,hz3,K3⟩:=stored5 Rr2.out (.int .i64 17) (.int .i64 0) (.string ⟨#[]⟩) (.string ⟨#[]⟩) (.slice none 0 0)
    have M3:=LH (M2.out.chg K3.out (by omega) (by omega))
    clear M2
    clear Rr2
    rw [<- e3]
    clear e3
    have hcr3:=fun i=>RN3.out.cell i
    show BP _ _
    rw [HBP.out]
    refine bodyPost_ret (v:=.agg #[.int .i64 17,.int .i64 0,.string ⟨#[]⟩,.string ⟨#[]⟩,.slice none 0 0]) (by simp [results,Tryz.results46,go_sem,hcr3]) rfl ?_
    exact⟨.mk 17 0 ⟨#[]⟩ ⟨#[]⟩ [],none,0,rfl,.inl rfl,GNode.leaf (show(Lit.int .i64 17).wf=true by decide) (show(Lit.int .i64 0).wf=true by decide) empty_le empty_le,M3.out⟩
end Go.Proofs.YtamfolaicncblaaGreat
