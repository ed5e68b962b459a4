/- Texts of the claim LTags in one: Draw GValue Dn DnB DrawNum DnF Ne Np Pbx. Conditions: none but bounds on sizes. -/
import Derived.Test.YtgbjdhfaklmjcaaGreatRows
import Derived.Test.YtgbjdhfaklmjcaaGreatZLTags0
import Derived.Test.YtgbjdhfaklmjcaaGreatZLTags19
import Derived.Lib.Hide
import Derived.Deep.RegionHeld3
import Derived.Test.YtgbjdhfaklmjcaaGreatZLTags4
import Derived.Test.YtgbjdhfaklmjcaaGreatZLTags17
import Derived.Test.YtgbjdhfaklmjcaaGreatZLTags18
import Derived.Test.YtgbjdhfaklmjcaaGreatZLTags1
import Derived.Deep.CutRange
namespace Go.Proofs.YtgbjdhfaklmjcaaGreat
set_option maxRecDepth 20000
set_option linter.unusedVariables false
set_option linter.unusedSimpArgs false
open Go.ChangeShapes Go.WideShapes Go.ChangeAt Go.RowKit Go.Deep
set_option maxHeartbeats 1000000
theorem i64_and255 (n:Int):bits .and .i64 n 255=n % 256:=by
 have h127:(BitVec.ofInt 64 255).toNat=2 ^ 8 - 1:=by decide
 have key:(BitVec.ofInt 64 n&&& BitVec.ofInt 64 255).toNat=(n % ((2 ^ 64:Nat):Int)).toNat % 2 ^ 8:=by
  rw [BitVec.toNat_and,BitVec.toNat_ofInt,h127,Nat.and_two_pow_sub_one_eq_mod]
 show IntKind.i64.wrap ((BitVec.ofInt 64 n&&& BitVec.ofInt 64 255).toNat:Nat)=n % 256
 rw [key,IntKind.wrap_i64]
 omega
theorem i64_and30 (n:Int):bits .and .i64 n 1073741823=n % 1073741824:=by
 have h127:(BitVec.ofInt 64 1073741823).toNat=2 ^ 30 - 1:=by decide
 have key:(BitVec.ofInt 64 n&&& BitVec.ofInt 64 1073741823).toNat=(n % ((2 ^ 64:Nat):Int)).toNat % 2 ^ 30:=by
  rw [BitVec.toNat_and,BitVec.toNat_ofInt,h127,Nat.and_two_pow_sub_one_eq_mod]
 show IntKind.i64.wrap ((BitVec.ofInt 64 n&&& BitVec.ofInt 64 1073741823).toNat:Nat)=n % 1073741824
 rw [key,IntKind.wrap_i64]
 omega
theorem wf8 {a:Int} (h:(Lit.int .u8 a).wf=true):0<=a/\a<=255:=by
 simpa [Lit.wf,IntKind.min,IntKind.max,IntKind.signed,IntKind.bits] using h
theorem byteElem {w:World} {S:Nat->Prop} {A:Option Addr} {c:Nat} {l:List Int} (h:Sl w S 1 A c (l.map (D.num .u8))) (i:Nat) (hi:i<l.length):
 ∃ b off,A=some ⟨b,off,none⟩/\S b/\w.cell? ⟨b,off+i,none⟩=some (.int .u8 l[i])/\0<=l[i]/\l[i]<=255:=by
 obtain⟨b,off,cs,e,hb,hl,hc,hr⟩:=Sl.get h i (by simpa using hi)
 rw [List.getElem_map] at hr
 obtain⟨rfl,h1⟩:=D.rd_num.1 hr
 have h2:=hc 0 _ rfl
 rw [Nat.mul_one,Nat.add_zero] at h2
 exact⟨b,off,e,hb,h2,wf8 h1⟩
theorem open_byte_el {H:Type} {enc:TypeId × Value->H} {P:Program} {w:World} {sp:Nat->Bool} {held:Bool} {e:TypeId} (he:P.underlying e=some (.int .u8)) {n:Nat} {cs:List Value} {x:DataW H × List MemPlace} (h:DataW.trod enc P w 0 sp held n e cs=some x):∃ a:Int,(D.num .u8 a).rd w (Lt w.heap.size) cs:=by
 obtain⟨a,rfl,_,hw⟩:=DataW.trod_int he h
 exact⟨a,D.rd_num.2 ⟨rfl,hw⟩⟩
theorem argBytes {H:Type} {enc:TypeId × Value->H} {w:World} {r:Go.Reach} {base:Nat} {sp:Nat->Bool} {held:Bool} {v:Value} {d:DataW H} {p:List MemPlace} (hv:Value.okWide Tryz.prog w r base 22 v) (h:DataW.Trod enc Tryz.prog w 0 sp held 22 v d p):
 ∃ (l:List Int) (A:Option Addr) (c:Nat),v= .slice A l.length c/\Sl w (Lt w.heap.size) 1 A c (l.map (D.num .u8)):=by
 obtain⟨a,len,cap,rfl⟩:=okWide_slice Tryz.underlying22 hv
 obtain⟨fuel,hf⟩:=h
 obtain⟨l,hl⟩:=open_sl 1 (by decide) Tryz.underlying22 (by kernel_rfl) (D.num .u8) (fun n2 cs x hn h=>open_byte_el Tryz.underlying5 h) hf
 obtain⟨A,c,e,hs⟩:=D.rd_sl.1 hl
 simp only [Value.cells,List.cons.injEq,List.length_map,and_true] at e
 exact⟨l,A,c,e,hs⟩
structure Turned (g:Nat) (w w':World):Prop where
 os:w'.os=w.os
 tape:w'.tape=w.tape
 output:w'.output=w.output
 size:w.heap.size<=w'.heap.size
 block:∀ k,k<w.heap.size->k≠g->w'.heap[k]? =w.heap[k]?
theorem Turned.refl (g:Nat) (w:World):Turned g w w:=⟨rfl,rfl,rfl,Nat.le_refl _,fun _ _ _=>rfl⟩
theorem Turned.trans {g:Nat} {a b c:World} (h:Turned g a b) (k:Turned g b c):Turned g a c:=
 ⟨k.os.trans h.os,k.tape.trans h.tape,k.output.trans h.output,Nat.le_trans h.size k.size,fun i hi hg=>(k.block i (Nat.lt_of_lt_of_le hi h.size) hg).trans (h.block i hi hg)⟩
theorem Turned.setCell {g:Nat} {a w:World} (h:Turned g a w) (i:Nat) (u:Value):Turned g a (w.setCell ⟨g,i,none⟩ u):=
 h.trans ⟨rfl,rfl,rfl,by simp [World.setCell],fun k _ hg=>Below.heap_setCell _ _ _ _ hg⟩
theorem Turned.drew {g:Nat} {a w:World} (h:Turned g a w):Turned g a w.drew:=⟨h.os,h.tape,h.output,h.size,h.block⟩
theorem Turned.alloc {g:Nat} {a w:World} (h:Turned g a w) (o:Obj):Turned g a (w.alloc o):=
 h.trans ⟨rfl,rfl,rfl,by simp,fun k hk _=>Below.heap_alloc _ _ _ hk⟩
theorem Turned.below {g B:Nat} {w w':World} (h:Turned g w w') (hB:B<=w.heap.size) (hg:B<=g):Below B w w':=
 ⟨h.os,h.tape,h.output,h.size,fun k hk=>h.block k (by omega) (by omega)⟩
theorem Row.turned {g:Nat} {w w':World} {k:Nat} {t:TypeId} {cs:Array Value} (h:Row w k t cs) (ht:Turned g w w') (hk:k≠g):Row w' k t cs:=(ht.block k h.lt hk).trans h
structure Cur (l:List Int) (A:Option Addr) (c:Nat) (w:World) (g:Nat) (i:Nat) (h:Int):Prop where
 row:Row w g 63 #[.slice A l.length c,.int .i64 (i:Int),.int .i64 h]
 le:i<=l.length
 fit: -9223372036854775808<=h/\h<=9223372036854775807
 code:Sl w (Lt g) 1 A c (l.map (D.num .u8))
theorem Cur.turned {l:List Int} {A:Option Addr} {c:Nat} {w w':World} {g i:Nat} {h:Int} (hc:Cur l A c w g i h) {g':Nat} (ht:Turned g' w w') (hg:g<g'):Cur l A c w' g i h:=
 ⟨hc.row.turned ht (by omega),hc.le,hc.fit,hc.code.keep fun b hb=>⟨hb,ht.block b (Nat.lt_trans hb hc.row.lt) (by unfold Lt at hb;omega)⟩⟩
theorem Cur.below {l:List Int} {A:Option Addr} {c:Nat} {w w':World} {g i:Nat} {h:Int} (hc:Cur l A c w g i h) {B:Nat} (ht:Below B w w') (hg:g<B):Cur l A c w' g i h:=
 ⟨hc.row.below ht hg,hc.le,hc.fit,hc.code.keep fun b hb=>⟨hb,ht.block b (by unfold Lt at hb;omega)⟩⟩
def Drawn (l:List Int) (A:Option Addr) (c:Nat) (g:Nat) (P:Int->Prop) (w:World) (e:Ending) (w':World):Prop:=
 ∃ (x:Int) (i:Nat) (h:Int),e= .returned (.int .i64 x)/\P x/\Cur l A c w' g i h/\Turned g w w'
theorem drawByte {l:List Int} {A:Option Addr} {c:Nat} {w:World} {g i:Nat} {h:Int} (hc:Cur l A c w g i h):
 Calls Tryz.prog 48 #[.pointer (some ⟨g,0,none⟩)] w (Drawn l A c g (fun x=>0<=x/\x<=255) w):=by
 obtain⟨hrow,hle,hfit,hcode⟩:=hc
 have R0:=LH hrow
 have c0:=fun i=>hrow.cell i
 have f0:=fun i=>hrow.frozen i
 have C0:=LH hcode
 clear hrow hcode
 have H:∀ n,bits .and .i64 n 255=n % 256:=i64_and255
 have hln:l.length<=9223372036854775807:=by simpa using C0.out.len
 obtain⟨h',eh⟩:∃ h',h'=wrap64 (wrap64 (h*6364136223846793005)+1442695040888963407):=⟨_,rfl⟩
 have R1:=LH (show Row (w.setCell ⟨g,2,none⟩ (.int .i64 h')) g 63 #[.slice A l.length c,.int .i64 (i:Int),.int .i64 h'] from R0.out.set 2 _)
 have c1:∀ k,(w.setCell ⟨g,2,none⟩ (.int .i64 h')).drew.cell? ⟨g,k,none⟩=(#[.slice A l.length c,.int .i64 (i:Int),.int .i64 h']:Array Value)[k]?:=fun k=>R1.out.cell k
 have T1:=LH ((Turned.refl g w).setCell 2 (.int .i64 h'))
 have fit: -9223372036854775808<=h'/\h'<=9223372036854775807:=by rw [eh];unfold wrap64;omega
 have EH:=LH eh.symm
 have FIT:=LH fit
 clear eh fit
 by_cases hi:i<l.length
 ·
  obtain⟨b,off,rfl,hb,hcell,hb0,hb1⟩:=byteElem C0.out i hi
  have hbg:b≠g:=by unfold Lt at hb;omega
  go_enter Tryz.func48,Tryz.ntmps48
  go_wp2_with fail
  rw [EH.out]
  have HC:=LH (show(w.setCell ⟨g,2,none⟩ (.int .i64 h')).cell? ⟨b,off+i,none⟩=some (.int .u8 l[i]) from(World.cell?_setCell_other _ _ _ _ (fun e=>hbg (congrArg Addr.block e).symm)).trans hcell)
  clear hcell c0 f0
  generalize w.setCell ⟨g,2,none⟩ (.int .i64 h')=w1 at*
  go_region_held3 (fun w'=>∀ k,w'.cell? ⟨g,k,none⟩=(#[.slice (some ⟨b,off,none⟩) l.length c,.int .i64 (i:Int),.int .i64 h']:Array Value)[k]?) (first | exact c1) (fail)
  have hx0:0<=bits BinOp.xor IntKind.i64 (h' / 8589934592) (h' / 35184372088832) % 256:=by omega
  have hx1:bits BinOp.xor IntKind.i64 (h' / 8589934592) (h' / 35184372088832) % 256<=255:=by omega
  generalize bits BinOp.xor IntKind.i64 (h' / 8589934592) (h' / 35184372088832) % 256=x at*
  go_wp2_with fail
  go_region_held3 (fun w'=>∀ k,w'.cell? ⟨g,k,none⟩=(#[.slice (some ⟨b,off,none⟩) l.length c,.int .i64 (i:Int),.int .i64 h']:Array Value)[k]?) (first | exact fun k=>R1.out.cell k) (fail)
  go_wp2_with fail
  go_region_held3 (fun w'=>(∀ k,w'.cell? ⟨g,k,none⟩=(#[.slice (some ⟨b,off,none⟩) l.length c,.int .i64 (i:Int),.int .i64 h']:Array Value)[k]?)/\w'.cell? ⟨b,off+i,none⟩=some (.int .u8 l[i])) (first | exact⟨fun k=>R1.out.cell k,HC.out⟩) (fail)
  have c2:∀ k,w1.cell? ⟨g,k,none⟩=(#[.slice (some ⟨b,off,none⟩) l.length c,.int .i64 (i:Int),.int .i64 h']:Array Value)[k]?:=fun k=>R1.out.cell k
  have f2:∀ k,w1.frozen? ⟨g,k,none⟩=false:=fun k=>R1.out.frozen k
  go_wp2_with fail
  have R2:=LH (show Row (w1.drew.drew.drew.setCell ⟨g,1,none⟩ (.int .i64 ((i:Int)+1))) g 63 #[.slice (some ⟨b,off,none⟩) l.length c,.int .i64 ((i:Int)+1),.int .i64 h'] from Row.set (w:=w1.drew.drew.drew) R1.out 1 _)
  have T2:=LH (((T1.out.drew.drew.drew).setCell 1 (.int .i64 ((i:Int)+1))))
  go_ret
  exact⟨_,i+1,h',rfl,⟨Int.emod_nonneg _ (by omega),by omega⟩,⟨R2.out,hi,FIT.out,C0.out.keep fun k hk=>⟨hk,T2.out.block k (by have:=R0.out.lt;unfold Lt at hk;omega) (by unfold Lt at hk;omega)⟩⟩,T2.out⟩
 ·
  go_enter Tryz.func48,Tryz.ntmps48
  go_wp2_with fail
  rw [EH.out]
  clear c0 f0
  generalize w.setCell ⟨g,2,none⟩ (.int .i64 h')=w1 at*
  go_region_held3 (fun w'=>∀ k,w'.cell? ⟨g,k,none⟩=(#[.slice A l.length c,.int .i64 (i:Int),.int .i64 h']:Array Value)[k]?) (first | exact c1) (fail)
  have hx0:0<=bits BinOp.xor IntKind.i64 (h' / 8589934592) (h' / 35184372088832) % 256:=by omega
  have hx1:bits BinOp.xor IntKind.i64 (h' / 8589934592) (h' / 35184372088832) % 256<=255:=by omega
  generalize bits BinOp.xor IntKind.i64 (h' / 8589934592) (h' / 35184372088832) % 256=x at*
  go_wp2_with fail
  go_region_held3 (fun w'=>∀ k,w'.cell? ⟨g,k,none⟩=(#[.slice A l.length c,.int .i64 (i:Int),.int .i64 h']:Array Value)[k]?) (first | exact fun k=>R1.out.cell k) (fail)
  go_wp2_with fail
  have T2:=LH (T1.out.drew.drew)
  go_ret
  exact⟨_,i,h',rfl,⟨hx0,hx1⟩,⟨R1.out,hle,FIT.out,C0.out.keep fun k hk=>⟨hk,T2.out.block k (by have:=R0.out.lt;unfold Lt at hk;omega) (by unfold Lt at hk;omega)⟩⟩,T2.out⟩
theorem drawBelow {l:List Int} {A:Option Addr} {c:Nat} {w:World} {g i:Nat} {h:Int} (hc:Cur l A c w g i h) (n:Int) (h1:1<=n) (h2:n<=256):
 Calls Tryz.prog 35 #[.pointer (some ⟨g,0,none⟩),.int .i64 n] w (Drawn l A c g (fun x=>0<=x/\x<n) w):=by
 have C0:=LH hc
 clear hc
 have hn0:¬ n<=0:=by omega
 go_enter Tryz.func35,Tryz.ntmps35
 go_wp2_with fail
 refine(drawByte C0.out).mono ?_
 rintro e w1 ⟨x,i1,h1',rfl,hx,hc1,ht⟩
 have C1:=LH hc1
 have T1:=LH ht
 clear hc1 ht
 obtain⟨hx0,hx1⟩:=hx
 go_wp2_with fail
 go_ret
 exact⟨_,i1,h1',rfl,⟨Int.emod_nonneg _ (by omega),Int.emod_lt_of_pos _ (by omega)⟩,C1.out,T1.out⟩
def NewCur (l:List Int) (A:Option Addr) (c:Nat) (w:World) (e:Ending) (w':World):Prop:=
 ∃ (h:Int),e= .returned (.pointer (some ⟨w.heap.size,0,none⟩))/\Cur l A c w' w.heap.size 0 h/\Below w.heap.size w w'
theorem newCur (l:List Int) (A:Option Addr) (c:Nat) (w:World) (hs:Sl w (Lt w.heap.size) 1 A c (l.map (D.num .u8))) (hl:l.length<=1048576):
 Calls Tryz.prog 17 #[.slice A l.length c] w (NewCur l A c w):=by
 have S0:=LH hs
 have H:∀ n,bits .and .i64 n 1073741823=n % 1073741824:=i64_and30
 clear hs
 go_enter Tryz.func17,Tryz.ntmps17
 go_wp2_with fail
 have hln:l.length<=9223372036854775807:=by omega
 go_loop [3,4] (fun x i=>∃ (k:Nat) (hv:Int),k<=l.length/\i= .int .i64 (k:Int)/\x= .int .i64 hv/\0<=hv/\hv<=1073741823) (fun _ i=>l.length - (intOf i).toNat)
 case atStart=>exact⟨0,21958+l.length,by omega,by go_num,by go_num,by omega,by omega⟩
 case round=>
  obtain⟨k,hv,hk,rfl,rfl,hv0,hv1⟩:=hrel
  by_cases hlt:k<l.length
  ·
   by_cases h4:(k:Int)<4000
   · obtain⟨b,off,rfl,hb,hcell,hb0,hb1⟩:=byteElem S0.out k hlt
     go_wp2_with fail
     go_round
     case rel=>exact⟨k+1,_,by omega,by go_num,rfl,Int.emod_nonneg _ (by omega),by omega⟩
     case measure=>simp [intOf];omega
   · go_wp2_with fail
     go_ret
     exact⟨hv,rfl,⟨Row.new _ _ _,Nat.zero_le _,by omega,S0.out.keep fun b hb=>⟨hb,Below.heap_alloc _ _ _ hb⟩⟩,(Below.refl _ _).alloc (Nat.le_refl _) _⟩
  · go_wp2_with fail
    go_ret
    exact⟨hv,rfl,⟨Row.new _ _ _,Nat.zero_le _,by omega,S0.out.keep fun b hb=>⟨hb,Below.heap_alloc _ _ _ hb⟩⟩,(Below.refl _ _).alloc (Nat.le_refl _) _⟩
theorem drawPickInt {l:List Int} {A:Option Addr} {c:Nat} {w:World} {g i:Nat} {h:Int} (hc:Cur l A c w g i h) (vs:List Int) (b:Nat) (hb:b≠g) (t:TypeId) (hr:Row w b t (vs.map (Value.int .i64)).toArray) (h1:1<=vs.length) (h2:vs.length<=256)
 (P:Int->Prop) (hP:∀ x∈vs,P x):
 Calls Tryz.prog 20 #[.pointer (some ⟨g,0,none⟩),.slice (some ⟨b,0,none⟩) vs.length vs.length] w (Drawn l A c g P w):=by
 have C0:=LH hc
 have R0:=LH hr
 have HP:=LH hP
 clear hc hr hP
 go_enter Tryz.func20,Tryz.ntmps20
 go_wp2_with fail
 refine(drawBelow C0.out (vs.length:Int) (by omega) (by omega)).mono ?_
 rintro e w1 ⟨x,i1,h1',rfl,hx,hc1,ht⟩
 obtain⟨hx0,hx1⟩:=hx
 obtain⟨n,rfl⟩:=Int.eq_ofNat_of_zero_le hx0
 have hn:n<vs.length:=by omega
 have hcell:w1.cell? ⟨b,n,none⟩=some (.int .i64 vs[n]):=((R0.out.turned ht hb).cell n).trans (by simp [hn])
 have C1:=LH hc1
 have T1:=LH ht
 clear hc1 ht
 go_wp2_with fail
 go_ret
 exact⟨_,i1,h1',rfl,HP.out _ (List.getElem_mem hn),C1.out,T1.out⟩
def DrawnS (l:List Int) (A:Option Addr) (c:Nat) (g:Nat) (P:ByteArray->Prop) (w:World) (e:Ending) (w':World):Prop:=
 ∃ (x:ByteArray) (i:Nat) (h:Int),e= .returned (.string x)/\P x/\Cur l A c w' g i h/\Turned g w w'
theorem drawPick {l:List Int} {A:Option Addr} {c:Nat} {w:World} {g i:Nat} {h:Int} (hc:Cur l A c w g i h) (vs:List ByteArray) (b:Nat) (hb:b≠g) (t:TypeId) (hr:Row w b t (vs.map Value.string).toArray) (h1:1<=vs.length) (h2:vs.length<=256)
 (P:ByteArray->Prop) (hP:∀ x∈vs,P x):
 Calls Tryz.prog 36 #[.pointer (some ⟨g,0,none⟩),.slice (some ⟨b,0,none⟩) vs.length vs.length] w (DrawnS l A c g P w):=by
 have C0:=LH hc
 have R0:=LH hr
 have HP:=LH hP
 clear hc hr hP
 go_enter Tryz.func36,Tryz.ntmps36
 go_wp2_with fail
 refine(drawBelow C0.out (vs.length:Int) (by omega) (by omega)).mono ?_
 rintro e w1 ⟨x,i1,h1',rfl,hx,hc1,ht⟩
 obtain⟨hx0,hx1⟩:=hx
 obtain⟨n,rfl⟩:=Int.eq_ofNat_of_zero_le hx0
 have hn:n<vs.length:=by omega
 have hcell:w1.cell? ⟨b,n,none⟩=some (.string vs[n]):=((R0.out.turned ht hb).cell n).trans (by simp [hn])
 have C1:=LH hc1
 have T1:=LH ht
 clear hc1 ht
 go_wp2_with fail
 go_ret
 exact⟨_,i1,h1',rfl,HP.out _ (List.getElem_mem hn),C1.out,T1.out⟩
end Go.Proofs.YtgbjdhfaklmjcaaGreat
namespace Go.Proofs.YtgbjdhfaklmjcaaGreat
set_option maxRecDepth 20000
set_option linter.unusedVariables false
set_option linter.unusedSimpArgs false
open Go.RowKit
inductive GValue where
 | mk (kind:Int) (n:Int) (s:ByteArray) (kids:List GValue)
def GValue.kind:GValue->Int | .mk x _ _ _=>x
def GValue.n:GValue->Int | .mk _ x _ _=>x
def GValue.s:GValue->ByteArray | .mk _ _ x _=>x
def GValue.kids:GValue->List GValue | .mk _ _ _ x=>x
mutual
def GValue.toD:GValue->D | .mk kind n s kids=>.agg [.num .i64 kind,.num .i64 n,.str s,.sl 4 (GValue.toDs kids)]
def GValue.toDs:List GValue->List D | []=>[] | t::r=>t.toD::GValue.toDs r
end
theorem GValue.toDs_map:∀ l:List GValue,GValue.toDs l=l.map GValue.toD
 | []=>rfl
 | t::r=>by simp only [GValue.toDs,List.map_cons,GValue.toDs_map r]
mutual
def GValue.bulk:GValue->Nat | .mk _ _ s kids=>s.size+GValue.bulks kids
def GValue.bulks:List GValue->Nat | []=>0 | t::r=>1+t.bulk+GValue.bulks r
end
theorem GValue.bulks_eq:∀ l:List GValue,GValue.bulks l=bulkL GValue.bulk l
 | []=>rfl
 | t::r=>by simp only [GValue.bulks,bulkL,GValue.bulks_eq r]
theorem GValue.bulk_eq (t:GValue):t.bulk=t.s.size+bulkL GValue.bulk t.kids:=by
 cases t;simp only [GValue.bulk,GValue.bulks_eq,GValue.kind,GValue.n,GValue.s,GValue.kids]
def GValue.At (w:World) (S:Nat->Prop) (A1:Option Addr) (c1:Nat) (t:GValue):Prop:=
 (Lit.int .i64 t.kind).wf=true/\(Lit.int .i64 t.n).wf=true/\t.s.size<=maxLen/\Sl w S 4 A1 c1 (t.kids.map GValue.toD)
theorem GValue.rd {w:World} {S:Nat->Prop} {t:GValue} {cs:List Value} (h:t.toD.rd w S cs):∃ A1 c1,cs= [.int .i64 t.kind,.int .i64 t.n,.string t.s,.slice A1 t.kids.length c1]/\GValue.At w S A1 c1 t:=by
 cases t with
 | mk kind n s kids=>
 simp only [GValue.toD,GValue.toDs_map] at h
 rw [D.rd_agg] at h
 rw [D.rdF_cons] at h
 obtain⟨x0,r0,rfl,k0,h⟩:=h
 obtain⟨rfl,h0⟩:=D.rd_num.1 k0
 rw [D.rdF_cons] at h
 obtain⟨x1,r1,rfl,k1,h⟩:=h
 obtain⟨rfl,h1⟩:=D.rd_num.1 k1
 rw [D.rdF_cons] at h
 obtain⟨x2,r2,rfl,k2,h⟩:=h
 obtain⟨rfl,h2⟩:=D.rd_str.1 k2
 rw [D.rdF_cons] at h
 obtain⟨x3,r3,rfl,k3,h⟩:=h
 obtain⟨A1,c1,rfl,h3⟩:=D.rd_sl.1 k3
 obtain rfl:=D.rdF_nil.1 h
 exact⟨A1,c1,by simp [GValue.kind,GValue.n,GValue.s,GValue.kids],h0,h1,h2,h3⟩
theorem GValue.rd_mk {w:World} {S:Nat->Prop} {t:GValue} {A1:Option Addr} {c1:Nat} (h:GValue.At w S A1 c1 t):t.toD.rd w S [.int .i64 t.kind,.int .i64 t.n,.string t.s,.slice A1 t.kids.length c1]:=by
 cases t with
 | mk kind n s kids=>
 simp only [GValue.toD,GValue.toDs_map]
 unfold GValue.At at h
 obtain⟨h0,h1,h2,h3⟩:=h
 rw [D.rd_agg]
 exact D.rdF_cons.2 ⟨[_],[_,_,_],rfl,D.rd_num.2 ⟨rfl,h0⟩,D.rdF_cons.2 ⟨[_],[_,_],rfl,D.rd_num.2 ⟨rfl,h1⟩,D.rdF_cons.2 ⟨[_],[_],rfl,D.rd_str.2 ⟨rfl,h2⟩,D.rdF_cons.2 ⟨[_],[],rfl,D.rd_sl.2 ⟨A1,c1,by simp [GValue.kids],h3⟩,D.rdF_nil.2 rfl⟩⟩⟩⟩
theorem GValue.elem {w:World} {S:Nat->Prop} {A:Option Addr} {c:Nat} {l:List GValue} (h:Sl w S 4 A c (l.map GValue.toD)) (i:Nat) (hi:i<l.length):
 ∃ b off A1 c1,A=some ⟨b,off,none⟩/\S b/\w.cell? ⟨b,off+i*4,none⟩=some (.int .i64 l[i].kind)/\w.cell? ⟨b,off+i*4+1,none⟩=some (.int .i64 l[i].n)/\w.cell? ⟨b,off+i*4+2,none⟩=some (.string l[i].s)/\w.cell? ⟨b,off+i*4+3,none⟩=some (.slice A1 l[i].kids.length c1)/\GValue.At w S A1 c1 l[i]:=by
 obtain⟨b,off,cs,e,hb,hl,hc,hr⟩:=Sl.get h i (by simpa using hi)
 rw [List.getElem_map] at hr
 obtain⟨A1,c1,rfl,h1⟩:=GValue.rd hr
 exact⟨b,off,A1,c1,e,hb,hc 0 _ rfl,hc 1 _ rfl,hc 2 _ rfl,hc 3 _ rfl,h1⟩
theorem GValue.At.keep {w w':World} {S S':Nat->Prop} {t:GValue} {A1:Option Addr} {c1:Nat} (h:GValue.At w S A1 c1 t) (hk:∀ b,S b->S' b/\w'.heap[b]? =w.heap[b]?):GValue.At w' S' A1 c1 t:=by
 unfold GValue.At at h ⊢
 obtain⟨h0,h1,h2,h3⟩:=h
 exact⟨h0,h1,h2,h3.keep hk⟩
theorem GValue.At.below {w w':World} {B B':Nat} {t:GValue} {A1:Option Addr} {c1:Nat} (h:GValue.At w (Lt B) A1 c1 t) (hb:Below B w w') (hB:B<=B'):GValue.At w' (Lt B') A1 c1 t:=
 h.keep (keep_below hb hB)
def GValue.Ow (w:World) (S:Nat->Prop) (A1:Option Addr) (c1:Nat) (t:GValue):Prop:=
 (Lit.int .i64 t.kind).wf=true/\(Lit.int .i64 t.n).wf=true/\t.s.size<=maxLen/\Osl w S 4 A1 c1 (t.kids.map GValue.toD)
theorem GValue.own_mk {w:World} {S:Nat->Prop} {t:GValue} {A1:Option Addr} {c1:Nat} (h:GValue.Ow w S A1 c1 t):t.toD.own w S [.int .i64 t.kind,.int .i64 t.n,.string t.s,.slice A1 t.kids.length c1]:=by
 cases t with
 | mk kind n s kids=>
 simp only [GValue.toD,GValue.toDs_map]
 unfold GValue.Ow at h
 obtain⟨h0,h1,h2,h3⟩:=h
 rw [D.own_agg]
 exact D.ownF_plain (c1:=[_]) (c2:=[_,_,_]) (D.own_num.2 ⟨rfl,h0⟩) (D.ownF_plain (c1:=[_]) (c2:=[_,_]) (D.own_num.2 ⟨rfl,h1⟩) (D.ownF_plain (c1:=[_]) (c2:=[_]) (D.own_str.2 ⟨rfl,h2⟩) (D.ownF_last (D.own_sl.2 ⟨A1,c1,by simp [GValue.kids],h3⟩))))
theorem GValue.Ow.keep {w w':World} {S S':Nat->Prop} {t:GValue} {A1:Option Addr} {c1:Nat} (h:GValue.Ow w S A1 c1 t) (hk:∀ b,S b->S' b/\w'.heap[b]? =w.heap[b]?):GValue.Ow w' S' A1 c1 t:=by
 unfold GValue.Ow at h ⊢
 obtain⟨h0,h1,h2,h3⟩:=h
 exact⟨h0,h1,h2,h3.keep hk⟩
theorem GValue.Ow.at {w:World} {S:Nat->Prop} {t:GValue} {A1:Option Addr} {c1:Nat} (h:GValue.Ow w S A1 c1 t):GValue.At w S A1 c1 t:=by
 unfold GValue.Ow at h
 unfold GValue.At
 obtain⟨h0,h1,h2,h3⟩:=h
 exact⟨h0,h1,h2,h3.sl⟩
set_option maxHeartbeats 1000000
structure Dm (l:List Int) (A:Option Addr) (c:Nat) (g:Nat) (w w':World):Prop where
 cur:∃ (i:Nat) (h:Int),Cur l A c w' g i h
 bx:Bx g w w'
theorem Turned.bx {g:Nat} {w w':World} (h:Turned g w w'):Bx g w w':=⟨h.os,h.tape,h.output,h.size,h.block⟩
theorem Bx.turned {g:Nat} {w w':World} (h:Bx g w w'):Turned g w w':=⟨h.os,h.tape,h.output,h.size,h.block⟩
section
variable {l:List Int} {A:Option Addr} {c:Nat} {g:Nat} {w a b d:World}
theorem Dm.start {i:Nat} {h:Int} (hc:Cur l A c w g i h):Dm l A c g w w:=⟨⟨i,h,hc⟩,Bx.refl _ _⟩
theorem Dm.lt (h:Dm l A c g a b):g<b.heap.size:=by obtain⟨i,k,hc⟩:=h.cur;exact hc.row.lt
theorem Dm.size (h:Dm l A c g a b):a.heap.size<=b.heap.size:=h.bx.size
theorem Dm.trans (h:Dm l A c g a b) (k:Dm l A c g b d):Dm l A c g a d:=⟨k.cur,h.bx.trans k.bx⟩
theorem Dm.below (h:Dm l A c g a b) (k:Below b.heap.size b d):Dm l A c g a d:=by
 obtain⟨i,x,hc⟩:=h.cur
 exact⟨⟨i,x,hc.below k hc.row.lt⟩,h.bx.trans (Bx.of_below k (Nat.le_refl _))⟩
theorem Dm.again (h:Dm l A c g a b):Dm l A c g b b:=⟨h.cur,Bx.refl _ _⟩
theorem Dm.chg {q:Nat} (h:Dm l A c g a b) (k:Bx q b d) (hq:a.heap.size<=q) (hg:g<a.heap.size):Dm l A c g a d:=by
 obtain⟨i,x,hc⟩:=h.cur
 have hz:=h.size
 exact⟨⟨i,x,hc.turned k.turned (by omega)⟩,⟨k.os.trans h.bx.os,k.tape.trans h.bx.tape,k.output.trans h.bx.output,Nat.le_trans hz k.size,fun y hy hyg=>(k.block y (by omega) (by omega)).trans (h.bx.block y hy hyg)⟩⟩
end
theorem drawBelowD {l:List Int} {A:Option Addr} {c:Nat} {g:Nat} {a w:World} (m:Dm l A c g a w) (n:Int) (h1:1<=n) (h2:n<=256):
 Calls Tryz.prog 35 #[.pointer (some ⟨g,0,none⟩),.int .i64 n] w fun e w'=>∃ x:Int,e= .returned (.int .i64 x)/\(0<=x/\x<n)/\Dm l A c g w w':=by
 obtain⟨i,h,hc⟩:=m.cur
 refine(drawBelow hc n h1 h2).mono ?_
 rintro e w1 ⟨x,i1,k1,rfl,hx,hc1,ht⟩
 exact⟨x,rfl,hx,⟨⟨i1,k1,hc1⟩,ht.bx⟩⟩
theorem drawOnceD {l:List Int} {A:Option Addr} {c:Nat} {g:Nat} {a w:World} (m:Dm l A c g a w) (n:Int) (h1:1<=n) (h2:n<=256):
 Calls Tryz.prog 24 #[.pointer (some ⟨g,0,none⟩),.int .i64 n] w fun e w'=>∃ b:Bool,e= .returned (.bool b)/\Dm l A c g w w':=by
 have M:=LH m
 clear m
 go_enter Tryz.func24,Tryz.ntmps24
 go_wp2_with fail
 refine(drawBelowD M.out n h1 h2).mono ?_
 rintro e w1 ⟨x,rfl,hx,hm⟩
 have M1:=LH hm
 clear hm hx
 go_wp2_with fail
 go_ret
 exact⟨_,rfl,M1.out⟩
theorem short_le {s:ByteArray} (h:s.size<=8):s.size<=maxLen:=by unfold maxLen;omega
theorem int_wfS {n:Int} (h: -1000<=n/\n<=1000):(Lit.int .i64 n).wf=true:=by
 simp [Lit.wf,IntKind.min,IntKind.max,IntKind.signed,IntKind.bits];omega
theorem GValue.leaf {w:World} {S:Nat->Prop} {k n:Int} {s:ByteArray} (h1:(Lit.int .i64 k).wf=true) (h2:(Lit.int .i64 n).wf=true) (h3:s.size<=maxLen):GValue.At w S none 0 (.mk k n s []):=⟨h1,h2,h3,Sl.nil (by unfold maxLen;omega)⟩
set_option maxHeartbeats 2000000
set_option maxHeartbeats 1000000
set_option maxHeartbeats 2000000
theorem drawPickD {l:List Int} {A:Option Addr} {c:Nat} {g:Nat} {a w:World} (m:Dm l A c g a w) (vs:List ByteArray) (b:Nat) (hb:b≠g) (t:TypeId) (hr:Row w b t (vs.map Value.string).toArray) (h1:1<=vs.length) (h2:vs.length<=256) (P:ByteArray->Prop) (hP:∀ x∈vs,P x):
 Calls Tryz.prog 36 #[.pointer (some ⟨g,0,none⟩),.slice (some ⟨b,0,none⟩) vs.length vs.length] w fun e w'=>∃ x:ByteArray,e= .returned (.string x)/\P x/\Dm l A c g w w':=by
 obtain⟨i,h,hc⟩:=m.cur
 refine(drawPick hc vs b hb t hr h1 h2 P hP).mono ?_
 rintro e w1 ⟨x,i1,k1,rfl,hx,hc1,ht⟩
 exact⟨x,rfl,hx,⟨⟨i1,k1,hc1⟩,ht.bx⟩⟩
theorem wf64R {n:Int} (h: -9223372036854775808<=n/\n<=9223372036854775807):(Lit.int .i64 n).wf=true:=by
 simp [Lit.wf,IntKind.min,IntKind.max,IntKind.signed,IntKind.bits];omega
set_option maxRecDepth 100000 in
theorem progTexts (w:World):Calls Tryz.prog 60 #[] w fun e w'=>∃ b,e= .returned (.slice (some ⟨b,0,none⟩) 7 7)/\w.heap.size<=b/\Hid (Row w' b 9 ([prg1,prg2,prg3,prg4,prg5,prg6,prg7].map Value.string).toArray)/\Below w.heap.size w w':=by
 go_enter Tryz.func60,Tryz.ntmps60
 go_wp2_with fail
 go_ret
 exact⟨w.heap.size,rfl,Nat.le_refl _,LH (Row.new w 9 ([prg1,prg2,prg3,prg4,prg5,prg6,prg7].map Value.string).toArray),(Below.refl _ _).alloc (Nat.le_refl _) _⟩
theorem drawSource {l:List Int} {A:Option Addr} {c:Nat} {g:Nat} {w0 w:World} (hm0:Dm l A c g w0 w):Calls Tryz.prog 47 #[.pointer (some ⟨g,0,none⟩)] w fun e w'=>∃ s,e= .returned (.string s)/\PrgT s/\Dm l A c g w w':=by
 have hm:=hm0.again
 clear hm0
 have hgl:=hm.lt
 have M0:=LH hm
 clear hm
 go_enter Tryz.func47,Tryz.ntmps47
 go_wp2_with fail
 refine(progTexts w).mono ?_
 rintro e w1 ⟨b,rfl,hb,hr,hb1⟩
 have M1:=LH (M0.out.below hb1)
 clear hb1 M0
 go_wp2_with fail
 refine(drawPickD M1.out [prg1,prg2,prg3,prg4,prg5,prg6,prg7] b (by omega) 9 hr.out (by simp) (by simp) PrgT prgs_ok).mono ?_
 rintro e w2 ⟨s,rfl,hs,hm⟩
 have M2:=LH (M1.out.trans hm)
 clear hm
 go_wp2_with fail
 go_ret
 exact⟨s,rfl,hs,M2.out⟩
theorem DgR.form {w:World} {lo hi:Nat} {v:Value} {l:List GData} (h:DgR w lo hi v l):∃ A c,v= .slice A l.length c:=by
 obtain⟨cells,h1,-⟩:=h
 rcases h1.2 with ⟨rfl,h0⟩ | ⟨g,cap,cur,rfl,_⟩
 · exact⟨none,0,by rw [h0]⟩
 · exact⟨_,cap,rfl⟩
theorem wideP_main {p:GProg} (h:wideP p=true):wideN p.main=true:=by unfold wideP at h;simp only [Bool.and_eq_true] at h;exact h.1.1
theorem wideP_len {p:GProg} (h:wideP p=true):p.datas.length<=200:=by unfold wideP at h;simp only [Bool.and_eq_true,decide_eq_true_eq] at h;exact h.1.2
theorem wideP_cons {p:GProg} (h:wideP p=true):∀ d∈p.datas,d.cons.length<=200:=by
 unfold wideP at h
 simp only [Bool.and_eq_true,List.all_eq_true,decide_eq_true_eq] at h
 exact h.2
theorem litB_bulk {p:GProg} (h:litB p=true):p.bulk<=10000:=by unfold litB at h;simp only [Bool.and_eq_true,decide_eq_true_eq] at h;exact h.2
theorem drawRight {l:List Int} {A:Option Addr} {c:Nat} {g:Nat} {w0 w:World} (hm0:Dm l A c g w0 w):
 Calls Tryz.prog 33 #[.pointer (some ⟨g,0,none⟩)] w fun e w'=>∃ p A1 c1 A2 c2,e= .returned (.agg #[.slice A1 (GProg.datas p).length c1,.int .i64 (GNode.op (GProg.main p)),.int .i64 (GNode.n (GProg.main p)),.string (GNode.s (GProg.main p)),.string (GNode.t (GProg.main p)),.slice A2 (GNode.kids (GProg.main p)).length c2])/\(litB p=true/\wideP p=true)/\GProg.At w' (fun b=>w.heap.size<=b/\b<w'.heap.size) A1 c1 A2 c2 p/\Dm l A c g w w':=by
 have hm:=hm0.again
 clear hm0
 have hgl:=hm.lt
 have M0:=LH hm
 clear hm
 go_enter Tryz.func33,Tryz.ntmps33
 refine wp_hide (fun BP hBP=>?_)
 have HBP:=LH hBP
 clear hBP
 go_wp2_with fail
 obtain⟨w1,e1,Rr1,hz1,K1⟩:=boxed w 47 #[.slice none 0 0,.int .i64 0,.int .i64 0,.string ⟨#[]⟩,.string ⟨#[]⟩,.slice none 0 0]
 have M1:=LH (M0.out.chg K1.out (by omega) (by omega))
 rw [<- e1]
 clear e1
 have hlu1:=M1.out.lt
 have hcr1:=fun i=>Rr1.out.cell i
 have hfr1:=fun i=>Rr1.out.frozen i
 have hlr1:=Rr1.out.lt
 refine(drawSource M1.out).mono ?_
 clear hlu1 hcr1 hfr1 hlr1
 rintro e w2 ⟨s,rfl,hs,hm2⟩
 have hz2:=hm2.size
 have K2:=LH hm2.bx
 have Rr2:=LH (K2.out.row Rr1.out (by omega))
 have M2:=LH (M1.out.trans hm2)
 clear Rr1 M1
 clear hm2
 have hlu2:=M2.out.lt
 have hcr2:=fun i=>Rr2.out.cell i
 have hfr2:=fun i=>Rr2.out.frozen i
 have hlr2:=Rr2.out.lt
 have HS:=LH hs
 clear hs
 go_wp2_with fail
 refine(parsePrg s HS.out w2).mono ?_
 clear hlu2 hcr2 hfr2 hlr2
 rintro e w3 ⟨p,hp,A1,c1,A2,c2,rfl,ha3,hb3⟩
 have hz3:=hb3.size
 have K3:=LH (Bx.of_below (g:=g) hb3 (Nat.le_refl _))
 have DN3:=LH ha3
 have HPP:=LH hp
 have Rr3:=LH (K3.out.row Rr2.out (by omega))
 have M3:=LH (M2.out.below hb3)
 clear Rr2 M2
 clear hb3 ha3 hp HS
 have hlu3:=M3.out.lt
 have hcr3:=fun i=>Rr3.out.cell i
 have hfr3:=fun i=>Rr3.out.frozen i
 have hlr3:=Rr3.out.lt
 have DA:=LH DN3.out.1
 have DB:=LH DN3.out.2
 clear DN3
 go_upto_region 2 with (fail)
 clear hlu3 hcr3 hfr3 hlr3
 obtain⟨w4,e4,Rp4,hz4,K4⟩:=boxed w3 47 #[.slice A1 p.datas.length c1,.int .i64 p.main.op,.int .i64 p.main.n,.string p.main.s,.string p.main.t,.slice A2 p.main.kids.length c2]
 have Rr4:=LH (K4.out.row Rr3.out (by omega))
 have Dda4:=LH (DA.out.keep fun b hb=>⟨hb,K4.out.block b (by have:=hb.1;have:=hb.2;omega) (by have:=hb.1;have:=hb.2;omega)⟩)
 have Ddb4:=LH (DB.out.keep fun b hb=>⟨hb,K4.out.block b (by have:=hb.1;have:=hb.2;omega) (by have:=hb.1;have:=hb.2;omega)⟩)
 have M4:=LH (M3.out.chg K4.out (by omega) (by omega))
 clear Rr3 DA DB M3
 rw [<- e4]
 clear e4
 have hlu4:=M4.out.lt
 have hcr4:=fun i=>Rr4.out.cell i
 have hfr4:=fun i=>Rr4.out.frozen i
 have hlr4:=Rr4.out.lt
 have hcp4:=fun i=>Rp4.out.cell i
 have hfp4:=fun i=>Rp4.out.frozen i
 have hlp4:=Rp4.out.lt
 go_wp2_with fail
 clear hlu4 hcr4 hfr4 hlr4 hcp4 hfp4 hlp4
 obtain⟨w5,e5,RN5,hz5,K5⟩:=stored6 Rr4.out (.slice A1 p.datas.length c1) (.int .i64 p.main.op) (.int .i64 p.main.n) (.string p.main.s) (.string p.main.t) (.slice A2 p.main.kids.length c2)
 have Rp5:=LH (K5.out.row Rp4.out (by omega))
 have Dda5:=LH (Dda4.out.keep fun b hb=>⟨hb,K5.out.block b (by have:=hb.1;have:=hb.2;omega) (by have:=hb.1;have:=hb.2;omega)⟩)
 have Ddb5:=LH (Ddb4.out.keep fun b hb=>⟨hb,K5.out.block b (by have:=hb.1;have:=hb.2;omega) (by have:=hb.1;have:=hb.2;omega)⟩)
 have M5:=LH (M4.out.chg K5.out (by omega) (by omega))
 clear Rp4 Dda4 Ddb4 M4
 clear Rr4
 rw [<- e5]
 clear e5
 have hlu5:=M5.out.lt
 have hcp5:=fun i=>Rp5.out.cell i
 have hfp5:=fun i=>Rp5.out.frozen i
 have hlp5:=Rp5.out.lt
 have hcr5:=fun i=>RN5.out.cell i
 have hfr5:=fun i=>RN5.out.frozen i
 have hlr5:=RN5.out.lt
 show BP _ _
 rw [HBP.out]
 refine bodyPost_ret (v:=.agg #[.slice A1 p.datas.length c1,.int .i64 p.main.op,.int .i64 p.main.n,.string p.main.s,.string p.main.t,.slice A2 p.main.kids.length c2]) (by simp [results,Tryz.results33,go_sem,hcr5]) rfl ?_
 exact⟨p,A1,c1,A2,c2,rfl,HPP.out,⟨Dda5.out.keep (fun b hb=>⟨⟨by have h1:=hb.1;omega,by have h1:=hb.2;omega⟩,rfl⟩),Ddb5.out.keep (fun b hb=>⟨⟨by have h1:=hb.1;omega,by have h1:=hb.2;omega⟩,rfl⟩)⟩,M5.out⟩
theorem specProg (p:GProg) (A1:Option Addr) (c1:Nat) (A2:Option Addr) (c2:Nat) (w:World) (hb:p.bulk<=10000) (hw:wideP p=true) (hat:GProg.At w (Lt w.heap.size) A1 c1 A2 c2 p):
 Calls Tryz.prog 32 #[.agg #[.slice A1 p.datas.length c1,.int .i64 p.main.op,.int .i64 p.main.n,.string p.main.s,.string p.main.t,.slice A2 p.main.kids.length c2]] w fun e w'=>∃ AD cD AM cM lo mid,e= .returned (.agg #[.slice AD p.datas.length cD,.int .i64 p.main.op,.int .i64 p.main.n,.string p.main.s,.string p.main.t,.slice AM p.main.kids.length cM])/\w.heap.size+2<=lo/\lo<=mid/\mid<=w'.heap.size/\DgR w' lo mid (.slice AD p.datas.length cD) p.datas/\gwN w' (fun b=>mid<=b/\b<w'.heap.size) p.main (.slice AM p.main.kids.length cM)/\Below w.heap.size w w':=by
 have HAT:=LH hat
 clear hat
 obtain⟨w1,e1,RA1,hz1,K1⟩:=boxed w 47 #[.slice A1 p.datas.length c1,.int .i64 p.main.op,.int .i64 p.main.n,.string p.main.s,.string p.main.t,.slice A2 p.main.kids.length c2]
 obtain⟨w2,e2,RR,hz2,K2⟩:=boxed w1 47 #[.slice none 0 0,.int .i64 0,.int .i64 0,.string ⟨#[]⟩,.string ⟨#[]⟩,.slice none 0 0]
 rw [hz1] at RR K2
 have RA:=LH (K2.out.row RA1.out (by omega))
 have B2:=LH (show Below w.heap.size w w2 by rw [e2,e1];exact((Below.refl _ _).alloc (Nat.le_refl _) _).alloc (by simp) _)
 have hzz:w.heap.size+2<=w2.heap.size/\w2.heap.size<=w.heap.size+2:=by omega
 clear hz1 hz2 K1 K2 RA1
 go_enter Tryz.func32,Tryz.ntmps32
 refine wp_hide (fun BP hBP=>?_)
 have HBP:=LH hBP
 clear hBP
 go_wp2_with fail
 rw [<- e1,<- e2]
 clear e1 e2
 refine wp_region_T (fun x=>Row x w.heap.size 47 #[.slice A1 p.datas.length c1,.int .i64 p.main.op,.int .i64 p.main.n,.string p.main.s,.string p.main.t,.slice A2 p.main.kids.length c2]) 100 (by kernel_rfl) ?_
 obtain⟨w3,e3⟩:∃ x,x=w2.drew:=⟨_,rfl⟩
 rw [<- e3]
 have K3:=LH (show Below w2.heap.size w2 w3 by rw [e3];exact(Below.refl _ _).drew)
 have hz3:w3.heap.size<=w2.heap.size/\w2.heap.size<=w3.heap.size:=by rw [e3];exact⟨Nat.le_refl _,Nat.le_refl _⟩
 clear e3
 have RA3:=LH (RA.out.below K3.out RA.out.lt)
 have RR3:=LH (RR.out.below K3.out RR.out.lt)
 have B3:=LH (B2.out.trans (K3.out.mono B2.out.size))
 have D3:=LH (HAT.out.1.below B3.out B3.out.size)
 have N3:=LH (HAT.out.2.below B3.out B3.out.size)
 clear RA RR B2 HAT
 refine wpAnyT_tk (i:=0) (oi:=_) (v:=?tv1) rfl (Or.inl ⟨by rfl,?th1⟩) RA3.out ?_
 case th1=>(intro x hSx;have hcS:=fun i=>(show Row x w.heap.size 47 #[.slice A1 p.datas.length c1,.int .i64 p.main.op,.int .i64 p.main.n,.string p.main.s,.string p.main.t,.slice A2 p.main.kids.length c2] from hSx).cell i;clear hSx;go_simp;(try with_reducible rfl))
 try simp only [nA,nB,nC,Act.put,nD,nE,nF]
 refine wpAnyT_tk (i:=1) (oi:=_) (v:=?tv2) rfl (Or.inl ⟨by rfl,?th2⟩) RA3.out ?_
 case th2=>(intro x hSx;have hcS:=fun i=>(show Row x w.heap.size 47 #[.slice A1 p.datas.length c1,.int .i64 p.main.op,.int .i64 p.main.n,.string p.main.s,.string p.main.t,.slice A2 p.main.kids.length c2] from hSx).cell i;clear hSx;go_simp;(try with_reducible rfl))
 try simp only [nA,nB,nC,Act.put,nD,nE,nF]
 refine wpAnyT_tk (i:=3) (oi:=_) (v:=?tv3) rfl (Or.inl ⟨by rfl,?th3⟩) RA3.out ?_
 case th3=>(intro x hSx;have hcS:=fun i=>(show Row x w.heap.size 47 #[.slice A1 p.datas.length c1,.int .i64 p.main.op,.int .i64 p.main.n,.string p.main.s,.string p.main.t,.slice A2 p.main.kids.length c2] from hSx).cell i;clear hSx;go_simp;(try with_reducible rfl))
 try simp only [nA,nB,nC,Act.put,nD,nE,nF]
 refine wpAnyT_tk (i:=4) (oi:=_) (v:=?tv4) rfl (Or.inl ⟨by rfl,?th4⟩) RA3.out ?_
 case th4=>(intro x hSx;have hcS:=fun i=>(show Row x w.heap.size 47 #[.slice A1 p.datas.length c1,.int .i64 p.main.op,.int .i64 p.main.n,.string p.main.s,.string p.main.t,.slice A2 p.main.kids.length c2] from hSx).cell i;clear hSx;go_simp;(try with_reducible rfl))
 try simp only [nA,nB,nC,Act.put,nD,nE,nF]
 refine wpAnyT_step (i:=2) (by kernel_rfl) rfl (fun K hK=>?_)
 try simp only [nA,nB,nC]
 go_simp
 refine(specDatas p.datas A1 c1 w3 (by have h1:=GProg.bulk_eq p;omega) (wideP_cons hw) D3.out).mono ?_
 rintro e w4 ⟨vD,rfl,hD,hb4⟩
 obtain⟨AD,cD,rfl⟩:=hD.form
 have hz4:=hb4.size
 have RA4:=LH (RA3.out.below hb4 RA3.out.lt)
 have RR4:=LH (RR3.out.below hb4 RR3.out.lt)
 have B4:=LH (B3.out.trans (hb4.mono B3.out.size))
 have N4:=LH (N3.out.below hb4 hb4.size)
 have HD4:=LH hD
 clear hb4 hD RA3 RR3 B3 D3 N3
 try simp only [nA,nB,nC]
 go_simp
 refine hK.out _ _ RA4.out (fun hS1=>?_)
 clear hK K
 try simp only [nA,nB,nC,Act.put,nD,nE,nF]
 refine wpAnyT_step (i:=5) (by kernel_rfl) rfl (fun K hK=>?_)
 try simp only [nA,nB,nC]
 go_simp
 refine(specNodeCopy (p.main.bulk+1) p.main A2 c2 w4 (Nat.lt_succ_self _) (wideP_main hw) N4.out).mono ?_
 rintro e w5 ⟨vM,rfl,hN,hb5⟩
 obtain⟨AM,cM,rfl⟩:=gwN_form hN
 have hz5:=hb5.size
 have RA5:=LH (RA4.out.below hb5 RA4.out.lt)
 have RR5:=LH (RR4.out.below hb5 RR4.out.lt)
 have B5:=LH (B4.out.trans (hb5.mono B4.out.size))
 have HD5:=LH (HD4.out.keep (w':=w5) (Nat.le_refl _) fun q h1 h2=>hb5.block q h2)
 have HN5:=LH hN
 clear hb5 hN RA4 RR4 B4 HD4 N4 hS1
 try simp only [nA,nB,nC]
 go_simp
 refine hK.out _ _ RA5.out (fun hS2=>?_)
 clear hK K
 try simp only [nA,nB,nC,Act.put,nD,nE,nF]
 refine wpAnyT_tk (i:=6) (oi:=_) (v:=?tv5) rfl (Or.inl ⟨by rfl,?th5⟩) RA5.out ?_
 case th5=>(intro x hSx;have hcS:=fun i=>(show Row x w.heap.size 47 #[.slice A1 p.datas.length c1,.int .i64 p.main.op,.int .i64 p.main.n,.string p.main.s,.string p.main.t,.slice A2 p.main.kids.length c2] from hSx).cell i;clear hSx;go_simp;(try with_reducible rfl))
 try simp only [nA,nB,nC,Act.put,nD,nE,nF]
 have hcr:=fun i=>RR5.out.cell i
 have hfr:=fun i=>RR5.out.frozen i
 have hlr:=RR5.out.lt
 refine wpAnyT_step (i:=7) (by kernel_rfl) rfl (fun K hK=>?_)
 try simp only [nA,nB,nC]
 go_simp
 obtain⟨w6,e6,RR6,hz6,K6⟩:=stored6 RR5.out (.slice AD p.datas.length cD) (.int .i64 p.main.op) (.int .i64 p.main.n) (.string p.main.s) (.string p.main.t) (.slice AM p.main.kids.length cM)
 rw [<- e6]
 clear e6 hcr hfr
 replace hz6:w6.heap.size<=w5.heap.size/\w5.heap.size<=w6.heap.size:=by omega
 have RA6:=LH (K6.out.row RA5.out (by omega))
 refine hK.out _ _ RA6.out (fun _=>?_)
 refine wpAnyT_done (by kernel_rfl) ?_ _
 clear hK K hS2
 have B6:=LH (B5.out.trans (K6.out.below (B:=w.heap.size) (by have:=B5.out.size;omega) (by omega)))
 have HD6:=LH (HD5.out.keep (w':=w6) (Nat.le_refl _) fun q h1 h2=>K6.out.block q (by omega) (by omega))
 have HN6:=LH (gwN_keep (w':=w6) (S':=fun b=>w4.heap.size<=b/\b<w6.heap.size) (fun q hq=>⟨⟨hq.1,by have:=hq.2;omega⟩,K6.out.block q hq.2 (by have:=hq.1;omega)⟩) _ _ HN5.out)
 have hc6:=fun i=>RR6.out.cell i
 go_wp2_with fail
 show BP _ _
 rw [HBP.out]
 refine bodyPost_ret (v:=.agg #[.slice AD p.datas.length cD,.int .i64 p.main.op,.int .i64 p.main.n,.string p.main.s,.string p.main.t,.slice AM p.main.kids.length cM]) (by simp [results,Tryz.results32,go_sem,hc6]) rfl ?_
 exact⟨AD,cD,AM,cM,w3.heap.size,w4.heap.size,rfl,by omega,by omega,by omega,HD6.out,HN6.out,B6.out⟩
theorem pickNode {l:List Int} {A:Option Addr} {c:Nat} {g:Nat} {w0 w:World} {S:Nat->Prop} {b0 off0:Nat} {n0:GNode} {v0:Value} (hS:∀ b,S b->b<w.heap.size/\b≠g) (hb0:b0≠g) (hn:NAt w S b0 off0 n0 v0) (hm0:Dm l A c g w0 w):
 Calls Tryz.prog 34 #[.pointer (some ⟨g,0,none⟩),.pointer (some ⟨b0,off0,none⟩)] w fun e w'=>∃ nb off n v,e= .returned (.pointer (some ⟨nb,off,none⟩))/\NAt w' S nb off n v/\((nb=b0/\off=off0)\/S nb)/\Dm l A c g w w':=by
 have hm:=hm0.again
 clear hm0
 have hgl:=hm.lt
 have M0:=LH hm
 have N0:=LH hn
 have HS:=LH hS
 clear hm hn hS
 go_enter Tryz.func34,Tryz.ntmps34
 refine wp_hide (fun BP hBP=>?_)
 have HBP:=LH hBP
 clear hBP
 go_wp2_with fail
 go_loopw [1,5] (fun x i wr=>∃ (k nb off:Nat) (n:GNode) (v:Value),i= .int .i64 k/\x= .pointer (some ⟨nb,off,none⟩)/\k<=9/\Hid (NAt wr S nb off n v)/\((nb=b0/\off=off0)\/S nb)/\Hid (Dm l A c g w wr)) (fun _ i _=>9 - (intOf i).toNat)
 case atStart=>exact⟨0,b0,off0,n0,v0,by go_num,rfl,by omega,N0,.inl ⟨rfl,rfl⟩,M0⟩
 case round=>
  clear N0 M0
  obtain⟨k,nb,off,n,v,rfl,rfl,hk,HN,hnb,HM⟩:=hrel
  have hzr:=HM.out.size
  have hwk:IntKind.i64.wrap ((k:Int)+1)=(k:Int)+1:=(IntWalk.i64_left _).trans (IntWalk.wrap64_in ((k:Int)+1) (by omega))
  have hnbg:nb≠g:=by
   rcases hnb with ⟨rfl,-⟩ | h
   · exact hb0
   · exact(HS.out nb h).2
  obtain⟨A3,c3,rfl⟩:=gwN_form HN.out.kids
  have hc4:=HN.out.c4
  have hnl:=HN.out.lt
  obtain⟨-,-,-,hlen,-⟩:=gwN_eq.1 HN.out.kids
  by_cases hk9:k<9
  ·
   have hki:(k:Int)<9:=by omega
   have dk:decide ((k:Int)<9)=true:=decide_eq_true hki
   by_cases h0:0<n.kids.length
   ·
    have hni:(0:Int)<(n.kids.length:Int):=by omega
    have dn:decide ((0:Int)<(n.kids.length:Int))=true:=decide_eq_true hni
    go_wp2_with fail
    refine(drawOnceD HM.out 5 (by omega) (by omega)).mono ?_
    rintro e w2 ⟨b1,rfl,hm2⟩
    have hz2:=hm2.size
    have M2:=LH (HM.out.trans hm2)
    have N2:=LH (HN.out.keep hz2 (hm2.bx.block nb hnl hnbg) fun b hb=>⟨hb,hm2.bx.block b (by have:=(HS.out b hb).1;omega) (HS.out b hb).2⟩)
    clear hm2 HM HN hc4 hnl
    cases b1
    ·
     obtain⟨b3,c3',u,e3,hSb3,-⟩:=gwN_kid N2.out.kids 0 h0
     obtain⟨rfl,rfl⟩:A3=some ⟨b3,0,none⟩/\c3=c3':=by simpa using e3
     have hc4:=N2.out.c4
     have hnl:=N2.out.lt
     go_wp2_with fail
     refine wp_region_T (fun x=>x.cell? ⟨nb,off+4,none⟩=some (.slice (some ⟨b3,0,none⟩) n.kids.length c3)) 100 (by kernel_rfl) ?_
     obtain⟨w3,e3⟩:∃ x,x=w2.drew:=⟨_,rfl⟩
     rw [<- e3]
     have K3:=LH (show Below w2.heap.size w2 w3 by rw [e3];exact(Below.refl _ _).drew)
     have hz3:w3.heap.size<=w2.heap.size/\w2.heap.size<=w3.heap.size:=by rw [e3];exact⟨Nat.le_refl _,Nat.le_refl _⟩
     clear e3
     have M3:=LH (M2.out.below K3.out)
     have N3:=LH (N2.out.keep (by omega) (K3.out.block nb hnl) fun b hb=>⟨hb,K3.out.block b (by have:=(HS.out b hb).1;omega)⟩)
     have hS1:=N3.out.c4
     clear hc4 M2 N2 K3
     refine wpAnyT_tk (i:=0) (oi:=_) (v:=?tv1) rfl (Or.inl ⟨by rfl,?th1⟩) hS1 ?_
     case th1=>(intro x hSx;(try dsimp only at hSx);go_simp;(try with_reducible rfl))
     try simp only [nA,nB,nC,Act.put,nD,nE,nF]
     refine wpAnyT_tk (i:=1) (oi:=_) (v:=?tv2) rfl (Or.inl ⟨by rfl,?th2⟩) hS1 ?_
     case th2=>(intro x hSx;(try dsimp only at hSx);go_simp;(try with_reducible rfl))
     try simp only [nA,nB,nC,Act.put,nD,nE,nF]
     refine wpAnyT_tk (i:=2) (oi:=_) (v:=?tv3) rfl (Or.inl ⟨by rfl,?th3⟩) hS1 ?_
     case th3=>(intro x hSx;(try dsimp only at hSx);go_simp;(try with_reducible rfl))
     try simp only [nA,nB,nC,Act.put,nD,nE,nF]
     refine wpAnyT_tk (i:=3) (oi:=_) (v:=?tv4) rfl (Or.inl ⟨by rfl,?th4⟩) hS1 ?_
     case th4=>(intro x hSx;(try dsimp only at hSx);go_simp;(try with_reducible rfl))
     try simp only [nA,nB,nC,Act.put,nD,nE,nF]
     refine wpAnyT_tk (i:=4) (oi:=_) (v:=?tv5) rfl (Or.inl ⟨by rfl,?th5⟩) hS1 ?_
     case th5=>(intro x hSx;(try dsimp only at hSx);go_simp;(try with_reducible rfl))
     try simp only [nA,nB,nC,Act.put,nD,nE,nF]
     refine wpAnyT_tk (i:=5) (oi:=_) (v:=?tv6) rfl (Or.inl ⟨by rfl,?th6⟩) hS1 ?_
     case th6=>(intro x hSx;(try dsimp only at hSx);go_simp;(try with_reducible rfl))
     try simp only [nA,nB,nC,Act.put,nD,nE,nF]
     refine wpAnyT_tk (i:=6) (oi:=_) (v:=?tv7) rfl (Or.inl ⟨by rfl,?th7⟩) hS1 ?_
     case th7=>(intro x hSx;(try dsimp only at hSx);go_simp;(try with_reducible rfl))
     try simp only [nA,nB,nC,Act.put,nD,nE,nF]
     refine wpAnyT_tk (i:=7) (oi:=_) (v:=?tv8) rfl (Or.inl ⟨by rfl,?th8⟩) hS1 ?_
     case th8=>(intro x hSx;(try dsimp only at hSx);go_simp;(try with_reducible rfl))
     try simp only [nA,nB,nC,Act.put,nD,nE,nF]
     refine wpAnyT_tk (i:=8) (oi:=_) (v:=?tv9) rfl (Or.inl ⟨by rfl,?th9⟩) hS1 ?_
     case th9=>(intro x hSx;(try dsimp only at hSx);go_simp;(try with_reducible rfl))
     try simp only [nA,nB,nC,Act.put,nD,nE,nF]
     refine wpAnyT_tk (i:=9) (oi:=_) (v:=?tv10) rfl (Or.inl ⟨by rfl,?th10⟩) hS1 ?_
     case th10=>(intro x hSx;(try dsimp only at hSx);go_simp;(try with_reducible rfl))
     try simp only [nA,nB,nC,Act.put,nD,nE,nF]
     refine wpAnyT_step (i:=10) (by kernel_rfl) rfl (fun K hK=>?_)
     try simp only [nA,nB,nC]
     go_simp
     refine(drawBelowD M3.out (n.kids.length:Int) (by omega) (by omega)).mono ?_
     rintro e w4 ⟨x,rfl,hx,hm4⟩
     have hz4:=hm4.size
     have M4:=LH (M3.out.trans hm4)
     have N4:=LH (N3.out.keep hz4 (hm4.bx.block nb (by omega) hnbg) fun b hb=>⟨hb,hm4.bx.block b (by have:=(HS.out b hb).1;omega) (HS.out b hb).2⟩)
     have hS2:=N4.out.c4
     obtain⟨m,hm⟩:∃ m:Nat,x=(m:Int):=⟨x.toNat,by omega⟩
     subst hm
     have hml:m<n.kids.length:=by omega
     clear hm4 M3 N3
     try simp only [nA,nB,nC]
     go_simp
     refine hK.out _ _ hS2 (fun hS3=>?_)
     clear hK K hS1 hS2
     try simp only [nA,nB,nC,Act.put,nD,nE,nF]
     refine wpAnyT_step (i:=11) (by kernel_rfl) rfl (fun K hK=>?_)
     try simp only [nA,nB,nC]
     go_simp
     refine hK.out _ _ hS3 (fun hS4=>?_)
     clear hK K hS3
     try simp only [nA,nB,nC,Act.put,nD,nE,nF]
     refine wpAnyT_step (i:=12) (by kernel_rfl) rfl (fun K hK=>?_)
     try simp only [nA,nB,nC]
     go_simp
     refine hK.out _ _ hS4 (fun hS5=>?_)
     clear hK K hS4
     try simp only [nA,nB,nC,Act.put,nD,nE,nF]
     refine wpAnyT_done (by kernel_rfl) ?_ _
     obtain⟨b5,c5,u,e5,hSb5,hN5⟩:=gwN_kid N4.out.kids m hml
     obtain⟨rfl,rfl⟩:b3=b5/\c3=c5:=by simpa using e5
     have N5:=LH hN5
     clear hS5 hN5 e5
     go_wp2_with fail
     go_roundw
     case rel=>exact⟨k+1,b3,m*5,n.kids[m],u,by go_num,by simp,by omega,N5,.inr hSb3,M4⟩
     case measure=>simp [intOf];omega
    · go_wp2_with fail
      show BP _ _
      rw [HBP.out]
      refine bodyPost_ret (v:=.pointer (some ⟨nb,off,none⟩)) (by simp [results,Tryz.results34,go_sem]) rfl ?_
      exact⟨nb,off,n,_,rfl,N2.out,hnb,M2.out⟩
   · have hni:¬ (0:Int)<(n.kids.length:Int):=by omega
     have dn:decide ((0:Int)<(n.kids.length:Int))=false:=decide_eq_false hni
     go_wp2_with fail
     show BP _ _
     rw [HBP.out]
     refine bodyPost_ret (v:=.pointer (some ⟨nb,off,none⟩)) (by simp [results,Tryz.results34,go_sem]) rfl ?_
     exact⟨nb,off,n,_,rfl,HN.out,hnb,HM.out⟩
  ·
   have hki:¬ (k:Int)<9:=by omega
   have dk:decide ((k:Int)<9)=false:=decide_eq_false hki
   go_wp2_with fail
   show BP _ _
   rw [HBP.out]
   refine bodyPost_ret (v:=.pointer (some ⟨nb,off,none⟩)) (by simp [results,Tryz.results34,go_sem]) rfl ?_
   exact⟨nb,off,n,_,rfl,HN.out,hnb,HM.out⟩
def PBox (w:World) (pb:Nat) (vD:Value):Prop:=∃ (op n:Int) (s t:ByteArray) (A:Option Addr) (len c:Nat),Row w pb 47 #[vD,.int .i64 op,.int .i64 n,.string s,.string t,.slice A len c]
theorem PBox.keep {w w':World} {pb:Nat} {vD:Value} (h:PBox w pb vD) (hk:w'.heap[pb]? =w.heap[pb]?):PBox w' pb vD:=by
 obtain⟨op,n,s,t,A,len,c,h⟩:=h
 exact⟨op,n,s,t,A,len,c,hk.trans h⟩
theorem PBox.lt {w:World} {pb:Nat} {vD:Value} (h:PBox w pb vD):pb<w.heap.size:=by
 obtain⟨op,n,s,t,A,len,c,h⟩:=h
 exact h.lt
theorem setCell_at (w:World) (nb o:Nat) (v:Value) (b:Nat) (h:b≠nb):(w.setCell ⟨nb,o,none⟩ v).heap[b]? =w.heap[b]?:=Below.heap_setCell w ⟨nb,o,none⟩ v b h
theorem PBox.set0 {w:World} {pb nb off:Nat} {vD:Value} (h:PBox w pb vD) (hn:(nb=pb/\off=1)\/nb≠pb) (x:Int):PBox (w.setCell ⟨nb,off,none⟩ (.int .i64 x)) pb vD:=by
 rcases hn with ⟨rfl,rfl⟩ | hn
 · obtain⟨op,n,s,t,A,len,c,h⟩:=h
   exact⟨x,n,s,t,A,len,c,h.set 1 _⟩
 · exact h.keep (setCell_at _ _ _ _ _ (Ne.symm hn))
theorem PBox.set1 {w:World} {pb nb off:Nat} {vD:Value} (h:PBox w pb vD) (hn:(nb=pb/\off=1)\/nb≠pb) (x:Int):PBox (w.setCell ⟨nb,off+1,none⟩ (.int .i64 x)) pb vD:=by
 rcases hn with ⟨rfl,rfl⟩ | hn
 · obtain⟨op,n,s,t,A,len,c,h⟩:=h
   exact⟨op,x,s,t,A,len,c,h.set 2 _⟩
 · exact h.keep (setCell_at _ _ _ _ _ (Ne.symm hn))
theorem PBox.set2 {w:World} {pb nb off:Nat} {vD:Value} (h:PBox w pb vD) (hn:(nb=pb/\off=1)\/nb≠pb) (x:ByteArray):PBox (w.setCell ⟨nb,off+2,none⟩ (.string x)) pb vD:=by
 rcases hn with ⟨rfl,rfl⟩ | hn
 · obtain⟨op,n,s,t,A,len,c,h⟩:=h
   exact⟨op,n,x,t,A,len,c,h.set 3 _⟩
 · exact h.keep (setCell_at _ _ _ _ _ (Ne.symm hn))
theorem PBox.set3 {w:World} {pb nb off:Nat} {vD:Value} (h:PBox w pb vD) (hn:(nb=pb/\off=1)\/nb≠pb) (x:ByteArray):PBox (w.setCell ⟨nb,off+3,none⟩ (.string x)) pb vD:=by
 rcases hn with ⟨rfl,rfl⟩ | hn
 · obtain⟨op,n,s,t,A,len,c,h⟩:=h
   exact⟨op,n,s,x,A,len,c,h.set 4 _⟩
 · exact h.keep (setCell_at _ _ _ _ _ (Ne.symm hn))
theorem PBox.set4 {w:World} {pb nb off:Nat} {vD:Value} (h:PBox w pb vD) (hn:(nb=pb/\off=1)\/nb≠pb) (A:Option Addr) (len c:Nat):PBox (w.setCell ⟨nb,off+4,none⟩ (.slice A len c)) pb vD:=by
 rcases hn with ⟨rfl,rfl⟩ | hn
 · obtain⟨op,n,s,t,A1,len1,c1,h⟩:=h
   exact⟨op,n,s,t,A,len,c,h.set 5 _⟩
 · exact h.keep (setCell_at _ _ _ _ _ (Ne.symm hn))
end Go.Proofs.YtgbjdhfaklmjcaaGreat
