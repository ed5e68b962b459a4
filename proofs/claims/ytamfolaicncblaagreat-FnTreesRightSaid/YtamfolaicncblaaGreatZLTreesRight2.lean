/- Texts of the claim LTreesRight in one: Draw GToken GNode GTy GCon GData NumP Keyword PaP Bx. Conditions: none but bounds on sizes. -/
import Derived.Test.YtamfolaicncblaaGreatRows
import Derived.Test.YtamfolaicncblaaGreatZLTreesRight0
import Derived.Test.YtamfolaicncblaaGreatZLTreesRight1
import Derived.Lib.Hide
import Derived.Deep.RegionHeld3
namespace Go.Proofs.YtamfolaicncblaaGreat
open Go Go.RowKit
theorem LH {p:Prop} (h:p):Hid p:=Lib.hid h
theorem nA {α : Type} {a : List α} {i : Nat} (h : i < a.toArray.size) : a.toArray[i] = a[i]'h := rfl
theorem nB {α : Type} (a : α) (t : List α) (i : Nat) (h : i + 1 < (a :: t).length) : (a :: t)[i+1] = t[i]'(Nat.lt_of_succ_lt_succ h) := rfl
theorem nC {α : Type} (a : α) (t : List α) (h : 0 < (a :: t).length) : (a :: t)[0] = a := rfl
theorem nD {α : Type} (l : List α) (i : Nat) (a : α) : l.toArray.setIfInBounds i a = (l.set i a).toArray := List.setIfInBounds_toArray l i a
theorem nE {α : Type} {x : α} {xs : List α} {a : α} : (x :: xs).set 0 a = a :: xs := rfl
theorem nF {α : Type} {x : α} {xs : List α} {i : Nat} {a : α} : (x :: xs).set (i + 1) a = x :: xs.set i a := rfl
end Go.Proofs.YtamfolaicncblaaGreat
namespace Go.Proofs.YtamfolaicncblaaGreat
set_option maxRecDepth 20000
set_option linter.unusedVariables false
set_option linter.unusedSimpArgs false
open Go.ChangeShapes Go.WideShapes Go.ChangeAt Go.RowKit Go.Deep
set_option maxHeartbeats 1000000
theorem i64_and255 (n:Int):bits .and .i64 n 255=n % 256:=by
 have h127:(BitVec.ofInt 64 255).toNat=2 ^ 8 - 1:=by decide
 have key:(BitVec.ofInt 64 n&&& BitVec.ofInt 64 255).toNat=(n % ((2 ^ 64:Nat):Int)).toNat % 2 ^ 8:=by
  rw [BitVec.toNat_and,BitVec.toNat_ofInt,h127,Nat.and_two_pow_sub_one_eq_mod]
 show IntKind.i64.wrap ((BitVec.ofInt 64 n&&& BitVec.ofInt 64 255).toNat:Nat)=n % 256
 rw [key,IntKind.wrap_i64]
 omega
theorem i64_and30 (n:Int):bits .and .i64 n 1073741823=n % 1073741824:=by
 have h127:(BitVec.ofInt 64 1073741823).toNat=2 ^ 30 - 1:=by decide
 have key:(BitVec.ofInt 64 n&&& BitVec.ofInt 64 1073741823).toNat=(n % ((2 ^ 64:Nat):Int)).toNat % 2 ^ 30:=by
  rw [BitVec.toNat_and,BitVec.toNat_ofInt,h127,Nat.and_two_pow_sub_one_eq_mod]
 show IntKind.i64.wrap ((BitVec.ofInt 64 n&&& BitVec.ofInt 64 1073741823).toNat:Nat)=n % 1073741824
 rw [key,IntKind.wrap_i64]
 omega
theorem wf8 {a:Int} (h:(Lit.int .u8 a).wf=true):0<=a/\a<=255:=by
 simpa [Lit.wf,IntKind.min,IntKind.max,IntKind.signed,IntKind.bits] using h
theorem byteElem {w:World} {S:Nat->Prop} {A:Option Addr} {c:Nat} {l:List Int} (h:Sl w S 1 A c (l.map (D.num .u8))) (i:Nat) (hi:i<l.length):
 ∃ b off,A=some ⟨b,off,none⟩/\S b/\w.cell? ⟨b,off+i,none⟩=some (.int .u8 l[i])/\0<=l[i]/\l[i]<=255:=by
 obtain⟨b,off,cs,e,hb,hl,hc,hr⟩:=Sl.get h i (by simpa using hi)
 rw [List.getElem_map] at hr
 obtain⟨rfl,h1⟩:=D.rd_num.1 hr
 have h2:=hc 0 _ rfl
 rw [Nat.mul_one,Nat.add_zero] at h2
 exact⟨b,off,e,hb,h2,wf8 h1⟩
theorem open_byte_el {H:Type} {enc:TypeId × Value->H} {P:Program} {w:World} {sp:Nat->Bool} {held:Bool} {e:TypeId} (he:P.underlying e=some (.int .u8)) {n:Nat} {cs:List Value} {x:DataW H × List MemPlace} (h:DataW.trod enc P w 0 sp held n e cs=some x):∃ a:Int,(D.num .u8 a).rd w (Lt w.heap.size) cs:=by
 obtain⟨a,rfl,_,hw⟩:=DataW.trod_int he h
 exact⟨a,D.rd_num.2 ⟨rfl,hw⟩⟩
theorem argBytes {H:Type} {enc:TypeId × Value->H} {w:World} {r:Go.Reach} {base:Nat} {sp:Nat->Bool} {held:Bool} {v:Value} {d:DataW H} {p:List MemPlace} (hv:Value.okWide Tryz.prog w r base 22 v) (h:DataW.Trod enc Tryz.prog w 0 sp held 22 v d p):
 ∃ (l:List Int) (A:Option Addr) (c:Nat),v= .slice A l.length c/\Sl w (Lt w.heap.size) 1 A c (l.map (D.num .u8)):=by
 obtain⟨a,len,cap,rfl⟩:=okWide_slice Tryz.underlying22 hv
 obtain⟨fuel,hf⟩:=h
 obtain⟨l,hl⟩:=open_sl 1 (by decide) Tryz.underlying22 (by kernel_rfl) (D.num .u8) (fun n2 cs x hn h=>open_byte_el Tryz.underlying5 h) hf
 obtain⟨A,c,e,hs⟩:=D.rd_sl.1 hl
 simp only [Value.cells,List.cons.injEq,List.length_map,and_true] at e
 exact⟨l,A,c,e,hs⟩
structure Turned (g:Nat) (w w':World):Prop where
 os:w'.os=w.os
 tape:w'.tape=w.tape
 output:w'.output=w.output
 size:w.heap.size<=w'.heap.size
 block:∀ k,k<w.heap.size->k≠g->w'.heap[k]? =w.heap[k]?
theorem Turned.refl (g:Nat) (w:World):Turned g w w:=⟨rfl,rfl,rfl,Nat.le_refl _,fun _ _ _=>rfl⟩
theorem Turned.trans {g:Nat} {a b c:World} (h:Turned g a b) (k:Turned g b c):Turned g a c:=
 ⟨k.os.trans h.os,k.tape.trans h.tape,k.output.trans h.output,Nat.le_trans h.size k.size,fun i hi hg=>(k.block i (Nat.lt_of_lt_of_le hi h.size) hg).trans (h.block i hi hg)⟩
theorem Turned.setCell {g:Nat} {a w:World} (h:Turned g a w) (i:Nat) (u:Value):Turned g a (w.setCell ⟨g,i,none⟩ u):=
 h.trans ⟨rfl,rfl,rfl,by simp [World.setCell],fun k _ hg=>Below.heap_setCell _ _ _ _ hg⟩
theorem Turned.drew {g:Nat} {a w:World} (h:Turned g a w):Turned g a w.drew:=⟨h.os,h.tape,h.output,h.size,h.block⟩
theorem Turned.alloc {g:Nat} {a w:World} (h:Turned g a w) (o:Obj):Turned g a (w.alloc o):=
 h.trans ⟨rfl,rfl,rfl,by simp,fun k hk _=>Below.heap_alloc _ _ _ hk⟩
theorem Row.turned {g:Nat} {w w':World} {k:Nat} {t:TypeId} {cs:Array Value} (h:Row w k t cs) (ht:Turned g w w') (hk:k≠g):Row w' k t cs:=(ht.block k h.lt hk).trans h
structure Cur (l:List Int) (A:Option Addr) (c:Nat) (w:World) (g:Nat) (i:Nat) (h:Int):Prop where
 row:Row w g 97 #[.slice A l.length c,.int .i64 (i:Int),.int .i64 h]
 le:i<=l.length
 fit: -9223372036854775808<=h/\h<=9223372036854775807
 code:Sl w (Lt g) 1 A c (l.map (D.num .u8))
theorem Cur.turned {l:List Int} {A:Option Addr} {c:Nat} {w w':World} {g i:Nat} {h:Int} (hc:Cur l A c w g i h) {g':Nat} (ht:Turned g' w w') (hg:g<g'):Cur l A c w' g i h:=
 ⟨hc.row.turned ht (by omega),hc.le,hc.fit,hc.code.keep fun b hb=>⟨hb,ht.block b (Nat.lt_trans hb hc.row.lt) (by unfold Lt at hb;omega)⟩⟩
theorem Cur.below {l:List Int} {A:Option Addr} {c:Nat} {w w':World} {g i:Nat} {h:Int} (hc:Cur l A c w g i h) {B:Nat} (ht:Below B w w') (hg:g<B):Cur l A c w' g i h:=
 ⟨hc.row.below ht hg,hc.le,hc.fit,hc.code.keep fun b hb=>⟨hb,ht.block b (by unfold Lt at hb;omega)⟩⟩
def Drawn (l:List Int) (A:Option Addr) (c:Nat) (g:Nat) (P:Int->Prop) (w:World) (e:Ending) (w':World):Prop:=
 ∃ (x:Int) (i:Nat) (h:Int),e= .returned (.int .i64 x)/\P x/\Cur l A c w' g i h/\Turned g w w'
theorem drawByte {l:List Int} {A:Option Addr} {c:Nat} {w:World} {g i:Nat} {h:Int} (hc:Cur l A c w g i h):
 Calls Tryz.prog 48 #[.pointer (some ⟨g,0,none⟩)] w (Drawn l A c g (fun x=>0<=x/\x<=255) w):=by
 obtain⟨hrow,hle,hfit,hcode⟩:=hc
 have R0:=LH hrow
 have c0:=fun i=>hrow.cell i
 have f0:=fun i=>hrow.frozen i
 have C0:=LH hcode
 clear hrow hcode
 have H:∀ n,bits .and .i64 n 255=n % 256:=i64_and255
 have hln:l.length<=9223372036854775807:=by simpa using C0.out.len
 obtain⟨h',eh⟩:∃ h',h'=wrap64 (wrap64 (h*6364136223846793005)+1442695040888963407):=⟨_,rfl⟩
 have R1:=LH (show Row (w.setCell ⟨g,2,none⟩ (.int .i64 h')) g 97 #[.slice A l.length c,.int .i64 (i:Int),.int .i64 h'] from R0.out.set 2 _)
 have c1:∀ k,(w.setCell ⟨g,2,none⟩ (.int .i64 h')).drew.cell? ⟨g,k,none⟩=(#[.slice A l.length c,.int .i64 (i:Int),.int .i64 h']:Array Value)[k]?:=fun k=>R1.out.cell k
 have T1:=LH ((Turned.refl g w).setCell 2 (.int .i64 h'))
 have fit: -9223372036854775808<=h'/\h'<=9223372036854775807:=by rw [eh];unfold wrap64;omega
 have EH:=LH eh.symm
 have FIT:=LH fit
 clear eh fit
 by_cases hi:i<l.length
 ·
  obtain⟨b,off,rfl,hb,hcell,hb0,hb1⟩:=byteElem C0.out i hi
  have hbg:b≠g:=by unfold Lt at hb;omega
  go_enter Tryz.func48,Tryz.ntmps48
  go_wp2_with fail
  rw [EH.out]
  have HC:=LH (show(w.setCell ⟨g,2,none⟩ (.int .i64 h')).cell? ⟨b,off+i,none⟩=some (.int .u8 l[i]) from(World.cell?_setCell_other _ _ _ _ (fun e=>hbg (congrArg Addr.block e).symm)).trans hcell)
  clear hcell c0 f0
  generalize w.setCell ⟨g,2,none⟩ (.int .i64 h')=w1 at*
  go_region_held3 (fun w'=>∀ k,w'.cell? ⟨g,k,none⟩=(#[.slice (some ⟨b,off,none⟩) l.length c,.int .i64 (i:Int),.int .i64 h']:Array Value)[k]?) (first | exact c1) (fail)
  generalize bits BinOp.xor IntKind.i64 (h' / 8589934592) (h' / 35184372088832) % 256=x at*
  go_wp2_with fail
  go_region_held3 (fun w'=>∀ k,w'.cell? ⟨g,k,none⟩=(#[.slice (some ⟨b,off,none⟩) l.length c,.int .i64 (i:Int),.int .i64 h']:Array Value)[k]?) (first | exact fun k=>R1.out.cell k) (fail)
  go_wp2_with fail
  go_region_held3 (fun w'=>(∀ k,w'.cell? ⟨g,k,none⟩=(#[.slice (some ⟨b,off,none⟩) l.length c,.int .i64 (i:Int),.int .i64 h']:Array Value)[k]?)/\w'.cell? ⟨b,off+i,none⟩=some (.int .u8 l[i])) (first | exact⟨fun k=>R1.out.cell k,HC.out⟩) (fail)
  have f2:∀ k,w1.frozen? ⟨g,k,none⟩=false:=fun k=>R1.out.frozen k
  go_wp2_with fail
  have R2:=LH (show Row (w1.drew.drew.drew.setCell ⟨g,1,none⟩ (.int .i64 ((i:Int)+1))) g 97 #[.slice (some ⟨b,off,none⟩) l.length c,.int .i64 ((i:Int)+1),.int .i64 h'] from Row.set (w:=w1.drew.drew.drew) R1.out 1 _)
  have T2:=LH (((T1.out.drew.drew.drew).setCell 1 (.int .i64 ((i:Int)+1))))
  go_ret
  exact⟨_,i+1,h',rfl,⟨Int.emod_nonneg _ (by omega),by omega⟩,⟨R2.out,hi,FIT.out,C0.out.keep fun k hk=>⟨hk,T2.out.block k (by have:=R0.out.lt;unfold Lt at hk;omega) (by unfold Lt at hk;omega)⟩⟩,T2.out⟩
 ·
  go_enter Tryz.func48,Tryz.ntmps48
  go_wp2_with fail
  rw [EH.out]
  clear c0 f0
  generalize w.setCell ⟨g,2,none⟩ (.int .i64 h')=w1 at*
  go_region_held3 (fun w'=>∀ k,w'.cell? ⟨g,k,none⟩=(#[.slice A l.length c,.int .i64 (i:Int),.int .i64 h']:Array Value)[k]?) (first | exact c1) (fail)
  have hx0:0<=bits BinOp.xor IntKind.i64 (h' / 8589934592) (h' / 35184372088832) % 256:=by omega
  have hx1:bits BinOp.xor IntKind.i64 (h' / 8589934592) (h' / 35184372088832) % 256<=255:=by omega
  generalize bits BinOp.xor IntKind.i64 (h' / 8589934592) (h' / 35184372088832) % 256=x at*
  go_wp2_with fail
  go_region_held3 (fun w'=>∀ k,w'.cell? ⟨g,k,none⟩=(#[.slice A l.length c,.int .i64 (i:Int),.int .i64 h']:Array Value)[k]?) (first | exact fun k=>R1.out.cell k) (fail)
  go_wp2_with fail
  have T2:=LH (T1.out.drew.drew)
  go_ret
  exact⟨_,i,h',rfl,⟨hx0,hx1⟩,⟨R1.out,hle,FIT.out,C0.out.keep fun k hk=>⟨hk,T2.out.block k (by have:=R0.out.lt;unfold Lt at hk;omega) (by unfold Lt at hk;omega)⟩⟩,T2.out⟩
theorem drawBelow {l:List Int} {A:Option Addr} {c:Nat} {w:World} {g i:Nat} {h:Int} (hc:Cur l A c w g i h) (n:Int) (h1:1<=n) (h2:n<=256):
 Calls Tryz.prog 26 #[.pointer (some ⟨g,0,none⟩),.int .i64 n] w (Drawn l A c g (fun x=>0<=x/\x<n) w):=by
 have C0:=LH hc
 clear hc
 have hn0:¬ n<=0:=by omega
 go_enter Tryz.func26,Tryz.ntmps26
 go_wp2_with fail
 refine(drawByte C0.out).mono ?_
 rintro e w1 ⟨x,i1,h1',rfl,hx,hc1,ht⟩
 have C1:=LH hc1
 have T1:=LH ht
 clear hc1 ht
 obtain⟨hx0,hx1⟩:=hx
 go_wp2_with fail
 go_ret
 exact⟨_,i1,h1',rfl,⟨Int.emod_nonneg _ (by omega),Int.emod_lt_of_pos _ (by omega)⟩,C1.out,T1.out⟩
def NewCur (l:List Int) (A:Option Addr) (c:Nat) (w:World) (e:Ending) (w':World):Prop:=
 ∃ (h:Int),e= .returned (.pointer (some ⟨w.heap.size,0,none⟩))/\Cur l A c w' w.heap.size 0 h/\Below w.heap.size w w'
theorem newCur (l:List Int) (A:Option Addr) (c:Nat) (w:World) (hs:Sl w (Lt w.heap.size) 1 A c (l.map (D.num .u8))) (hl:l.length<=1048576):
 Calls Tryz.prog 21 #[.slice A l.length c] w (NewCur l A c w):=by
 have S0:=LH hs
 have H:∀ n,bits .and .i64 n 1073741823=n % 1073741824:=i64_and30
 clear hs
 go_enter Tryz.func21,Tryz.ntmps21
 go_wp2_with fail
 go_loop [3,4] (fun x i=>∃ (k:Nat) (hv:Int),k<=l.length/\i= .int .i64 (k:Int)/\x= .int .i64 hv/\0<=hv/\hv<=1073741823) (fun _ i=>l.length - (intOf i).toNat)
 case atStart=>exact⟨0,21958+l.length,by omega,by go_num,by go_num,by omega,by omega⟩
 case round=>
  obtain⟨k,hv,hk,rfl,rfl,hv0,hv1⟩:=hrel
  by_cases hlt:k<l.length
  ·
   by_cases h4:(k:Int)<4000
   · obtain⟨b,off,rfl,hb,hcell,hb0,hb1⟩:=byteElem S0.out k hlt
     go_wp2_with fail
     go_round
     case rel=>exact⟨k+1,_,by omega,by go_num,rfl,Int.emod_nonneg _ (by omega),by omega⟩
     case measure=>simp [intOf];omega
   · go_wp2_with fail
     go_ret
     exact⟨hv,rfl,⟨Row.new _ _ _,Nat.zero_le _,by omega,S0.out.keep fun b hb=>⟨hb,Below.heap_alloc _ _ _ hb⟩⟩,(Below.refl _ _).alloc (Nat.le_refl _) _⟩
  · go_wp2_with fail
    go_ret
    exact⟨hv,rfl,⟨Row.new _ _ _,Nat.zero_le _,by omega,S0.out.keep fun b hb=>⟨hb,Below.heap_alloc _ _ _ hb⟩⟩,(Below.refl _ _).alloc (Nat.le_refl _) _⟩
theorem drawPickInt {l:List Int} {A:Option Addr} {c:Nat} {w:World} {g i:Nat} {h:Int} (hc:Cur l A c w g i h) (vs:List Int) (b:Nat) (hb:b≠g) (t:TypeId) (hr:Row w b t (vs.map (Value.int .i64)).toArray) (h1:1<=vs.length) (h2:vs.length<=256)
 (P:Int->Prop) (hP:∀ x∈vs,P x):
 Calls Tryz.prog 93 #[.pointer (some ⟨g,0,none⟩),.slice (some ⟨b,0,none⟩) vs.length vs.length] w (Drawn l A c g P w):=by
 have C0:=LH hc
 have R0:=LH hr
 have HP:=LH hP
 clear hc hr hP
 go_enter Tryz.func93,Tryz.ntmps93
 go_wp2_with fail
 refine(drawBelow C0.out (vs.length:Int) (by omega) (by omega)).mono ?_
 rintro e w1 ⟨x,i1,h1',rfl,hx,hc1,ht⟩
 obtain⟨hx0,hx1⟩:=hx
 obtain⟨n,rfl⟩:=Int.eq_ofNat_of_zero_le hx0
 have hn:n<vs.length:=by omega
 have hcell:w1.cell? ⟨b,n,none⟩=some (.int .i64 vs[n]):=((R0.out.turned ht hb).cell n).trans (by simp [hn])
 have C1:=LH hc1
 have T1:=LH ht
 clear hc1 ht
 go_wp2_with fail
 go_ret
 exact⟨_,i1,h1',rfl,HP.out _ (List.getElem_mem hn),C1.out,T1.out⟩
def DrawnS (l:List Int) (A:Option Addr) (c:Nat) (g:Nat) (P:ByteArray->Prop) (w:World) (e:Ending) (w':World):Prop:=
 ∃ (x:ByteArray) (i:Nat) (h:Int),e= .returned (.string x)/\P x/\Cur l A c w' g i h/\Turned g w w'
theorem drawPick {l:List Int} {A:Option Addr} {c:Nat} {w:World} {g i:Nat} {h:Int} (hc:Cur l A c w g i h) (vs:List ByteArray) (b:Nat) (hb:b≠g) (t:TypeId) (hr:Row w b t (vs.map Value.string).toArray) (h1:1<=vs.length) (h2:vs.length<=256)
 (P:ByteArray->Prop) (hP:∀ x∈vs,P x):
 Calls Tryz.prog 24 #[.pointer (some ⟨g,0,none⟩),.slice (some ⟨b,0,none⟩) vs.length vs.length] w (DrawnS l A c g P w):=by
 have C0:=LH hc
 have R0:=LH hr
 have HP:=LH hP
 clear hc hr hP
 go_enter Tryz.func24,Tryz.ntmps24
 go_wp2_with fail
 refine(drawBelow C0.out (vs.length:Int) (by omega) (by omega)).mono ?_
 rintro e w1 ⟨x,i1,h1',rfl,hx,hc1,ht⟩
 obtain⟨hx0,hx1⟩:=hx
 obtain⟨n,rfl⟩:=Int.eq_ofNat_of_zero_le hx0
 have hn:n<vs.length:=by omega
 have hcell:w1.cell? ⟨b,n,none⟩=some (.string vs[n]):=((R0.out.turned ht hb).cell n).trans (by simp [hn])
 have C1:=LH hc1
 have T1:=LH ht
 clear hc1 ht
 go_wp2_with fail
 go_ret
 exact⟨_,i1,h1',rfl,HP.out _ (List.getElem_mem hn),C1.out,T1.out⟩
end Go.Proofs.YtamfolaicncblaaGreat
namespace Go.Proofs.YtamfolaicncblaaGreat
set_option maxRecDepth 20000
set_option linter.unusedVariables false
set_option linter.unusedSimpArgs false
open Go.RowKit
structure GToken where
 kind:Int
 text:ByteArray
 n:Int
 pos:Int
def GToken.toD (x:GToken):D:=.agg [.num .i64 x.kind,.str x.text,.num .i64 x.n,.num .i64 x.pos]
def GToken.At (w:World) (S:Nat->Prop) (t:GToken):Prop:=
 (Lit.int .i64 t.kind).wf=true/\t.text.size<=maxLen/\(Lit.int .i64 t.n).wf=true/\(Lit.int .i64 t.pos).wf=true
theorem GToken.rd {w:World} {S:Nat->Prop} {t:GToken} {cs:List Value} (h:t.toD.rd w S cs):cs= [.int .i64 t.kind,.string t.text,.int .i64 t.n,.int .i64 t.pos]/\GToken.At w S t:=by
 unfold GToken.toD at h
 rw [D.rd_agg] at h
 rw [D.rdF_cons] at h
 obtain⟨x0,r0,rfl,k0,h⟩:=h
 obtain⟨rfl,h0⟩:=D.rd_num.1 k0
 rw [D.rdF_cons] at h
 obtain⟨x1,r1,rfl,k1,h⟩:=h
 obtain⟨rfl,h1⟩:=D.rd_str.1 k1
 rw [D.rdF_cons] at h
 obtain⟨x2,r2,rfl,k2,h⟩:=h
 obtain⟨rfl,h2⟩:=D.rd_num.1 k2
 rw [D.rdF_cons] at h
 obtain⟨x3,r3,rfl,k3,h⟩:=h
 obtain⟨rfl,h3⟩:=D.rd_num.1 k3
 obtain rfl:=D.rdF_nil.1 h
 exact⟨by simp [List.length_map],h0,h1,h2,h3⟩
theorem GToken.rd_mk {w:World} {S:Nat->Prop} {t:GToken} (h:GToken.At w S t):t.toD.rd w S [.int .i64 t.kind,.string t.text,.int .i64 t.n,.int .i64 t.pos]:=by
 unfold GToken.toD
 unfold GToken.At at h
 obtain⟨h0,h1,h2,h3⟩:=h
 rw [D.rd_agg]
 exact D.rdF_cons.2 ⟨[_],[_,_,_],rfl,D.rd_num.2 ⟨rfl,h0⟩,D.rdF_cons.2 ⟨[_],[_,_],rfl,D.rd_str.2 ⟨rfl,h1⟩,D.rdF_cons.2 ⟨[_],[_],rfl,D.rd_num.2 ⟨rfl,h2⟩,D.rdF_cons.2 ⟨[_],[],rfl,D.rd_num.2 ⟨rfl,h3⟩,D.rdF_nil.2 rfl⟩⟩⟩⟩
theorem GToken.elem {w:World} {S:Nat->Prop} {A:Option Addr} {c:Nat} {l:List GToken} (h:Sl w S 4 A c (l.map GToken.toD)) (i:Nat) (hi:i<l.length):
 ∃ b off,A=some ⟨b,off,none⟩/\S b/\w.cell? ⟨b,off+i*4,none⟩=some (.int .i64 l[i].kind)/\w.cell? ⟨b,off+i*4+1,none⟩=some (.string l[i].text)/\w.cell? ⟨b,off+i*4+2,none⟩=some (.int .i64 l[i].n)/\w.cell? ⟨b,off+i*4+3,none⟩=some (.int .i64 l[i].pos)/\GToken.At w S l[i]:=by
 obtain⟨b,off,cs,e,hb,hl,hc,hr⟩:=Sl.get h i (by simpa using hi)
 rw [List.getElem_map] at hr
 obtain⟨rfl,h1⟩:=GToken.rd hr
 exact⟨b,off,e,hb,hc 0 _ rfl,hc 1 _ rfl,hc 2 _ rfl,hc 3 _ rfl,h1⟩
inductive GNode where
 | mk (op:Int) (n:Int) (s:ByteArray) (t:ByteArray) (kids:List GNode)
def GNode.op:GNode->Int | .mk x _ _ _ _=>x
def GNode.n:GNode->Int | .mk _ x _ _ _=>x
def GNode.s:GNode->ByteArray | .mk _ _ x _ _=>x
def GNode.t:GNode->ByteArray | .mk _ _ _ x _=>x
def GNode.kids:GNode->List GNode | .mk _ _ _ _ x=>x
mutual
def GNode.toD:GNode->D | .mk op n s t kids=>.agg [.num .i64 op,.num .i64 n,.str s,.str t,.sl 5 (GNode.toDs kids)]
def GNode.toDs:List GNode->List D | []=>[] | t::r=>t.toD::GNode.toDs r
end
theorem GNode.toDs_map:∀ l:List GNode,GNode.toDs l=l.map GNode.toD
 | []=>rfl
 | t::r=>by simp only [GNode.toDs,List.map_cons,GNode.toDs_map r]
mutual
def GNode.bulk:GNode->Nat | .mk _ _ s t kids=>s.size+t.size+GNode.bulks kids
def GNode.bulks:List GNode->Nat | []=>0 | t::r=>1+t.bulk+GNode.bulks r
end
theorem GNode.bulks_eq:∀ l:List GNode,GNode.bulks l=bulkL GNode.bulk l
 | []=>rfl
 | t::r=>by simp only [GNode.bulks,bulkL,GNode.bulks_eq r]
theorem GNode.bulk_eq (t:GNode):t.bulk=t.s.size+t.t.size+bulkL GNode.bulk t.kids:=by
 cases t;simp only [GNode.bulk,GNode.bulks_eq,GNode.op,GNode.n,GNode.s,GNode.t,GNode.kids]
def GNode.At (w:World) (S:Nat->Prop) (A1:Option Addr) (c1:Nat) (t:GNode):Prop:=
 (Lit.int .i64 t.op).wf=true/\(Lit.int .i64 t.n).wf=true/\t.s.size<=maxLen/\t.t.size<=maxLen/\Sl w S 5 A1 c1 (t.kids.map GNode.toD)
theorem GNode.rd {w:World} {S:Nat->Prop} {t:GNode} {cs:List Value} (h:t.toD.rd w S cs):∃ A1 c1,cs= [.int .i64 t.op,.int .i64 t.n,.string t.s,.string t.t,.slice A1 t.kids.length c1]/\GNode.At w S A1 c1 t:=by
 cases t with
 | mk op n s t kids=>
 simp only [GNode.toD,GNode.toDs_map] at h
 rw [D.rd_agg] at h
 rw [D.rdF_cons] at h
 obtain⟨x0,r0,rfl,k0,h⟩:=h
 obtain⟨rfl,h0⟩:=D.rd_num.1 k0
 rw [D.rdF_cons] at h
 obtain⟨x1,r1,rfl,k1,h⟩:=h
 obtain⟨rfl,h1⟩:=D.rd_num.1 k1
 rw [D.rdF_cons] at h
 obtain⟨x2,r2,rfl,k2,h⟩:=h
 obtain⟨rfl,h2⟩:=D.rd_str.1 k2
 rw [D.rdF_cons] at h
 obtain⟨x3,r3,rfl,k3,h⟩:=h
 obtain⟨rfl,h3⟩:=D.rd_str.1 k3
 rw [D.rdF_cons] at h
 obtain⟨x4,r4,rfl,k4,h⟩:=h
 obtain⟨A1,c1,rfl,h4⟩:=D.rd_sl.1 k4
 obtain rfl:=D.rdF_nil.1 h
 exact⟨A1,c1,by simp [GNode.op,GNode.n,GNode.s,GNode.t,GNode.kids],h0,h1,h2,h3,h4⟩
theorem GNode.rd_mk {w:World} {S:Nat->Prop} {t:GNode} {A1:Option Addr} {c1:Nat} (h:GNode.At w S A1 c1 t):t.toD.rd w S [.int .i64 t.op,.int .i64 t.n,.string t.s,.string t.t,.slice A1 t.kids.length c1]:=by
 cases t with
 | mk op n s t kids=>
 simp only [GNode.toD,GNode.toDs_map]
 unfold GNode.At at h
 obtain⟨h0,h1,h2,h3,h4⟩:=h
 rw [D.rd_agg]
 exact D.rdF_cons.2 ⟨[_],[_,_,_,_],rfl,D.rd_num.2 ⟨rfl,h0⟩,D.rdF_cons.2 ⟨[_],[_,_,_],rfl,D.rd_num.2 ⟨rfl,h1⟩,D.rdF_cons.2 ⟨[_],[_,_],rfl,D.rd_str.2 ⟨rfl,h2⟩,D.rdF_cons.2 ⟨[_],[_],rfl,D.rd_str.2 ⟨rfl,h3⟩,D.rdF_cons.2 ⟨[_],[],rfl,D.rd_sl.2 ⟨A1,c1,by simp [GNode.kids],h4⟩,D.rdF_nil.2 rfl⟩⟩⟩⟩⟩
theorem GNode.elem {w:World} {S:Nat->Prop} {A:Option Addr} {c:Nat} {l:List GNode} (h:Sl w S 5 A c (l.map GNode.toD)) (i:Nat) (hi:i<l.length):
 ∃ b off A1 c1,A=some ⟨b,off,none⟩/\S b/\w.cell? ⟨b,off+i*5,none⟩=some (.int .i64 l[i].op)/\w.cell? ⟨b,off+i*5+1,none⟩=some (.int .i64 l[i].n)/\w.cell? ⟨b,off+i*5+2,none⟩=some (.string l[i].s)/\w.cell? ⟨b,off+i*5+3,none⟩=some (.string l[i].t)/\w.cell? ⟨b,off+i*5+4,none⟩=some (.slice A1 l[i].kids.length c1)/\GNode.At w S A1 c1 l[i]:=by
 obtain⟨b,off,cs,e,hb,hl,hc,hr⟩:=Sl.get h i (by simpa using hi)
 rw [List.getElem_map] at hr
 obtain⟨A1,c1,rfl,h1⟩:=GNode.rd hr
 exact⟨b,off,A1,c1,e,hb,hc 0 _ rfl,hc 1 _ rfl,hc 2 _ rfl,hc 3 _ rfl,hc 4 _ rfl,h1⟩
theorem GNode.At.keep {w w':World} {S S':Nat->Prop} {t:GNode} {A1:Option Addr} {c1:Nat} (h:GNode.At w S A1 c1 t) (hk:∀ b,S b->S' b/\w'.heap[b]? =w.heap[b]?):GNode.At w' S' A1 c1 t:=by
 unfold GNode.At at h ⊢
 obtain⟨h0,h1,h2,h3,h4⟩:=h
 exact⟨h0,h1,h2,h3,h4.keep hk⟩
theorem GNode.At.below {w w':World} {B B':Nat} {t:GNode} {A1:Option Addr} {c1:Nat} (h:GNode.At w (Lt B) A1 c1 t) (hb:Below B w w') (hB:B<=B'):GNode.At w' (Lt B') A1 c1 t:=
 h.keep (keep_below hb hB)
inductive GTy where
 | mk (op:Int) (n:Int) (s:ByteArray) (kids:List GTy)
def GTy.op:GTy->Int | .mk x _ _ _=>x
def GTy.n:GTy->Int | .mk _ x _ _=>x
def GTy.s:GTy->ByteArray | .mk _ _ x _=>x
def GTy.kids:GTy->List GTy | .mk _ _ _ x=>x
mutual
def GTy.toD:GTy->D | .mk op n s kids=>.agg [.num .i64 op,.num .i64 n,.str s,.sl 4 (GTy.toDs kids)]
def GTy.toDs:List GTy->List D | []=>[] | t::r=>t.toD::GTy.toDs r
end
theorem GTy.toDs_map:∀ l:List GTy,GTy.toDs l=l.map GTy.toD
 | []=>rfl
 | t::r=>by simp only [GTy.toDs,List.map_cons,GTy.toDs_map r]
mutual
def GTy.bulk:GTy->Nat | .mk _ _ s kids=>s.size+GTy.bulks kids
def GTy.bulks:List GTy->Nat | []=>0 | t::r=>1+t.bulk+GTy.bulks r
end
theorem GTy.bulks_eq:∀ l:List GTy,GTy.bulks l=bulkL GTy.bulk l
 | []=>rfl
 | t::r=>by simp only [GTy.bulks,bulkL,GTy.bulks_eq r]
theorem GTy.bulk_eq (t:GTy):t.bulk=t.s.size+bulkL GTy.bulk t.kids:=by
 cases t;simp only [GTy.bulk,GTy.bulks_eq,GTy.op,GTy.n,GTy.s,GTy.kids]
def GTy.At (w:World) (S:Nat->Prop) (A1:Option Addr) (c1:Nat) (t:GTy):Prop:=
 (Lit.int .i64 t.op).wf=true/\(Lit.int .i64 t.n).wf=true/\t.s.size<=maxLen/\Sl w S 4 A1 c1 (t.kids.map GTy.toD)
theorem GTy.rd {w:World} {S:Nat->Prop} {t:GTy} {cs:List Value} (h:t.toD.rd w S cs):∃ A1 c1,cs= [.int .i64 t.op,.int .i64 t.n,.string t.s,.slice A1 t.kids.length c1]/\GTy.At w S A1 c1 t:=by
 cases t with
 | mk op n s kids=>
 simp only [GTy.toD,GTy.toDs_map] at h
 rw [D.rd_agg] at h
 rw [D.rdF_cons] at h
 obtain⟨x0,r0,rfl,k0,h⟩:=h
 obtain⟨rfl,h0⟩:=D.rd_num.1 k0
 rw [D.rdF_cons] at h
 obtain⟨x1,r1,rfl,k1,h⟩:=h
 obtain⟨rfl,h1⟩:=D.rd_num.1 k1
 rw [D.rdF_cons] at h
 obtain⟨x2,r2,rfl,k2,h⟩:=h
 obtain⟨rfl,h2⟩:=D.rd_str.1 k2
 rw [D.rdF_cons] at h
 obtain⟨x3,r3,rfl,k3,h⟩:=h
 obtain⟨A1,c1,rfl,h3⟩:=D.rd_sl.1 k3
 obtain rfl:=D.rdF_nil.1 h
 exact⟨A1,c1,by simp [GTy.op,GTy.n,GTy.s,GTy.kids],h0,h1,h2,h3⟩
theorem GTy.rd_mk {w:World} {S:Nat->Prop} {t:GTy} {A1:Option Addr} {c1:Nat} (h:GTy.At w S A1 c1 t):t.toD.rd w S [.int .i64 t.op,.int .i64 t.n,.string t.s,.slice A1 t.kids.length c1]:=by
 cases t with
 | mk op n s kids=>
 simp only [GTy.toD,GTy.toDs_map]
 unfold GTy.At at h
 obtain⟨h0,h1,h2,h3⟩:=h
 rw [D.rd_agg]
 exact D.rdF_cons.2 ⟨[_],[_,_,_],rfl,D.rd_num.2 ⟨rfl,h0⟩,D.rdF_cons.2 ⟨[_],[_,_],rfl,D.rd_num.2 ⟨rfl,h1⟩,D.rdF_cons.2 ⟨[_],[_],rfl,D.rd_str.2 ⟨rfl,h2⟩,D.rdF_cons.2 ⟨[_],[],rfl,D.rd_sl.2 ⟨A1,c1,by simp [GTy.kids],h3⟩,D.rdF_nil.2 rfl⟩⟩⟩⟩
theorem GTy.elem {w:World} {S:Nat->Prop} {A:Option Addr} {c:Nat} {l:List GTy} (h:Sl w S 4 A c (l.map GTy.toD)) (i:Nat) (hi:i<l.length):
 ∃ b off A1 c1,A=some ⟨b,off,none⟩/\S b/\w.cell? ⟨b,off+i*4,none⟩=some (.int .i64 l[i].op)/\w.cell? ⟨b,off+i*4+1,none⟩=some (.int .i64 l[i].n)/\w.cell? ⟨b,off+i*4+2,none⟩=some (.string l[i].s)/\w.cell? ⟨b,off+i*4+3,none⟩=some (.slice A1 l[i].kids.length c1)/\GTy.At w S A1 c1 l[i]:=by
 obtain⟨b,off,cs,e,hb,hl,hc,hr⟩:=Sl.get h i (by simpa using hi)
 rw [List.getElem_map] at hr
 obtain⟨A1,c1,rfl,h1⟩:=GTy.rd hr
 exact⟨b,off,A1,c1,e,hb,hc 0 _ rfl,hc 1 _ rfl,hc 2 _ rfl,hc 3 _ rfl,h1⟩
theorem GTy.At.keep {w w':World} {S S':Nat->Prop} {t:GTy} {A1:Option Addr} {c1:Nat} (h:GTy.At w S A1 c1 t) (hk:∀ b,S b->S' b/\w'.heap[b]? =w.heap[b]?):GTy.At w' S' A1 c1 t:=by
 unfold GTy.At at h ⊢
 obtain⟨h0,h1,h2,h3⟩:=h
 exact⟨h0,h1,h2,h3.keep hk⟩
theorem GTy.At.below {w w':World} {B B':Nat} {t:GTy} {A1:Option Addr} {c1:Nat} (h:GTy.At w (Lt B) A1 c1 t) (hb:Below B w w') (hB:B<=B'):GTy.At w' (Lt B') A1 c1 t:=
 h.keep (keep_below hb hB)
structure GCon where
 name:ByteArray
 args:List GTy
def GCon.toD (x:GCon):D:=.agg [.str x.name,.sl 4 (x.args.map GTy.toD)]
def GCon.bulk (x:GCon):Nat:=x.name.size+bulkL GTy.bulk x.args
theorem GCon.bulk_eq (t:GCon):t.bulk=t.name.size+bulkL GTy.bulk t.args:=rfl
def GCon.At (w:World) (S:Nat->Prop) (A1:Option Addr) (c1:Nat) (t:GCon):Prop:=
 t.name.size<=maxLen/\Sl w S 4 A1 c1 (t.args.map GTy.toD)
theorem GCon.rd {w:World} {S:Nat->Prop} {t:GCon} {cs:List Value} (h:t.toD.rd w S cs):∃ A1 c1,cs= [.string t.name,.slice A1 t.args.length c1]/\GCon.At w S A1 c1 t:=by
 unfold GCon.toD at h
 rw [D.rd_agg] at h
 rw [D.rdF_cons] at h
 obtain⟨x0,r0,rfl,k0,h⟩:=h
 obtain⟨rfl,h0⟩:=D.rd_str.1 k0
 rw [D.rdF_cons] at h
 obtain⟨x1,r1,rfl,k1,h⟩:=h
 obtain⟨A1,c1,rfl,h1⟩:=D.rd_sl.1 k1
 obtain rfl:=D.rdF_nil.1 h
 exact⟨A1,c1,by simp [List.length_map],h0,h1⟩
theorem GCon.rd_mk {w:World} {S:Nat->Prop} {t:GCon} {A1:Option Addr} {c1:Nat} (h:GCon.At w S A1 c1 t):t.toD.rd w S [.string t.name,.slice A1 t.args.length c1]:=by
 unfold GCon.toD
 unfold GCon.At at h
 obtain⟨h0,h1⟩:=h
 rw [D.rd_agg]
 exact D.rdF_cons.2 ⟨[_],[_],rfl,D.rd_str.2 ⟨rfl,h0⟩,D.rdF_cons.2 ⟨[_],[],rfl,D.rd_sl.2 ⟨A1,c1,by simp [List.length_map],h1⟩,D.rdF_nil.2 rfl⟩⟩
theorem GCon.elem {w:World} {S:Nat->Prop} {A:Option Addr} {c:Nat} {l:List GCon} (h:Sl w S 2 A c (l.map GCon.toD)) (i:Nat) (hi:i<l.length):
 ∃ b off A1 c1,A=some ⟨b,off,none⟩/\S b/\w.cell? ⟨b,off+i*2,none⟩=some (.string l[i].name)/\w.cell? ⟨b,off+i*2+1,none⟩=some (.slice A1 l[i].args.length c1)/\GCon.At w S A1 c1 l[i]:=by
 obtain⟨b,off,cs,e,hb,hl,hc,hr⟩:=Sl.get h i (by simpa using hi)
 rw [List.getElem_map] at hr
 obtain⟨A1,c1,rfl,h1⟩:=GCon.rd hr
 exact⟨b,off,A1,c1,e,hb,hc 0 _ rfl,hc 1 _ rfl,h1⟩
theorem GCon.At.keep {w w':World} {S S':Nat->Prop} {t:GCon} {A1:Option Addr} {c1:Nat} (h:GCon.At w S A1 c1 t) (hk:∀ b,S b->S' b/\w'.heap[b]? =w.heap[b]?):GCon.At w' S' A1 c1 t:=by
 unfold GCon.At at h ⊢
 obtain⟨h0,h1⟩:=h
 exact⟨h0,h1.keep hk⟩
theorem GCon.At.below {w w':World} {B B':Nat} {t:GCon} {A1:Option Addr} {c1:Nat} (h:GCon.At w (Lt B) A1 c1 t) (hb:Below B w w') (hB:B<=B'):GCon.At w' (Lt B') A1 c1 t:=
 h.keep (keep_below hb hB)
structure GData where
 name:ByteArray
 vars:Int
 cons:List GCon
def GData.toD (x:GData):D:=.agg [.str x.name,.num .i64 x.vars,.sl 2 (x.cons.map GCon.toD)]
def GData.bulk (x:GData):Nat:=x.name.size+bulkL GCon.bulk x.cons
theorem GData.bulk_eq (t:GData):t.bulk=t.name.size+bulkL GCon.bulk t.cons:=rfl
def GData.At (w:World) (S:Nat->Prop) (A1:Option Addr) (c1:Nat) (t:GData):Prop:=
 t.name.size<=maxLen/\(Lit.int .i64 t.vars).wf=true/\Sl w S 2 A1 c1 (t.cons.map GCon.toD)
theorem GData.rd {w:World} {S:Nat->Prop} {t:GData} {cs:List Value} (h:t.toD.rd w S cs):∃ A1 c1,cs= [.string t.name,.int .i64 t.vars,.slice A1 t.cons.length c1]/\GData.At w S A1 c1 t:=by
 unfold GData.toD at h
 rw [D.rd_agg] at h
 rw [D.rdF_cons] at h
 obtain⟨x0,r0,rfl,k0,h⟩:=h
 obtain⟨rfl,h0⟩:=D.rd_str.1 k0
 rw [D.rdF_cons] at h
 obtain⟨x1,r1,rfl,k1,h⟩:=h
 obtain⟨rfl,h1⟩:=D.rd_num.1 k1
 rw [D.rdF_cons] at h
 obtain⟨x2,r2,rfl,k2,h⟩:=h
 obtain⟨A1,c1,rfl,h2⟩:=D.rd_sl.1 k2
 obtain rfl:=D.rdF_nil.1 h
 exact⟨A1,c1,by simp [List.length_map],h0,h1,h2⟩
theorem GData.rd_mk {w:World} {S:Nat->Prop} {t:GData} {A1:Option Addr} {c1:Nat} (h:GData.At w S A1 c1 t):t.toD.rd w S [.string t.name,.int .i64 t.vars,.slice A1 t.cons.length c1]:=by
 unfold GData.toD
 unfold GData.At at h
 obtain⟨h0,h1,h2⟩:=h
 rw [D.rd_agg]
 exact D.rdF_cons.2 ⟨[_],[_,_],rfl,D.rd_str.2 ⟨rfl,h0⟩,D.rdF_cons.2 ⟨[_],[_],rfl,D.rd_num.2 ⟨rfl,h1⟩,D.rdF_cons.2 ⟨[_],[],rfl,D.rd_sl.2 ⟨A1,c1,by simp [List.length_map],h2⟩,D.rdF_nil.2 rfl⟩⟩⟩
theorem GData.elem {w:World} {S:Nat->Prop} {A:Option Addr} {c:Nat} {l:List GData} (h:Sl w S 3 A c (l.map GData.toD)) (i:Nat) (hi:i<l.length):
 ∃ b off A1 c1,A=some ⟨b,off,none⟩/\S b/\w.cell? ⟨b,off+i*3,none⟩=some (.string l[i].name)/\w.cell? ⟨b,off+i*3+1,none⟩=some (.int .i64 l[i].vars)/\w.cell? ⟨b,off+i*3+2,none⟩=some (.slice A1 l[i].cons.length c1)/\GData.At w S A1 c1 l[i]:=by
 obtain⟨b,off,cs,e,hb,hl,hc,hr⟩:=Sl.get h i (by simpa using hi)
 rw [List.getElem_map] at hr
 obtain⟨A1,c1,rfl,h1⟩:=GData.rd hr
 exact⟨b,off,A1,c1,e,hb,hc 0 _ rfl,hc 1 _ rfl,hc 2 _ rfl,h1⟩
theorem GData.At.keep {w w':World} {S S':Nat->Prop} {t:GData} {A1:Option Addr} {c1:Nat} (h:GData.At w S A1 c1 t) (hk:∀ b,S b->S' b/\w'.heap[b]? =w.heap[b]?):GData.At w' S' A1 c1 t:=by
 unfold GData.At at h ⊢
 obtain⟨h0,h1,h2⟩:=h
 exact⟨h0,h1,h2.keep hk⟩
def nval (l:List UInt8):Nat:=l.foldl (fun n c=>10*n+(c.toNat - 48)) 0
def isDig (c:UInt8):Bool:=decide (48<=c.toNat/\c.toNat<=57)
theorem nval_snoc (l:List UInt8) (c:UInt8):nval (l++[c])=10*nval l+(c.toNat - 48):=by simp [nval]
theorem nval_lt (n:Nat):∀ l:List UInt8,l.length=n->l.all isDig=true->nval l<10 ^ n:=by
 induction n with
 | zero=>intro l h _;rw [List.eq_nil_of_length_eq_zero h];simp [nval]
 | succ n ih=>
  intro l h hd
  have hne:l≠[]:=by intro e;rw [e] at h;simp at h
  have e:=List.dropLast_concat_getLast hne
  rw [<- e] at hd ⊢
  rw [List.all_append,Bool.and_eq_true] at hd
  have h1:=ih l.dropLast (by simp [h]) hd.1
  have h2:isDig (l.getLast hne)=true:=by simpa using hd.2
  unfold isDig at h2
  have h3:=of_decide_eq_true h2
  rw [nval_snoc,Nat.pow_succ]
  omega
theorem one_dig (c:UInt8) (h:isDig c=true):one (48+((c.toNat - 48:Nat):Int))=⟨#[c]⟩:=by
 have h3:=of_decide_eq_true h
 unfold one
 have e:(48+((c.toNat - 48:Nat):Int)).toNat=c.toNat:=by omega
 rw [e]
 simp
theorem digU_nval (n:Nat):∀ l:List UInt8,l.length=n+1->l.all isDig=true->(l.head?≠some 48\/n=0)->digU (nval l)=⟨l.toArray⟩/\(l.head?≠some 48->0<nval l):=by
 induction n with
 | zero=>
  intro l h hd _
  match l,h with
  | [c],_=>
   have hc:isDig c=true:=by simpa using hd
   have h3:=of_decide_eq_true hc
   have e:nval [c]=c.toNat - 48:=by simp [nval]
   refine⟨?_,fun hh=>?_⟩
   · rw [e,digU_lt (by omega),one_dig c hc]
   · rw [e]
     rcases Nat.lt_or_ge 48 c.toNat with h4 | h4
     · omega
     · have:c.toNat=48:=by omega
       exact absurd (by simp;exact UInt8.toNat_inj.1 this) hh
 | succ n ih=>
  intro l h hd hz
  have hne:l≠[]:=by intro e;rw [e] at h;simp at h
  have e:=List.dropLast_concat_getLast hne
  have hhead:l.dropLast.head? =l.head?:=by
   match l,h with
   | a::b::r,_=>simp [List.dropLast]
  have hz':l.head?≠some 48:=by rcases hz with hz | hz;exact hz;omega
  rw [<- e] at hd
  rw [List.all_append,Bool.and_eq_true] at hd
  obtain⟨h1,h2⟩:=ih l.dropLast (by simp [h]) hd.1 (.inl (by rw [hhead];exact hz'))
  have h2:=h2 (by rw [hhead];exact hz')
  have h4:isDig (l.getLast hne)=true:=by simpa using hd.2
  have h3:=of_decide_eq_true h4
  have ev:nval l=10*nval l.dropLast+((l.getLast hne).toNat - 48):=by rw [<- nval_snoc,e]
  refine⟨?_,fun _=>by omega⟩
  rw [ev,digU_ge (by omega)]
  have e1:(10*nval l.dropLast+((l.getLast hne).toNat - 48)) / 10=nval l.dropLast:=by omega
  have e2:(10*nval l.dropLast+((l.getLast hne).toNat - 48)) % 10=(l.getLast hne).toNat - 48:=by omega
  rw [e1,e2,h1,one_dig _ h4]
  apply ByteArray.ext
  simp only [ByteArray.data_append]
  conv=>rhs;rw [<- e]
  simp
theorem digU_head (k:Nat):∀ n:Nat,n<k->0<n->(digU n).data.toList.head?≠some 48/\(digU n).data.toList≠[]:=by
 induction k with
 | zero=>intro n h;omega
 | succ k ih=>
  intro n h h0
  by_cases h10:n<10
  ·
   rw [digU_lt h10]
   have e:(one (48+(n:Int))).data.toList= [UInt8.ofNat (48+n)]:=by
    unfold one
    have:(48+(n:Int)).toNat=48+n:=by omega
    rw [this]
   rw [e]
   refine⟨fun hh=>?_,by simp⟩
   simp only [List.head?_cons,Option.some.injEq] at hh
   have:=congrArg UInt8.toNat hh
   simp at this
   omega
  ·
   rw [digU_ge (by omega)]
   obtain⟨h1,h2⟩:=ih (n / 10) (by omega) (by omega)
   simp only [ByteArray.data_append,Array.toList_append]
   refine⟨?_,by simp [h2]⟩
   obtain⟨c,r,e⟩:=List.exists_cons_of_ne_nil h2
   rw [e] at h1 ⊢
   simpa using h1
theorem digU_nval_iff (l:List UInt8) (hl:l≠[]) (hd:l.all isDig=true):digU (nval l)=⟨l.toArray⟩ ↔ ¬ (l.head? =some 48/\1<l.length):=by
 have hlen:0<l.length:=List.length_pos_iff.2 hl
 constructor
 ·
  intro h ⟨h1,h2⟩
  have hdata:(digU (nval l)).data.toList=l:=by rw [h]
  rcases Nat.eq_zero_or_pos (nval l) with h0 | h0
  · rw [h0,digU_lt (by omega)] at hdata
    have:(one (48+((0:Nat):Int))).data.toList.length=l.length:=by rw [hdata]
    have e1:(one (48+((0:Nat):Int))).data.toList.length=1:=rfl
    omega
  · have:=(digU_head (nval l+1) (nval l) (by omega) h0).1
    rw [hdata] at this
    exact this h1
 ·
  intro h
  refine(digU_nval (l.length - 1) l (by omega) hd ?_).1
  by_cases h1:l.head? =some 48
  · right
    rcases Nat.lt_or_ge 1 l.length with h2 | h2
    · exact absurd ⟨h1,h2⟩ h
    · omega
  · exact .inl h1
def numOk (l:List UInt8):Bool:=decide (1<=l.length/\l.length<=10)&&(!(l.head? ==some 48&&decide (1<l.length))&&(l.all isDig&&decide (nval l<=1073741823)))
def numI (s:ByteArray):Int × Bool:=if numOk s.data.toList then(((nval s.data.toList:Nat):Int),true) else(0,false)
theorem nval_lt10 (l:List UInt8) (h:l.length<=10) (hd:l.all isDig=true):nval l<10000000000:=by
 have h1:=nval_lt l.length l rfl hd
 have h2:10 ^ l.length<=10 ^ 10:=Nat.pow_le_pow_right (by omega) h
 omega
theorem take_snoc_b (s:ByteArray) (k:Nat) (h:k<s.size):s.data.toList.take (k+1)=s.data.toList.take k++[s[k]]:=by
 rw [List.take_succ_eq_append_getElem (by simpa using h)];rfl
theorem all_take_false {l:List UInt8} {k:Nat} (h:k<l.length) (hd:isDig l[k]=false):l.all isDig=false:=by
 rw [<- Bool.not_eq_true];intro hh
 have:=List.all_eq_true.1 hh _ (List.getElem_mem h)
 rw [hd] at this;cases this
set_option maxHeartbeats 400000
def inStrs (l:List ByteArray) (s:ByteArray):Bool:=l.any fun k=>k.toList ==s.toList
theorem inStrs_take (l:List ByteArray) (s:ByteArray) (j:Nat) (h:j<l.length):inStrs (l.take (j+1)) s=(inStrs (l.take j) s||(l[j].toList ==s.toList)):=by
 unfold inStrs;rw [take_snoc' l j h];simp only [List.any_append,List.any_cons,List.any_nil,Bool.or_false]
theorem inStrs_mem {l:List ByteArray} {s:ByteArray} {j:Nat} (h:j<l.length) (he:(l[j].toList ==s.toList)=true):inStrs l s=true:=by
 unfold inStrs;rw [List.any_eq_true];exact⟨l[j],List.getElem_mem h,he⟩
theorem Sl.strAt {w:World} {S:Nat->Prop} {A:Option Addr} {c:Nat} {l:List ByteArray} (h:Sl w S 1 A c (l.map D.str)) (i:Nat) (hi:i<l.length):
 ∃ b off,A=some ⟨b,off,none⟩/\S b/\w.cell? ⟨b,off+i,none⟩=some (.string l[i])/\l[i].size<=maxLen:=by
 obtain⟨b,off,cs,e,hb,hl,hc,hr⟩:=Sl.get h i (by simpa using hi)
 rw [List.getElem_map] at hr
 obtain⟨rfl,h1⟩:=D.rd_str.1 hr
 have:=hc 0 _ rfl
 exact⟨b,off,e,hb,by simpa using this,h1⟩
theorem specWithin (l:List ByteArray) (s:ByteArray) (A:Option Addr) (c:Nat) (w:World) (hs:Sl w (Lt w.heap.size) 1 A c (l.map D.str)):
 Calls Tryz.prog 134 #[.slice A l.length c,.string s] w fun e w'=>e= .returned (.bool (inStrs l s))/\w=w':=by
 have hlen:l.length<=9223372036854775807:=by simpa using hs.len
 go_enter Tryz.func134,Tryz.ntmps134
 go_wp2_with fail
 go_loop [5] (fun i=>∃ (j:Nat),j<=l.length/\i= .int .i64 j/\inStrs (l.take j) s=false) (fun i=>l.length - (intOf i).toNat)
 case atStart=>exact⟨0,by omega,by go_num,by simp [inStrs]⟩
 case round=>
  obtain⟨j,hj,rfl,hn⟩:=hrel
  have Hn:=LH hn
  clear hn
  by_cases hlt:j<l.length
  ·
   obtain⟨b,off,rfl,hSb,g0,k0⟩:=hs.strAt j hlt
   cases he:(l[j].toList ==s.toList)
   · have hst:=LH (inStrs_take l s j hlt)
     have he2:=LH he
     go_wp2_with fail
     go_round
     case rel=>exact⟨j+1,by omega,by go_num,by rw [hst.out,Hn.out,he2.out];rfl⟩
     case measure=>simp [intOf];omega
   · have hm:=LH (inStrs_mem hlt he)
     go_wp2_with fail
     go_ret
     exact⟨ret_bool hm.out.symm,rfl⟩
  ·
   have hjl:j=l.length:=by omega
   have Hj:=LH hjl
   clear hjl
   go_wp2_with fail
   go_ret
   refine⟨ret_bool ?_,rfl⟩
   have:=Hn.out
   rw [Hj.out,List.take_length] at this
   exact this.symm
def kws:List ByteArray:=[⟨#[100,97,116,97]⟩,⟨#[108,101,116]⟩,⟨#[114,101,99]⟩,⟨#[105,110]⟩,⟨#[102,117,110]⟩,⟨#[99,97,115,101]⟩,⟨#[111,102]⟩,⟨#[105,102]⟩,⟨#[116,104,101,110]⟩,⟨#[101,108,115,101]⟩,⟨#[112,117,116]⟩]
theorem kws_sl (w:World) (t:TypeId):Sl (w.alloc (.cells (kws.map Value.string).toArray t)) (Lt (w.heap.size+1)) 1 (some ⟨w.heap.size,0,none⟩) 11 (kws.map D.str):=by
 have hr:=Row.new w t (kws.map Value.string).toArray
 refine⟨by decide,by unfold maxLen;omega,.inr ⟨w.heap.size,0,rfl,by unfold Lt;omega,D.rdR_mk fun i hi=>?_⟩⟩
 have hi':i<kws.length:=by simpa using hi
 refine⟨[.string kws[i]],rfl,fun j v hj=>?_,?_⟩
 ·
  match j with
  | 0=>
   have hv:Value.string kws[i]=v:=by simpa using hj
   subst hv
   rw [hr.cell]
   simp [hi']
  | j+1=>simp at hj
 ·
  rw [List.getElem_map]
  refine D.rd_str.2 ⟨rfl,?_⟩
  have hall:∀ k∈kws,k.size<=maxLen:=by
   intro k hk
   have:∀ k∈kws,k.size<=5:=by decide
   have:=this k hk
   unfold maxLen;omega
  exact hall _ (List.getElem_mem hi')
theorem specKeyword (s:ByteArray) (w:World):Calls Tryz.prog 124 #[.string s] w fun e w'=>e= .returned (.bool (inStrs kws s))/\Below w.heap.size w w':=by
 go_enter Tryz.func124,Tryz.ntmps124
 go_wp2_with fail
 refine(specWithin kws s _ 11 (w.alloc (.cells (kws.map Value.string).toArray 9)) ((kws_sl w 9).keep fun b hb=>⟨by simpa using hb,rfl⟩)).mono ?_
 rintro e w1 ⟨rfl,rfl⟩
 go_wp2_with fail
 go_ret
 exact⟨rfl,(Below.refl _ _).alloc (Nat.le_refl _) _⟩
set_option maxRecDepth 100000
def inKw (s:ByteArray):Bool:=kws.any fun k=>k.data.toList ==s.data.toList
theorem bytes_beq (a b:ByteArray):(a.toList ==b.toList)=(a.data.toList ==b.data.toList):=by rw [ByteArray.toList_eq,ByteArray.toList_eq]
theorem inKw_eq (s:ByteArray):inStrs kws s=inKw s:=by unfold inStrs inKw;simp only [bytes_beq]
def smallB (b:UInt8):Bool:=decide (97<=b.toNat)&&decide (b.toNat<=122)
def largeB (b:UInt8):Bool:=decide (65<=b.toNat)&&decide (b.toNat<=90)
def digitB (b:UInt8):Bool:=decide (48<=b.toNat)&&decide (b.toNat<=57)
def spanN (p:UInt8->Bool):List UInt8->Nat
 | []=>0
 | b::r=>if p b then spanN p r+1 else 0
def pSigns:List UInt8:=[40,41,123,125,59,61,124,43,45,42,60,95]
def pSignAt (l:List UInt8):List UInt8:=
 match l with
 | 45::62::_=>[45,62]
 | 61::61::_=>[61,61]
 | b::_=>if pSigns.contains b then [b] else []
 | []=>[]
def tokN:Nat->List UInt8->Nat->List GToken->Option (List GToken)
 | 0,_,_,_=>none
 | k+1,[],at0,acc=>some (acc++[⟨0,⟨#[]⟩,0,at0⟩])
 | k+1,b::r,at0,acc=>
  if b ==32||b ==10 then tokN k r (at0+1) acc
  else if smallB b||largeB b then
   let n:=spanN (fun c=>smallB c||largeB c) (b::r)
   if n<=8 then tokN k ((b::r).drop n) (at0+n) (acc++[⟨if largeB b then 2 else 1,⟨((b::r).take n).toArray⟩,0,at0⟩]) else none
  else if digitB b then
   let n:=spanN digitB (b::r)
   if(numI ⟨((b::r).take n).toArray⟩).2 then tokN k ((b::r).drop n) (at0+n) (acc++[⟨3,⟨#[]⟩,(numI ⟨((b::r).take n).toArray⟩).1,at0⟩]) else none
  else
   let s:=pSignAt (b::r)
   if s.isEmpty then none else tokN k ((b::r).drop s.length) (at0+s.length) (acc++[⟨4,⟨s.toArray⟩,0,at0⟩])
structure PSt where
 pos:Nat
 bad:Int
 vars:List ByteArray
 nov:Bool
def pNow (ts:List GToken) (st:PSt):GToken:=ts.getD st.pos ⟨0,⟨#[]⟩,0,0⟩
def pBad (ts:List GToken) (st:PSt):PSt:=if st.bad<0 then {st with bad:=(pNow ts st).pos} else st
def pSign (ts:List GToken) (s:List UInt8) (st:PSt):Bool:=decide (st.bad<0)&&((pNow ts st).kind ==4&&(pNow ts st).text.data.toList ==s)
def pIs (ts:List GToken) (s:List UInt8) (st:PSt):Bool:=decide (st.bad<0)&&((pNow ts st).kind ==1&&(pNow ts st).text.data.toList ==s)
def pName (ts:List GToken) (st:PSt):Bool:=decide (st.bad<0)&&((pNow ts st).kind ==1&&!inKw (pNow ts st).text)
def pCon (ts:List GToken) (st:PSt):Bool:=decide (st.bad<0)&&((pNow ts st).kind ==2&&(pNow ts st).text.data.toList != [73,110,116])
def pNext (ts:List GToken) (st:PSt):PSt:=if st.pos+1<ts.length then {st with pos:=st.pos+1} else st
def pTake (ts:List GToken) (s:List UInt8) (st:PSt):PSt:=if pSign ts s st then pNext ts st else pBad ts st
def pWord (ts:List GToken) (s:List UInt8) (st:PSt):PSt:=if pIs ts s st then pNext ts st else pBad ts st
def pText (ts:List GToken) (con:Bool) (st:PSt):ByteArray × PSt:=
 if(con&&!pCon ts st)||(!con&&!pName ts st) then(⟨#[]⟩,pBad ts st) else((pNow ts st).text,pNext ts st)
def pVar (s:ByteArray) (st:PSt):Int × PSt:=
 match st.vars.findIdx? (fun v=>v.data.toList ==s.data.toList) with
 | some i=>(i,st)
 | none=>(0,{st with nov:=true})
def pSmall (ts:List GToken) (st:PSt):Bool:=pName ts st||(decide (st.bad<0)&&(pNow ts st).kind ==2)||pSign ts [40] st
mutual
def pTyAtom (ts:List GToken):Nat->PSt->Option (GTy × PSt)
 | 0,_=>none
 | k+1,st=>
  if pName ts st then let v:=pVar (pNow ts st).text (pNext ts st);some (.mk 2 v.1 ⟨#[]⟩ [],v.2)
  else if pCon ts st then some (.mk 4 0 (pNow ts st).text [],pNext ts st)
  else if decide (st.bad<0)&&(pNow ts st).kind ==2 then some (.mk 1 0 ⟨#[]⟩ [],pNext ts st)
  else let st1:=pTake ts [40] st
   if 0<=st1.bad then some (.mk 0 0 ⟨#[]⟩ [],st1) else(pTy ts k st1).map fun r=>(r.1,pTake ts [41] r.2)
def pTy (ts:List GToken):Nat->PSt->Option (GTy × PSt)
 | 0,_=>none
 | k+1,st=>
  (if pCon ts st then(pTyKids ts k (pText ts true st).2 []).map fun r=>(GTy.mk 4 0 (pText ts true st).1 r.1,r.2) else pTyAtom ts k st).bind fun a=>
   if pSign ts [45,62] a.2 then(pTy ts k (pNext ts a.2)).map fun b=>(.mk 3 0 ⟨#[]⟩ [a.1,b.1],b.2) else some a
def pTyKids (ts:List GToken):Nat->PSt->List GTy->Option (List GTy × PSt)
 | 0,_,_=>none
 | k+1,st,acc=>if pSmall ts st then(pTyAtom ts k st).bind fun r=>pTyKids ts k r.2 (acc++[r.1]) else some (acc,st)
end
def pAlt (ts:List GToken) (k:Nat) (st:PSt):Option (GCon × PSt):=(pTyKids ts k (pText ts true st).2 []).map fun r=>(⟨(pText ts true st).1,r.1⟩,r.2)
def pVars (ts:List GToken):Nat->PSt->Option PSt
 | 0,_=>none
 | k+1,st=>if pName ts st then pVars ts k {(pText ts false st).2 with vars:=st.vars++[(pText ts false st).1]} else some st
def pCons (ts:List GToken):Nat->PSt->List GCon->Option (List GCon × PSt)
 | 0,_,_=>none
 | k+1,st,acc=>if pSign ts [124] st then(pAlt ts k (pNext ts st)).bind fun r=>pCons ts k r.2 (acc++[r.1]) else some (acc,st)
def pData (ts:List GToken) (k:Nat) (st:PSt):Option (GData × PSt):=
 let a:=pText ts true (pWord ts [100,97,116,97] st)
 (pVars ts k {a.2 with vars:=[]}).bind fun st2=>
  (pAlt ts k (pTake ts [61] st2)).bind fun c=>(pCons ts k c.2 [c.1]).map fun r=>(⟨a.1,(st2.vars.length:Nat),r.1⟩,pTake ts [59] r.2)
def pAtomic (ts:List GToken) (st:PSt):Bool:=pName ts st||pCon ts st||pSign ts [40] st||(decide (st.bad<0)&&(pNow ts st).kind ==3)
def nd (op:Int) (kids:List GNode):GNode:=.mk op 0 ⟨#[]⟩ ⟨#[]⟩ kids
mutual
def pPatAtom (ts:List GToken):Nat->PSt->Option (GNode × PSt)
 | 0,_=>none
 | k+1,st=>
  if pSign ts [95] st then some (nd 17 [],pNext ts st)
  else if decide (st.bad<0)&&(pNow ts st).kind ==3 then some (.mk 19 (pNow ts st).n ⟨#[]⟩ ⟨#[]⟩ [],pNext ts st)
  else if pName ts st then some (.mk 18 0 (pNow ts st).text ⟨#[]⟩ [],pNext ts st)
  else if pCon ts st then some (.mk 20 0 (pNow ts st).text ⟨#[]⟩ [],pNext ts st)
  else let st1:=pTake ts [40] st
   if 0<=st1.bad then some (nd 0 [],st1) else(pPat ts k st1).map fun r=>(r.1,pTake ts [41] r.2)
def pPat (ts:List GToken):Nat->PSt->Option (GNode × PSt)
 | 0,_=>none
 | k+1,st=>if pCon ts st then(pPatKids ts k (pText ts true st).2 []).map fun r=>(.mk 20 0 (pText ts true st).1 ⟨#[]⟩ r.1,r.2) else pPatAtom ts k st
def pPatKids (ts:List GToken):Nat->PSt->List GNode->Option (List GNode × PSt)
 | 0,_,_=>none
 | k+1,st,acc=>if pAtomic ts st||pSign ts [95] st then(pPatAtom ts k st).bind fun r=>pPatKids ts k r.2 (acc++[r.1]) else some (acc,st)
end
mutual
def pAtom (ts:List GToken):Nat->PSt->Option (GNode × PSt)
 | 0,_=>none
 | k+1,st=>
  if decide (st.bad<0)&&(pNow ts st).kind ==3 then some (.mk 1 (pNow ts st).n ⟨#[]⟩ ⟨#[]⟩ [],pNext ts st)
  else if pName ts st then some (.mk 2 0 (pNow ts st).text ⟨#[]⟩ [],pNext ts st)
  else if pCon ts st then some (.mk 15 0 (pNow ts st).text ⟨#[]⟩ [],pNext ts st)
  else let st1:=pTake ts [40] st
   if 0<=st1.bad then some (nd 0 [],st1) else(pE ts k st1).map fun r=>(r.1,pTake ts [41] r.2)
def pApply (ts:List GToken):Nat->PSt->Option (GNode × PSt)
 | 0,_=>none
 | k+1,st=>
  if pIs ts [112,117,116] st then(pAtom ts k (pNext ts st)).map fun r=>(nd 16 [r.1],r.2)
  else if pCon ts st then(pKids ts k (pText ts true st).2 []).map fun r=>(.mk 15 0 (pText ts true st).1 ⟨#[]⟩ r.1,r.2)
  else(pAtom ts k st).bind fun a=>pApps ts k a.2 a.1
def pKids (ts:List GToken):Nat->PSt->List GNode->Option (List GNode × PSt)
 | 0,_,_=>none
 | k+1,st,acc=>if pAtomic ts st then(pAtom ts k st).bind fun r=>pKids ts k r.2 (acc++[r.1]) else some (acc,st)
def pApps (ts:List GToken):Nat->PSt->GNode->Option (GNode × PSt)
 | 0,_,_=>none
 | k+1,st,a=>if pAtomic ts st then(pAtom ts k st).bind fun b=>pApps ts k b.2 (nd 4 [a,b.1]) else some (a,st)
def pProduct (ts:List GToken):Nat->PSt->Option (GNode × PSt)
 | 0,_=>none
 | k+1,st=>(pApply ts k st).bind fun a=>pMuls ts k a.2 a.1
def pMuls (ts:List GToken):Nat->PSt->GNode->Option (GNode × PSt)
 | 0,_,_=>none
 | k+1,st,a=>if pSign ts [42] st then(pApply ts k (pNext ts st)).bind fun b=>pMuls ts k b.2 (nd 12 [a,b.1]) else some (a,st)
def pSum (ts:List GToken):Nat->PSt->Option (GNode × PSt)
 | 0,_=>none
 | k+1,st=>(pProduct ts k st).bind fun a=>pAdds ts k a.2 a.1
def pAdds (ts:List GToken):Nat->PSt->GNode->Option (GNode × PSt)
 | 0,_,_=>none
 | k+1,st,a=>if pSign ts [43] st||pSign ts [45] st then(pProduct ts k (pNext ts st)).bind fun b=>pAdds ts k b.2 (nd (if pSign ts [45] st then 11 else 10) [a,b.1]) else some (a,st)
def pCompare (ts:List GToken):Nat->PSt->Option (GNode × PSt)
 | 0,_=>none
 | k+1,st=>(pSum ts k st).bind fun a=>
  if pSign ts [60] a.2 then(pSum ts k (pNext ts a.2)).map fun b=>(nd 13 [a.1,b.1],b.2)
  else if pSign ts [61,61] a.2 then(pSum ts k (pNext ts a.2)).map fun b=>(nd 14 [a.1,b.1],b.2)
  else some a
def pCaseAlts (ts:List GToken):Nat->PSt->List GNode->Option (List GNode × PSt)
 | 0,_,_=>none
 | k+1,st,acc=>if st.bad<0 then(pPat ts k st).bind fun p=>(pE ts k (pTake ts [45,62] p.2)).bind fun b=>
  if pSign ts [59] b.2 then pCaseAlts ts k (pNext ts b.2) (acc++[nd 8 [p.1,b.1]]) else some (acc++[nd 8 [p.1,b.1]],b.2)
  else some (acc,st)
def pE (ts:List GToken):Nat->PSt->Option (GNode × PSt)
 | 0,_=>none
 | k+1,st=>
  if pIs ts [102,117,110] st then let a:=pText ts false (pNext ts st);(pE ts k (pTake ts [45,62] a.2)).map fun e=>(.mk 3 0 a.1 ⟨#[]⟩ [e.1],e.2)
  else if pIs ts [108,101,116] st then let a:=pText ts false (pNext ts st);(pE ts k (pTake ts [61] a.2)).bind fun e=>(pE ts k (pWord ts [105,110] e.2)).map fun b=>(.mk 5 0 a.1 ⟨#[]⟩ [e.1,b.1],b.2)
  else if pIs ts [114,101,99] st then let a:=pText ts false (pNext ts st);let a2:=pText ts false a.2;(pE ts k (pTake ts [61] a2.2)).bind fun e=>(pE ts k (pWord ts [105,110] e.2)).map fun b=>(.mk 6 0 a.1 a2.1 [e.1,b.1],b.2)
  else if pIs ts [99,97,115,101] st then(pE ts k (pNext ts st)).bind fun e=>(pCaseAlts ts k (pTake ts [123] (pWord ts [111,102] e.2)) [e.1]).map fun r=>(nd 7 r.1,pTake ts [125] r.2)
  else if pIs ts [105,102] st then(pE ts k (pNext ts st)).bind fun a=>(pE ts k (pWord ts [116,104,101,110] a.2)).bind fun b=>(pE ts k (pWord ts [101,108,115,101] b.2)).map fun d=>(nd 9 [a.1,b.1,d.1],d.2)
  else pCompare ts k st
end
def pDatas (ts:List GToken):Nat->PSt->List GData->Option (List GData × PSt)
 | 0,_,_=>none
 | k+1,st,acc=>if pIs ts [100,97,116,97] st then(pData ts k st).bind fun r=>pDatas ts k r.2 (acc++[r.1]) else some (acc,st)
structure Bx (g:Nat) (w w':World):Prop where
 os:w'.os=w.os
 tape:w'.tape=w.tape
 output:w'.output=w.output
 size:w.heap.size<=w'.heap.size
 block:∀ b,b<w.heap.size->b≠g->w'.heap[b]? =w.heap[b]?
theorem Bx.refl (g:Nat) (w:World):Bx g w w:=⟨rfl,rfl,rfl,Nat.le_refl _,fun _ _ _=>rfl⟩
theorem Bx.trans {g:Nat} {a b c:World} (h:Bx g a b) (k:Bx g b c):Bx g a c:=
 ⟨k.os.trans h.os,k.tape.trans h.tape,k.output.trans h.output,Nat.le_trans h.size k.size,fun i hi hg=>(k.block i (Nat.lt_of_lt_of_le hi h.size) hg).trans (h.block i hi hg)⟩
theorem Bx.of_below {g B:Nat} {w w':World} (h:Below B w w') (hB:w.heap.size<=B):Bx g w w':=⟨h.os,h.tape,h.output,h.size,fun b hb _=>h.block b (Nat.lt_of_lt_of_le hb hB)⟩
theorem Bx.alloc {g:Nat} {w w':World} (h:Bx g w w') (o:Obj):Bx g w (w'.alloc o):=h.trans (Bx.of_below ((Below.refl w'.heap.size w').alloc (Nat.le_refl _) o) (Nat.le_refl _))
theorem Bx.set {g:Nat} {w w':World} (h:Bx g w w') {p:Addr} (hp:p.block=g\/w.heap.size<=p.block) (u:Value):Bx g w (w'.setCell p u):=
 ⟨h.os,h.tape,h.output,by simp [World.setCell];exact h.size,fun b hb hg=>(Below.heap_setCell w' p u b (by rcases hp with hp | hp<;>omega)).trans (h.block b hb hg)⟩
theorem Bx.below {g B:Nat} {w w':World} (h:Bx g w w') (hB:B<=w.heap.size) (hg:B<=g):Below B w w':=⟨h.os,h.tape,h.output,h.size,fun b hb=>h.block b (by omega) (by omega)⟩
theorem Bx.kq {q:Nat} {w w':World} (k:Bx q w w') {b:Nat} {p:Prop} (hb:p) (h:b<w.heap.size/\b≠q):p/\w'.heap[b]? =w.heap[b]?:=⟨hb,k.block b h.1 h.2⟩
theorem Bx.row {g b:Nat} {w w':World} {T:TypeId} {cs:Array Value} (h:Bx g w w') (hr:Row w b T cs) (hne:b≠g):Row w' b T cs:=(h.block b hr.lt hne).trans hr
theorem Bx.sl {g:Nat} {w w':World} {size:Nat} {A:Option Addr} {c:Nat} {xs:List D} (h:Bx g w w') (hs:Sl w (fun b=>b<w.heap.size/\b≠g) size A c xs):Sl w' (fun b=>b<w'.heap.size/\b≠g) size A c xs:=
 hs.keep fun b hb=>⟨⟨Nat.lt_of_lt_of_le hb.1 h.size,hb.2⟩,h.block b hb.1 hb.2⟩
end Go.Proofs.YtamfolaicncblaaGreat
