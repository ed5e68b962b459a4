/- Texts of the claim LTreesRight in one: TrG TiI TiJ. Conditions: none but bounds on sizes. -/
import Derived.Test.YtamfolaicncblaaGreatZLTreesRight20
import Derived.Test.YtamfolaicncblaaGreatZLTreesRight22
import Derived.Deep.CutRange
import Derived.Test.YtamfolaicncblaaGreatZLTreesRight2
namespace Go.Proofs.YtamfolaicncblaaGreat
set_option maxRecDepth 20000
set_option linter.unusedVariables false
set_option linter.unusedSimpArgs false
open Go.RowKit
set_option maxHeartbeats 1000000
def ToMade (g:Nat) (dv:Value) (p:GTree × Nat) (w:World) (e:Ending) (w':World):Prop:=∃ A1 c1 A2 c2,e= .returned (.agg #[.int .i64 p.1.op,.int .i64 p.1.n,.slice A1 p.1.path.length c1,.string p.1.s,.slice A2 p.1.kids.length c2])/\GTree.Ow w' (Btw w.heap.size w'.heap.size) A1 c1 A2 c2 p.1/\TGx w' (Btw w.heap.size w'.heap.size) A1 c1 A2 c2 p.1/\Row w' g 86 #[dv,.int .i64 p.2,.bool (decide (p.2<=300))]/\Bx g w w'
def MadeOk (g:Nat) (dv:Value) (k:Nat):Prop:=∀ (many:Nat) (rows:List GTrow) (A:Option Addr) (c:Nat) (w:World),300<many+k->many<=100000->RowsOk many rows->rows.length<=1048576->Row w g 86 #[dv,.int .i64 many,.bool (decide (many<=300))]->Sl w (fun b=>b<w.heap.size/\b≠g) 2 A c (rows.map GTrow.toD)->
 Calls Tryz.prog 35 #[.pointer (some ⟨g,0,none⟩),.slice A rows.length c] w (ToMade g dv (growV k many rows) w)
theorem owLeaf {w:World} {S:Nat->Prop} {op n:Int} (h1:(Lit.int .i64 op).wf=true) (h2:(Lit.int .i64 n).wf=true):GTree.Ow w S none 0 none 0 (.mk op n [] ⟨#[]⟩ []):=
 ⟨fun _=>False,fun _=>False,fun _ h=>h.elim,fun _ h=>h.elim,fun _ h=>h.elim,h1,h2,Osl.nil (by unfold maxLen;omega),by simp [GTree.s,ByteArray.size,maxLen],Osl.nil (by unfold maxLen;omega)⟩
theorem madeLeaf {g m:Nat} {dv:Value} {op n:Int} {p:GTree × Nat} {w w':World} (hp:p=(.mk op n [] ⟨#[]⟩ [],m)) (h1:(Lit.int .i64 op).wf=true) (h2:(Lit.int .i64 n).wf=true) (hr:Row w' g 86 #[dv,.int .i64 m,.bool (decide (m<=300))]) (hb:Bx g w w'):
 ToMade g dv p w (.returned (.agg #[.int .i64 op,.int .i64 n,.slice none 0 0,.string ⟨#[]⟩,.slice none 0 0])) w':=by
 subst hp
 exact⟨none,0,none,0,rfl,owLeaf h1 h2,TGx.leaf,hr,hb⟩
theorem specMadeOver (g:Nat) (dv:Value) (k many:Nat) (rows:List GTrow) (A:Option Addr) (c:Nat) (w:World) (h:300<many+1) (hm:many<=100000) (hrow:Row w g 86 #[dv,.int .i64 many,.bool (decide (many<=300))]):
 Calls Tryz.prog 35 #[.pointer (some ⟨g,0,none⟩),.slice A rows.length c] w (ToMade g dv (growV k many rows) w):=by
 have HV:=LH (growV_over (k:=k) (rows:=rows) h)
 have RW:=LH hrow
 have hgl:=hrow.lt
 have hcw:=fun i=>RW.out.cell i
 have hfw:=fun i=>RW.out.frozen i
 have hwr:IntKind.i64.wrap ((many:Int)+1)=(many:Int)+1:=(IntWalk.i64_left _).trans (IntWalk.wrap64_in ((many:Int)+1) (by omega))
 have dm:decide ((300:Int)<(many:Int)+1)=true:=decide_eq_true (by omega)
 have HF:=LH (show decide (many+1<=300)=false from decide_eq_false (by omega))
 clear hrow
 go_enter Tryz.func35,Tryz.ntmps35
 go_wp2_with fail
 obtain⟨w9,e9⟩:∃ w9,w9=((w.setCell ⟨g,1,none⟩ (.int .i64 ((many:Int)+1))).setCell ⟨g,2,none⟩ (.bool false)).alloc (.cells #[.int .i64 0,.int .i64 0,.slice none 0 0,.string ⟨#[]⟩,.slice none 0 0] 31):=⟨_,rfl⟩
 rw [<- e9]
 have R9:=LH (show Row w9 g 86 #[dv,.int .i64 ((many+1:Nat):Int),.bool (decide (many+1<=300))] by rw [e9,HF.out];exact((RW.out.set 1 _).set 2 _).alloc _)
 have B9:=LH (show Bx g w w9 by rw [e9];exact(((Bx.refl g w).set (p:=⟨g,1,none⟩) (.inl rfl) _).set (p:=⟨g,2,none⟩) (.inl rfl) _).alloc _)
 have RZ:=LH (show Row w9 w.heap.size 31 #[.int .i64 0,.int .i64 0,.slice none 0 0,.string ⟨#[]⟩,.slice none 0 0] by rw [e9];exact Row.new' _ _ _ (by simp [World.setCell]))
 have hcz:=fun i=>RZ.out.cell i
 clear hcw hfw e9
 exact bodyPost_ret (v:=.agg #[.int .i64 0,.int .i64 0,.slice none 0 0,.string ⟨#[]⟩,.slice none 0 0]) (by simp [results,Tryz.results35,go_sem,hcz]) rfl (madeLeaf HV.out (by decide) (by decide) R9.out B9.out)
theorem specMadeNone (g:Nat) (dv:Value) (k many:Nat) (rows:List GTrow) (A:Option Addr) (c:Nat) (w:World) (h:¬ 300<many+1) (hl:rows.length=0) (hrow:Row w g 86 #[dv,.int .i64 many,.bool (decide (many<=300))]):
 Calls Tryz.prog 35 #[.pointer (some ⟨g,0,none⟩),.slice A rows.length c] w (ToMade g dv (growV (k+1) many rows) w):=by
 have HV:=LH (growV_none (k:=k) h hl)
 have RW:=LH (show Row w g 86 #[dv,.int .i64 many,.bool true] by rw [show decide (many<=300)=true from decide_eq_true (by omega)] at hrow;exact hrow)
 have hgl:=hrow.lt
 have hcw:=fun i=>RW.out.cell i
 have hfw:=fun i=>RW.out.frozen i
 have hwr:IntKind.i64.wrap ((many:Int)+1)=(many:Int)+1:=(IntWalk.i64_left _).trans (IntWalk.wrap64_in ((many:Int)+1) (by omega))
 have dm:decide ((300:Int)<(many:Int)+1)=false:=decide_eq_false (by omega)
 have HF:=LH (show decide (many+1<=300)=true from decide_eq_true (by omega))
 rw [hl]
 clear hrow hl
 go_enter Tryz.func35,Tryz.ntmps35
 go_wp2_with fail
 obtain⟨w9,e9⟩:∃ w9,w9=(w.setCell ⟨g,1,none⟩ (.int .i64 ((many:Int)+1))).alloc (.cells #[.int .i64 2,.int .i64 0,.slice none 0 0,.string ⟨#[]⟩,.slice none 0 0] 31):=⟨_,rfl⟩
 rw [<- e9]
 have R9:=LH (show Row w9 g 86 #[dv,.int .i64 ((many+1:Nat):Int),.bool (decide (many+1<=300))] by rw [e9,HF.out];exact(RW.out.set 1 _).alloc _)
 have B9:=LH (show Bx g w w9 by rw [e9];exact((Bx.refl g w).set (p:=⟨g,1,none⟩) (.inl rfl) _).alloc _)
 have RZ:=LH (show Row w9 w.heap.size 31 #[.int .i64 2,.int .i64 0,.slice none 0 0,.string ⟨#[]⟩,.slice none 0 0] by rw [e9];exact Row.new' _ _ _ (by simp [World.setCell]))
 have hcz:=fun i=>RZ.out.cell i
 clear hcw hfw e9
 exact bodyPost_ret (v:=.agg #[.int .i64 2,.int .i64 0,.slice none 0 0,.string ⟨#[]⟩,.slice none 0 0]) (by simp [results,Tryz.results35,go_sem,hcz]) rfl (madeLeaf HV.out (by decide) (by decide) R9.out B9.out)
theorem specMadeDone (g:Nat) (dv:Value) (k many:Nat) (rows:List GTrow) (A:Option Addr) (c:Nat) (w:World) (h:¬ 300<many+1) (hl:0<rows.length) (hl2:rows.length<=1048576) (ha:rows[0].asks.length=0) (hrow:Row w g 86 #[dv,.int .i64 many,.bool (decide (many<=300))]) (hs:Sl w (fun b=>b<w.heap.size/\b≠g) 2 A c (rows.map GTrow.toD)):
 Calls Tryz.prog 35 #[.pointer (some ⟨g,0,none⟩),.slice A rows.length c] w (ToMade g dv (growV (k+1) many rows) w):=by
 have HV:=LH (growV_done (k:=k) h hl ha)
 have RW:=LH (show Row w g 86 #[dv,.int .i64 many,.bool true] by rw [show decide (many<=300)=true from decide_eq_true (by omega)] at hrow;exact hrow)
 have hgl:=hrow.lt
 have hcw:=fun i=>RW.out.cell i
 have hfw:=fun i=>RW.out.frozen i
 have hwr:IntKind.i64.wrap ((many:Int)+1)=(many:Int)+1:=(IntWalk.i64_left _).trans (IntWalk.wrap64_in ((many:Int)+1) (by omega))
 have dm:decide ((300:Int)<(many:Int)+1)=false:=decide_eq_false (by omega)
 have HF:=LH (show decide (many+1<=300)=true from decide_eq_true (by omega))
 obtain⟨b,off,B1,d1,rfl,hSb,g0,g1,hat⟩:=GTrow.elem hs 0 hl
 have hbl:=hSb.1
 have hbg:=hSb.2
 obtain⟨al,hal⟩:∃ al,rows[0].alt=al:=⟨_,rfl⟩
 rw [hal] at g0 HV
 have haw:Hid ((Lit.int .i64 al).wf=true):=LH (by rw [<- hal];exact hat.1)
 rw [ha] at g1
 simp only [Nat.zero_mul,Nat.add_zero] at g0 g1
 have dl2:((rows.length:Int) ==0)=false:=by rw [beq_eq_false_iff_ne];omega
 clear hrow hs hal hat ha hSb
 go_enter Tryz.func35,Tryz.ntmps35
 go_wp2_with fail
 obtain⟨w9,e9⟩:∃ w9,w9=(w.setCell ⟨g,1,none⟩ (.int .i64 ((many:Int)+1))).alloc (.cells #[.int .i64 1,.int .i64 al,.slice none 0 0,.string ⟨#[]⟩,.slice none 0 0] 31):=⟨_,rfl⟩
 rw [<- e9]
 have R9:=LH (show Row w9 g 86 #[dv,.int .i64 ((many+1:Nat):Int),.bool (decide (many+1<=300))] by rw [e9,HF.out];exact(RW.out.set 1 _).alloc _)
 have B9:=LH (show Bx g w w9 by rw [e9];exact((Bx.refl g w).set (p:=⟨g,1,none⟩) (.inl rfl) _).alloc _)
 have RZ:=LH (show Row w9 w.heap.size 31 #[.int .i64 1,.int .i64 al,.slice none 0 0,.string ⟨#[]⟩,.slice none 0 0] by rw [e9];exact Row.new' _ _ _ (by simp [World.setCell]))
 have hcz:=fun i=>RZ.out.cell i
 clear hcw hfw e9
 exact bodyPost_ret (v:=.agg #[.int .i64 1,.int .i64 al,.slice none 0 0,.string ⟨#[]⟩,.slice none 0 0]) (by simp [results,Tryz.results35,go_sem,hcz]) rfl (madeLeaf HV.out (by decide) haw.out R9.out B9.out)
def ToGrown (g:Nat) (p:GTree × Nat) (w:World) (e:Ending) (w':World):Prop:=∃ A1 c1 A2 c2,e= .returned (.agg #[.int .i64 p.1.op,.int .i64 p.1.n,.slice A1 p.1.path.length c1,.string p.1.s,.slice A2 p.1.kids.length c2])/\GTree.Ow w' (Btw w.heap.size w'.heap.size) A1 c1 A2 c2 p.1/\Row w' g 73 #[.int .i64 p.2]/\Bx g w w'
def GrownOk (g:Nat) (k:Nat):Prop:=∀ (many:Nat) (rows:List GTrow) (A:Option Addr) (c:Nat) (w:World),300<many+k->many<=100000->RowsOk many rows->rows.length<=1048576->Row w g 73 #[.int .i64 many]->Sl w (fun b=>b<w.heap.size/\b≠g) 2 A c (rows.map GTrow.toD)->
 Calls Tryz.prog 31 #[.pointer (some ⟨g,0,none⟩),.slice A rows.length c] w (ToGrown g (growV k many rows) w)
theorem grownLeaf {g m:Nat} {op n:Int} {p:GTree × Nat} {w w':World} (hp:p=(.mk op n [] ⟨#[]⟩ [],m)) (h1:(Lit.int .i64 op).wf=true) (h2:(Lit.int .i64 n).wf=true) (hr:Row w' g 73 #[.int .i64 m]) (hb:Bx g w w'):
 ToGrown g p w (.returned (.agg #[.int .i64 op,.int .i64 n,.slice none 0 0,.string ⟨#[]⟩,.slice none 0 0])) w':=by
 subst hp
 exact⟨none,0,none,0,rfl,owLeaf h1 h2,hr,hb⟩
theorem growTrOver (g:Nat) (k many:Nat) (rows:List GTrow) (A:Option Addr) (c:Nat) (w:World) (h:300<many+1) (hm:many<=100000) (hrow:Row w g 73 #[.int .i64 many]):
 Calls Tryz.prog 31 #[.pointer (some ⟨g,0,none⟩),.slice A rows.length c] w (ToGrown g (growV k many rows) w):=by
 have HV:=LH (growV_over (k:=k) (rows:=rows) h)
 have RW:=LH hrow
 have hgl:=hrow.lt
 have hcw:=fun i=>RW.out.cell i
 have hfw:=fun i=>RW.out.frozen i
 have hwr:IntKind.i64.wrap ((many:Int)+1)=(many:Int)+1:=(IntWalk.i64_left _).trans (IntWalk.wrap64_in ((many:Int)+1) (by omega))
 have dm:decide ((300:Int)<(many:Int)+1)=true:=decide_eq_true (by omega)
 clear hrow
 go_enter Tryz.func31,Tryz.ntmps31
 go_wp2_with fail
 obtain⟨w9,e9⟩:∃ w9,w9=(w.setCell ⟨g,0,none⟩ (.int .i64 ((many:Int)+1))).alloc (.cells #[.int .i64 0,.int .i64 0,.slice none 0 0,.string ⟨#[]⟩,.slice none 0 0] 31):=⟨_,rfl⟩
 rw [<- e9]
 have R9:=LH (show Row w9 g 73 #[.int .i64 ((many+1:Nat):Int)] by rw [e9];exact(RW.out.set 0 _).alloc _)
 have B9:=LH (show Bx g w w9 by rw [e9];exact((Bx.refl g w).set (p:=⟨g,0,none⟩) (.inl rfl) _).alloc _)
 have RZ:=LH (show Row w9 w.heap.size 31 #[.int .i64 0,.int .i64 0,.slice none 0 0,.string ⟨#[]⟩,.slice none 0 0] by rw [e9];exact Row.new' _ _ _ (by simp [World.setCell]))
 have hcz:=fun i=>RZ.out.cell i
 clear hcw hfw e9
 exact bodyPost_ret (v:=.agg #[.int .i64 0,.int .i64 0,.slice none 0 0,.string ⟨#[]⟩,.slice none 0 0]) (by simp [results,Tryz.results31,go_sem,hcz]) rfl (grownLeaf HV.out (by decide) (by decide) R9.out B9.out)
theorem growTrNone (g:Nat) (k many:Nat) (rows:List GTrow) (A:Option Addr) (c:Nat) (w:World) (h:¬ 300<many+1) (hl:rows.length=0) (hrow:Row w g 73 #[.int .i64 many]):
 Calls Tryz.prog 31 #[.pointer (some ⟨g,0,none⟩),.slice A rows.length c] w (ToGrown g (growV (k+1) many rows) w):=by
 have HV:=LH (growV_none (k:=k) h hl)
 have RW:=LH hrow
 have hgl:=hrow.lt
 have hcw:=fun i=>RW.out.cell i
 have hfw:=fun i=>RW.out.frozen i
 have hwr:IntKind.i64.wrap ((many:Int)+1)=(many:Int)+1:=(IntWalk.i64_left _).trans (IntWalk.wrap64_in ((many:Int)+1) (by omega))
 have dm:decide ((300:Int)<(many:Int)+1)=false:=decide_eq_false (by omega)
 rw [hl]
 clear hrow hl
 go_enter Tryz.func31,Tryz.ntmps31
 go_wp2_with fail
 obtain⟨w9,e9⟩:∃ w9,w9=(w.setCell ⟨g,0,none⟩ (.int .i64 ((many:Int)+1))).alloc (.cells #[.int .i64 2,.int .i64 0,.slice none 0 0,.string ⟨#[]⟩,.slice none 0 0] 31):=⟨_,rfl⟩
 rw [<- e9]
 have R9:=LH (show Row w9 g 73 #[.int .i64 ((many+1:Nat):Int)] by rw [e9];exact(RW.out.set 0 _).alloc _)
 have B9:=LH (show Bx g w w9 by rw [e9];exact((Bx.refl g w).set (p:=⟨g,0,none⟩) (.inl rfl) _).alloc _)
 have RZ:=LH (show Row w9 w.heap.size 31 #[.int .i64 2,.int .i64 0,.slice none 0 0,.string ⟨#[]⟩,.slice none 0 0] by rw [e9];exact Row.new' _ _ _ (by simp [World.setCell]))
 have hcz:=fun i=>RZ.out.cell i
 clear hcw hfw e9
 exact bodyPost_ret (v:=.agg #[.int .i64 2,.int .i64 0,.slice none 0 0,.string ⟨#[]⟩,.slice none 0 0]) (by simp [results,Tryz.results31,go_sem,hcz]) rfl (grownLeaf HV.out (by decide) (by decide) R9.out B9.out)
theorem growTrDone (g:Nat) (k many:Nat) (rows:List GTrow) (A:Option Addr) (c:Nat) (w:World) (h:¬ 300<many+1) (hl:0<rows.length) (hl2:rows.length<=1048576) (ha:rows[0].asks.length=0) (hrow:Row w g 73 #[.int .i64 many]) (hs:Sl w (fun b=>b<w.heap.size/\b≠g) 2 A c (rows.map GTrow.toD)):
 Calls Tryz.prog 31 #[.pointer (some ⟨g,0,none⟩),.slice A rows.length c] w (ToGrown g (growV (k+1) many rows) w):=by
 have HV:=LH (growV_done (k:=k) h hl ha)
 have RW:=LH hrow
 have hgl:=hrow.lt
 have hcw:=fun i=>RW.out.cell i
 have hfw:=fun i=>RW.out.frozen i
 have hwr:IntKind.i64.wrap ((many:Int)+1)=(many:Int)+1:=(IntWalk.i64_left _).trans (IntWalk.wrap64_in ((many:Int)+1) (by omega))
 have dm:decide ((300:Int)<(many:Int)+1)=false:=decide_eq_false (by omega)
 obtain⟨b,off,B1,d1,rfl,hSb,g0,g1,hat⟩:=GTrow.elem hs 0 hl
 have hbl:=hSb.1
 have hbg:=hSb.2
 obtain⟨al,hal⟩:∃ al,rows[0].alt=al:=⟨_,rfl⟩
 rw [hal] at g0 HV
 have haw:Hid ((Lit.int .i64 al).wf=true):=LH (by rw [<- hal];exact hat.1)
 rw [ha] at g1
 simp only [Nat.zero_mul,Nat.add_zero] at g0 g1
 have dl2:((rows.length:Int) ==0)=false:=by rw [beq_eq_false_iff_ne];omega
 clear hrow hs hal hat ha hSb
 go_enter Tryz.func31,Tryz.ntmps31
 go_wp2_with fail
 obtain⟨w9,e9⟩:∃ w9,w9=(w.setCell ⟨g,0,none⟩ (.int .i64 ((many:Int)+1))).alloc (.cells #[.int .i64 1,.int .i64 al,.slice none 0 0,.string ⟨#[]⟩,.slice none 0 0] 31):=⟨_,rfl⟩
 rw [<- e9]
 have R9:=LH (show Row w9 g 73 #[.int .i64 ((many+1:Nat):Int)] by rw [e9];exact(RW.out.set 0 _).alloc _)
 have B9:=LH (show Bx g w w9 by rw [e9];exact((Bx.refl g w).set (p:=⟨g,0,none⟩) (.inl rfl) _).alloc _)
 have RZ:=LH (show Row w9 w.heap.size 31 #[.int .i64 1,.int .i64 al,.slice none 0 0,.string ⟨#[]⟩,.slice none 0 0] by rw [e9];exact Row.new' _ _ _ (by simp [World.setCell]))
 have hcz:=fun i=>RZ.out.cell i
 clear hcw hfw e9
 exact bodyPost_ret (v:=.agg #[.int .i64 1,.int .i64 al,.slice none 0 0,.string ⟨#[]⟩,.slice none 0 0]) (by simp [results,Tryz.results31,go_sem,hcz]) rfl (grownLeaf HV.out (by decide) haw.out R9.out B9.out)
set_option maxHeartbeats 2000000
theorem growTrAsk (g:Nat) (k many:Nat) (rows:List GTrow) (A:Option Addr) (c:Nat) (w:World) (hIH:GrownOk g k) (h:¬ 300<many+1) (hk:300<many+(k+1)) (hk2:k<=1000) (hok:RowsOk many rows) (hl:0<rows.length) (hl2:rows.length<=1048576) (ha:0<rows[0].asks.length) (hrow:Row w g 73 #[.int .i64 many]) (hs:Sl w (fun b=>b<w.heap.size/\b≠g) 2 A c (rows.map GTrow.toD)):
 Calls Tryz.prog 31 #[.pointer (some ⟨g,0,none⟩),.slice A rows.length c] w (ToGrown g (growV (k+1) many rows) w):=by
 have hv:=growV_ask (k:=k) h hl ha
 have RW:=LH hrow
 have hgl:=hrow.lt
 have hcw:=fun i=>RW.out.cell i
 have hfw:=fun i=>RW.out.frozen i
 have hwr:IntKind.i64.wrap ((many:Int)+1)=(many:Int)+1:=(IntWalk.i64_left _).trans (IntWalk.wrap64_in ((many:Int)+1) (by omega))
 have dm:decide ((300:Int)<(many:Int)+1)=false:=decide_eq_false (by omega)
 have HS:=LH hs
 have HOK:=LH hok
 have HIH:=LH hIH
 obtain⟨b,off,B1,d1,rfl,hSb,g0,g1,hat⟩:=GTrow.elem hs 0 hl
 obtain⟨b2,off2,A1,c1,A2,c2,rfl,hSb2,q0,q1,q2,q3,q4,q5,hatk⟩:=GAsk.elem hat.2 0 ha
 have hbl:=hSb.1
 have hbl2:=hSb2.1
 have hbg2:=hSb2.2
 have dl:((rows.length:Int) ==0)=false:=by rw [beq_eq_false_iff_ne];omega
 have dl2:((rows[0].asks.length:Int) ==0)=false:=by rw [beq_eq_false_iff_ne];omega
 have hla2:rows[0].asks.length<=1048576:=Nat.le_trans (asksM_len _) (hok _ (List.getElem_mem hl)).1
 have hap:=((hok _ (List.getElem_mem hl)).2 _ (List.getElem_mem ha)).2
 obtain⟨n1,hn1⟩:∃ n1,rows[0].asks.length=n1:=⟨_,rfl⟩
 obtain⟨a,hea⟩:∃ a,rows[0].asks[0]=a:=⟨_,rfl⟩
 rw [hea] at q0 q1 q2 q3 q4 q5 hatk hap hv
 rw [hn1] at g1 dl2 ha hla2
 obtain⟨p,hp⟩:∃ p,growV k (many+1) (yesR a rows)=p:=⟨_,rfl⟩
 rw [hp] at hv
 obtain⟨q,hq⟩:∃ q,growV k p.2 (noR a rows)=q:=⟨_,rfl⟩
 rw [hq] at hv
 have HV:=LH hv
 have HP:=LH hp
 have HQ:=LH hq
 have HA:=LH hatk
 simp only [Nat.zero_mul,Nat.add_zero] at g0 g1 q0 q1 q2 q3 q4 q5
 clear hrow hs hat hatk hSb hSb2 hv hp hq hea hn1 hok hIH g0
 go_enter Tryz.func31,Tryz.ntmps31
 go_upto_region 9 with (fail)
 obtain⟨w2,e2⟩:∃ w2,w2=((w.setCell ⟨g,0,none⟩ (.int .i64 ((many:Int)+1))).alloc (.cells #[.int .i64 0,.int .i64 0,.slice none 0 0,.string ⟨#[]⟩,.slice none 0 0] 31)).alloc (.cells #[.slice A1 a.path.length c1,.int .i64 a.pat.op,.int .i64 a.pat.n,.string a.pat.s,.string a.pat.t,.slice A2 a.pat.kids.length c2] 68):=⟨_,rfl⟩
 rw [<- e2]
 have X2:=LH (show Bx g w w2 by rw [e2];exact(((Bx.refl g w).set (p:=⟨g,0,none⟩) (.inl rfl) _).alloc _).alloc _)
 have RG2:=LH (show Row w2 g 73 #[.int .i64 ((many:Int)+1)] by rw [e2];exact((RW.out.set 0 _).alloc _).alloc _)
 have RB2:=LH (show Row w2 w.heap.size 31 #[.int .i64 0,.int .i64 0,.slice none 0 0,.string ⟨#[]⟩,.slice none 0 0] by rw [e2];exact(Row.new' _ _ _ (by simp [World.setCell])).alloc _)
 have RA2:=LH (show Row w2 (w.heap.size+1) 68 #[.slice A1 a.path.length c1,.int .i64 a.pat.op,.int .i64 a.pat.n,.string a.pat.s,.string a.pat.t,.slice A2 a.pat.kids.length c2] by rw [e2];exact Row.new' _ _ _ (by simp [World.setCell]))
 have hz2:w.heap.size+2=w2.heap.size:=by rw [e2];simp [World.setCell]
 have hz2':w.heap.size+2<=w2.heap.size:=Nat.le_of_eq hz2
 have HA2:=LH (HA.out.keep (w':=w2) (S':=fun b=>b<w2.heap.size/\b≠g) fun q hq=>⟨⟨Nat.lt_of_lt_of_le hq.1 X2.out.size,hq.2⟩,X2.out.block q hq.1 hq.2⟩)
 have HF5:=LH (fun(x:World) (hx:Below w2.heap.size w2 x)=>show ∀ i,x.cell? ⟨w.heap.size+1,i,none⟩=(#[.slice A1 a.path.length c1,.int .i64 a.pat.op,.int .i64 a.pat.n,.string a.pat.s,.string a.pat.t,.slice A2 a.pat.kids.length c2]:Array Value)[i]? from fun i=>(RA2.out.below hx RA2.out.lt).cell i)
 have SP:=LH (fun(x:World) (hx:Below w2.heap.size w2 x)=>show Sl x (Lt x.heap.size) 1 A1 c1 (a.path.map (D.num .i64)) from HA2.out.1.keep fun q hq=>⟨Nat.lt_of_lt_of_le hq.1 hx.size,hx.block q hq.1⟩)
 clear hcw hfw e2 hz2
 have ED:=LH (show Below w2.heap.size w2 w2.drew from(Below.refl _ _).drew)
 have EZ:=LH (show Below w2.heap.size w2 (w2.alloc (.cells #[.int .i64 0,.int .i64 0,.slice none 0 0,.string ⟨#[]⟩,.slice none 0 0] 31)).drew from((Below.refl _ _).alloc (Nat.le_refl _) _).drew)
 have RZ:=LH (show Row (w2.alloc (.cells #[.int .i64 0,.int .i64 0,.slice none 0 0,.string ⟨#[]⟩,.slice none 0 0] 31)).drew w2.heap.size 31 #[.int .i64 0,.int .i64 0,.slice none 0 0,.string ⟨#[]⟩,.slice none 0 0] from(show Row (w2.alloc (.cells #[.int .i64 0,.int .i64 0,.slice none 0 0,.string ⟨#[]⟩,.slice none 0 0] 31)) w2.heap.size 31 #[.int .i64 0,.int .i64 0,.slice none 0 0,.string ⟨#[]⟩,.slice none 0 0] from Row.new _ _ _))
 have hzz0:(w2.alloc (.cells #[.int .i64 0,.int .i64 0,.slice none 0 0,.string ⟨#[]⟩,.slice none 0 0] 31)).drew.heap.size=w2.heap.size+1:=by show(w2.alloc (.cells #[.int .i64 0,.int .i64 0,.slice none 0 0,.string ⟨#[]⟩,.slice none 0 0] 31)).heap.size=_;simp
 have HZZ:=LH hzz0
 clear hzz0
 go_cut [6] from 46 to 52 (fun v x=>∃ (n3:Nat) (A6:Option Addr) (c6:Nat),v= .pointer (some ⟨n3,0,none⟩)/\Hid (Below w2.heap.size w2 x)/\Hid (Row x n3 31 #[.int .i64 4,.int .i64 a.pat.n,.slice A6 a.path.length c6,.string ⟨#[]⟩,.slice none 0 0])/\Hid (Osl x (fun b=>(w2.heap.size<=b/\b<x.heap.size)/\b≠n3) 1 A6 c6 (a.path.map (D.num .i64)))/\w2.heap.size<=n3)
 case first=>
  refine wp_region_T (fun x=>∀ i,x.cell? ⟨w.heap.size+1,i,none⟩=(#[.slice A1 a.path.length c1,.int .i64 a.pat.op,.int .i64 a.pat.n,.string a.pat.s,.string a.pat.t,.slice A2 a.pat.kids.length c2]:Array Value)[i]?) 8 (by kernel_rfl) ?_
  have hS1:=HF5.out _ ED.out
  refine wpAnyT_tk (i:=0) (oi:=_) (v:=?tv1) rfl (Or.inl ⟨by rfl,?th1⟩) hS1 ?_
  case th1=>(intro x hSx;(try dsimp only at hSx);go_simp;(try with_reducible rfl))
  try simp only [nA,nB,nC,Act.put,nD,nE,nF]
  refine wpAnyT_tk (i:=1) (oi:=_) (v:=?tv2) rfl (Or.inl ⟨by rfl,?th2⟩) hS1 ?_
  case th2=>(intro x hSx;(try dsimp only at hSx);go_simp;(try with_reducible rfl))
  try simp only [nA,nB,nC,Act.put,nD,nE,nF]
  refine wpAnyT_tk (i:=2) (oi:=_) (v:=?tv3) rfl (Or.inl ⟨by rfl,?th3⟩) hS1 ?_
  case th3=>(intro x hSx;(try dsimp only at hSx);go_simp;(try with_reducible rfl))
  try simp only [nA,nB,nC,Act.put,nD,nE,nF]
  refine wpAnyT_tk (i:=3) (oi:=_) (v:=?tv4) rfl (Or.inl ⟨by rfl,?th4⟩) hS1 ?_
  case th4=>(intro x hSx;(try dsimp only at hSx);go_simp;(try with_reducible rfl))
  try simp only [nA,nB,nC,Act.put,nD,nE,nF]
  refine wpAnyT_tk (i:=4) (oi:=_) (v:=?tv5) rfl (Or.inl ⟨by rfl,?th5⟩) hS1 ?_
  case th5=>(intro x hSx;(try dsimp only at hSx);go_simp;(try with_reducible rfl))
  try simp only [nA,nB,nC,Act.put,nD,nE,nF]
  refine wpAnyT_two (i:=5) (j:=7) (by kernel_rfl) rfl rfl (fun K hK=>?_) (fun K hK=>?_)
  ·
   try simp only [nA,nB,nC]
   go_simp
   go_at_call 56
   refine(cloneInts a.path A1 c1 w2.drew (by omega) (SP.out _ ED.out)).mono ?_
   rintro e w6 ⟨A6,c6,rfl,gp,hb6⟩
   have E6:=LH (ED.out.trans hb6)
   have HG6:=LH (show Grx AnyB w6 w2.heap.size 3 1 (.slice A6 a.path.length c6) a.path.length (a.path.map (D.num .i64)) from gp)
   clear gp hb6
   refine hK.out _ _ (HF5.out _ E6.out) (fun hS3=>?_)
   clear hK K hS1
   try simp only [nA,nB,nC,Act.put,nD,nE,nF]
   refine wpAnyT_tk (i:=6) (oi:=_) (v:=?tv6) rfl (Or.inl ⟨by rfl,?th6⟩) hS3 ?_
   case th6=>(intro x hSx;(try dsimp only at hSx);go_simp;(try with_reducible rfl))
   try simp only [nA,nB,nC,Act.put,nD,nE,nF]
   refine wpAnyT_step (i:=7) (by kernel_rfl) rfl (fun K hK=>?_)
   try simp only [nA,nB,nC]
   go_simp
   refine hK.out _ _ (HF5.out _ (E6.out.alloc E6.out.size _)) (fun hS4=>?_)
   clear hK K hS3
   try simp only [nA,nB,nC,Act.put,nD,nE,nF]
   refine wpAnyT_last (by kernel_rfl) (by kernel_rfl) rfl (fun K hK=>?_)
   try simp only [nA,nB,nC]
   go_simp
   refine hK.out _ _ ?_
   clear hK K
   try simp only [nA,nB,nC,Act.put,nD,nE,nF]
   obtain⟨w7,e7⟩:∃ w7,w7=w6.alloc (.cells #[.int .i64 4,.int .i64 a.pat.n,.slice A6 a.path.length c6,.string ⟨#[]⟩,.slice none 0 0] 31):=⟨_,rfl⟩
   rw [<- e7]
   have K7:=fun b (hb:(Value.slice A6 a.path.length c6).ownBlock=some b)=>show((w2.heap.size<=b/\b<w7.heap.size)/\b≠w6.heap.size)/\w7.heap[b]? =w6.heap[b]? from by
    have h1:=HG6.out.own b hb
    rw [e7]
    exact⟨⟨⟨h1.1,by simp;omega⟩,by omega⟩,Below.heap_alloc _ _ _ h1.2⟩
   have O7:=LH (show Osl w7 (fun b=>(w2.heap.size<=b/\b<w7.heap.size)/\b≠w6.heap.size) 1 A6 c6 (a.path.map (D.num .i64)) by
     obtain⟨A5,c5,e5,h5⟩:=HG6.out.oslOwn
     obtain⟨rfl,rfl⟩:A6=A5/\c6=c5:=by simpa using e5
     exact h5.keep fun b hb=>K7 b hb)
   have E7:=LH (show Below w2.heap.size w2 w7 by rw [e7];exact E6.out.alloc E6.out.size _)
   have R7:=LH (show Row w7 w6.heap.size 31 #[.int .i64 4,.int .i64 a.pat.n,.slice A6 a.path.length c6,.string ⟨#[]⟩,.slice none 0 0] by rw [e7];exact Row.new w6 _ _)
   have hn7:=E6.out.size
   clear e7 K7
   go_wp2_with fail
   go_meet
   exact⟨w6.heap.size,A6,c6,rfl,E7,R7,O7,hn7⟩
  ·
   try simp only [nA,nB,nC]
   go_simp
   refine hK.out _ _ (HF5.out _ EZ.out) (fun hS3=>?_)
   clear hK K hS1
   try simp only [nA,nB,nC,Act.put,nD,nE,nF]
   refine wpAnyT_step (i:=5) (by kernel_rfl) rfl (fun K hK=>?_)
   try simp only [nA,nB,nC]
   go_simp
   go_at_call 56
   refine(cloneInts a.path A1 c1 _ (by omega) (SP.out _ EZ.out)).mono ?_
   rintro e w6 ⟨A6,c6,rfl,gp,hb6⟩
   have E6:=LH (EZ.out.trans (hb6.mono EZ.out.size))
   have HG6:=LH gp
   have RN6:=LH (RZ.out.below hb6 RZ.out.lt)
   have NN6:=LH (show(Value.slice A6 a.path.length c6).ownBlock≠some w2.heap.size from fun e=>by have:=(gp.own _ e).1;rw [HZZ.out] at this;omega)
   have HO6:=LH (fun g (hg:(Value.slice A6 a.path.length c6).ownBlock=some g)=>show w2.heap.size<=g/\g<w6.heap.size from by have h:=gp.own _ hg;rw [HZZ.out] at h;exact⟨by omega,h.2⟩)
   have hcn6:=fun i=>RN6.out.cell i
   have hfn6:=fun i=>RN6.out.frozen i
   clear gp hb6
   refine hK.out _ _ (HF5.out _ E6.out) (fun hS4=>?_)
   clear hK K hS3
   try simp only [nA,nB,nC,Act.put,nD,nE,nF]
   refine wpAnyT_tk (i:=6) (oi:=_) (v:=?tv7) rfl (Or.inl ⟨by rfl,?th7⟩) hS4 ?_
   case th7=>(intro x hSx;(try dsimp only at hSx);go_simp;(try with_reducible rfl))
   try simp only [nA,nB,nC,Act.put,nD,nE,nF]
   refine wpAnyT_last (by kernel_rfl) (by kernel_rfl) rfl (fun K hK=>?_)
   try simp only [nA,nB,nC]
   go_simp
   refine hK.out _ _ ?_
   clear hK K
   try simp only [nA,nB,nC,Act.put,nD,nE,nF]
   obtain⟨w7,e7⟩:∃ w7,w7=((((w6.setCell ⟨w2.heap.size,0,none⟩ (.int .i64 4)).setCell ⟨w2.heap.size,1,none⟩ (.int .i64 a.pat.n)).setCell ⟨w2.heap.size,2,none⟩ (.slice A6 a.path.length c6)).setCell ⟨w2.heap.size,3,none⟩ (.string ⟨#[]⟩)).setCell ⟨w2.heap.size,4,none⟩ (.slice none 0 0):=⟨_,rfl⟩
   rw [<- e7]
   have Q7:=LH (show ∀ b,b≠w2.heap.size->w7.heap[b]? =w6.heap[b]? from fun b hb=>by rw [e7];simp only [Below.heap_setCell _ _ _ b (show b≠(⟨w2.heap.size,_,none⟩:Addr).block from hb)])
   have hz7:w7.heap.size=w6.heap.size:=by rw [e7];simp [World.setCell]
   have K7:=fun b (hb:(Value.slice A6 a.path.length c6).ownBlock=some b)=>show((w2.heap.size<=b/\b<w7.heap.size)/\b≠w2.heap.size)/\w7.heap[b]? =w6.heap[b]? from by
    have h1:=HO6.out b hb
    have h2:b≠w2.heap.size:=fun e=>NN6.out (by rw [<- e];exact hb)
    exact⟨⟨⟨h1.1,by omega⟩,h2⟩,Q7.out b h2⟩
   have O7:=LH (show Osl w7 (fun b=>(w2.heap.size<=b/\b<w7.heap.size)/\b≠w2.heap.size) 1 A6 c6 (a.path.map (D.num .i64)) by
     obtain⟨A5,c5,e5,h5⟩:=HG6.out.oslOwn
     obtain⟨rfl,rfl⟩:A6=A5/\c6=c5:=by simpa using e5
     exact h5.keep fun b hb=>K7 b hb)
   have E7:=LH (show Below w2.heap.size w2 w7 by rw [e7];exact((((E6.out.setCell (p:=⟨w2.heap.size,0,none⟩) (by simp) _).setCell (p:=⟨w2.heap.size,1,none⟩) (by simp) _).setCell (p:=⟨w2.heap.size,2,none⟩) (by simp) _).setCell (p:=⟨w2.heap.size,3,none⟩) (by simp) _).setCell (p:=⟨w2.heap.size,4,none⟩) (by simp) _)
   have R7:=LH (show Row w7 (w2.heap.size) 31 #[.int .i64 4,.int .i64 a.pat.n,.slice A6 a.path.length c6,.string ⟨#[]⟩,.slice none 0 0] by rw [e7];exact((((RN6.out.set 0 _).set 1 _).set 2 _).set 3 _).set 4 _)
   clear e7 K7 Q7 hz7 hcn6 hfn6
   go_wp2_with fail
   go_meet
   exact⟨w2.heap.size,A6,c6,rfl,E7,R7,O7,by omega⟩
 case rest=>
  clear RZ EZ ED HZZ SP HF5
  obtain⟨n3,A6,c6,rfl,C1,C2,C3,hn3⟩:=hcut
  have RAc:=LH (RA2.out.below C1.out RA2.out.lt)
  have hcac:=fun i=>RAc.out.cell i
  have hnc:=C2.out.lt
  have SPc:=LH (show Sl wc.drew (Lt wc.drew.heap.size) 1 A1 c1 (a.path.map (D.num .i64)) from HA2.out.1.keep fun q hq=>⟨Nat.lt_of_lt_of_le hq.1 C1.out.size,C1.out.block q hq.1⟩)
  have HFc:=LH (fun(x:World) (hx:Below wc.heap.size wc x)=>show ∀ i,x.cell? ⟨w.heap.size+1,i,none⟩=(#[.slice A1 a.path.length c1,.int .i64 a.pat.op,.int .i64 a.pat.n,.string a.pat.s,.string a.pat.t,.slice A2 a.pat.kids.length c2]:Array Value)[i]? from fun i=>(RAc.out.below hx RAc.out.lt).cell i)
  have EDc:=LH (show Below wc.heap.size wc wc.drew from(Below.refl _ _).drew)
  go_upto_if 56 with (fail)
  go_cut [6] from 53 to 63 (fun v x=>∃ (A7:Option Addr) (c7:Nat),v= .pointer (some ⟨n3,0,none⟩)/\Hid (Below w2.heap.size w2 x)/\Hid (Row x n3 31 #[.int .i64 (askO a),.int .i64 (askN a),.slice A7 a.path.length c7,.string (askS a),.slice none 0 0])/\Hid (Osl x (fun b=>(w2.heap.size<=b/\b<x.heap.size)/\b≠n3) 1 A7 c7 (a.path.map (D.num .i64)))/\wc.heap.size<=x.heap.size)
  case first=>
   cases h20:(a.pat.op ==20)
   case true=>
    have e20:a.pat.op=20:=by simpa using h20
    have HO:=LH (show askO a=3/\askN a=0/\askS a=a.pat.s by unfold askO askN askS;simp [e20])
    clear e20
    go_wp2_with fail
    refine wp_region_T (fun x=>∀ i,x.cell? ⟨w.heap.size+1,i,none⟩=(#[.slice A1 a.path.length c1,.int .i64 a.pat.op,.int .i64 a.pat.n,.string a.pat.s,.string a.pat.t,.slice A2 a.pat.kids.length c2]:Array Value)[i]?) 7 (by kernel_rfl) ?_
    have hS1:=HFc.out _ EDc.out
    refine wpAnyT_tk (i:=0) (oi:=_) (v:=?tv8) rfl (Or.inl ⟨by rfl,?th8⟩) hS1 ?_
    case th8=>(intro x hSx;(try dsimp only at hSx);go_simp;(try with_reducible rfl))
    try simp only [nA,nB,nC,Act.put,nD,nE,nF]
    refine wpAnyT_tk (i:=1) (oi:=_) (v:=?tv9) rfl (Or.inl ⟨by rfl,?th9⟩) hS1 ?_
    case th9=>(intro x hSx;(try dsimp only at hSx);go_simp;(try with_reducible rfl))
    try simp only [nA,nB,nC,Act.put,nD,nE,nF]
    refine wpAnyT_tk (i:=2) (oi:=_) (v:=?tv10) rfl (Or.inl ⟨by rfl,?th10⟩) hS1 ?_
    case th10=>(intro x hSx;(try dsimp only at hSx);go_simp;(try with_reducible rfl))
    try simp only [nA,nB,nC,Act.put,nD,nE,nF]
    refine wpAnyT_tk (i:=3) (oi:=_) (v:=?tv11) rfl (Or.inl ⟨by rfl,?th11⟩) hS1 ?_
    case th11=>(intro x hSx;(try dsimp only at hSx);go_simp;(try with_reducible rfl))
    try simp only [nA,nB,nC,Act.put,nD,nE,nF]
    refine wpAnyT_tk (i:=4) (oi:=_) (v:=?tv12) rfl (Or.inl ⟨by rfl,?th12⟩) hS1 ?_
    case th12=>(intro x hSx;(try dsimp only at hSx);go_simp;(try with_reducible rfl))
    try simp only [nA,nB,nC,Act.put,nD,nE,nF]
    refine wpAnyT_step (i:=5) (by kernel_rfl) rfl (fun K hK=>?_)
    try simp only [nA,nB,nC]
    go_simp
    go_at_call 56
    refine(cloneInts a.path A1 c1 wc.drew (by omega) SPc.out).mono ?_
    rintro e w6 ⟨A7,c7,rfl,gp,hb6⟩
    have E6:=LH (EDc.out.trans hb6)
    have hz6:=E6.out.size
    have HG6:=LH (show Grx AnyB w6 wc.heap.size 3 1 (.slice A7 a.path.length c7) a.path.length (a.path.map (D.num .i64)) from gp)
    have RN6:=LH (C2.out.below E6.out C2.out.lt)
    have hcn6:=fun i=>RN6.out.cell i
    have hfn6:=fun i=>RN6.out.frozen i
    clear gp hb6
    refine hK.out _ _ (HFc.out _ E6.out) (fun hS3=>?_)
    clear hK K hS1
    try simp only [nA,nB,nC,Act.put,nD,nE,nF]
    refine wpAnyT_tk (i:=6) (oi:=_) (v:=?tv13) rfl (Or.inl ⟨by rfl,?th13⟩) hS3 ?_
    case th13=>(intro x hSx;(try dsimp only at hSx);go_simp;(try with_reducible rfl))
    try simp only [nA,nB,nC,Act.put,nD,nE,nF]
    refine wpAnyT_last (by kernel_rfl) (by kernel_rfl) rfl (fun K hK=>?_)
    try simp only [nA,nB,nC]
    go_simp
    refine hK.out _ _ ?_
    clear hK K
    try simp only [nA,nB,nC,Act.put,nD,nE,nF]
    obtain⟨w7,e7⟩:∃ w7,w7=((((w6.setCell ⟨n3,0,none⟩ (.int .i64 3)).setCell ⟨n3,1,none⟩ (.int .i64 0)).setCell ⟨n3,2,none⟩ (.slice A7 a.path.length c7)).setCell ⟨n3,3,none⟩ (.string a.pat.s)).setCell ⟨n3,4,none⟩ (.slice none 0 0):=⟨_,rfl⟩
    rw [<- e7]
    have Q7:=LH (show ∀ b,b≠n3->w7.heap[b]? =w6.heap[b]? from fun b hb=>by rw [e7];simp only [Below.heap_setCell _ _ _ b (show b≠(⟨n3,_,none⟩:Addr).block from hb)])
    have hz7:w7.heap.size=w6.heap.size:=by rw [e7];simp [World.setCell]
    have hzc1:=C1.out.size
    have O7:=LH (show Osl w7 (fun b=>(w2.heap.size<=b/\b<w7.heap.size)/\b≠n3) 1 A7 c7 (a.path.map (D.num .i64)) by
      obtain⟨A5,c5,e5,h5⟩:=HG6.out.oslOwn
      obtain⟨rfl,rfl⟩:A7=A5/\c7=c5:=by simpa using e5
      exact h5.keep fun b hb=>by
        have h1:=HG6.out.own b hb
        exact⟨⟨⟨by omega,by omega⟩,by omega⟩,Q7.out b (by omega)⟩)
    have E7:=LH (show Below w2.heap.size w2 w7 by rw [e7];exact(((((C1.out.trans (E6.out.mono hzc1)).setCell (p:=⟨n3,0,none⟩) hn3 _).setCell (p:=⟨n3,1,none⟩) hn3 _).setCell (p:=⟨n3,2,none⟩) hn3 _).setCell (p:=⟨n3,3,none⟩) hn3 _).setCell (p:=⟨n3,4,none⟩) hn3 _)
    have R7:=LH (show Row w7 n3 31 #[.int .i64 (askO a),.int .i64 (askN a),.slice A7 a.path.length c7,.string (askS a),.slice none 0 0] by rw [HO.out.1,HO.out.2.1,HO.out.2.2,e7];exact((((RN6.out.set 0 _).set 1 _).set 2 _).set 3 _).set 4 _)
    clear e7 Q7 hcn6 hfn6
    go_wp2_with fail
    go_meet
    exact⟨A7,c7,rfl,E7,R7,O7,by omega⟩
   case false=>
    have e20:¬ a.pat.op=20:=by simpa using h20
    have HO:=LH (show askO a=4/\askN a=a.pat.n/\askS a=⟨#[]⟩ by unfold askO askN askS;simp [e20])
    clear e20
    go_wp2_with fail
    go_meet
    exact⟨A6,c6,rfl,C1,LH (by rw [HO.out.1,HO.out.2.1,HO.out.2.2];exact C2.out),C3,Nat.le_refl _⟩
  case rest=>
   clear hcac RAc C2 C3 SPc HFc EDc hnc
   obtain⟨A7,c7,rfl,D1,D2,D3,hcd⟩:=hcut
   have hnd:=D2.out.lt
   have hzd:=D1.out.size
   have Xd:=LH (X2.out.trans (Bx.of_below D1.out (Nat.le_refl _)))
   have RAd:=LH (RA2.out.below D1.out RA2.out.lt)
   have hcad:=fun i=>RAd.out.cell i
   have RGd:=LH (RG2.out.below D1.out RG2.out.lt)
   have RBd:=LH (RB2.out.below D1.out RB2.out.lt)
   have hgw2:g<w2.heap.size:=by omega
   have HAd:=LH (HA.out.keep (w':=wc) (S':=Lt wc.heap.size) fun x hx=>⟨Nat.lt_of_lt_of_le hx.1 Xd.out.size,Xd.out.block x hx.1 hx.2⟩)
   have hyy:=implHolding (fun b=>b<w.heap.size/\b≠g) a rows (some ⟨b,off,none⟩) c A1 c1 A2 c2 wc hl2 many (by omega) hap HOK.out (fun x hx=>Nat.lt_of_lt_of_le hx.1 Xd.out.size) (HS.out.keep fun x hx=>⟨hx,Xd.out.block x hx.1 hx.2⟩) HAd.out
   have HYY:=LH hyy
   clear hyy
   go_wp2_with fail
   refine HYY.out.mono ?_
   rintro e wy ⟨Ay,cy,rfl,hsy,hby⟩
   have EY:=LH hby
   have Xy:=LH (Xd.out.trans (Bx.of_below hby (Nat.le_refl _)))
   have hzy:=hby.size
   have RGy:=LH (RGd.out.below EY.out RGd.out.lt)
   have hia:=HIH.out (many+1) (yesR a rows) Ay cy wy (by omega) (by omega) (HOK.out.yes a hap) (Nat.le_trans (yesR_len a rows) hl2) RGy.out (hsy.keep fun x hx=>⟨⟨hx.2,by rcases hx.1 with h1 | h1;exact h1.2;omega⟩,rfl⟩)
   rw [HP.out] at hia
   have HIA:=LH hia
   clear hia hsy hby HYY hcad
   go_wp2_with fail
   refine HIA.out.mono ?_
   rintro e wa ⟨P1,pc1,P2,pc2,rfl,hoa,hga,hxa⟩
   have OA:=LH hoa
   have GA:=LH hga
   have XA:=LH hxa
   have hza:=hxa.size
   clear hoa hga hxa HIA
   obtain⟨wb,eb⟩:∃ wb,wb=wa.alloc (.cells #[.int .i64 p.1.op,.int .i64 p.1.n,.slice P1 p.1.path.length pc1,.string p.1.s,.slice P2 p.1.kids.length pc2] 31):=⟨_,rfl⟩
   have Eb:=LH (show Below wa.heap.size wa wb by rw [eb];exact(Below.refl _ _).alloc (Nat.le_refl _) _)
   have hzb:wa.heap.size+1<=wb.heap.size:=by rw [eb];simp
   have Xb:=LH ((Xy.out.trans XA.out).trans (Bx.of_below Eb.out (Nat.le_refl _)))
   have RPb:=LH (show Row wb wa.heap.size 31 #[.int .i64 p.1.op,.int .i64 p.1.n,.slice P1 p.1.path.length pc1,.string p.1.s,.slice P2 p.1.kids.length pc2] by rw [eb];exact Row.new _ _ _)
   have RAa:=LH (XA.out.row (RAd.out.below EY.out RAd.out.lt) (by omega))
   have RAb:=LH (RAa.out.below Eb.out RAa.out.lt)
   have RNa:=LH (XA.out.row (D2.out.below EY.out D2.out.lt) (by omega))
   have RNb:=LH (RNa.out.below Eb.out RNa.out.lt)
   have RBa:=LH (XA.out.row (RBd.out.below EY.out RBd.out.lt) (by omega))
   have RBb:=LH (RBa.out.below Eb.out RBa.out.lt)
   have RGb:=LH (GA.out.below Eb.out GA.out.lt)
   have hcab:=fun i=>RAb.out.cell i
   have hp2:many+1<p.2/\p.2<=max (many+1+1) (301+k):=by rw [<- HP.out];exact⟨growV_less k _ _,growV_le k _ _⟩
   have HAb:=LH (HA.out.keep (w':=wb) (S':=Lt wb.heap.size) fun x hx=>⟨Nat.lt_of_lt_of_le hx.1 Xb.out.size,Xb.out.block x hx.1 hx.2⟩)
   have hnn:=implFailing (fun b=>b<w.heap.size/\b≠g) a rows (some ⟨b,off,none⟩) c A1 c1 A2 c2 wb hl2 (fun r hr=>Nat.le_trans (asksM_len _) (HOK.out r hr).1) (fun x hx=>Nat.lt_of_lt_of_le hx.1 Xb.out.size) (HS.out.keep fun x hx=>⟨hx,Xb.out.block x hx.1 hx.2⟩) HAb.out
   have HNN:=LH hnn
   clear hnn
   go_upto_region 13 with (fail)
   rw [<- eb]
   clear eb
   go_wp2_with fail
   refine HNN.out.mono ?_
   rintro e wn ⟨An,cn,rfl,hsn,hbn⟩
   have EN:=LH hbn
   have hzn:=hbn.size
   have Xn':=LH (Xb.out.trans (Bx.of_below hbn (Nat.le_refl _)))
   have RGn:=LH (RGb.out.below EN.out RGb.out.lt)
   have hzwb:=Xb.out.size
   have hiq:=HIH.out p.2 (noR a rows) An cn wn (by omega) (by omega) ((HOK.out.no a).mono (by omega)) (Nat.le_trans (noR_len a rows) hl2) RGn.out (hsn.keep fun x hx=>⟨⟨hx.2,by rcases hx.1 with h1 | h1;exact h1.2;omega⟩,rfl⟩)
   rw [HQ.out] at hiq
   have HIQ:=LH hiq
   clear hiq hsn hbn HNN hcab
   go_wp2_with fail
   refine HIQ.out.mono ?_
   rintro e wq ⟨Q1,qc1,Q2,qc2,rfl,hoq,hgq,hxq⟩
   have OQ:=LH hoq
   have GQ:=LH hgq
   have XQ:=LH hxq
   have hzq:=hxq.size
   clear hoq hgq hxq HIQ
   obtain⟨wz,ez⟩:∃ wz,wz=wq.alloc (.cells #[.int .i64 q.1.op,.int .i64 q.1.n,.slice Q1 q.1.path.length qc1,.string q.1.s,.slice Q2 q.1.kids.length qc2] 31):=⟨_,rfl⟩
   have Ez:=LH (show Below wq.heap.size wq wz by rw [ez];exact(Below.refl _ _).alloc (Nat.le_refl _) _)
   have hzz:wq.heap.size+1=wz.heap.size:=by rw [ez];simp
   have Xz:=LH ((Xn'.out.trans XQ.out).trans (Bx.of_below Ez.out (Nat.le_refl _)))
   have RQz:=LH (show Row wz wq.heap.size 31 #[.int .i64 q.1.op,.int .i64 q.1.n,.slice Q1 q.1.path.length qc1,.string q.1.s,.slice Q2 q.1.kids.length qc2] by rw [ez];exact Row.new _ _ _)
   have RPq:=LH (XQ.out.row (RPb.out.below EN.out RPb.out.lt) (by omega))
   have RPz:=LH (RPq.out.below Ez.out RPq.out.lt)
   have RNq:=LH (XQ.out.row (RNb.out.below EN.out RNb.out.lt) (by omega))
   have RNz:=LH (RNq.out.below Ez.out RNq.out.lt)
   have RBq:=LH (XQ.out.row (RBb.out.below EN.out RBb.out.lt) (by omega))
   have RBz:=LH (RBq.out.below Ez.out RBq.out.lt)
   have RGz:=LH (GQ.out.below Ez.out GQ.out.lt)
   have hzc2:=Nat.le_trans hzd hzy
   have c1z:=fun i=>RQz.out.cell i
   have c2z:=fun i=>RPz.out.cell i
   have c3z:=fun i=>RNz.out.cell i
   have f3z:=fun i=>RNz.out.frozen i
   have c4z:=fun i=>RBz.out.cell i
   have f4z:=fun i=>RBz.out.frozen i
   have l2z:=RPz.out.lt
   have l3z:=RNz.out.lt
   have l4z:=RBz.out.lt
   have hne43:w.heap.size≠n3:=by omega
   go_upto_region 14 with (fail)
   rw [<- ez]
   clear ez
   go_wp2_with fail
   obtain⟨wm,em⟩:∃ wm,wm=(((((wz.setCell ⟨n3,4,none⟩ (.slice (some ⟨wz.heap.size,0,none⟩) 2 2)).setCell ⟨w.heap.size,0,none⟩ (.int .i64 (askO a))).setCell ⟨w.heap.size,1,none⟩ (.int .i64 (askN a))).setCell ⟨w.heap.size,2,none⟩ (.slice A7 a.path.length c7)).setCell ⟨w.heap.size,3,none⟩ (.string (askS a))).setCell ⟨w.heap.size,4,none⟩ (.slice (some ⟨wz.heap.size,0,none⟩) 2 2):=⟨_,rfl⟩
   rw [<- em]
   obtain⟨wf,ef⟩:∃ wf,wf=wm.alloc (.cells #[.int .i64 p.1.op,.int .i64 p.1.n,.slice P1 p.1.path.length pc1,.string p.1.s,.slice P2 p.1.kids.length pc2,.int .i64 q.1.op,.int .i64 q.1.n,.slice Q1 q.1.path.length qc1,.string q.1.s,.slice Q2 q.1.kids.length qc2] 31):=⟨_,rfl⟩
   rw [<- ef]
   have hzm:wm.heap.size=wz.heap.size:=by rw [em];simp [World.setCell]
   have hwn3:w.heap.size<=n3:=by omega
   have Qm:=LH (fun b (h1:b≠n3) (h2:b≠w.heap.size) (h3:b<wz.heap.size)=>show wf.heap[b]? =wz.heap[b]? from by
     rw [ef,Below.heap_alloc wm _ b (by omega),em]
     rw [Below.heap_setCell _ ⟨w.heap.size,4,none⟩ _ b h2,Below.heap_setCell _ ⟨w.heap.size,3,none⟩ _ b h2,Below.heap_setCell _ ⟨w.heap.size,2,none⟩ _ b h2,Below.heap_setCell _ ⟨w.heap.size,1,none⟩ _ b h2,Below.heap_setCell _ ⟨w.heap.size,0,none⟩ _ b h2,Below.heap_setCell _ ⟨n3,4,none⟩ _ b h1])
   have hzf:wz.heap.size+1=wf.heap.size:=by rw [ef];simp [hzm]
   have RKf:=LH (show Row wf wz.heap.size 31 #[.int .i64 p.1.op,.int .i64 p.1.n,.slice P1 p.1.path.length pc1,.string p.1.s,.slice P2 p.1.kids.length pc2,.int .i64 q.1.op,.int .i64 q.1.n,.slice Q1 q.1.path.length qc1,.string q.1.s,.slice Q2 q.1.kids.length qc2] by rw [ef];exact Row.new' _ _ _ hzm.symm)
   have RBf:=LH (show Row wf w.heap.size 31 #[.int .i64 (askO a),.int .i64 (askN a),.slice A7 a.path.length c7,.string (askS a),.slice (some ⟨wz.heap.size,0,none⟩) 2 2] by
     rw [ef,em]
     exact((((((RBz.out.far (p:=⟨n3,4,none⟩) hne43 _).set 0 _).set 1 _).set 2 _).set 3 _).set 4 _).alloc _)
   have RGf:=LH (show Row wf g 73 #[.int .i64 q.2] from(Qm.out g (by omega) (by omega) (by omega)).trans RGz.out)
   have XF:=LH (show Bx g w wf by
     rw [ef,em]
     exact((((((Xz.out.set (p:=⟨n3,4,none⟩) (.inr hwn3) _).set (p:=⟨w.heap.size,0,none⟩) (.inr (Nat.le_refl _)) _).set (p:=⟨w.heap.size,1,none⟩) (.inr (Nat.le_refl _)) _).set (p:=⟨w.heap.size,2,none⟩) (.inr (Nat.le_refl _)) _).set (p:=⟨w.heap.size,3,none⟩) (.inr (Nat.le_refl _)) _).set (p:=⟨w.heap.size,4,none⟩) (.inr (Nat.le_refl _)) _).alloc _)
   have QQ:=LH (fun b (h1:wn.heap.size<=b) (h2:b<wq.heap.size)=>show wf.heap[b]? =wq.heap[b]? from(Qm.out b (by omega) (by omega) (by omega)).trans (Ez.out.block b h2))
   have QA:=LH (fun b (h1:b≠n3) (h2:b≠w.heap.size) (h3:b≠g) (h4:b<wa.heap.size)=>show wf.heap[b]? =wa.heap[b]? from
     (Qm.out b h1 h2 (by omega)).trans ((Ez.out.block b (by omega)).trans ((XQ.out.block b (by omega) h3).trans ((EN.out.block b (by omega)).trans (Eb.out.block b h4)))))
   have OAf:=LH (OA.out.keep (w':=wf) (S':=Btw wy.heap.size wa.heap.size) fun b hb=>⟨hb,QA.out b (by have:=hb.1;omega) (by have:=hb.1;omega) (by have:=hb.1;omega) hb.2⟩)
   have OQf:=LH (OQ.out.keep (w':=wf) (S':=Btw wn.heap.size wq.heap.size) fun b hb=>⟨hb,QQ.out b hb.1 hb.2⟩)
   have D3f:=LH (D3.out.keep (w':=wf) (S':=fun b=>(w2.heap.size<=b/\b<wc.heap.size)/\b≠n3) fun b hb=>⟨hb,(QA.out b hb.2 (by have:=hb.1.1;omega) (by have:=hb.1.1;omega) (by have:=hb.1.2;omega)).trans ((XA.out.block b (by have:=hb.1.2;omega) (by have:=hb.1.1;omega)).trans (EY.out.block b hb.1.2))⟩)
   have OK:=LH (oslTwoTree (S:=fun b=>wc.heap.size<=b/\b<wf.heap.size) (t1:=p.1) (t2:=q.1) RKf.out OAf.out OQf.out (fun x hx=>⟨⟨⟨by have:=hx.1;omega,by have:=hx.2;omega⟩,by have:=hx.2;omega⟩,fun h2=>by have:=hx.2;have:=h2.1;omega⟩) (fun x hx=>⟨⟨by have:=hx.1;omega,by have:=hx.2;omega⟩,by have:=hx.2;omega⟩) ⟨by omega,by omega⟩)
   have hwfs:(Lit.int .i64 (askO a)).wf=true/\(Lit.int .i64 (askN a)).wf=true/\(askS a).size<=maxLen:=by
    unfold askO askN askS
    split
    · exact⟨by decide,by decide,HA.out.2.2.2.1⟩
    · exact⟨by decide,HA.out.2.2.1,by simp [ByteArray.size,maxLen]⟩
   have hczf:=fun i=>RBf.out.cell i
   have HVT:=LH (show growV (k+1) many rows=(.mk (askO a) (askN a) a.path (askS a) [p.1,q.1],q.2) by rw [HV.out,askT_eq])
   rw [HVT.out]
   clear ef em c1z c2z c3z c4z f3z f4z
   exact bodyPost_ret (v:=.agg #[.int .i64 (askO a),.int .i64 (askN a),.slice A7 a.path.length c7,.string (askS a),.slice (some ⟨wz.heap.size,0,none⟩) 2 2]) (by simp [results,Tryz.results31,go_sem,hczf]) rfl ⟨A7,c7,some ⟨wz.heap.size,0,none⟩,2,rfl,⟨fun b=>(w2.heap.size<=b/\b<wc.heap.size)/\b≠n3,fun b=>wc.heap.size<=b/\b<wf.heap.size,fun x hx=>⟨by have:=hx.1.1;omega,by have:=hx.1.2;omega⟩,fun x hx=>⟨by have:=hx.1;omega,hx.2⟩,fun x hx h2=>by have:=hx.1.2;have:=h2.1;omega,hwfs.1,hwfs.2.1,D3f.out,hwfs.2.2,OK.out⟩,RGf.out,XF.out⟩
theorem growTr (g:Nat):∀ (k:Nat),k<=1000->GrownOk g k
 | 0,_,many,rows,A,c,w,h,hm,hok,hl,hrow,hs=>growTrOver g 0 many rows A c w (by omega) hm hrow
 | k+1,hk,many,rows,A,c,w,h,hm,hok,hl,hrow,hs=>by
  by_cases ho:300<many+1
  · exact growTrOver g (k+1) many rows A c w ho hm hrow
  · by_cases h0:0<rows.length
    · by_cases ha:0<rows[0].asks.length
      · exact growTrAsk g k many rows A c w (growTr g k (by omega)) ho h (by omega) hok h0 hl ha hrow hs
      · exact growTrDone g k many rows A c w ho h0 hl (by omega) hrow hs
    · exact growTrNone g k many rows A c w ho (by omega) hrow
end Go.Proofs.YtamfolaicncblaaGreat
