/- Texts of the claim LTreesRight in one: WTreesRight Joined. Conditions: none but bounds on sizes. -/
import Derived.Test.YtamfolaicncblaaGreatZLTreesRight31
import Derived.Test.YtamfolaicncblaaGreatZLTreesRight32
import Derived.Test.YtamfolaicncblaaGreatZLTreesRight30
import Derived.Test.YtamfolaicncblaaGreatZLTreesRight27
import Derived.Test.YtamfolaicncblaaGreatZLTreesRight28
import Derived.Test.YtamfolaicncblaaGreatZLTreesRight29
import Derived.Test.YtamfolaicncblaaGreatZLTreesRight16
import Derived.WalkKit
import Derived.ProofKit
import Derived.OpenShut
import Derived.Test.YtamfolaicncblaaGreatZLTreesRight2
namespace Go.Proofs.YtamfolaicncblaaGreat
set_option maxRecDepth 20000
set_option linter.unusedVariables false
set_option linter.unusedSimpArgs false
open Go.RowKit
set_option maxHeartbeats 4000000
theorem bigYesR {n:Nat} (A:Option Addr) (c:Nat) (hbi:(1048576:Int)<(n:Int)) (w:World):Calls Tryz.prog 4 #[.slice A n c] w fun e w'=>e= .returned (.bool true)/\w=w':=by
 go_enter Tryz.func4,Tryz.ntmps4
 go_wp2_with fail
 go_ret
 exact⟨rfl,rfl⟩
theorem bigNoR {n:Nat} (A:Option Addr) (c:Nat) (hbi:¬ (1048576:Int)<(n:Int)) (w:World):Calls Tryz.prog 4 #[.slice A n c] w fun e w'=>e= .returned (.bool false)/\w=w':=by
 go_enter Tryz.func4,Tryz.ntmps4
 go_wp2_with fail
 go_ret
 exact⟨rfl,rfl⟩
def ToAtB (bv:GValue) (th:Bool) (w:World) (e:Ending) (w':World):Prop:=∃ A1 c1,e= .returned (.tuple #[.agg #[.int .i64 bv.kind,.int .i64 bv.n,.string bv.s,.slice A1 bv.kids.length c1],.bool th])/\GValue.Ow w' (Btw w.heap.size w'.heap.size) A1 c1 bv/\Below w.heap.size w w'
theorem altsQ_sh {alts:List GNode} (h:AltsD patQ alts):∀ p∈alts.map patOf,shP 3 p:=by
 intro p hp
 obtain⟨a,ha,rfl⟩:=List.mem_map.1 hp
 obtain⟨j,hj,rfl⟩:=List.mem_iff_getElem.1 ha
 obtain⟨q,hq,he⟩:=h.2 j hj
 rw [he]
 exact hq.1
theorem walkTreesRight (l:List Int) (A:Option Addr) (c:Nat) (w:World) (hs:Sl w (Lt w.heap.size) 1 A c (l.map (D.num .u8))):
 Calls Tryz.prog 3 #[.slice A l.length c] w fun e w'=>e= .returned (.bool true)/\Below w.heap.size w w':=by
 have S0:=LH hs
 have hln:l.length<=9223372036854775807:=by simpa using hs.len
 clear hs
 by_cases hbig:1048576<l.length
 ·
  have hbi:(1048576:Int)<(l.length:Int):=by omega
  go_enter Tryz.func3,Tryz.ntmps3
  go_wp2_with fail
  refine(bigYesR A c (by omega) w).mono ?_
  rintro e w1 ⟨rfl,rfl⟩
  go_wp2_with fail
  go_ret
  exact⟨rfl,Below.refl _ _⟩
 have hl:l.length<=1048576:=by omega
 go_enter Tryz.func3,Tryz.ntmps3
 refine wp_hide (fun BP hBP=>?_)
 have HBP:=LH hBP
 clear hBP
 go_wp2_with fail
 refine(bigNoR A c (by omega) w).mono ?_
 rintro e w1 ⟨rfl,rfl⟩
 go_wp2_with fail
 refine(drawTrees l A c w S0.out hl).mono ?_
 rintro e v1 ⟨ds,Ad,cd,alts,Al,cl,rfl,hd,ha,s1,s2,hb⟩
 have HDB:=LH hd.bulk
 have HAB:=LH ha.bulkQ
 have HSH:=LH (altsQ_sh ha)
 clear hd ha
 have E1:=LH hb
 have DS1:=LH (s1.keep (w':=v1) (S':=Lt v1.heap.size) fun b h=>⟨h,rfl⟩)
 have AL1:=LH (s2.keep (w':=v1) (S':=Lt v1.heap.size) fun b h=>⟨h,rfl⟩)
 have SL2:=LH (S0.out.below E1.out E1.out.size)
 have B2:=E1
 clear S0
 clear hb s1 s2
 obtain⟨⟨t,ok⟩,hT⟩:∃ T,treesV ds (alts.map patOf)=T:=⟨_,rfl⟩
 have HRL:=LH (show t.ok ds=ok by have h:=right_law (ds:=ds) (l:=alts.map patOf) (d:=3) (by omega) HSH.out;rw [hT] at h;exact h)
 have HTB:=LH (show t.bulk<=1262485504 by have h:=treesV_bulk ds alts (by have:=HAB.out;omega);rw [hT] at h;exact h)
 have HT:=LH hT
 clear hT HSH
 have HI:=LH (implTreesL ds Ad cd alts Al cl v1 (by have:=HAB.out;omega) DS1.out AL1.out)
 rw [HT.out] at HI
 go_wp2_with fail
 refine HI.out.mono ?_
 rintro e v2 ⟨T1a,p1a,T1b,p1b,rfl,how,hb⟩
 dsimp only at how ⊢
 clear HI
 obtain⟨w3,e3,Q3,hz3,K3⟩:=boxed v2 31 #[.int .i64 t.op,.int .i64 t.n,.slice T1a t.path.length p1a,.string t.s,.slice T1b t.kids.length p1b]
 have F3:=LH (show Below v2.heap.size v2 w3 by rw [e3];exact(Below.refl _ _).alloc (Nat.le_refl _) _)
 have E3:=LH (hb.trans (F3.out.mono hb.size))
 have Ta3:=LH (how.at.keep (w':=w3) (S':=Lt w3.heap.size) fun b h=>⟨by have h2:b<v2.heap.size:=h.2;have:=F3.out.size;show b<_;omega,F3.out.block b h.2⟩)
 have SL4:=LH (SL2.out.below E3.out E3.out.size)
 have DS4:=LH (DS1.out.below E3.out E3.out.size)
 have AL4:=LH (AL1.out.below E3.out E3.out.size)
 have B4:=LH (B2.out.trans (E3.out.mono B2.out.size))
 clear SL2 DS1 AL1 B2
 clear hz3 K3
 clear hb how
 have HI:=LH (specTreesL ds Ad cd alts Al cl w3 (by have:=HAB.out;omega) DS4.out AL4.out)
 rw [HT.out] at HI
 go_wp2_with fail
 rw [<- e3]
 clear e3
 refine HI.out.mono ?_
 rintro e v3 ⟨T2a,p2a,T2b,p2b,rfl,how,hb⟩
 dsimp only at how ⊢
 clear HI
 obtain⟨w5,e5,Q5,hz5,K5⟩:=boxed v3 31 #[.int .i64 t.op,.int .i64 t.n,.slice T2a t.path.length p2a,.string t.s,.slice T2b t.kids.length p2b]
 have F5:=LH (show Below v3.heap.size v3 w5 by rw [e5];exact(Below.refl _ _).alloc (Nat.le_refl _) _)
 have E5:=LH (hb.trans (F5.out.mono hb.size))
 have SL6:=LH (SL4.out.below E5.out E5.out.size)
 have DS6:=LH (DS4.out.below E5.out E5.out.size)
 have Ta6:=LH (Ta3.out.below E5.out E5.out.size)
 have Ra6:=LH (Q3.out.below E5.out Q3.out.lt)
 have B6:=LH (B4.out.trans (E5.out.mono B4.out.size))
 clear SL4 DS4 AL4 Ta3 Q3 B4
 clear hz5 K5
 clear hb how
 go_wp2_with fail
 rw [<- e5]
 clear e5
 refine(drawRunTree l A c w5 SL6.out hl).mono ?_
 rintro e v4 ⟨x,T3a,p3a,T3b,p3b,v,Av,cv,rfl,hxb,hvb,s1,s2,hb⟩
 have HVB:=LH (show v.bulk<=60 from hvb)
 clear hxb hvb
 obtain⟨w7,e7,Q7,hz7,K7⟩:=boxed v4 31 #[.int .i64 x.op,.int .i64 x.n,.slice T3a x.path.length p3a,.string x.s,.slice T3b x.kids.length p3b]
 obtain⟨w8,e8,Q8,hz8,K8⟩:=boxed w7 36 #[.int .i64 v.kind,.int .i64 v.n,.string v.s,.slice Av v.kids.length cv]
 rw [hz7] at Q8
 have Q7:=LH (K8.out.row Q7.out (by omega))
 have F8:=LH (show Below v4.heap.size v4 w8 by rw [e8,e7];exact((Below.refl _ _).alloc (Nat.le_refl _) _).alloc (by simp) _)
 have E8:=LH (hb.trans (F8.out.mono hb.size))
 have X8:=LH (s1.keep (w':=w8) (S':=Lt w8.heap.size) fun b h=>⟨by have:=F8.out.size;show b<_;omega,F8.out.block b h.2⟩)
 have V8:=LH (s2.keep (w':=w8) (S':=Lt w8.heap.size) fun b h=>⟨by have:=F8.out.size;show b<_;omega,F8.out.block b h.2⟩)
 have SL9:=LH (SL6.out.below E8.out E8.out.size)
 have DS9:=LH (DS6.out.below E8.out E8.out.size)
 have Ta9:=LH (Ta6.out.below E8.out E8.out.size)
 have Ra9:=LH (Ra6.out.below E8.out Ra6.out.lt)
 have Rb9:=LH (Q5.out.below E8.out Q5.out.lt)
 have B9:=LH (B6.out.trans (E8.out.mono B6.out.size))
 clear SL6 DS6 Ta6 Ra6 Q5 B6
 clear hz7 K7 hz8 K8
 clear hb s1 s2
 go_wp2_with fail
 rw [<- e7,<- e8]
 clear e7 e8
 refine(drawTreeOk l A c w8 SL9.out hl).mono ?_
 rintro e v5 ⟨ys,Ay,cy,z,T4a,p4a,T4b,p4b,rfl,hyd,hzb,s1,s2,hb⟩
 have HYB:=LH hyd.bulk
 have HZB:=LH hzb
 clear hyd hzb
 obtain⟨w10,e10,Q10,hz10,K10⟩:=boxed v5 31 #[.int .i64 z.op,.int .i64 z.n,.slice T4a z.path.length p4a,.string z.s,.slice T4b z.kids.length p4b]
 have F10:=LH (show Below v5.heap.size v5 w10 by rw [e10];exact(Below.refl _ _).alloc (Nat.le_refl _) _)
 have E10:=LH (hb.trans (F10.out.mono hb.size))
 have Y10:=LH (s1.keep (w':=w10) (S':=Lt w10.heap.size) fun b h=>⟨by have h2:b<v5.heap.size:=h;have:=F10.out.size;show b<_;omega,F10.out.block b h⟩)
 have Z10:=LH (s2.keep (w':=w10) (S':=Lt w10.heap.size) fun b h=>⟨by have:=F10.out.size;show b<_;omega,F10.out.block b h.2⟩)
 have SL11:=LH (SL9.out.below E10.out E10.out.size)
 have DS11:=LH (DS9.out.below E10.out E10.out.size)
 have Ta11:=LH (Ta9.out.below E10.out E10.out.size)
 have Ra11:=LH (Ra9.out.below E10.out Ra9.out.lt)
 have Rb11:=LH (Rb9.out.below E10.out Rb9.out.lt)
 have X11:=LH (X8.out.below E10.out E10.out.size)
 have V11:=LH (V8.out.below E10.out E10.out.size)
 have Rx11:=LH (Q7.out.below E10.out Q7.out.lt)
 have Rv11:=LH (Q8.out.below E10.out Q8.out.lt)
 have B11:=LH (B9.out.trans (E10.out.mono B9.out.size))
 clear SL9 DS9 Ta9 Ra9 Rb9 X8 V8 Q7 Q8 B9
 clear hz10 K10
 clear hb s1 s2
 go_wp2_with fail
 rw [<- e10]
 clear e10
 refine(drawAt l A c w10 SL11.out hl).mono ?_
 rintro e v6 ⟨a,Aa,ca,pa,Ap,cp,rfl,hab,s1,s2,hb⟩
 have HAV:=LH (show a.bulk<=60 from hab)
 clear hab
 obtain⟨w12,e12,Q12,hz12,K12⟩:=boxed v6 36 #[.int .i64 a.kind,.int .i64 a.n,.string a.s,.slice Aa a.kids.length ca]
 have F12:=LH (show Below v6.heap.size v6 w12 by rw [e12];exact(Below.refl _ _).alloc (Nat.le_refl _) _)
 have E12:=LH (hb.trans (F12.out.mono hb.size))
 have VA12:=LH (s1.keep (w':=w12) (S':=Lt w12.heap.size) fun b h=>⟨by have:=F12.out.size;show b<_;omega,F12.out.block b h.2⟩)
 have PA12:=LH (s2.keep (w':=w12) (S':=Lt w12.heap.size) fun b h=>⟨by have h2:b<v6.heap.size:=h;have:=F12.out.size;show b<_;omega,F12.out.block b h⟩)
 have SL13:=LH (SL11.out.below E12.out E12.out.size)
 have DS13:=LH (DS11.out.below E12.out E12.out.size)
 have Ta13:=LH (Ta11.out.below E12.out E12.out.size)
 have Ra13:=LH (Ra11.out.below E12.out Ra11.out.lt)
 have Rb13:=LH (Rb11.out.below E12.out Rb11.out.lt)
 have X13:=LH (X11.out.below E12.out E12.out.size)
 have V13:=LH (V11.out.below E12.out E12.out.size)
 have Rx13:=LH (Rx11.out.below E12.out Rx11.out.lt)
 have Rv13:=LH (Rv11.out.below E12.out Rv11.out.lt)
 have Y13:=LH (Y10.out.below E12.out E12.out.size)
 have Z13:=LH (Z10.out.below E12.out E12.out.size)
 have Rz13:=LH (Q10.out.below E12.out Q10.out.lt)
 have B13:=LH (B11.out.trans (E12.out.mono B11.out.size))
 clear SL11 DS11 Ta11 Ra11 Rb11 X11 V11 Rx11 Rv11 Y10 Z10 Q10 B11
 clear hz12 K12
 clear hb s1 s2
 obtain⟨bv,hbv⟩:∃ x,atV (valAt a pa)=x:=⟨_,rfl⟩
 obtain⟨th,hth⟩:∃ x,(valAt a pa).isSome=x:=⟨_,rfl⟩
 have HBB:=LH (show bv.bulk<=60 by have h:=atV_bulk a pa;rw [hbv] at h;have:=HAV.out;omega)
 have HBV:=LH hbv
 have HTH:=LH hth
 clear hbv hth
 have HI:=LH (show Calls Tryz.prog 11 #[.agg #[.int .i64 a.kind,.int .i64 a.n,.string a.s,.slice Aa a.kids.length ca],.slice Ap pa.length cp] w12 (ToAtB bv th w12) by rw [<- HBV.out,<- HTH.out];exact implAt a Aa ca pa Ap cp w12 (by have:=HAV.out;omega) VA12.out PA12.out)
 go_upto_region 9 with (fail)
 rw [<- e12]
 clear e12
 have hca0:=fun i=>Q12.out.cell i
 go_wp2_with fail
 refine HI.out.mono ?_
 rintro e v7 ⟨Ai,ci,rfl,how,hb⟩
 clear HI hca0
 obtain⟨w14,e14,Q14,hz14,K14⟩:=boxed v7 36 #[.int .i64 bv.kind,.int .i64 bv.n,.string bv.s,.slice Ai bv.kids.length ci]
 have F14:=LH (show Below v7.heap.size v7 w14 by rw [e14];exact(Below.refl _ _).alloc (Nat.le_refl _) _)
 have E14:=LH (hb.trans (F14.out.mono hb.size))
 have Vi14:=LH (how.at.keep (w':=w14) (S':=Lt w14.heap.size) fun b h=>⟨by have h2:b<v7.heap.size:=h.2;have:=F14.out.size;show b<_;omega,F14.out.block b h.2⟩)
 have SL15:=LH (SL13.out.below E14.out E14.out.size)
 have DS15:=LH (DS13.out.below E14.out E14.out.size)
 have Ta15:=LH (Ta13.out.below E14.out E14.out.size)
 have Ra15:=LH (Ra13.out.below E14.out Ra13.out.lt)
 have Rb15:=LH (Rb13.out.below E14.out Rb13.out.lt)
 have X15:=LH (X13.out.below E14.out E14.out.size)
 have V15:=LH (V13.out.below E14.out E14.out.size)
 have Rx15:=LH (Rx13.out.below E14.out Rx13.out.lt)
 have Rv15:=LH (Rv13.out.below E14.out Rv13.out.lt)
 have Y15:=LH (Y13.out.below E14.out E14.out.size)
 have Z15:=LH (Z13.out.below E14.out E14.out.size)
 have Rz15:=LH (Rz13.out.below E14.out Rz13.out.lt)
 have VA15:=LH (VA12.out.below E14.out E14.out.size)
 have PA15:=LH (PA12.out.below E14.out E14.out.size)
 have Ra015:=LH (Q12.out.below E14.out Q12.out.lt)
 have B15:=LH (B13.out.trans (E14.out.mono B13.out.size))
 clear SL13 DS13 Ta13 Ra13 Rb13 X13 V13 Rx13 Rv13 Y13 Z13 Rz13 VA12 PA12 Q12 B13
 clear hz14 K14
 clear hb how
 have HI:=LH (show Calls Tryz.prog 12 #[.agg #[.int .i64 a.kind,.int .i64 a.n,.string a.s,.slice Aa a.kids.length ca],.slice Ap pa.length cp] w14 (ToAtB bv th w14) by rw [<- HBV.out,<- HTH.out];exact specAt a Aa ca pa Ap cp w14 (by have:=HAV.out;omega) VA15.out PA15.out)
 go_upto_region 10 with (fail)
 rw [<- e14]
 clear e14
 have hca0:=fun i=>Ra015.out.cell i
 go_wp2_with fail
 refine HI.out.mono ?_
 rintro e v8 ⟨As,cs,rfl,how,hb⟩
 clear HI hca0
 obtain⟨w16,e16,Q16,hz16,K16⟩:=boxed v8 36 #[.int .i64 bv.kind,.int .i64 bv.n,.string bv.s,.slice As bv.kids.length cs]
 have F16:=LH (show Below v8.heap.size v8 w16 by rw [e16];exact(Below.refl _ _).alloc (Nat.le_refl _) _)
 have E16:=LH (hb.trans (F16.out.mono hb.size))
 have Vs16:=LH (how.at.keep (w':=w16) (S':=Lt w16.heap.size) fun b h=>⟨by have h2:b<v8.heap.size:=h.2;have:=F16.out.size;show b<_;omega,F16.out.block b h.2⟩)
 have SL17:=LH (SL15.out.below E16.out E16.out.size)
 have DS17:=LH (DS15.out.below E16.out E16.out.size)
 have Ta17:=LH (Ta15.out.below E16.out E16.out.size)
 have Ra17:=LH (Ra15.out.below E16.out Ra15.out.lt)
 have Rb17:=LH (Rb15.out.below E16.out Rb15.out.lt)
 have X17:=LH (X15.out.below E16.out E16.out.size)
 have V17:=LH (V15.out.below E16.out E16.out.size)
 have Rx17:=LH (Rx15.out.below E16.out Rx15.out.lt)
 have Rv17:=LH (Rv15.out.below E16.out Rv15.out.lt)
 have Y17:=LH (Y15.out.below E16.out E16.out.size)
 have Z17:=LH (Z15.out.below E16.out E16.out.size)
 have Rz17:=LH (Rz15.out.below E16.out Rz15.out.lt)
 have VA17:=LH (VA15.out.below E16.out E16.out.size)
 have Ra017:=LH (Ra015.out.below E16.out Ra015.out.lt)
 have Vi17:=LH (Vi14.out.below E16.out E16.out.size)
 have Ri17:=LH (Q14.out.below E16.out Q14.out.lt)
 have B17:=LH (B15.out.trans (E16.out.mono B15.out.size))
 clear SL15 DS15 Ta15 Ra15 Rb15 X15 V15 Rx15 Rv15 Y15 Z15 Rz15 VA15 PA15 Ra015 Vi14 Q14 B15
 clear hz16 K16
 clear hb how
 have F1:=LH (fun u:Up w16=>implRunTree x T3a p3a T3b p3b v Av cv u.v (by have:=HVB.out;omega) (X17.out.below u.h u.h.size) (V17.out.below u.h u.h.size))
 have F2:=LH (fun u:Up w16=>specRunTree x T3a p3a T3b p3b v Av cv u.v (by have:=HVB.out;omega) (X17.out.below u.h u.h.size) (V17.out.below u.h u.h.size))
 have F3:=LH (fun u:Up w16=>implTreeOk ys Ay cy z T4a p4a T4b p4b u.v (by have:=GTree.nodes_bulk z;have:=HZB.out;omega) (by have:=consN_bulk9 ys;have:=HYB.out;omega) (Y17.out.below u.h u.h.size) (Z17.out.below u.h u.h.size))
 have F4:=LH (fun u:Up w16=>specTreeOk ys Ay cy z T4a p4a T4b p4b u.v (by have:=GTree.nodes_bulk z;have:=HZB.out;omega) (by have:=consN_bulk9 ys;have:=HYB.out;omega) (Y17.out.below u.h u.h.size) (Z17.out.below u.h u.h.size))
 have F5:=LH (fun u:Up w16=>implValueText (bv.bulk+1) bv Ai ci u.v (by omega) (by have:=HBB.out;omega) (Vi17.out.below u.h u.h.size))
 have F6:=LH (fun u:Up w16=>implValueText (bv.bulk+1) bv As cs u.v (by omega) (by have:=HBB.out;omega) (Vs16.out.below u.h u.h.size))
 go_upto_region 11 with (fail)
 rw [<- e16]
 clear e16
 have hca:=upRow Ra17.out
 have hcb:=upRow Rb17.out
 have hcx:=upRow Rx17.out
 have hcv:=upRow Rv17.out
 have hcz:=upRow Rz17.out
 have hci:=upRow Ri17.out
 have hcs:=upRow Q16.out
 refine wp_region_up w16 (Below.refl _ _) (by kernel_rfl) (by kernel_rfl) ?_
 repeat (go_big_quiet_step (first
   | (go_at_call 13;exact upCall (F1.out _))
   | (go_at_call 14;exact upCall (F2.out _))
   | (go_at_call 15;exact upCall (F3.out _))
   | (go_at_call 16;exact upCall (F4.out _))
   | (go_at_call 17;first | (with_reducible exact upCall (F5.out _)) | exact upCall (F6.out _))))
 refine wpQuiet_nil ?_
 rintro v9 ⟨u,e0⟩
 have hb:Below w16.heap.size w16 v9:=by rw [e0];exact u.h
 clear e0 u F1 F2 F3 F4 F5 F6 hca hcb hcx hcv hcz hci hcs
 clear X17
 clear V17
 clear Y17
 clear Z17
 clear Rx17
 clear Rv17
 clear Rz17
 clear Rb17
 clear Q16
 clear Vs16
 have E18:=LH hb
 have SL19:=LH (SL17.out.below E18.out E18.out.size)
 have DS19:=LH (DS17.out.below E18.out E18.out.size)
 have Ta19:=LH (Ta17.out.below E18.out E18.out.size)
 have Ra19:=LH (Ra17.out.below E18.out Ra17.out.lt)
 have VA19:=LH (VA17.out.below E18.out E18.out.size)
 have Ra019:=LH (Ra017.out.below E18.out Ra017.out.lt)
 have Vi19:=LH (Vi17.out.below E18.out E18.out.size)
 have Ri19:=LH (Ri17.out.below E18.out Ri17.out.lt)
 have B19:=LH (B17.out.trans (E18.out.mono B17.out.size))
 clear SL17 DS17 Ta17 Ra17 VA17 Ra017 Vi17 Ri17 B17
 clear hb
 go_wp2_with fail
 refine(drawFits l A c v9 SL19.out hl).mono ?_
 rintro e va ⟨p,Ap2,cp2,y,Ay2,cy2,rfl,hpb,hyb,s1,s2,hb⟩
 clear hpb hyb
 obtain⟨w20,e20,Q20,hz20,K20⟩:=boxed va 49 #[.int .i64 p.op,.int .i64 p.n,.string p.s,.string p.t,.slice Ap2 p.kids.length cp2]
 obtain⟨w21,e21,Q21,hz21,K21⟩:=boxed w20 36 #[.int .i64 y.kind,.int .i64 y.n,.string y.s,.slice Ay2 y.kids.length cy2]
 rw [hz20] at Q21
 have Q20:=LH (K21.out.row Q20.out (by omega))
 have F21:=LH (show Below va.heap.size va w21 by rw [e21,e20];exact((Below.refl _ _).alloc (Nat.le_refl _) _).alloc (by simp) _)
 have E21:=LH (hb.trans (F21.out.mono hb.size))
 have NP21:=LH (s1.keep (w':=w21) (S':=Lt w21.heap.size) fun b h=>⟨by have:=F21.out.size;show b<_;omega,F21.out.block b h.2⟩)
 have VY21:=LH (s2.keep (w':=w21) (S':=Lt w21.heap.size) fun b h=>⟨by have:=F21.out.size;show b<_;omega,F21.out.block b h.2⟩)
 have DS22:=LH (DS19.out.below E21.out E21.out.size)
 have Ta22:=LH (Ta19.out.below E21.out E21.out.size)
 have Ra22:=LH (Ra19.out.below E21.out Ra19.out.lt)
 have VA22:=LH (VA19.out.below E21.out E21.out.size)
 have Ra022:=LH (Ra019.out.below E21.out Ra019.out.lt)
 have Vi22:=LH (Vi19.out.below E21.out E21.out.size)
 have Ri22:=LH (Ri19.out.below E21.out Ri19.out.lt)
 have B22:=LH (B19.out.trans (E21.out.mono B19.out.size))
 clear SL19 DS19 Ta19 Ra19 VA19 Ra019 Vi19 Ri19 B19
 clear hz20 K20 hz21 K21
 clear hb s1 s2
 have F1:=LH (fun u:Up w21=>implFits (p.bulk+1) p y Ap2 cp2 Ay2 cy2 u.v (Nat.lt_succ_self _) (NP21.out.below u.h u.h.size) (VY21.out.below u.h u.h.size))
 have F2:=LH (fun u:Up w21=>specFits (p.bulk+1) p y Ap2 cp2 Ay2 cy2 u.v (Nat.lt_succ_self _) (NP21.out.below u.h u.h.size) (VY21.out.below u.h u.h.size))
 go_upto_region 14 with (fail)
 rw [<- e20,<- e21]
 clear e20 e21
 have hcp:=upRow Q20.out
 have hcy:=upRow Q21.out
 refine wp_region_up w21 (Below.refl _ _) (by kernel_rfl) (by kernel_rfl) ?_
 repeat (go_big_quiet_step (first
   | (go_at_call 19;exact upCall (F1.out _))
   | (go_at_call 20;exact upCall (F2.out _))))
 refine wpQuiet_nil ?_
 rintro vb ⟨u,e0⟩
 have hb:Below w21.heap.size w21 vb:=by rw [e0];exact u.h
 clear e0 u F1 F2 hcp hcy
 clear NP21
 clear VY21
 clear Q20
 clear Q21
 have E23:=LH hb
 have DS24:=LH (DS22.out.below E23.out E23.out.size)
 have Ta24:=LH (Ta22.out.below E23.out E23.out.size)
 have Ra24:=LH (Ra22.out.below E23.out Ra22.out.lt)
 have VA24:=LH (VA22.out.below E23.out E23.out.size)
 have Ra024:=LH (Ra022.out.below E23.out Ra022.out.lt)
 have Vi24:=LH (Vi22.out.below E23.out E23.out.size)
 have Ri24:=LH (Ri22.out.below E23.out Ri22.out.lt)
 have B24:=LH (B22.out.trans (E23.out.mono B22.out.size))
 clear DS22 Ta22 Ra22 VA22 Ra022 Vi22 Ri22 B22
 clear hb
 have F1:=LH (fun u:Up vb=>implTreeOk ds Ad cd t T1a p1a T1b p1b u.v (by have:=GTree.nodes_bulk t;have:=HTB.out;omega) (by have:=consN_bulk9 ds;have:=HDB.out;omega) (DS24.out.below u.h u.h.size) (Ta24.out.below u.h u.h.size))
 rw [HRL.out] at F1
 have F2:=LH (fun u:Up vb=>implValueText (bv.bulk+1) bv Ai ci u.v (by omega) (by have:=HBB.out;omega) (Vi24.out.below u.h u.h.size))
 have F3:=LH (fun u:Up vb=>implValueText (a.bulk+1) a Aa ca u.v (by omega) (by have:=HAV.out;omega) (VA24.out.below u.h u.h.size))
 go_upto_region 16 with (fail)
 have hca:=upRow Ra24.out
 have hci:=upRow Ri24.out
 have hca0:=upRow Ra024.out
 obtain⟨n,hn⟩:∃ n,pa.length=n:=⟨_,rfl⟩
 have HN:=LH hn
 rw [hn]
 clear hn
 cases th
 ·
  skip
  refine wp_region_up vb (Below.refl _ _) (by kernel_rfl) (by kernel_rfl) ?_
  repeat (go_big_quiet_step (first
    | (go_at_call 15;exact upCall (F1.out _))
    | (go_at_call 17;first | (with_reducible exact upCall (F2.out _)) | exact upCall (F3.out _))))
  refine wpQuiet_nil ?_
  rintro vc ⟨u,e0⟩
  have hb:Below vb.heap.size vb vc:=by rw [e0];exact u.h
  have B99:=LH (B24.out.trans (hb.mono B24.out.size))
  clear e0 u hb F1 F2 F3 hca hci hca0
  go_wp2_with fail
  show BP _ _
  rw [HBP.out]
  refine bodyPost_ret (v:=.bool true) (by simp [results,Tryz.results3,go_sem]) rfl ?_
  exact⟨rfl,B99.out⟩
 ·
  by_cases hn0:0<n
  ·
   refine wp_region_up vb (Below.refl _ _) (by kernel_rfl) (by kernel_rfl) ?_
   repeat (go_big_quiet_step (first
     | (go_at_call 15;exact upCall (F1.out _))
     | (go_at_call 17;first | (with_reducible exact upCall (F2.out _)) | exact upCall (F3.out _))))
   refine wpQuiet_nil ?_
   rintro vc ⟨u,e0⟩
   have hb:Below vb.heap.size vb vc:=by rw [e0];exact u.h
   have B99:=LH (B24.out.trans (hb.mono B24.out.size))
   clear e0 u hb F1 F2 F3 hca hci hca0
   go_wp2_with fail
   show BP _ _
   rw [HBP.out]
   refine bodyPost_ret (v:=.bool true) (by simp [results,Tryz.results3,go_sem]) rfl ?_
   exact⟨rfl,B99.out⟩
  ·
   have h0:n=0:=by omega
   have hp0:pa= []:=List.eq_nil_of_length_eq_zero (by rw [HN.out];exact h0)
   have hba:bv=a:=by have h:=HBV.out;rw [hp0] at h;rw [<- h];rfl
   have F4:=LH (fun u:Up vb=>show Calls Tryz.prog 17 #[.agg #[.int .i64 bv.kind,.int .i64 bv.n,.string bv.s,.slice Ai bv.kids.length ci]] u.v (fun e w'=>e= .returned (.string a.text)/\Below u.v.heap.size u.v w') from by have h:=F2.out u;rw [show bv.text=a.text by rw [hba]] at h;exact h)
   subst h0
   clear hp0 hba hn0
   refine wp_region_up vb (Below.refl _ _) (by kernel_rfl) (by kernel_rfl) ?_
   repeat (go_big_quiet_step (first
     | (go_at_call 15;exact upCall (F1.out _))
     | (go_at_call 17;first | (with_reducible exact upCall (F4.out _)) | exact upCall (F3.out _))))
   refine wpQuiet_nil ?_
   rintro vc ⟨u,e0⟩
   have hb:Below vb.heap.size vb vc:=by rw [e0];exact u.h
   have B99:=LH (B24.out.trans (hb.mono B24.out.size))
   clear e0 u hb F1 F2 F3 hca hci hca0
   go_wp2_with fail
   show BP _ _
   rw [HBP.out]
   refine bodyPost_ret (v:=.bool true) (by simp [results,Tryz.results3,go_sem]) rfl ?_
   exact⟨rfl,B99.out⟩
end Go.Proofs.YtamfolaicncblaaGreat
namespace Go.Proofs.YtamfolaicncblaaGreat
set_option maxRecDepth 20000
set_option linter.unusedVariables false
set_option linter.unusedSimpArgs false
open Go.ChangeShapes Go.WideShapes Go.ChangeAt Go.RowKit
def kindsOf (P:Program) (fn:Func) (c:OpenClaim):List (Option IntKind):=if c.domain.isEmpty then [] else fn.params.toList.map fun t=>match P.underlying t with | some (.int k)=>some k | _=>none
theorem joinedAnd {a b:Bool} (h:a=true) (h2:b=true):(a&&b)=true:=by rw [h,h2];rfl
set_option maxRecDepth 10000 in
theorem joinedOf {P:Program} {f:FuncId} {fn:Func} {s:ChangeSpec} {c:OpenClaim} (h0:(c.wf (OpenSpec.ofChange s))=true) (h1:(laidOutB P)=true) (h2:(mapsRowed P)=true) (h3:(fn.params.all (P.readableRec ·))=true) (h4:(namedTie P c.named s.vars)=true) (h5:(c.stops ==[])=true) (h6:(P.stops ==[])=true) (h7:(c.knobs ==[])=true) (h8:(P.stopKnobs ==[])=true) (h9:(c.inPlace ==P.inPlace f)=true) (h10:(c.unfollowed ==P.unfollowed f)=true) (h11:(c.recurses ==P.recurses f)=true) (h12:(c.named ==P.varsNamed f)=true) (h13:(c.maps ==(fn.params.toList++s.plain.varTypes P).any (P.mapsRec ·))=true) (h14:(c.ifaces ==(fn.params.toList++s.plain.varTypes P).any (P.ifacesRec ·))=true) (h15:(c.mapsOut ==P.mapsAmong fn.resultTypes.toList)=true) (h16:(c.loops ==(fn.params.toList++s.plain.varTypes P).any (P.loopsFrom ·))=true) (h17:(c.wideKeys ==(fn.params.toList++s.plain.varTypes P++fn.resultTypes.toList).any (P.wideKeysFrom ·))=true) (h18:(s.vars.all (P.varReadable ·))=true) (h19:(fn.resultTypes.all (fun t=>P.readableRec t&&decide (t<P.types.size)))=true) (h20:(c.ifacesOut ==fn.resultTypes.toList.any (P.ifacesRec ·))=true) (h21:(c.loopsOut ==fn.resultTypes.toList.any (P.loopsFrom ·))=true) (h22:(c.plainKeys ==P.plainKeys)=true) (h23:(c.shortTexts.isNone)=true) (h24:(P.stopsHeard)=true) (h25:(P.mayEnter)=true) (h26:(c.lifted ==P.liftsFinal)=true) (h27:(P.make ==some c.make)=true) (h28:(c.kinds ==kindsOf P fn c)=true) (h29:(c.pinned ==c.pinnedBy)=true) (h30:(c.veiled ==(fn.params.toList++s.plain.varTypes P++fn.resultTypes.toList).any (P.veiledRec ·))=true) (h31:(c.veiledFits P fn.params.toList (fn.params.toList++s.plain.varTypes P++fn.resultTypes.toList))=true):joinedFacts P f fn s c=true:=by
 unfold joinedFacts
 exact(joinedAnd (joinedAnd (joinedAnd (joinedAnd (joinedAnd (joinedAnd (joinedAnd (joinedAnd (joinedAnd (joinedAnd (joinedAnd (joinedAnd (joinedAnd (joinedAnd (joinedAnd (joinedAnd (joinedAnd (joinedAnd (joinedAnd (joinedAnd (joinedAnd (joinedAnd (joinedAnd (joinedAnd (joinedAnd (joinedAnd (joinedAnd (joinedAnd (joinedAnd (joinedAnd (joinedAnd h0 h1) h2) h3) h4) h5) h6) h7) h8) h9) h10) h11) h12) h13) h14) h15) h16) h17) h18) h19) h20) h21) h22) h23) h24) h25) h26) h27) h28) h29) h30) h31)
end Go.Proofs.YtamfolaicncblaaGreat
