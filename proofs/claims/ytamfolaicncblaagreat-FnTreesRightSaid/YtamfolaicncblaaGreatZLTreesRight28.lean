/- Texts of the claim LTreesRight in one: RunTree TreeSize FTree FInt. Conditions: none but bounds on sizes. -/
import Derived.Test.YtamfolaicncblaaGreatZLTreesRight27
import Derived.Test.YtamfolaicncblaaGreatZLTreesRight17
import Derived.Deep.LoopGhost
import Derived.Test.YtamfolaicncblaaGreatRows
import Derived.Test.YtamfolaicncblaaGreatZLTreesRight0
import Derived.Lib.Hide
import Derived.Test.YtamfolaicncblaaGreatZLTreesRight13
import Derived.Test.YtamfolaicncblaaGreatZLTreesRight2
namespace Go.Proofs.YtamfolaicncblaaGreat
set_option maxRecDepth 20000
set_option linter.unusedVariables false
set_option linter.unusedSimpArgs false
open Go.RowKit
set_option maxHeartbeats 1000000
def hitB (t:GTree) (y:GValue):Bool:=if(t.op ==3)=true then(y.kind ==2)&&(y.s.toList ==t.s.toList) else(y.kind ==1)&&(y.n ==t.n)
def runF (v:GValue):Nat->GTree->Int
 | 0,_=> -1
 | k+1,t=>if(t.op ==3)=true\/(t.op ==4)=true then(match valAt v t.path with
     | none=> -1
     | some y=>if t.kids.length=2 then(match t.kids[if hitB t y=true then 0 else 1]? with | some u=>runF v k u | none=> -1) else -1)
  else if(t.op ==1)=true then t.n else -1
theorem runF_none {v:GValue} {k:Nat} {t:GTree} (h:(t.op ==3)=true\/(t.op ==4)=true) (e:valAt v t.path=none):runF v (k+1) t= -1:=by
 simp only [runF];rw [if_pos h,e]
theorem runF_kids {v y:GValue} {k:Nat} {t:GTree} (h:(t.op ==3)=true\/(t.op ==4)=true) (e:valAt v t.path=some y) (hk:¬ t.kids.length=2):runF v (k+1) t= -1:=by
 simp only [runF];rw [if_pos h,e];simp only [];rw [if_neg hk]
theorem runF_step {v y:GValue} {k q:Nat} {t:GTree} (h:(t.op ==3)=true\/(t.op ==4)=true) (e:valAt v t.path=some y) (hk:t.kids.length=2) (hq:(if hitB t y=true then 0 else 1)=q) (hql:q<t.kids.length):runF v (k+1) t=runF v k t.kids[q]:=by
 simp only [runF];rw [if_pos h,e];simp only [];rw [if_pos hk,hq,List.getElem?_eq_getElem hql]
theorem runF_done {v:GValue} {k:Nat} {t:GTree} (h3:(t.op ==3)=false) (h4:(t.op ==4)=false):runF v (k+1) t=if(t.op ==1)=true then t.n else -1:=by
 simp only [runF];rw [if_neg (by simp [h3,h4])]
theorem Row.five {w:World} {b:Nat} {T:TypeId} {c0 c1 c2 c3 c4 v0 v1 v2 v3 v4:Value} (h:Row w b T #[c0,c1,c2,c3,c4]):Row (((((w.setCell ⟨b,0,none⟩ v0).setCell ⟨b,1,none⟩ v1).setCell ⟨b,2,none⟩ v2).setCell ⟨b,3,none⟩ v3).setCell ⟨b,4,none⟩ v4) b T #[v0,v1,v2,v3,v4]:=
 ((((h.set 0 v0).set 1 v1).set 2 v2).set 3 v3).set 4 v4
theorem Row.fiveFar {w:World} {b g:Nat} {T:TypeId} {cs:Array Value} {v0 v1 v2 v3 v4:Value} (h:Row w g T cs) (hg:g≠b):Row (((((w.setCell ⟨b,0,none⟩ v0).setCell ⟨b,1,none⟩ v1).setCell ⟨b,2,none⟩ v2).setCell ⟨b,3,none⟩ v3).setCell ⟨b,4,none⟩ v4) g T cs:=
 ((((h.far hg v0).far hg v1).far hg v2).far hg v3).far hg v4
theorem below_five {B:Nat} {w w':World} {b:Nat} {v0 v1 v2 v3 v4:Value} (h:Below B w w') (hb:B<=b):Below B w (((((w'.setCell ⟨b,0,none⟩ v0).setCell ⟨b,1,none⟩ v1).setCell ⟨b,2,none⟩ v2).setCell ⟨b,3,none⟩ v3).setCell ⟨b,4,none⟩ v4):=
 setCells_below h b 0 hb [v0,v1,v2,v3,v4]
theorem specRunTree (t:GTree) (T1:Option Addr) (p1:Nat) (T2:Option Addr) (p2:Nat) (v:GValue) (A1:Option Addr) (c1:Nat) (w:World) (hvb:v.bulk<=1048576) (ht:GTree.At w (Lt w.heap.size) T1 p1 T2 p2 t) (hv:GValue.At w (Lt w.heap.size) A1 c1 v):
 Calls Tryz.prog 14 #[.agg #[.int .i64 t.op,.int .i64 t.n,.slice T1 t.path.length p1,.string t.s,.slice T2 t.kids.length p2],.agg #[.int .i64 v.kind,.int .i64 v.n,.string v.s,.slice A1 v.kids.length c1]] w fun e w'=>e= .returned (.int .i64 (runF v (t.bulk+1) t))/\Below w.heap.size w w':=by
 have T0:=LH ht
 have V0:=LH hv
 clear ht hv
 obtain⟨w0,e0⟩:∃ w0,w0=(w.alloc (.cells #[.int .i64 t.op,.int .i64 t.n,.slice T1 t.path.length p1,.string t.s,.slice T2 t.kids.length p2] 31)).alloc (.cells #[.int .i64 v.kind,.int .i64 v.n,.string v.s,.slice A1 v.kids.length c1] 36):=⟨_,rfl⟩
 have B0:=LH (show Below w.heap.size w w0 by rw [e0];exact((Below.refl _ _).alloc (Nat.le_refl _) _).alloc (by simp) _)
 have S0:w.heap.size+2<=w0.heap.size:=by rw [e0];simp
 have Ra0:=LH (show Row w0 w.heap.size 31 #[.int .i64 t.op,.int .i64 t.n,.slice T1 t.path.length p1,.string t.s,.slice T2 t.kids.length p2] by rw [e0];exact(Row.new' _ _ _ rfl).alloc _)
 have Rv0:=LH (show Row w0 (w.heap.size+1) 36 #[.int .i64 v.kind,.int .i64 v.n,.string v.s,.slice A1 v.kids.length c1] by rw [e0];exact Row.new' _ _ _ (by simp))
 go_enter Tryz.func14,Tryz.ntmps14
 go_wp2_with fail
 rw [<- e0]
 clear e0
 go_loopg [] (t.bulk+1) (fun k wr=>∃ (x:GTree) (X1:Option Addr) (x1:Nat) (X2:Option Addr) (x2:Nat),Hid (runF v (t.bulk+1) t=runF v k x)/\x.bulk<k/\Hid (GTree.At w (Lt w.heap.size) X1 x1 X2 x2 x)/\Hid (Row wr w.heap.size 31 #[.int .i64 x.op,.int .i64 x.n,.slice X1 x.path.length x1,.string x.s,.slice X2 x.kids.length x2])/\Hid (Row wr (w.heap.size+1) 36 #[.int .i64 v.kind,.int .i64 v.n,.string v.s,.slice A1 v.kids.length c1])/\w.heap.size+2<=wr.heap.size/\Below w.heap.size w wr)
 case atStart=>exact⟨t,T1,p1,T2,p2,LH rfl,by omega,T0,Ra0,Rv0,S0,B0.out⟩
 case round=>
  clear Ra0 Rv0 S0 B0
  obtain⟨x,X1,x1,X2,x2,HT,hxk,HX,HRa,HRv,hs2,hbl⟩:=hrel
  obtain⟨k',rfl⟩:∃ k',gk=k'+1:=⟨gk - 1,by omega⟩
  have hsz:=hbl.size
  have hca:=fun i=>HRa.out.cell i
  have hcv:=fun i=>HRv.out.cell i
  cases o3:(x.op ==3)
  ·
   cases o4:(x.op ==4)
   ·
    cases o1:(x.op ==1)
    · have HN:=LH (HT.out.trans ((runF_done o3 o4).trans (by rw [o1];rfl:_= -1)))
      go_wp2_with fail
      go_ret
      exact⟨ret_int HN.out.symm,hbl⟩
    · have HN:=LH (HT.out.trans ((runF_done o3 o4).trans (by rw [o1];rfl:_=x.n)))
      go_wp2_with fail
      go_ret
      exact⟨ret_int HN.out.symm,hbl⟩
   ·
    skip
    have HO:=LH (show(x.op ==3)=true\/(x.op ==4)=true from .inr o4)
    go_wp2_with fail
    refine(specAt v A1 c1 x.path X1 x1 _ hvb (V0.out.below hbl hsz) ((HX.out.2.2.1).below hbl hsz)).mono ?_
    rintro e w2 ⟨Y1,y1,rfl,how,hb2⟩
    have B2:=LH (hbl.trans (hb2.mono hsz))
    have Ra2:=LH (HRa.out.below hb2 HRa.out.lt)
    have Rv2:=LH (HRv.out.below hb2 HRv.out.lt)
    clear hca hcv how hb2
    have hca:=fun i=>Ra2.out.cell i
    have hfa:=fun i=>Ra2.out.frozen i
    have hla:=Ra2.out.lt
    cases hva:valAt v x.path with
    | none=>
     have HN:=LH (HT.out.trans (runF_none HO.out hva))
     have es:(none:Option GValue).isSome=false:=rfl
     clear hva
     go_wp2_with fail
     go_ret
     exact⟨ret_int HN.out.symm,B2.out.alloc B2.out.size _⟩
    | some y=>
     have ey:atV (some y)=y:=rfl
     have es:(some y).isSome=true:=rfl
     rw [ey,es]
     clear ey es
     by_cases hk:x.kids.length=2
     rotate_left
     · have HN:=LH (HT.out.trans (runF_kids HO.out hva hk))
       have hk2:((x.kids.length:Int) != 2)=true:=by rw [bne_iff_ne];omega
       clear hva hk
       go_wp2_with fail
       go_ret
       exact⟨ret_int HN.out.symm,B2.out.alloc B2.out.size _⟩
     have hk2:((x.kids.length:Int) != 2)=false:=by rw [bne_eq_false_iff_eq];omega
     cases a:(y.kind ==1)
     ·
      have hh:(if hitB x y=true then 0 else 1)=1:=by unfold hitB;simp [o3,a]
      have hql:1<x.kids.length:=by omega
      have HN:=LH (HT.out.trans (runF_step (k:=k') HO.out hva hk hh hql))
      have hql2:(1:Int)<(x.kids.length:Int):=by omega
      have hkb:(x.kids[1]).bulk<k':=by have:=bulkL_mem GTree.bulk x.kids _ (List.getElem_mem hql);have:=x.bulk_eq;omega
      obtain⟨b3,off3,Z1,z1,Z2,z2,eZ,hSb3,q0,q1,q2,q3,q4,hat⟩:=GTree.elem ((HX.out.2.2.2.2).below B2.out (Nat.le_refl _)) 1 hql
      have HA:=LH (show GTree.At w (Lt w.heap.size) Z1 z1 Z2 z2 x.kids[1] from hat.keep fun q hq=>⟨hq,(B2.out.block q hq).symm⟩)
      have hb3:b3<w2.heap.size:=Nat.lt_of_lt_of_le hSb3 B2.out.size
      clear hat hva hk hh
      subst eZ
      go_wp2_with fail
      go_roundg k'
      case measure=>omega
      case rel=>
       exact⟨x.kids[1],Z1,z1,Z2,z2,HN,hkb,HA,LH ((Row.five Ra2.out).alloc _),LH ((Row.fiveFar Rv2.out (by simp)).alloc _),by have:=Rv2.out.lt;simp [World.setCell];omega,(below_five B2.out (Nat.le_refl _)).alloc (below_five B2.out (Nat.le_refl _)).size _⟩
     ·
      cases b:(y.n ==x.n)
      ·
       have hh:(if hitB x y=true then 0 else 1)=1:=by unfold hitB;simp [o3,a,b]
       have hql:1<x.kids.length:=by omega
       have HN:=LH (HT.out.trans (runF_step (k:=k') HO.out hva hk hh hql))
       have hql2:(1:Int)<(x.kids.length:Int):=by omega
       have hkb:(x.kids[1]).bulk<k':=by have:=bulkL_mem GTree.bulk x.kids _ (List.getElem_mem hql);have:=x.bulk_eq;omega
       obtain⟨b3,off3,Z1,z1,Z2,z2,eZ,hSb3,q0,q1,q2,q3,q4,hat⟩:=GTree.elem ((HX.out.2.2.2.2).below B2.out (Nat.le_refl _)) 1 hql
       have HA:=LH (show GTree.At w (Lt w.heap.size) Z1 z1 Z2 z2 x.kids[1] from hat.keep fun q hq=>⟨hq,(B2.out.block q hq).symm⟩)
       have hb3:b3<w2.heap.size:=Nat.lt_of_lt_of_le hSb3 B2.out.size
       clear hat hva hk hh
       subst eZ
       go_wp2_with fail
       go_roundg k'
       case measure=>omega
       case rel=>
        exact⟨x.kids[1],Z1,z1,Z2,z2,HN,hkb,HA,LH ((Row.five Ra2.out).alloc _),LH ((Row.fiveFar Rv2.out (by simp)).alloc _),by have:=Rv2.out.lt;simp [World.setCell];omega,(below_five B2.out (Nat.le_refl _)).alloc (below_five B2.out (Nat.le_refl _)).size _⟩
      ·
       have hh:(if hitB x y=true then 0 else 1)=0:=by unfold hitB;simp [o3,a,b]
       have hql:0<x.kids.length:=by omega
       have HN:=LH (HT.out.trans (runF_step (k:=k') HO.out hva hk hh hql))
       have hkb:(x.kids[0]).bulk<k':=by have:=bulkL_mem GTree.bulk x.kids _ (List.getElem_mem hql);have:=x.bulk_eq;omega
       obtain⟨b3,off3,Z1,z1,Z2,z2,eZ,hSb3,q0,q1,q2,q3,q4,hat⟩:=GTree.elem ((HX.out.2.2.2.2).below B2.out (Nat.le_refl _)) 0 hql
       have HA:=LH (show GTree.At w (Lt w.heap.size) Z1 z1 Z2 z2 x.kids[0] from hat.keep fun q hq=>⟨hq,(B2.out.block q hq).symm⟩)
       have hb3:b3<w2.heap.size:=Nat.lt_of_lt_of_le hSb3 B2.out.size
       clear hat hva hk hh
       subst eZ
       have r0:w2.cell? ⟨b3,off3,none⟩=some (.int .i64 (x.kids[0]).op):=q0
       go_wp2_with fail
       go_roundg k'
       case measure=>omega
       case rel=>
        exact⟨x.kids[0],Z1,z1,Z2,z2,HN,hkb,HA,LH ((Row.five Ra2.out).alloc _),LH ((Row.fiveFar Rv2.out (by simp)).alloc _),by have:=Rv2.out.lt;simp [World.setCell];omega,(below_five B2.out (Nat.le_refl _)).alloc (below_five B2.out (Nat.le_refl _)).size _⟩
  ·
   have o4:(x.op ==4)=false:=by rw [beq_eq_false_iff_ne];have:=eq_of_beq o3;omega
   have HO:=LH (show(x.op ==3)=true\/(x.op ==4)=true from .inl o3)
   go_wp2_with fail
   refine(specAt v A1 c1 x.path X1 x1 _ hvb (V0.out.below hbl hsz) ((HX.out.2.2.1).below hbl hsz)).mono ?_
   rintro e w2 ⟨Y1,y1,rfl,how,hb2⟩
   have B2:=LH (hbl.trans (hb2.mono hsz))
   have Ra2:=LH (HRa.out.below hb2 HRa.out.lt)
   have Rv2:=LH (HRv.out.below hb2 HRv.out.lt)
   clear hca hcv how hb2
   have hca:=fun i=>Ra2.out.cell i
   have hfa:=fun i=>Ra2.out.frozen i
   have hla:=Ra2.out.lt
   cases hva:valAt v x.path with
   | none=>
    have HN:=LH (HT.out.trans (runF_none HO.out hva))
    have es:(none:Option GValue).isSome=false:=rfl
    clear hva
    go_wp2_with fail
    go_ret
    exact⟨ret_int HN.out.symm,B2.out.alloc B2.out.size _⟩
   | some y=>
    have ey:atV (some y)=y:=rfl
    have es:(some y).isSome=true:=rfl
    rw [ey,es]
    clear ey es
    by_cases hk:x.kids.length=2
    rotate_left
    · have HN:=LH (HT.out.trans (runF_kids HO.out hva hk))
      have hk2:((x.kids.length:Int) != 2)=true:=by rw [bne_iff_ne];omega
      clear hva hk
      go_wp2_with fail
      go_ret
      exact⟨ret_int HN.out.symm,B2.out.alloc B2.out.size _⟩
    have hk2:((x.kids.length:Int) != 2)=false:=by rw [bne_eq_false_iff_eq];omega
    cases a:(y.kind ==2)
    ·
     have hh:(if hitB x y=true then 0 else 1)=1:=by unfold hitB;simp [o3,a]
     have hql:1<x.kids.length:=by omega
     have HN:=LH (HT.out.trans (runF_step (k:=k') HO.out hva hk hh hql))
     have hql2:(1:Int)<(x.kids.length:Int):=by omega
     have hkb:(x.kids[1]).bulk<k':=by have:=bulkL_mem GTree.bulk x.kids _ (List.getElem_mem hql);have:=x.bulk_eq;omega
     obtain⟨b3,off3,Z1,z1,Z2,z2,eZ,hSb3,q0,q1,q2,q3,q4,hat⟩:=GTree.elem ((HX.out.2.2.2.2).below B2.out (Nat.le_refl _)) 1 hql
     have HA:=LH (show GTree.At w (Lt w.heap.size) Z1 z1 Z2 z2 x.kids[1] from hat.keep fun q hq=>⟨hq,(B2.out.block q hq).symm⟩)
     have hb3:b3<w2.heap.size:=Nat.lt_of_lt_of_le hSb3 B2.out.size
     clear hat hva hk hh
     subst eZ
     go_wp2_with fail
     go_roundg k'
     case measure=>omega
     case rel=>
      exact⟨x.kids[1],Z1,z1,Z2,z2,HN,hkb,HA,LH ((Row.five Ra2.out).alloc _),LH ((Row.fiveFar Rv2.out (by simp)).alloc _),by have:=Rv2.out.lt;simp [World.setCell];omega,(below_five B2.out (Nat.le_refl _)).alloc (below_five B2.out (Nat.le_refl _)).size _⟩
    ·
     cases b:(y.s.toList ==x.s.toList)
     ·
      have hh:(if hitB x y=true then 0 else 1)=1:=by unfold hitB;simp [o3,a,b]
      have hql:1<x.kids.length:=by omega
      have HN:=LH (HT.out.trans (runF_step (k:=k') HO.out hva hk hh hql))
      have hql2:(1:Int)<(x.kids.length:Int):=by omega
      have hkb:(x.kids[1]).bulk<k':=by have:=bulkL_mem GTree.bulk x.kids _ (List.getElem_mem hql);have:=x.bulk_eq;omega
      obtain⟨b3,off3,Z1,z1,Z2,z2,eZ,hSb3,q0,q1,q2,q3,q4,hat⟩:=GTree.elem ((HX.out.2.2.2.2).below B2.out (Nat.le_refl _)) 1 hql
      have HA:=LH (show GTree.At w (Lt w.heap.size) Z1 z1 Z2 z2 x.kids[1] from hat.keep fun q hq=>⟨hq,(B2.out.block q hq).symm⟩)
      have hb3:b3<w2.heap.size:=Nat.lt_of_lt_of_le hSb3 B2.out.size
      clear hat hva hk hh
      subst eZ
      go_wp2_with fail
      go_roundg k'
      case measure=>omega
      case rel=>
       exact⟨x.kids[1],Z1,z1,Z2,z2,HN,hkb,HA,LH ((Row.five Ra2.out).alloc _),LH ((Row.fiveFar Rv2.out (by simp)).alloc _),by have:=Rv2.out.lt;simp [World.setCell];omega,(below_five B2.out (Nat.le_refl _)).alloc (below_five B2.out (Nat.le_refl _)).size _⟩
     ·
      have hh:(if hitB x y=true then 0 else 1)=0:=by unfold hitB;simp [o3,a,b]
      have hql:0<x.kids.length:=by omega
      have HN:=LH (HT.out.trans (runF_step (k:=k') HO.out hva hk hh hql))
      have hkb:(x.kids[0]).bulk<k':=by have:=bulkL_mem GTree.bulk x.kids _ (List.getElem_mem hql);have:=x.bulk_eq;omega
      obtain⟨b3,off3,Z1,z1,Z2,z2,eZ,hSb3,q0,q1,q2,q3,q4,hat⟩:=GTree.elem ((HX.out.2.2.2.2).below B2.out (Nat.le_refl _)) 0 hql
      have HA:=LH (show GTree.At w (Lt w.heap.size) Z1 z1 Z2 z2 x.kids[0] from hat.keep fun q hq=>⟨hq,(B2.out.block q hq).symm⟩)
      have hb3:b3<w2.heap.size:=Nat.lt_of_lt_of_le hSb3 B2.out.size
      clear hat hva hk hh
      subst eZ
      have r0:w2.cell? ⟨b3,off3,none⟩=some (.int .i64 (x.kids[0]).op):=q0
      go_wp2_with fail
      go_roundg k'
      case measure=>omega
      case rel=>
       exact⟨x.kids[0],Z1,z1,Z2,z2,HN,hkb,HA,LH ((Row.five Ra2.out).alloc _),LH ((Row.fiveFar Rv2.out (by simp)).alloc _),by have:=Rv2.out.lt;simp [World.setCell];omega,(below_five B2.out (Nat.le_refl _)).alloc (below_five B2.out (Nat.le_refl _)).size _⟩
theorem implRunTree (t:GTree) (T1:Option Addr) (p1:Nat) (T2:Option Addr) (p2:Nat) (v:GValue) (A1:Option Addr) (c1:Nat) (w:World) (hvb:v.bulk<=1048576) (ht:GTree.At w (Lt w.heap.size) T1 p1 T2 p2 t) (hv:GValue.At w (Lt w.heap.size) A1 c1 v):
 Calls Tryz.prog 13 #[.agg #[.int .i64 t.op,.int .i64 t.n,.slice T1 t.path.length p1,.string t.s,.slice T2 t.kids.length p2],.agg #[.int .i64 v.kind,.int .i64 v.n,.string v.s,.slice A1 v.kids.length c1]] w fun e w'=>e= .returned (.int .i64 (runF v (t.bulk+1) t))/\Below w.heap.size w w':=by
 have T0:=LH ht
 have V0:=LH hv
 clear ht hv
 obtain⟨w0,e0⟩:∃ w0,w0=(w.alloc (.cells #[.int .i64 t.op,.int .i64 t.n,.slice T1 t.path.length p1,.string t.s,.slice T2 t.kids.length p2] 31)).alloc (.cells #[.int .i64 v.kind,.int .i64 v.n,.string v.s,.slice A1 v.kids.length c1] 36):=⟨_,rfl⟩
 have B0:=LH (show Below w.heap.size w w0 by rw [e0];exact((Below.refl _ _).alloc (Nat.le_refl _) _).alloc (by simp) _)
 have S0:w.heap.size+2<=w0.heap.size:=by rw [e0];simp
 have Ra0:=LH (show Row w0 w.heap.size 31 #[.int .i64 t.op,.int .i64 t.n,.slice T1 t.path.length p1,.string t.s,.slice T2 t.kids.length p2] by rw [e0];exact(Row.new' _ _ _ rfl).alloc _)
 have Rv0:=LH (show Row w0 (w.heap.size+1) 36 #[.int .i64 v.kind,.int .i64 v.n,.string v.s,.slice A1 v.kids.length c1] by rw [e0];exact Row.new' _ _ _ (by simp))
 go_enter Tryz.func13,Tryz.ntmps13
 go_wp2_with fail
 rw [<- e0]
 clear e0
 go_loopg [] (t.bulk+1) (fun k wr=>∃ (x:GTree) (X1:Option Addr) (x1:Nat) (X2:Option Addr) (x2:Nat),Hid (runF v (t.bulk+1) t=runF v k x)/\x.bulk<k/\Hid (GTree.At w (Lt w.heap.size) X1 x1 X2 x2 x)/\Hid (Row wr w.heap.size 31 #[.int .i64 x.op,.int .i64 x.n,.slice X1 x.path.length x1,.string x.s,.slice X2 x.kids.length x2])/\Hid (Row wr (w.heap.size+1) 36 #[.int .i64 v.kind,.int .i64 v.n,.string v.s,.slice A1 v.kids.length c1])/\w.heap.size+2<=wr.heap.size/\Below w.heap.size w wr)
 case atStart=>exact⟨t,T1,p1,T2,p2,LH rfl,by omega,T0,Ra0,Rv0,S0,B0.out⟩
 case round=>
  clear Ra0 Rv0 S0 B0
  obtain⟨x,X1,x1,X2,x2,HT,hxk,HX,HRa,HRv,hs2,hbl⟩:=hrel
  obtain⟨k',rfl⟩:∃ k',gk=k'+1:=⟨gk - 1,by omega⟩
  have hsz:=hbl.size
  have hca:=fun i=>HRa.out.cell i
  have hcv:=fun i=>HRv.out.cell i
  cases o3:(x.op ==3)
  ·
   cases o4:(x.op ==4)
   ·
    cases o1:(x.op ==1)
    · have HN:=LH (HT.out.trans ((runF_done o3 o4).trans (by rw [o1];rfl:_= -1)))
      go_wp2_with fail
      go_ret
      exact⟨ret_int HN.out.symm,hbl⟩
    · have HN:=LH (HT.out.trans ((runF_done o3 o4).trans (by rw [o1];rfl:_=x.n)))
      go_wp2_with fail
      go_ret
      exact⟨ret_int HN.out.symm,hbl⟩
   ·
    skip
    have HO:=LH (show(x.op ==3)=true\/(x.op ==4)=true from .inr o4)
    go_wp2_with fail
    refine(implAt v A1 c1 x.path X1 x1 _ hvb (V0.out.below hbl hsz) ((HX.out.2.2.1).below hbl hsz)).mono ?_
    rintro e w2 ⟨Y1,y1,rfl,how,hb2⟩
    have B2:=LH (hbl.trans (hb2.mono hsz))
    have Ra2:=LH (HRa.out.below hb2 HRa.out.lt)
    have Rv2:=LH (HRv.out.below hb2 HRv.out.lt)
    clear hca hcv how hb2
    have hca:=fun i=>Ra2.out.cell i
    have hfa:=fun i=>Ra2.out.frozen i
    have hla:=Ra2.out.lt
    cases hva:valAt v x.path with
    | none=>
     have HN:=LH (HT.out.trans (runF_none HO.out hva))
     have es:(none:Option GValue).isSome=false:=rfl
     clear hva
     go_wp2_with fail
     go_ret
     exact⟨ret_int HN.out.symm,B2.out.alloc B2.out.size _⟩
    | some y=>
     have ey:atV (some y)=y:=rfl
     have es:(some y).isSome=true:=rfl
     rw [ey,es]
     clear ey es
     by_cases hk:x.kids.length=2
     rotate_left
     · have HN:=LH (HT.out.trans (runF_kids HO.out hva hk))
       have hk2:((x.kids.length:Int) != 2)=true:=by rw [bne_iff_ne];omega
       clear hva hk
       go_wp2_with fail
       go_ret
       exact⟨ret_int HN.out.symm,B2.out.alloc B2.out.size _⟩
     have hk2:((x.kids.length:Int) != 2)=false:=by rw [bne_eq_false_iff_eq];omega
     cases a:(y.kind ==1)
     ·
      have hh:(if hitB x y=true then 0 else 1)=1:=by unfold hitB;simp [o3,a]
      have hql:1<x.kids.length:=by omega
      have HN:=LH (HT.out.trans (runF_step (k:=k') HO.out hva hk hh hql))
      have hql2:(1:Int)<(x.kids.length:Int):=by omega
      have hkb:(x.kids[1]).bulk<k':=by have:=bulkL_mem GTree.bulk x.kids _ (List.getElem_mem hql);have:=x.bulk_eq;omega
      obtain⟨b3,off3,Z1,z1,Z2,z2,eZ,hSb3,q0,q1,q2,q3,q4,hat⟩:=GTree.elem ((HX.out.2.2.2.2).below B2.out (Nat.le_refl _)) 1 hql
      have HA:=LH (show GTree.At w (Lt w.heap.size) Z1 z1 Z2 z2 x.kids[1] from hat.keep fun q hq=>⟨hq,(B2.out.block q hq).symm⟩)
      have hb3:b3<w2.heap.size:=Nat.lt_of_lt_of_le hSb3 B2.out.size
      clear hat hva hk hh
      subst eZ
      go_wp2_with fail
      go_roundg k'
      case measure=>omega
      case rel=>
       exact⟨x.kids[1],Z1,z1,Z2,z2,HN,hkb,HA,LH ((Row.five Ra2.out).alloc _),LH ((Row.fiveFar Rv2.out (by simp)).alloc _),by have:=Rv2.out.lt;simp [World.setCell];omega,(below_five B2.out (Nat.le_refl _)).alloc (below_five B2.out (Nat.le_refl _)).size _⟩
     ·
      cases b:(y.n ==x.n)
      ·
       have hh:(if hitB x y=true then 0 else 1)=1:=by unfold hitB;simp [o3,a,b]
       have hql:1<x.kids.length:=by omega
       have HN:=LH (HT.out.trans (runF_step (k:=k') HO.out hva hk hh hql))
       have hql2:(1:Int)<(x.kids.length:Int):=by omega
       have hkb:(x.kids[1]).bulk<k':=by have:=bulkL_mem GTree.bulk x.kids _ (List.getElem_mem hql);have:=x.bulk_eq;omega
       obtain⟨b3,off3,Z1,z1,Z2,z2,eZ,hSb3,q0,q1,q2,q3,q4,hat⟩:=GTree.elem ((HX.out.2.2.2.2).below B2.out (Nat.le_refl _)) 1 hql
       have HA:=LH (show GTree.At w (Lt w.heap.size) Z1 z1 Z2 z2 x.kids[1] from hat.keep fun q hq=>⟨hq,(B2.out.block q hq).symm⟩)
       have hb3:b3<w2.heap.size:=Nat.lt_of_lt_of_le hSb3 B2.out.size
       clear hat hva hk hh
       subst eZ
       go_wp2_with fail
       go_roundg k'
       case measure=>omega
       case rel=>
        exact⟨x.kids[1],Z1,z1,Z2,z2,HN,hkb,HA,LH ((Row.five Ra2.out).alloc _),LH ((Row.fiveFar Rv2.out (by simp)).alloc _),by have:=Rv2.out.lt;simp [World.setCell];omega,(below_five B2.out (Nat.le_refl _)).alloc (below_five B2.out (Nat.le_refl _)).size _⟩
      ·
       have hh:(if hitB x y=true then 0 else 1)=0:=by unfold hitB;simp [o3,a,b]
       have hql:0<x.kids.length:=by omega
       have HN:=LH (HT.out.trans (runF_step (k:=k') HO.out hva hk hh hql))
       have hkb:(x.kids[0]).bulk<k':=by have:=bulkL_mem GTree.bulk x.kids _ (List.getElem_mem hql);have:=x.bulk_eq;omega
       obtain⟨b3,off3,Z1,z1,Z2,z2,eZ,hSb3,q0,q1,q2,q3,q4,hat⟩:=GTree.elem ((HX.out.2.2.2.2).below B2.out (Nat.le_refl _)) 0 hql
       have HA:=LH (show GTree.At w (Lt w.heap.size) Z1 z1 Z2 z2 x.kids[0] from hat.keep fun q hq=>⟨hq,(B2.out.block q hq).symm⟩)
       have hb3:b3<w2.heap.size:=Nat.lt_of_lt_of_le hSb3 B2.out.size
       clear hat hva hk hh
       subst eZ
       have r0:w2.cell? ⟨b3,off3,none⟩=some (.int .i64 (x.kids[0]).op):=q0
       go_wp2_with fail
       go_roundg k'
       case measure=>omega
       case rel=>
        exact⟨x.kids[0],Z1,z1,Z2,z2,HN,hkb,HA,LH ((Row.five Ra2.out).alloc _),LH ((Row.fiveFar Rv2.out (by simp)).alloc _),by have:=Rv2.out.lt;simp [World.setCell];omega,(below_five B2.out (Nat.le_refl _)).alloc (below_five B2.out (Nat.le_refl _)).size _⟩
  ·
   have o4:(x.op ==4)=false:=by rw [beq_eq_false_iff_ne];have:=eq_of_beq o3;omega
   have HO:=LH (show(x.op ==3)=true\/(x.op ==4)=true from .inl o3)
   go_wp2_with fail
   refine(implAt v A1 c1 x.path X1 x1 _ hvb (V0.out.below hbl hsz) ((HX.out.2.2.1).below hbl hsz)).mono ?_
   rintro e w2 ⟨Y1,y1,rfl,how,hb2⟩
   have B2:=LH (hbl.trans (hb2.mono hsz))
   have Ra2:=LH (HRa.out.below hb2 HRa.out.lt)
   have Rv2:=LH (HRv.out.below hb2 HRv.out.lt)
   clear hca hcv how hb2
   have hca:=fun i=>Ra2.out.cell i
   have hfa:=fun i=>Ra2.out.frozen i
   have hla:=Ra2.out.lt
   cases hva:valAt v x.path with
   | none=>
    have HN:=LH (HT.out.trans (runF_none HO.out hva))
    have es:(none:Option GValue).isSome=false:=rfl
    clear hva
    go_wp2_with fail
    go_ret
    exact⟨ret_int HN.out.symm,B2.out.alloc B2.out.size _⟩
   | some y=>
    have ey:atV (some y)=y:=rfl
    have es:(some y).isSome=true:=rfl
    rw [ey,es]
    clear ey es
    by_cases hk:x.kids.length=2
    rotate_left
    · have HN:=LH (HT.out.trans (runF_kids HO.out hva hk))
      have hk2:((x.kids.length:Int) != 2)=true:=by rw [bne_iff_ne];omega
      clear hva hk
      go_wp2_with fail
      go_ret
      exact⟨ret_int HN.out.symm,B2.out.alloc B2.out.size _⟩
    have hk2:((x.kids.length:Int) != 2)=false:=by rw [bne_eq_false_iff_eq];omega
    cases p1:(y.kind ==1)
    ·
     skip
     cases a:(y.kind ==2)
     ·
      have hh:(if hitB x y=true then 0 else 1)=1:=by unfold hitB;simp [o3,a]
      have hql:1<x.kids.length:=by omega
      have HN:=LH (HT.out.trans (runF_step (k:=k') HO.out hva hk hh hql))
      have hql2:(1:Int)<(x.kids.length:Int):=by omega
      have hkb:(x.kids[1]).bulk<k':=by have:=bulkL_mem GTree.bulk x.kids _ (List.getElem_mem hql);have:=x.bulk_eq;omega
      obtain⟨b3,off3,Z1,z1,Z2,z2,eZ,hSb3,q0,q1,q2,q3,q4,hat⟩:=GTree.elem ((HX.out.2.2.2.2).below B2.out (Nat.le_refl _)) 1 hql
      have HA:=LH (show GTree.At w (Lt w.heap.size) Z1 z1 Z2 z2 x.kids[1] from hat.keep fun q hq=>⟨hq,(B2.out.block q hq).symm⟩)
      have hb3:b3<w2.heap.size:=Nat.lt_of_lt_of_le hSb3 B2.out.size
      clear hat hva hk hh
      subst eZ
      go_wp2_with fail
      go_roundg k'
      case measure=>omega
      case rel=>
       exact⟨x.kids[1],Z1,z1,Z2,z2,HN,hkb,HA,LH ((Row.five Ra2.out).alloc _),LH ((Row.fiveFar Rv2.out (by simp)).alloc _),by have:=Rv2.out.lt;simp [World.setCell];omega,(below_five B2.out (Nat.le_refl _)).alloc (below_five B2.out (Nat.le_refl _)).size _⟩
     ·
      cases b:(y.s.toList ==x.s.toList)
      ·
       have hh:(if hitB x y=true then 0 else 1)=1:=by unfold hitB;simp [o3,a,b]
       have hql:1<x.kids.length:=by omega
       have HN:=LH (HT.out.trans (runF_step (k:=k') HO.out hva hk hh hql))
       have hql2:(1:Int)<(x.kids.length:Int):=by omega
       have hkb:(x.kids[1]).bulk<k':=by have:=bulkL_mem GTree.bulk x.kids _ (List.getElem_mem hql);have:=x.bulk_eq;omega
       obtain⟨b3,off3,Z1,z1,Z2,z2,eZ,hSb3,q0,q1,q2,q3,q4,hat⟩:=GTree.elem ((HX.out.2.2.2.2).below B2.out (Nat.le_refl _)) 1 hql
       have HA:=LH (show GTree.At w (Lt w.heap.size) Z1 z1 Z2 z2 x.kids[1] from hat.keep fun q hq=>⟨hq,(B2.out.block q hq).symm⟩)
       have hb3:b3<w2.heap.size:=Nat.lt_of_lt_of_le hSb3 B2.out.size
       clear hat hva hk hh
       subst eZ
       go_wp2_with fail
       go_roundg k'
       case measure=>omega
       case rel=>
        exact⟨x.kids[1],Z1,z1,Z2,z2,HN,hkb,HA,LH ((Row.five Ra2.out).alloc _),LH ((Row.fiveFar Rv2.out (by simp)).alloc _),by have:=Rv2.out.lt;simp [World.setCell];omega,(below_five B2.out (Nat.le_refl _)).alloc (below_five B2.out (Nat.le_refl _)).size _⟩
      ·
       have hh:(if hitB x y=true then 0 else 1)=0:=by unfold hitB;simp [o3,a,b]
       have hql:0<x.kids.length:=by omega
       have HN:=LH (HT.out.trans (runF_step (k:=k') HO.out hva hk hh hql))
       have hkb:(x.kids[0]).bulk<k':=by have:=bulkL_mem GTree.bulk x.kids _ (List.getElem_mem hql);have:=x.bulk_eq;omega
       obtain⟨b3,off3,Z1,z1,Z2,z2,eZ,hSb3,q0,q1,q2,q3,q4,hat⟩:=GTree.elem ((HX.out.2.2.2.2).below B2.out (Nat.le_refl _)) 0 hql
       have HA:=LH (show GTree.At w (Lt w.heap.size) Z1 z1 Z2 z2 x.kids[0] from hat.keep fun q hq=>⟨hq,(B2.out.block q hq).symm⟩)
       have hb3:b3<w2.heap.size:=Nat.lt_of_lt_of_le hSb3 B2.out.size
       clear hat hva hk hh
       subst eZ
       have r0:w2.cell? ⟨b3,off3,none⟩=some (.int .i64 (x.kids[0]).op):=q0
       go_wp2_with fail
       go_roundg k'
       case measure=>omega
       case rel=>
        exact⟨x.kids[0],Z1,z1,Z2,z2,HN,hkb,HA,LH ((Row.five Ra2.out).alloc _),LH ((Row.fiveFar Rv2.out (by simp)).alloc _),by have:=Rv2.out.lt;simp [World.setCell];omega,(below_five B2.out (Nat.le_refl _)).alloc (below_five B2.out (Nat.le_refl _)).size _⟩
    ·
     cases p2:(y.n ==x.n)
     ·
      skip
      cases a:(y.kind ==2)
      ·
       have hh:(if hitB x y=true then 0 else 1)=1:=by unfold hitB;simp [o3,a]
       have hql:1<x.kids.length:=by omega
       have HN:=LH (HT.out.trans (runF_step (k:=k') HO.out hva hk hh hql))
       have hql2:(1:Int)<(x.kids.length:Int):=by omega
       have hkb:(x.kids[1]).bulk<k':=by have:=bulkL_mem GTree.bulk x.kids _ (List.getElem_mem hql);have:=x.bulk_eq;omega
       obtain⟨b3,off3,Z1,z1,Z2,z2,eZ,hSb3,q0,q1,q2,q3,q4,hat⟩:=GTree.elem ((HX.out.2.2.2.2).below B2.out (Nat.le_refl _)) 1 hql
       have HA:=LH (show GTree.At w (Lt w.heap.size) Z1 z1 Z2 z2 x.kids[1] from hat.keep fun q hq=>⟨hq,(B2.out.block q hq).symm⟩)
       have hb3:b3<w2.heap.size:=Nat.lt_of_lt_of_le hSb3 B2.out.size
       clear hat hva hk hh
       subst eZ
       go_wp2_with fail
       go_roundg k'
       case measure=>omega
       case rel=>
        exact⟨x.kids[1],Z1,z1,Z2,z2,HN,hkb,HA,LH ((Row.five Ra2.out).alloc _),LH ((Row.fiveFar Rv2.out (by simp)).alloc _),by have:=Rv2.out.lt;simp [World.setCell];omega,(below_five B2.out (Nat.le_refl _)).alloc (below_five B2.out (Nat.le_refl _)).size _⟩
      ·
       cases b:(y.s.toList ==x.s.toList)
       ·
        have hh:(if hitB x y=true then 0 else 1)=1:=by unfold hitB;simp [o3,a,b]
        have hql:1<x.kids.length:=by omega
        have HN:=LH (HT.out.trans (runF_step (k:=k') HO.out hva hk hh hql))
        have hql2:(1:Int)<(x.kids.length:Int):=by omega
        have hkb:(x.kids[1]).bulk<k':=by have:=bulkL_mem GTree.bulk x.kids _ (List.getElem_mem hql);have:=x.bulk_eq;omega
        obtain⟨b3,off3,Z1,z1,Z2,z2,eZ,hSb3,q0,q1,q2,q3,q4,hat⟩:=GTree.elem ((HX.out.2.2.2.2).below B2.out (Nat.le_refl _)) 1 hql
        have HA:=LH (show GTree.At w (Lt w.heap.size) Z1 z1 Z2 z2 x.kids[1] from hat.keep fun q hq=>⟨hq,(B2.out.block q hq).symm⟩)
        have hb3:b3<w2.heap.size:=Nat.lt_of_lt_of_le hSb3 B2.out.size
        clear hat hva hk hh
        subst eZ
        go_wp2_with fail
        go_roundg k'
        case measure=>omega
        case rel=>
         exact⟨x.kids[1],Z1,z1,Z2,z2,HN,hkb,HA,LH ((Row.five Ra2.out).alloc _),LH ((Row.fiveFar Rv2.out (by simp)).alloc _),by have:=Rv2.out.lt;simp [World.setCell];omega,(below_five B2.out (Nat.le_refl _)).alloc (below_five B2.out (Nat.le_refl _)).size _⟩
       ·
        have hh:(if hitB x y=true then 0 else 1)=0:=by unfold hitB;simp [o3,a,b]
        have hql:0<x.kids.length:=by omega
        have HN:=LH (HT.out.trans (runF_step (k:=k') HO.out hva hk hh hql))
        have hkb:(x.kids[0]).bulk<k':=by have:=bulkL_mem GTree.bulk x.kids _ (List.getElem_mem hql);have:=x.bulk_eq;omega
        obtain⟨b3,off3,Z1,z1,Z2,z2,eZ,hSb3,q0,q1,q2,q3,q4,hat⟩:=GTree.elem ((HX.out.2.2.2.2).below B2.out (Nat.le_refl _)) 0 hql
        have HA:=LH (show GTree.At w (Lt w.heap.size) Z1 z1 Z2 z2 x.kids[0] from hat.keep fun q hq=>⟨hq,(B2.out.block q hq).symm⟩)
        have hb3:b3<w2.heap.size:=Nat.lt_of_lt_of_le hSb3 B2.out.size
        clear hat hva hk hh
        subst eZ
        have r0:w2.cell? ⟨b3,off3,none⟩=some (.int .i64 (x.kids[0]).op):=q0
        go_wp2_with fail
        go_roundg k'
        case measure=>omega
        case rel=>
         exact⟨x.kids[0],Z1,z1,Z2,z2,HN,hkb,HA,LH ((Row.five Ra2.out).alloc _),LH ((Row.fiveFar Rv2.out (by simp)).alloc _),by have:=Rv2.out.lt;simp [World.setCell];omega,(below_five B2.out (Nat.le_refl _)).alloc (below_five B2.out (Nat.le_refl _)).size _⟩
     ·
      skip
      cases a:(y.kind ==2)
      ·
       have hh:(if hitB x y=true then 0 else 1)=1:=by unfold hitB;simp [o3,a]
       have hql:1<x.kids.length:=by omega
       have HN:=LH (HT.out.trans (runF_step (k:=k') HO.out hva hk hh hql))
       have hql2:(1:Int)<(x.kids.length:Int):=by omega
       have hkb:(x.kids[1]).bulk<k':=by have:=bulkL_mem GTree.bulk x.kids _ (List.getElem_mem hql);have:=x.bulk_eq;omega
       obtain⟨b3,off3,Z1,z1,Z2,z2,eZ,hSb3,q0,q1,q2,q3,q4,hat⟩:=GTree.elem ((HX.out.2.2.2.2).below B2.out (Nat.le_refl _)) 1 hql
       have HA:=LH (show GTree.At w (Lt w.heap.size) Z1 z1 Z2 z2 x.kids[1] from hat.keep fun q hq=>⟨hq,(B2.out.block q hq).symm⟩)
       have hb3:b3<w2.heap.size:=Nat.lt_of_lt_of_le hSb3 B2.out.size
       clear hat hva hk hh
       subst eZ
       go_wp2_with fail
       go_roundg k'
       case measure=>omega
       case rel=>
        exact⟨x.kids[1],Z1,z1,Z2,z2,HN,hkb,HA,LH ((Row.five Ra2.out).alloc _),LH ((Row.fiveFar Rv2.out (by simp)).alloc _),by have:=Rv2.out.lt;simp [World.setCell];omega,(below_five B2.out (Nat.le_refl _)).alloc (below_five B2.out (Nat.le_refl _)).size _⟩
      ·
       cases b:(y.s.toList ==x.s.toList)
       ·
        have hh:(if hitB x y=true then 0 else 1)=1:=by unfold hitB;simp [o3,a,b]
        have hql:1<x.kids.length:=by omega
        have HN:=LH (HT.out.trans (runF_step (k:=k') HO.out hva hk hh hql))
        have hql2:(1:Int)<(x.kids.length:Int):=by omega
        have hkb:(x.kids[1]).bulk<k':=by have:=bulkL_mem GTree.bulk x.kids _ (List.getElem_mem hql);have:=x.bulk_eq;omega
        obtain⟨b3,off3,Z1,z1,Z2,z2,eZ,hSb3,q0,q1,q2,q3,q4,hat⟩:=GTree.elem ((HX.out.2.2.2.2).below B2.out (Nat.le_refl _)) 1 hql
        have HA:=LH (show GTree.At w (Lt w.heap.size) Z1 z1 Z2 z2 x.kids[1] from hat.keep fun q hq=>⟨hq,(B2.out.block q hq).symm⟩)
        have hb3:b3<w2.heap.size:=Nat.lt_of_lt_of_le hSb3 B2.out.size
        clear hat hva hk hh
        subst eZ
        go_wp2_with fail
        go_roundg k'
        case measure=>omega
        case rel=>
         exact⟨x.kids[1],Z1,z1,Z2,z2,HN,hkb,HA,LH ((Row.five Ra2.out).alloc _),LH ((Row.fiveFar Rv2.out (by simp)).alloc _),by have:=Rv2.out.lt;simp [World.setCell];omega,(below_five B2.out (Nat.le_refl _)).alloc (below_five B2.out (Nat.le_refl _)).size _⟩
       ·
        have hh:(if hitB x y=true then 0 else 1)=0:=by unfold hitB;simp [o3,a,b]
        have hql:0<x.kids.length:=by omega
        have HN:=LH (HT.out.trans (runF_step (k:=k') HO.out hva hk hh hql))
        have hkb:(x.kids[0]).bulk<k':=by have:=bulkL_mem GTree.bulk x.kids _ (List.getElem_mem hql);have:=x.bulk_eq;omega
        obtain⟨b3,off3,Z1,z1,Z2,z2,eZ,hSb3,q0,q1,q2,q3,q4,hat⟩:=GTree.elem ((HX.out.2.2.2.2).below B2.out (Nat.le_refl _)) 0 hql
        have HA:=LH (show GTree.At w (Lt w.heap.size) Z1 z1 Z2 z2 x.kids[0] from hat.keep fun q hq=>⟨hq,(B2.out.block q hq).symm⟩)
        have hb3:b3<w2.heap.size:=Nat.lt_of_lt_of_le hSb3 B2.out.size
        clear hat hva hk hh
        subst eZ
        have r0:w2.cell? ⟨b3,off3,none⟩=some (.int .i64 (x.kids[0]).op):=q0
        go_wp2_with fail
        go_roundg k'
        case measure=>omega
        case rel=>
         exact⟨x.kids[0],Z1,z1,Z2,z2,HN,hkb,HA,LH ((Row.five Ra2.out).alloc _),LH ((Row.fiveFar Rv2.out (by simp)).alloc _),by have:=Rv2.out.lt;simp [World.setCell];omega,(below_five B2.out (Nat.le_refl _)).alloc (below_five B2.out (Nat.le_refl _)).size _⟩
set_option maxHeartbeats 400000
mutual
def GTree.nodes:GTree->Nat | .mk _ _ _ _ kids=>1+GTree.nodesL kids
def GTree.nodesL:List GTree->Nat | []=>0 | t::r=>t.nodes+GTree.nodesL r
end
theorem GTree.nodes_eq (t:GTree):t.nodes=1+GTree.nodesL t.kids:=by cases t;simp only [GTree.nodes,GTree.kids]
theorem GTree.nodesL_take (l:List GTree) (i:Nat) (h:i<l.length):GTree.nodesL (l.take (i+1))=GTree.nodesL (l.take i)+(l[i]).nodes:=by
 induction l generalizing i with
 | nil=>simp at h
 | cons t r ih=>
  match i with
  | 0=>simp [GTree.nodesL]
  | i+1=>simp only [List.take_succ_cons,GTree.nodesL,List.getElem_cons_succ];rw [ih i (by simpa using h)];omega
theorem GTree.nodesL_le (l:List GTree) (i:Nat):GTree.nodesL (l.take i)<=GTree.nodesL l:=by
 induction l generalizing i with
 | nil=>simp
 | cons t r ih=>
  match i with
  | 0=>simp [GTree.nodesL]
  | i+1=>simp only [List.take_succ_cons,GTree.nodesL];have:=ih i;omega
mutual
theorem GTree.nodes_bulk:∀ t:GTree,t.nodes<=t.bulk+1
 | .mk op n path s kids=>by simp only [GTree.nodes,GTree.bulk];have:=GTree.nodesL_bulk kids;omega
theorem GTree.nodesL_bulk:∀ l:List GTree,GTree.nodesL l<=GTree.bulks l
 | []=>by simp [GTree.nodesL]
 | t::r=>by simp only [GTree.nodesL,GTree.bulks];have:=GTree.nodes_bulk t;have:=GTree.nodesL_bulk r;omega
end
theorem implTreeSize (k:Nat):∀ (t:GTree) (A1:Option Addr) (c1:Nat) (A2:Option Addr) (c2:Nat) (w:World),t.nodes<=k->t.nodes<=4611686018427387904->GTree.At w (Lt w.heap.size) A1 c1 A2 c2 t->
 Calls Tryz.prog 41 #[.agg #[.int .i64 t.op,.int .i64 t.n,.slice A1 t.path.length c1,.string t.s,.slice A2 t.kids.length c2]] w fun e w'=>e= .returned (.int .i64 t.nodes)/\Below w.heap.size w w':=by
 induction k with
 | zero=>intro t A1 c1 A2 c2 w h;rw [GTree.nodes_eq] at h;omega
 | succ k ih=>
  intro t A1 c1 A2 c2 w hk hb ht
  obtain⟨-,-,-,-,hs⟩:=id ht
  have hlen:t.kids.length<=9223372036854775807:=by simpa using hs.len
  go_enter Tryz.func41,Tryz.ntmps41
  go_wp2_with fail
  go_loopw [3,9] (fun n i wr=>∃ j:Nat,j<=t.kids.length/\i= .int .i64 j/\n= .int .i64 (1+GTree.nodesL (t.kids.take j))/\Below w.heap.size w wr) (fun _ i _=>t.kids.length - (intOf i).toNat)
  case atStart=>exact⟨0,by omega,by go_num,by simp [GTree.nodesL],(Below.refl _ _).alloc (Nat.le_refl _) _⟩
  case round=>
   obtain⟨j,hj,rfl,rfl,hbl⟩:=hrel
   have hsz:=hbl.size
   by_cases hlt:j<t.kids.length
   ·
    have htr:=GTree.elem (hs.below hbl (Nat.le_refl _)) j hlt
    obtain⟨b,off,A'1,c'1,A'2,c'2,rfl,hSb,g0,g1,g2,g3,g4,hat⟩:=htr
    have hs1:=GTree.nodesL_take t.kids j hlt
    have hs2:=GTree.nodesL_le t.kids (j+1)
    have hs3:=t.nodes_eq
    have Hs:=LH hs1
    have hs4:GTree.nodesL (t.kids.take j)+(t.kids[j]).nodes<=4611686018427387904:=by omega
    have hs5:(t.kids[j]).nodes<=k:=by omega
    have hs6:(t.kids[j]).nodes<=4611686018427387904:=by omega
    clear hs1 hs2 hs3
    go_wp2_with fail
    refine(ih _ _ _ _ _ _ hs5 hs6 (hat.below ((Below.refl _ _).alloc (by omega) _) (by simp;omega))).mono ?_
    rintro e w1 ⟨rfl,hb1⟩
    go_wp2_with fail
    go_roundw
    case rel=>exact⟨j+1,by omega,by go_num,by rw [Hs.out];congr 1;omega,hbl.trans (((Below.refl _ _).alloc hsz _).trans (hb1.mono (by simp;omega)))⟩
    case measure=>simp [intOf];omega
   · have hjl:j=t.kids.length:=by omega
     have Hj:=LH hjl
     clear hjl
     go_wp2_with fail
     go_ret
     exact⟨ret_int (by rw [t.nodes_eq,Hj.out,List.take_length];simp),hbl⟩
theorem specTreeSize (k:Nat):∀ (t:GTree) (A1:Option Addr) (c1:Nat) (A2:Option Addr) (c2:Nat) (w:World),t.nodes<=k->t.nodes<=4611686018427387904->GTree.At w (Lt w.heap.size) A1 c1 A2 c2 t->
 Calls Tryz.prog 43 #[.agg #[.int .i64 t.op,.int .i64 t.n,.slice A1 t.path.length c1,.string t.s,.slice A2 t.kids.length c2]] w fun e w'=>e= .returned (.int .i64 t.nodes)/\Below w.heap.size w w':=by
 induction k with
 | zero=>intro t A1 c1 A2 c2 w h;rw [GTree.nodes_eq] at h;omega
 | succ k ih=>
  intro t A1 c1 A2 c2 w hk hb ht
  obtain⟨-,-,-,-,hs⟩:=id ht
  have hlen:t.kids.length<=9223372036854775807:=by simpa using hs.len
  go_enter Tryz.func43,Tryz.ntmps43
  go_wp2_with fail
  go_loopw [3,4] (fun n i wr=>∃ j:Nat,j<=t.kids.length/\i= .int .i64 j/\n= .int .i64 (1+GTree.nodesL (t.kids.take j))/\Below w.heap.size w wr/\Row wr w.heap.size 31 #[.int .i64 t.op,.int .i64 t.n,.slice A1 t.path.length c1,.string t.s,.slice A2 t.kids.length c2]) (fun _ i _=>t.kids.length - (intOf i).toNat)
  case atStart=>exact⟨0,by omega,by go_num,by simp [GTree.nodesL],(Below.refl _ _).alloc (Nat.le_refl _) _,Row.new _ _ _⟩
  case round=>
   obtain⟨j,hj,rfl,rfl,hbl,hrow⟩:=hrel
   have hsz:=hbl.size
   have hgl:=hrow.lt
   have hc:=fun i=>hrow.cell i
   by_cases hlt:j<t.kids.length
   ·
    have htr:=GTree.elem (hs.below hbl (Nat.le_refl _)) j hlt
    obtain⟨b,off,A'1,c'1,A'2,c'2,rfl,hSb,g0,g1,g2,g3,g4,hat⟩:=htr
    have hs1:=GTree.nodesL_take t.kids j hlt
    have hs2:=GTree.nodesL_le t.kids (j+1)
    have hs3:=t.nodes_eq
    have Hs:=LH hs1
    have hs4:GTree.nodesL (t.kids.take j)+(t.kids[j]).nodes<=4611686018427387904:=by omega
    have hs5:(t.kids[j]).nodes<=k:=by omega
    have hs6:(t.kids[j]).nodes<=4611686018427387904:=by omega
    clear hs1 hs2 hs3
    go_wp2_with fail
    refine(ih _ _ _ _ _ _ hs5 hs6 (hat.below (Below.refl _ _) (by omega))).mono ?_
    rintro e w1 ⟨rfl,hb1⟩
    go_wp2_with fail
    go_roundw
    case rel=>exact⟨j+1,by omega,by go_num,by rw [Hs.out];congr 1;omega,hbl.trans (hb1.mono hsz),hrow.below hb1 hgl⟩
    case measure=>simp [intOf];omega
   · have hjl:j=t.kids.length:=by omega
     have Hj:=LH hjl
     clear hjl
     go_wp2_with fail
     go_ret
     exact⟨ret_int (by rw [t.nodes_eq,Hj.out,List.take_length];simp),hbl⟩
theorem indexFuncTree (K:Nat) (hK:∀ (args:Array Value) (w:World),(callFunc K args).run Tryz.prog w= .ok (.enter K args) w) (caps:Array Value) (p:GTree->Bool) (l:List GTree) (A:Option Addr) (c:Nat) (w:World) (hs:Sl w (Lt w.heap.size) 5 A c (l.map GTree.toD))
 (H:∀ x,x∈l->∀ (A1:Option Addr) (c1:Nat) (A2:Option Addr) (c2:Nat) (w2:World),Below w.heap.size w w2->GTree.At w2 (Lt w2.heap.size) A1 c1 A2 c2 x->
   Calls Tryz.prog K (#[.agg #[.int .i64 x.op,.int .i64 x.n,.slice A1 x.path.length c1,.string x.s,.slice A2 x.kids.length c2]]++caps) w2 fun e w'=>e= .returned (.bool (p x))/\Below w2.heap.size w2 w'):
 Calls Tryz.prog 95 #[.slice A l.length c,.func (.func K) #[] caps] w fun e w'=>e= .returned (.int .i64 (idxI p l))/\Below w.heap.size w w':=by
 have hlen:l.length<=9223372036854775807:=by simpa using hs.len
 have HH:=LH H
 clear H
 go_enter Tryz.func95,Tryz.ntmps95
 go_wp2_with fail
 go_loopw [8] (fun i wr=>∃ j:Nat,j<=l.length/\i= .int .i64 j/\noneTo p l j/\Below w.heap.size w wr) (fun i _=>l.length - (intOf i).toNat)
 case atStart=>exact⟨0,by omega,by go_num,noneTo_zero p l,Below.refl _ _⟩
 case round=>
  obtain⟨j,hj,rfl,hno,hbl⟩:=hrel
  have Hno:=LH hno
  clear hno
  have hsz:=hbl.size
  by_cases hlt:j<l.length
  ·
   have htr:=GTree.elem (hs.below hbl (Nat.le_refl _)) j hlt
   obtain⟨b,off,A1,c1,A2,c2,rfl,hSb,g0,g1,g2,g3,g4,hat⟩:=htr
   have hmem:l[j]∈l:=List.getElem_mem hlt
   go_wp2_with fail
   refine(HH.out _ hmem _ _ _ _ _ hbl (hat.below (Below.refl _ _) hsz)).mono ?_
   rintro e w1 ⟨rfl,hb1⟩
   cases he:p l[j]
   · have hn:=LH (noneTo_succ Hno.out hlt he)
     go_wp2_with fail
     go_roundw
     case rel=>exact⟨j+1,by omega,by go_num,hn.out,hbl.trans (hb1.mono hsz)⟩
     case measure=>simp [intOf];omega
   · have hn:=LH (idxI_at Hno.out hlt he)
     go_wp2_with fail
     go_ret
     exact⟨ret_int hn.out.symm,hbl.trans (hb1.mono hsz)⟩
  ·
   have hjl:j=l.length:=by omega
   have Hj:=LH hjl
   clear hjl
   go_wp2_with fail
   go_ret
   exact⟨ret_int (idxI_none (by have:=Hno.out;rw [Hj.out] at this;exact this)).symm,hbl⟩
theorem containsFuncTree (K:Nat) (hK:∀ (args:Array Value) (w:World),(callFunc K args).run Tryz.prog w= .ok (.enter K args) w) (caps:Array Value) (p:GTree->Bool) (l:List GTree) (A:Option Addr) (c:Nat) (w:World) (hs:Sl w (Lt w.heap.size) 5 A c (l.map GTree.toD))
 (H:∀ x,x∈l->∀ (A1:Option Addr) (c1:Nat) (A2:Option Addr) (c2:Nat) (w2:World),Below w.heap.size w w2->GTree.At w2 (Lt w2.heap.size) A1 c1 A2 c2 x->
   Calls Tryz.prog K (#[.agg #[.int .i64 x.op,.int .i64 x.n,.slice A1 x.path.length c1,.string x.s,.slice A2 x.kids.length c2]]++caps) w2 fun e w'=>e= .returned (.bool (p x))/\Below w2.heap.size w2 w'):
 Calls Tryz.prog 68 #[.slice A l.length c,.func (.func K) #[] caps] w fun e w'=>e= .returned (.bool (l.any p))/\Below w.heap.size w w':=by
 have HH:=LH H
 clear H
 go_enter Tryz.func68,Tryz.ntmps68
 go_wp2_with fail
 refine(indexFuncTree K hK caps p l A c w hs HH.out).mono ?_
 rintro e w1 ⟨rfl,hb1⟩
 cases ha:l.any p
 ·
  have hi:=idxI_any_false ha
  rw [hi]
  have Ha:=LH ha
  clear ha hi
  go_wp2_with fail
  go_ret
  exact⟨ret_bool Ha.out.symm,hb1⟩
 ·
  have hi:=idxI_any_true ha
  have Ha:=LH ha
  clear ha
  generalize idxI p l=x at*
  go_wp2_with fail
  go_ret
  exact⟨ret_bool Ha.out.symm,hb1⟩
theorem indexFuncint (K:Nat) (hK:∀ (args:Array Value) (w:World),(callFunc K args).run Tryz.prog w= .ok (.enter K args) w) (caps:Array Value) (p:Int->Bool) (l:List Int) (A:Option Addr) (c:Nat) (w:World) (hs:Sl w (Lt w.heap.size) 1 A c (l.map (D.num .i64)))
 (H:∀ x,x∈l->∀ (w2:World),Below w.heap.size w w2->True->
   Calls Tryz.prog K (#[.int .i64 x]++caps) w2 fun e w'=>e= .returned (.bool (p x))/\Below w2.heap.size w2 w'):
 Calls Tryz.prog 94 #[.slice A l.length c,.func (.func K) #[] caps] w fun e w'=>e= .returned (.int .i64 (idxI p l))/\Below w.heap.size w w':=by
 have hlen:l.length<=9223372036854775807:=by simpa using hs.len
 have HH:=LH H
 clear H
 go_enter Tryz.func94,Tryz.ntmps94
 go_wp2_with fail
 go_loopw [8] (fun i wr=>∃ j:Nat,j<=l.length/\i= .int .i64 j/\noneTo p l j/\Below w.heap.size w wr) (fun i _=>l.length - (intOf i).toNat)
 case atStart=>exact⟨0,by omega,by go_num,noneTo_zero p l,Below.refl _ _⟩
 case round=>
  obtain⟨j,hj,rfl,hno,hbl⟩:=hrel
  have Hno:=LH hno
  clear hno
  have hsz:=hbl.size
  by_cases hlt:j<l.length
  ·
   have htr:=int_elem (hs.below hbl (Nat.le_refl _)) j hlt
   obtain⟨b,off,rfl,hSb,g0,hat⟩:=htr
   have hmem:l[j]∈l:=List.getElem_mem hlt
   go_wp2_with fail
   refine(HH.out _ hmem _ hbl trivial).mono ?_
   rintro e w1 ⟨rfl,hb1⟩
   cases he:p l[j]
   · have hn:=LH (noneTo_succ Hno.out hlt he)
     go_wp2_with fail
     go_roundw
     case rel=>exact⟨j+1,by omega,by go_num,hn.out,hbl.trans (hb1.mono hsz)⟩
     case measure=>simp [intOf];omega
   · have hn:=LH (idxI_at Hno.out hlt he)
     go_wp2_with fail
     go_ret
     exact⟨ret_int hn.out.symm,hbl.trans (hb1.mono hsz)⟩
  ·
   have hjl:j=l.length:=by omega
   have Hj:=LH hjl
   clear hjl
   go_wp2_with fail
   go_ret
   exact⟨ret_int (idxI_none (by have:=Hno.out;rw [Hj.out] at this;exact this)).symm,hbl⟩
theorem containsFuncint (K:Nat) (hK:∀ (args:Array Value) (w:World),(callFunc K args).run Tryz.prog w= .ok (.enter K args) w) (caps:Array Value) (p:Int->Bool) (l:List Int) (A:Option Addr) (c:Nat) (w:World) (hs:Sl w (Lt w.heap.size) 1 A c (l.map (D.num .i64)))
 (H:∀ x,x∈l->∀ (w2:World),Below w.heap.size w w2->True->
   Calls Tryz.prog K (#[.int .i64 x]++caps) w2 fun e w'=>e= .returned (.bool (p x))/\Below w2.heap.size w2 w'):
 Calls Tryz.prog 64 #[.slice A l.length c,.func (.func K) #[] caps] w fun e w'=>e= .returned (.bool (l.any p))/\Below w.heap.size w w':=by
 have HH:=LH H
 clear H
 go_enter Tryz.func64,Tryz.ntmps64
 go_wp2_with fail
 refine(indexFuncint K hK caps p l A c w hs HH.out).mono ?_
 rintro e w1 ⟨rfl,hb1⟩
 cases ha:l.any p
 ·
  have hi:=idxI_any_false ha
  rw [hi]
  have Ha:=LH ha
  clear ha hi
  go_wp2_with fail
  go_ret
  exact⟨ret_bool Ha.out.symm,hb1⟩
 ·
  have hi:=idxI_any_true ha
  have Ha:=LH ha
  clear ha
  generalize idxI p l=x at*
  go_wp2_with fail
  go_ret
  exact⟨ret_bool Ha.out.symm,hb1⟩
end Go.Proofs.YtamfolaicncblaaGreat
