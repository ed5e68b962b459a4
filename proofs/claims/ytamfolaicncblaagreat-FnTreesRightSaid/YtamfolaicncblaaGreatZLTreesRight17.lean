/- Texts of the claim LTreesRight in one: GTree ConTag FCon ConOf Focus MarkText Int RowI Vars Has CoverP TreesP TrA ANode CoverA CoverC CoverR. Conditions: none but bounds on sizes. -/
import Derived.Test.YtamfolaicncblaaGreatZLTreesRight0
import Derived.Test.YtamfolaicncblaaGreatRows
import Derived.Test.YtamfolaicncblaaGreatZLTreesRight2
import Derived.Lib.Hide
import Derived.Test.YtamfolaicncblaaGreatZLTreesRight13
import Derived.BigQuiet
import Derived.Test.YtamfolaicncblaaGreatZLTreesRight4
import Derived.Test.YtamfolaicncblaaGreatZLTreesRight16
import Derived.Lib.AppendZerosOnto
import Derived.StillTailTactics
import Derived.Test.YtamfolaicncblaaGreatZLTreesRight3
import Derived.Deep.RegionLaw
import Derived.Deep.DeepMust
import Derived.Deep.RegionHeld3
namespace Go.Proofs.YtamfolaicncblaaGreat
set_option maxRecDepth 20000
set_option linter.unusedVariables false
set_option linter.unusedSimpArgs false
open Go.RowKit
inductive GTree where
 | mk (op:Int) (n:Int) (path:List Int) (s:ByteArray) (kids:List GTree)
def GTree.op:GTree->Int | .mk x _ _ _ _=>x
def GTree.n:GTree->Int | .mk _ x _ _ _=>x
def GTree.path:GTree->List Int | .mk _ _ x _ _=>x
def GTree.s:GTree->ByteArray | .mk _ _ _ x _=>x
def GTree.kids:GTree->List GTree | .mk _ _ _ _ x=>x
mutual
def GTree.toD:GTree->D | .mk op n path s kids=>.agg [.num .i64 op,.num .i64 n,.sl 1 (path.map (D.num .i64)),.str s,.sl 5 (GTree.toDs kids)]
def GTree.toDs:List GTree->List D | []=>[] | t::r=>t.toD::GTree.toDs r
end
theorem GTree.toDs_map:∀ l:List GTree,GTree.toDs l=l.map GTree.toD
 | []=>rfl
 | t::r=>by simp only [GTree.toDs,List.map_cons,GTree.toDs_map r]
mutual
def GTree.bulk:GTree->Nat | .mk _ _ path s kids=>path.length+s.size+GTree.bulks kids
def GTree.bulks:List GTree->Nat | []=>0 | t::r=>1+t.bulk+GTree.bulks r
end
theorem GTree.bulks_eq:∀ l:List GTree,GTree.bulks l=bulkL GTree.bulk l
 | []=>rfl
 | t::r=>by simp only [GTree.bulks,bulkL,GTree.bulks_eq r]
theorem GTree.bulk_eq (t:GTree):t.bulk=t.path.length+t.s.size+bulkL GTree.bulk t.kids:=by
 cases t;simp only [GTree.bulk,GTree.bulks_eq,GTree.op,GTree.n,GTree.path,GTree.s,GTree.kids]
def GTree.At (w:World) (S:Nat->Prop) (A1:Option Addr) (c1:Nat) (A2:Option Addr) (c2:Nat) (t:GTree):Prop:=
 (Lit.int .i64 t.op).wf=true/\(Lit.int .i64 t.n).wf=true/\Sl w S 1 A1 c1 (t.path.map (D.num .i64))/\t.s.size<=maxLen/\Sl w S 5 A2 c2 (t.kids.map GTree.toD)
theorem GTree.rd {w:World} {S:Nat->Prop} {t:GTree} {cs:List Value} (h:t.toD.rd w S cs):∃ A1 c1 A2 c2,cs= [.int .i64 t.op,.int .i64 t.n,.slice A1 t.path.length c1,.string t.s,.slice A2 t.kids.length c2]/\GTree.At w S A1 c1 A2 c2 t:=by
 cases t with
 | mk op n path s kids=>
 simp only [GTree.toD,GTree.toDs_map] at h
 rw [D.rd_agg] at h
 rw [D.rdF_cons] at h
 obtain⟨x0,r0,rfl,k0,h⟩:=h
 obtain⟨rfl,h0⟩:=D.rd_num.1 k0
 rw [D.rdF_cons] at h
 obtain⟨x1,r1,rfl,k1,h⟩:=h
 obtain⟨rfl,h1⟩:=D.rd_num.1 k1
 rw [D.rdF_cons] at h
 obtain⟨x2,r2,rfl,k2,h⟩:=h
 obtain⟨A1,c1,rfl,h2⟩:=D.rd_sl.1 k2
 rw [D.rdF_cons] at h
 obtain⟨x3,r3,rfl,k3,h⟩:=h
 obtain⟨rfl,h3⟩:=D.rd_str.1 k3
 rw [D.rdF_cons] at h
 obtain⟨x4,r4,rfl,k4,h⟩:=h
 obtain⟨A2,c2,rfl,h4⟩:=D.rd_sl.1 k4
 obtain rfl:=D.rdF_nil.1 h
 exact⟨A1,c1,A2,c2,by simp [GTree.op,GTree.n,GTree.path,GTree.s,GTree.kids],h0,h1,h2,h3,h4⟩
theorem GTree.elem {w:World} {S:Nat->Prop} {A:Option Addr} {c:Nat} {l:List GTree} (h:Sl w S 5 A c (l.map GTree.toD)) (i:Nat) (hi:i<l.length):
 ∃ b off A1 c1 A2 c2,A=some ⟨b,off,none⟩/\S b/\w.cell? ⟨b,off+i*5,none⟩=some (.int .i64 l[i].op)/\w.cell? ⟨b,off+i*5+1,none⟩=some (.int .i64 l[i].n)/\w.cell? ⟨b,off+i*5+2,none⟩=some (.slice A1 l[i].path.length c1)/\w.cell? ⟨b,off+i*5+3,none⟩=some (.string l[i].s)/\w.cell? ⟨b,off+i*5+4,none⟩=some (.slice A2 l[i].kids.length c2)/\GTree.At w S A1 c1 A2 c2 l[i]:=by
 obtain⟨b,off,cs,e,hb,hl,hc,hr⟩:=Sl.get h i (by simpa using hi)
 rw [List.getElem_map] at hr
 obtain⟨A1,c1,A2,c2,rfl,h1⟩:=GTree.rd hr
 exact⟨b,off,A1,c1,A2,c2,e,hb,hc 0 _ rfl,hc 1 _ rfl,hc 2 _ rfl,hc 3 _ rfl,hc 4 _ rfl,h1⟩
theorem GTree.At.keep {w w':World} {S S':Nat->Prop} {t:GTree} {A1:Option Addr} {c1:Nat} {A2:Option Addr} {c2:Nat} (h:GTree.At w S A1 c1 A2 c2 t) (hk:∀ b,S b->S' b/\w'.heap[b]? =w.heap[b]?):GTree.At w' S' A1 c1 A2 c2 t:=by
 unfold GTree.At at h ⊢
 obtain⟨h0,h1,h2,h3,h4⟩:=h
 exact⟨h0,h1,h2.keep hk,h3,h4.keep hk⟩
theorem GTree.At.below {w w':World} {B B':Nat} {t:GTree} {A1:Option Addr} {c1:Nat} {A2:Option Addr} {c2:Nat} (h:GTree.At w (Lt B) A1 c1 A2 c2 t) (hb:Below B w w') (hB:B<=B'):GTree.At w' (Lt B') A1 c1 A2 c2 t:=
 h.keep (keep_below hb hB)
def GTree.Ow (w:World) (S:Nat->Prop) (A1:Option Addr) (c1:Nat) (A2:Option Addr) (c2:Nat) (t:GTree):Prop:=
 ∃ S1 S2:Nat->Prop,(∀ x,S1 x->S x)/\(∀ x,S2 x->S x)/\(∀ x,S1 x->¬ S2 x)/\(Lit.int .i64 t.op).wf=true/\(Lit.int .i64 t.n).wf=true/\Osl w S1 1 A1 c1 (t.path.map (D.num .i64))/\t.s.size<=maxLen/\Osl w S2 5 A2 c2 (t.kids.map GTree.toD)
theorem GTree.own_mk {w:World} {S:Nat->Prop} {t:GTree} {A1:Option Addr} {c1:Nat} {A2:Option Addr} {c2:Nat} (h:GTree.Ow w S A1 c1 A2 c2 t):t.toD.own w S [.int .i64 t.op,.int .i64 t.n,.slice A1 t.path.length c1,.string t.s,.slice A2 t.kids.length c2]:=by
 cases t with
 | mk op n path s kids=>
 simp only [GTree.toD,GTree.toDs_map]
 unfold GTree.Ow at h
 obtain⟨S1,S2,g1,g2,d12,h0,h1,h2,h3,h4⟩:=h
 rw [D.own_agg]
 exact D.ownF_plain (c1:=[_]) (c2:=[_,_,_,_]) (D.own_num.2 ⟨rfl,h0⟩) (D.ownF_plain (c1:=[_]) (c2:=[_,_,_]) (D.own_num.2 ⟨rfl,h1⟩) (D.ownF_cons (S:=S) (S1:=S1) (S2:=S2) (c1:=[_]) (c2:=[_,_]) (fun x hx=>⟨g1 x hx,fun h=>d12 x hx h⟩) (g2) (D.own_sl.2 ⟨A1,c1,by simp [GTree.path],h2⟩) (D.ownF_plain (c1:=[_]) (c2:=[_]) (D.own_str.2 ⟨rfl,h3⟩) (D.ownF_last (D.own_sl.2 ⟨A2,c2,by simp [GTree.kids],h4⟩)))))
theorem GTree.Ow.keep {w w':World} {S S':Nat->Prop} {t:GTree} {A1:Option Addr} {c1:Nat} {A2:Option Addr} {c2:Nat} (h:GTree.Ow w S A1 c1 A2 c2 t) (hk:∀ b,S b->S' b/\w'.heap[b]? =w.heap[b]?):GTree.Ow w' S' A1 c1 A2 c2 t:=by
 unfold GTree.Ow at h ⊢
 obtain⟨S1,S2,g1,g2,d12,h0,h1,h2,h3,h4⟩:=h
 exact⟨S1,S2,fun x hx=>(hk x (g1 x hx)).1,fun x hx=>(hk x (g2 x hx)).1,d12,h0,h1,h2.keep fun b hb=>⟨hb,(hk b (g1 b hb)).2⟩,h3,h4.keep fun b hb=>⟨hb,(hk b (g2 b hb)).2⟩⟩
theorem GTree.Ow.at {w:World} {S:Nat->Prop} {t:GTree} {A1:Option Addr} {c1:Nat} {A2:Option Addr} {c2:Nat} (h:GTree.Ow w S A1 c1 A2 c2 t):GTree.At w S A1 c1 A2 c2 t:=by
 unfold GTree.Ow at h
 unfold GTree.At
 obtain⟨S1,S2,g1,g2,d12,h0,h1,h2,h3,h4⟩:=h
 exact⟨h0,h1,h2.sl.keep fun b hb=>⟨g1 b hb,rfl⟩,h3,h4.sl.keep fun b hb=>⟨g2 b hb,rfl⟩⟩
set_option maxHeartbeats 1000000
theorem name_ne {a b:ByteArray} (h:¬ a=b):(a.toList ==b.toList)=false:=by
 rw [beq_eq_false_iff_ne];intro e;apply h;rw [ByteArray.toList_eq,ByteArray.toList_eq] at e;exact ByteArray.ext (Array.toList_inj.1 e)
def tagIn (s:ByteArray):List GCon->Nat->Option Nat
 | [],_=>none
 | c::r,n=>if c.name=s then some n else tagIn s r (n+1)
def tagOf (s:ByteArray):List GData->Nat->Option Nat
 | [],_=>none
 | d::r,n=>match tagIn s d.cons n with
  | some x=>some x
  | none=>tagOf s r (n+d.cons.length)
def tagI:Option Nat->Int
 | some n=>n
 | none=> -1
def consN:List GData->Nat | []=>0 | d::r=>d.cons.length+consN r
theorem tagIn_hit {s:ByteArray} {l:List GCon} {k n:Nat} (h:k<l.length) (e:l[k].name=s):tagIn s (l.drop k) n=some n:=by
 rw [List.drop_eq_getElem_cons h,tagIn,if_pos e]
theorem tagIn_miss {s:ByteArray} {l:List GCon} {k n:Nat} (h:k<l.length) (e:¬ l[k].name=s):tagIn s (l.drop k) n=tagIn s (l.drop (k+1)) (n+1):=by
 rw [List.drop_eq_getElem_cons h,tagIn,if_neg e]
theorem tagOf_hit {s:ByteArray} {l:List GData} {j n m:Nat} (h:j<l.length) (e:tagIn s l[j].cons n=some m):tagOf s (l.drop j) n=some m:=by
 rw [List.drop_eq_getElem_cons h,tagOf,e]
theorem tagOf_miss {s:ByteArray} {l:List GData} {j n:Nat} (h:j<l.length) (e:tagIn s l[j].cons n=none):tagOf s (l.drop j) n=tagOf s (l.drop (j+1)) (n+l[j].cons.length):=by
 rw [List.drop_eq_getElem_cons h,tagOf,e]
theorem consN_drop {l:List GData} {j:Nat} (h:j<l.length):consN (l.drop j)=l[j].cons.length+consN (l.drop (j+1)):=by
 rw [List.drop_eq_getElem_cons h,consN]
theorem specConTag (l:List GData) (A:Option Addr) (c:Nat) (s:ByteArray) (w:World) (hm:consN l<=1048576) (hs:Sl w (Lt w.heap.size) 3 A c (l.map GData.toD)):
 Calls Tryz.prog 70 #[.slice A l.length c,.string s] w fun e w'=>e= .returned (.int .i64 (tagI (tagOf s l 0)))/\Below w.heap.size w w':=by
 have hlen:l.length<=9223372036854775807:=by simpa using hs.len
 have S0:=LH hs
 clear hs
 go_enter Tryz.func70,Tryz.ntmps70
 go_wp2_with fail
 go_loopw [5,6] (fun n i wr=>∃ (j m:Nat),j<=l.length/\i= .int .i64 j/\n= .int .i64 m/\Hid (tagOf s l 0=tagOf s (l.drop j) m)/\m+consN (l.drop j)<=1048576/\Below w.heap.size w wr) (fun _ i _=>l.length - (intOf i).toNat)
 case atStart=>exact⟨0,0,by omega,by go_num,by go_num,LH rfl,by simpa using hm,Below.refl _ _⟩
 case round=>
  obtain⟨j,m,hj,rfl,rfl,HT,hbd,hbl⟩:=hrel
  by_cases hlt:j<l.length
  ·
   obtain⟨b,off,A1,c1,rfl,hSb,g0,g1,g2,hat⟩:=GData.elem (S0.out.below hbl (Nat.le_refl _)) j hlt
   have hcl:(l[j]).cons.length<=9223372036854775807:=by simpa using hat.2.2.len
   have hcd:=consN_drop hlt
   have hbd2:(m+(l[j]).cons.length)+consN (l.drop (j+1))<=1048576:=by omega
   clear hcd hat
   go_wp2_with fail
   go_loopw [5,7] (fun n i wr2=>∃ (k:Nat),k<=(l[j]).cons.length/\i= .int .i64 k/\n= .int .i64 ((m+k:Nat):Int)/\Hid (tagIn s (l[j]).cons m=tagIn s ((l[j]).cons.drop k) (m+k))/\Below w.heap.size w wr2) (fun _ i _=>(l[j]).cons.length - (intOf i).toNat)
   case atStart=>exact⟨0,by omega,by go_num,by go_num,LH rfl,hbl⟩
   case round=>
    obtain⟨k,hk,rfl,rfl,HI,hbk⟩:=hrel
    obtain⟨b',off',A1',c1',eA,hSb',q0,q1,q2,hat'⟩:=GData.elem (S0.out.below hbk (Nat.le_refl _)) j hlt
    obtain⟨rfl,rfl⟩:b=b'/\off=off':=by simpa using eA
    by_cases hkt:k<(l[j]).cons.length
    ·
     obtain⟨b2,off2,A2,c2,rfl,hSb2,p0,p1,hat2⟩:=GCon.elem hat'.2.2 k hkt
     by_cases he:((l[j]).cons[k]).name=s
     · have HV:=LH (show tagOf s l 0=some (m+k) from HT.out.trans (tagOf_hit hlt (HI.out.trans (tagIn_hit hkt he))))
       have hbe:(((l[j]).cons[k]).name.toList ==s.toList)=true:=by rw [he];simp
       clear he
       go_wp2_with fail
       go_ret
       exact⟨ret_int (by rw [HV.out];rfl),hbk⟩
     · have HI2:=LH (HI.out.trans (tagIn_miss hkt he))
       have hbe:(((l[j]).cons[k]).name.toList ==s.toList)=false:=name_ne he
       clear he
       go_wp2_with fail
       go_roundw
       case rel=>exact⟨k+1,by omega,by go_num,by go_num,HI2,hbk⟩
       case measure=>simp [intOf];omega
    · have hkl:k=(l[j]).cons.length:=by omega
      have HO:=LH (tagOf_miss (s:=s) (n:=m) hlt (HI.out.trans (by rw [hkl,List.drop_length];rfl)))
      have Hk:=LH hkl
      clear hkl
      go_wp2_with fail
      go_roundw
      case rel=>exact⟨j+1,m+k,by omega,by go_num,by go_num,LH (by rw [Hk.out];exact HT.out.trans HO.out),by rw [Hk.out];exact hbd2,hbk⟩
      case measure=>simp [intOf];omega
  · have hjl:j=l.length:=by omega
    have Hj:=LH hjl
    clear hjl
    go_wp2_with fail
    go_ret
    exact⟨ret_int (by rw [HT.out,Hj.out,List.drop_length];rfl),hbl⟩
theorem implConTag (l:List GData) (A:Option Addr) (c:Nat) (s:ByteArray) (w:World) (hm:consN l<=1048576) (hs:Sl w (Lt w.heap.size) 3 A c (l.map GData.toD)):
 Calls Tryz.prog 66 #[.slice A l.length c,.string s] w fun e w'=>e= .returned (.int .i64 (tagI (tagOf s l 0)))/\Below w.heap.size w w':=by
 have hlen:l.length<=9223372036854775807:=by simpa using hs.len
 have S0:=LH hs
 clear hs
 go_enter Tryz.func66,Tryz.ntmps66
 go_wp2_with fail
 go_loopw [5,12] (fun n i wr=>∃ (j m:Nat),j<=l.length/\i= .int .i64 j/\n= .int .i64 m/\Hid (tagOf s l 0=tagOf s (l.drop j) m)/\m+consN (l.drop j)<=1048576/\Below w.heap.size w wr) (fun _ i _=>l.length - (intOf i).toNat)
 case atStart=>exact⟨0,0,by omega,by go_num,by go_num,LH rfl,by simpa using hm,Below.refl _ _⟩
 case round=>
  obtain⟨j,m,hj,rfl,rfl,HT,hbd,hbl⟩:=hrel
  have hsz:=hbl.size
  by_cases hlt:j<l.length
  ·
   obtain⟨b,off,A1,c1,rfl,hSb,g0,g1,g2,hat⟩:=GData.elem (S0.out.below hbl (Nat.le_refl _)) j hlt
   have S1:=LH hat.2.2
   have hcl:(l[j]).cons.length<=9223372036854775807:=by simpa using hat.2.2.len
   have hcd:=consN_drop hlt
   have hbd2:(m+(l[j]).cons.length)+consN (l.drop (j+1))<=1048576:=by omega
   clear hcd hat
   go_wp2_with fail
   go_loopw [5,19] (fun n i wr2=>∃ (k:Nat),k<=(l[j]).cons.length/\i= .int .i64 k/\n= .int .i64 ((m+k:Nat):Int)/\Hid (tagIn s (l[j]).cons m=tagIn s ((l[j]).cons.drop k) (m+k))/\Hid (Sl wr2 (Lt w.heap.size) 2 A1 c1 ((l[j]).cons.map GCon.toD))/\Below w.heap.size w wr2) (fun _ i _=>(l[j]).cons.length - (intOf i).toNat)
   case atStart=>exact⟨0,by omega,by go_num,by go_num,LH rfl,LH (S1.out.below ((Below.refl _ _).alloc hsz _) (Nat.le_refl _)),hbl.alloc hsz _⟩
   case round=>
    obtain⟨k,hk,rfl,rfl,HI,S2,hbk⟩:=hrel
    have hsz2:=hbk.size
    by_cases hkt:k<(l[j]).cons.length
    ·
     obtain⟨b2,off2,A2,c2,rfl,hSb2,p0,p1,hat2⟩:=GCon.elem S2.out k hkt
     by_cases he:((l[j]).cons[k]).name=s
     · have HV:=LH (show tagOf s l 0=some (m+k) from HT.out.trans (tagOf_hit hlt (HI.out.trans (tagIn_hit hkt he))))
       have hbe:(((l[j]).cons[k]).name.toList ==s.toList)=true:=by rw [he];simp
       clear he
       go_wp2_with fail
       go_ret
       exact⟨ret_int (by rw [HV.out];rfl),hbk.alloc hsz2 _⟩
     · have HI2:=LH (HI.out.trans (tagIn_miss hkt he))
       have hbe:(((l[j]).cons[k]).name.toList ==s.toList)=false:=name_ne he
       clear he
       go_wp2_with fail
       go_roundw
       case rel=>exact⟨k+1,by omega,by go_num,by go_num,HI2,LH (S2.out.below ((Below.refl _ _).alloc hsz2 _) (Nat.le_refl _)),hbk.alloc hsz2 _⟩
       case measure=>simp [intOf];omega
    · have hkl:k=(l[j]).cons.length:=by omega
      have HO:=LH (tagOf_miss (s:=s) (n:=m) hlt (HI.out.trans (by rw [hkl,List.drop_length];rfl)))
      have Hk:=LH hkl
      clear hkl
      go_wp2_with fail
      go_roundw
      case rel=>exact⟨j+1,m+k,by omega,by go_num,by go_num,LH (by rw [Hk.out];exact HT.out.trans HO.out),by rw [Hk.out];exact hbd2,hbk⟩
      case measure=>simp [intOf];omega
  · have hjl:j=l.length:=by omega
    have Hj:=LH hjl
    clear hjl
    go_wp2_with fail
    go_ret
    exact⟨ret_int (by rw [HT.out,Hj.out,List.drop_length];rfl),hbl⟩
set_option maxHeartbeats 400000
theorem indexFuncCon (K:Nat) (hK:∀ (args:Array Value) (w:World),(callFunc K args).run Tryz.prog w= .ok (.enter K args) w) (caps:Array Value) (p:GCon->Bool) (l:List GCon) (A:Option Addr) (c:Nat) (w:World) (hs:Sl w (Lt w.heap.size) 2 A c (l.map GCon.toD))
 (H:∀ x,x∈l->∀ (A1:Option Addr) (c1:Nat) (w2:World),Below w.heap.size w w2->GCon.At w2 (Lt w2.heap.size) A1 c1 x->
   Calls Tryz.prog K (#[.agg #[.string x.name,.slice A1 x.args.length c1]]++caps) w2 fun e w'=>e= .returned (.bool (p x))/\Below w2.heap.size w2 w'):
 Calls Tryz.prog 79 #[.slice A l.length c,.func (.func K) #[] caps] w fun e w'=>e= .returned (.int .i64 (idxI p l))/\Below w.heap.size w w':=by
 have hlen:l.length<=9223372036854775807:=by simpa using hs.len
 have HH:=LH H
 clear H
 go_enter Tryz.func79,Tryz.ntmps79
 go_wp2_with fail
 go_loopw [8] (fun i wr=>∃ j:Nat,j<=l.length/\i= .int .i64 j/\noneTo p l j/\Below w.heap.size w wr) (fun i _=>l.length - (intOf i).toNat)
 case atStart=>exact⟨0,by omega,by go_num,noneTo_zero p l,Below.refl _ _⟩
 case round=>
  obtain⟨j,hj,rfl,hno,hbl⟩:=hrel
  have Hno:=LH hno
  clear hno
  have hsz:=hbl.size
  by_cases hlt:j<l.length
  ·
   have htr:=GCon.elem (hs.below hbl (Nat.le_refl _)) j hlt
   obtain⟨b,off,A1,c1,rfl,hSb,g0,g1,hat⟩:=htr
   have hmem:l[j]∈l:=List.getElem_mem hlt
   go_wp2_with fail
   refine(HH.out _ hmem _ _ _ hbl (hat.below (Below.refl _ _) hsz)).mono ?_
   rintro e w1 ⟨rfl,hb1⟩
   cases he:p l[j]
   · have hn:=LH (noneTo_succ Hno.out hlt he)
     go_wp2_with fail
     go_roundw
     case rel=>exact⟨j+1,by omega,by go_num,hn.out,hbl.trans (hb1.mono hsz)⟩
     case measure=>simp [intOf];omega
   · have hn:=LH (idxI_at Hno.out hlt he)
     go_wp2_with fail
     go_ret
     exact⟨ret_int hn.out.symm,hbl.trans (hb1.mono hsz)⟩
  ·
   have hjl:j=l.length:=by omega
   have Hj:=LH hjl
   clear hjl
   go_wp2_with fail
   go_ret
   exact⟨ret_int (idxI_none (by have:=Hno.out;rw [Hj.out] at this;exact this)).symm,hbl⟩
set_option maxHeartbeats 1000000
theorem ret_ii {a b c d:Int} (h:a=b) (h2:c=d):Ending.returned (.tuple #[.int .i64 a,.int .i64 c])= .returned (.tuple #[.int .i64 b,.int .i64 d]):=by rw [h,h2]
def conOf (s:ByteArray):List GData->Nat->Option (Nat × Nat)
 | [],_=>none
 | d::r,j=>match tagIn s d.cons 0 with
  | some k=>some (j,k)
  | none=>conOf s r (j+1)
def conI:Option (Nat × Nat)->Int × Int
 | some (j,k)=>(j,k)
 | none=>(-1,-1)
theorem conOf_hit {s:ByteArray} {l:List GData} {j n m:Nat} (h:j<l.length) (e:tagIn s l[j].cons 0=some m):conOf s (l.drop j) n=some (n,m):=by
 rw [List.drop_eq_getElem_cons h,conOf,e]
theorem conOf_miss {s:ByteArray} {l:List GData} {j n:Nat} (h:j<l.length) (e:tagIn s l[j].cons 0=none):conOf s (l.drop j) n=conOf s (l.drop (j+1)) (n+1):=by
 rw [List.drop_eq_getElem_cons h,conOf,e]
theorem specConOf (l:List GData) (A:Option Addr) (c:Nat) (s:ByteArray) (w:World) (hs:Sl w (Lt w.heap.size) 3 A c (l.map GData.toD)):
 Calls Tryz.prog 59 #[.slice A l.length c,.string s] w fun e w'=>e= .returned (.tuple #[.int .i64 (conI (conOf s l 0)).1,.int .i64 (conI (conOf s l 0)).2])/\Below w.heap.size w w':=by
 have hlen:l.length<=9223372036854775807:=by simpa using hs.len
 have S0:=LH hs
 clear hs
 go_enter Tryz.func59,Tryz.ntmps59
 go_wp2_with fail
 go_loopw [6] (fun i wr=>∃ (j:Nat),j<=l.length/\i= .int .i64 j/\Hid (conOf s l 0=conOf s (l.drop j) j)/\Below w.heap.size w wr) (fun i _=>l.length - (intOf i).toNat)
 case atStart=>exact⟨0,by omega,by go_num,LH rfl,Below.refl _ _⟩
 case round=>
  obtain⟨j,hj,rfl,HT,hbl⟩:=hrel
  by_cases hlt:j<l.length
  ·
   obtain⟨b,off,A1,c1,rfl,hSb,g0,g1,g2,hat⟩:=GData.elem (S0.out.below hbl (Nat.le_refl _)) j hlt
   have hcl:(l[j]).cons.length<=9223372036854775807:=by simpa using hat.2.2.len
   clear hat
   go_wp2_with fail
   go_loopw [7] (fun i wr2=>∃ (k:Nat),k<=(l[j]).cons.length/\i= .int .i64 k/\Hid (tagIn s (l[j]).cons 0=tagIn s ((l[j]).cons.drop k) k)/\Below w.heap.size w wr2) (fun i _=>(l[j]).cons.length - (intOf i).toNat)
   case atStart=>exact⟨0,by omega,by go_num,LH rfl,hbl⟩
   case round=>
    obtain⟨k,hk,rfl,HI,hbk⟩:=hrel
    obtain⟨b',off',A1',c1',eA,hSb',q0,q1,q2,hat'⟩:=GData.elem (S0.out.below hbk (Nat.le_refl _)) j hlt
    obtain⟨rfl,rfl⟩:b=b'/\off=off':=by simpa using eA
    by_cases hkt:k<(l[j]).cons.length
    ·
     obtain⟨b2,off2,A2,c2,rfl,hSb2,p0,p1,hat2⟩:=GCon.elem hat'.2.2 k hkt
     by_cases he:((l[j]).cons[k]).name=s
     · have HV:=LH (show conOf s l 0=some (j,k) from HT.out.trans (conOf_hit hlt (HI.out.trans (tagIn_hit hkt he))))
       have hbe:(((l[j]).cons[k]).name.toList ==s.toList)=true:=by rw [he];simp
       clear he
       go_wp2_with fail
       go_ret2
       exact⟨ret_ii (by rw [HV.out];rfl) (by rw [HV.out];rfl),hbk⟩
     · have HI2:=LH (HI.out.trans (tagIn_miss hkt he))
       have hbe:(((l[j]).cons[k]).name.toList ==s.toList)=false:=name_ne he
       clear he
       go_wp2_with fail
       go_roundw
       case rel=>exact⟨k+1,by omega,by go_num,HI2,hbk⟩
       case measure=>simp [intOf];omega
    · have hkl:k=(l[j]).cons.length:=by omega
      have HO:=LH (conOf_miss (s:=s) (n:=j) hlt (HI.out.trans (by rw [hkl,List.drop_length];rfl)))
      go_wp2_with fail
      go_roundw
      case rel=>exact⟨j+1,by omega,by go_num,LH (HT.out.trans HO.out),hbk⟩
      case measure=>simp [intOf];omega
  ·
   have hjl:j=l.length:=by omega
   have Hj:=LH hjl
   clear hjl
   go_wp2_with fail
   go_ret2
   exact⟨ret_ii (by rw [HT.out,Hj.out,List.drop_length];rfl) (by rw [HT.out,Hj.out,List.drop_length];rfl),hbl⟩
theorem idxI_tagIn (s:ByteArray) (l:List GCon) (n:Nat):(match tagIn s l n with | some k=>idxI (fun x:GCon=>x.name.toList ==s.toList) l=(k:Int) - n/\n<=k | none=>idxI (fun x:GCon=>x.name.toList ==s.toList) l= -1):=by
 induction l generalizing n with
 | nil=>simp [tagIn,idxI]
 | cons x r ih=>
  by_cases h:x.name=s
  · have e:(x.name.toList ==s.toList)=true:=by rw [h];simp
    simp [tagIn,idxI,h]
  ·
   have e:=name_ne h
   have:=ih (n+1)
   simp only [tagIn,idxI,if_neg h,e]
   cases hc:tagIn s r (n+1)<;>rw [hc] at this<;>simp only at this ⊢
   · rw [this];rfl
   · rw [if_neg (by simp),if_neg (by omega)];omega
theorem implConOf1 (s:ByteArray) (b:Nat) (x:GCon) (A1:Option Addr) (c1:Nat) (w:World) (hc:w.cell? ⟨b,0,none⟩=some (.string s)) (hb:b<w.heap.size):
 Calls Tryz.prog 80 #[.agg #[.string x.name,.slice A1 x.args.length c1],.pointer (some ⟨b,0,none⟩)] w fun e w'=>e= .returned (.bool (x.name.toList ==s.toList))/\Below w.heap.size w w':=by
 have E:Below w.heap.size w (w.alloc (.cells #[.string x.name,.slice A1 x.args.length c1] 107)):=(Below.refl _ _).alloc (Nat.le_refl _) _
 have hc2:=(E.cell (p:=⟨b,0,none⟩) hb).trans hc
 go_enter Tryz.func80,Tryz.ntmps80
 go_wp2_with fail
 go_ret
 exact⟨rfl,E⟩
theorem implConOf (l:List GData) (A:Option Addr) (c:Nat) (s:ByteArray) (w:World) (hs:Sl w (Lt w.heap.size) 3 A c (l.map GData.toD)):
 Calls Tryz.prog 50 #[.slice A l.length c,.string s] w fun e w'=>e= .returned (.tuple #[.int .i64 (conI (conOf s l 0)).1,.int .i64 (conI (conOf s l 0)).2])/\Below w.heap.size w w':=by
 have hlen:l.length<=9223372036854775807:=by simpa using hs.len
 have S0:=LH hs
 clear hs
 have E0:=LH (show Below w.heap.size w (w.alloc (.cells #[.string s] 9)) from(Below.refl _ _).alloc (Nat.le_refl _) _)
 have R0:=LH (Row.new w 9 #[.string s])
 go_enter Tryz.func50,Tryz.ntmps50
 go_wp2_with fail
 go_loopw [11] (fun i wr=>∃ (j:Nat),j<=l.length/\i= .int .i64 j/\Hid (conOf s l 0=conOf s (l.drop j) j)/\Hid (Row wr w.heap.size 9 #[.string s])/\Below w.heap.size w wr) (fun i _=>l.length - (intOf i).toNat)
 case atStart=>exact⟨0,by omega,by go_num,LH rfl,R0,E0.out⟩
 case round=>
  obtain⟨j,hj,rfl,HT,HR,hbl⟩:=hrel
  have hsz:=hbl.size
  by_cases hlt:j<l.length
  ·
   obtain⟨b,off,A1,c1,rfl,hSb,g0,g1,g2,hat⟩:=GData.elem (S0.out.below hbl (Nat.le_refl _)) j hlt
   have S1:=LH hat.2.2
   clear hat
   have HX:=LH (idxI_tagIn s (l[j]).cons 0)
   go_wp2_with fail
   refine(indexFuncCon 80 (enters Tryz.func80 (by kernel_rfl) (by kernel_rfl)) #[.pointer (some ⟨w.heap.size,0,none⟩)] (fun x=>x.name.toList ==s.toList) (l[j]).cons A1 c1 _ (S1.out.keep (fun k hk=>⟨Nat.lt_of_lt_of_le (Nat.lt_of_lt_of_le hk hsz) (by simp),Below.heap_alloc _ _ _ (Nat.lt_of_lt_of_le hk hsz)⟩))
     (fun x hx A2 c2 w2 hb2 hat2=>by
       have R2:=(HR.out.alloc _).below hb2 (HR.out.alloc _).lt
       exact implConOf1 s w.heap.size x A2 c2 w2 (R2.cell 0) R2.lt)).mono ?_
   rintro e w2 ⟨rfl,hb2⟩
   have B2:=LH ((hbl.alloc hsz _).trans (hb2.mono (hbl.alloc hsz _).size))
   have R3:=LH ((HR.out.alloc _).below hb2 (HR.out.alloc _).lt)
   clear hb2
   have hx:=HX.out
   cases hct:tagIn s (l[j]).cons 0 with
   | some k=>
    rw [hct] at hx
    obtain⟨hx1,_⟩:=hx
    have hx2:idxI (fun x:GCon=>x.name.toList ==s.toList) (l[j]).cons=(k:Int):=by simpa using hx1
    have HV:=LH (HT.out.trans (conOf_hit (n:=j) hlt hct))
    rw [hx2]
    clear hx1 hx2 hct
    go_wp2_with fail
    go_ret2
    exact⟨ret_ii (by rw [HV.out];rfl) (by rw [HV.out];rfl),B2.out⟩
   | none=>
    rw [hct] at hx
    have hx2:idxI (fun x:GCon=>x.name.toList ==s.toList) (l[j]).cons= -1:=hx
    have HV:=LH (HT.out.trans (conOf_miss (n:=j) hlt hct))
    rw [hx2]
    clear hx hx2 hct
    go_wp2_with fail
    go_roundw
    case rel=>exact⟨j+1,by omega,by go_num,HV,R3,B2.out⟩
    case measure=>simp [intOf];omega
  ·
   have hjl:j=l.length:=by omega
   have Hj:=LH hjl
   clear hjl
   go_wp2_with fail
   go_ret2
   exact⟨ret_ii (by rw [HT.out,Hj.out,List.drop_length];rfl) (by rw [HT.out,Hj.out,List.drop_length];rfl),hbl⟩
end Go.Proofs.YtamfolaicncblaaGreat
namespace Go.Proofs.YtamfolaicncblaaGreat
set_option maxRecDepth 20000
set_option linter.unusedVariables false
set_option linter.unusedSimpArgs false
open Go.RowKit
end Go.Proofs.YtamfolaicncblaaGreat
namespace Go.Proofs.YtamfolaicncblaaGreat
set_option maxRecDepth 20000
set_option linter.unusedVariables false
set_option linter.unusedSimpArgs false
open Go.RowKit
set_option maxHeartbeats 1000000
theorem wfNat (n:Nat) (h:n<=9223372036854775807):(Lit.int .i64 (n:Int)).wf=true:=by
 simp [Lit.wf,IntKind.min,IntKind.max,IntKind.signed,IntKind.bits];omega
theorem int_wf {n:Int} (h:(Lit.int .i64 n).wf=true): -9223372036854775808<=n/\n<=9223372036854775807:=by
 simpa [Lit.wf,IntKind.min,IntKind.max,IntKind.signed,IntKind.bits] using h
theorem int_elem {w:World} {S:Nat->Prop} {A:Option Addr} {c:Nat} {l:List Int} (h:Sl w S 1 A c (l.map (D.num .i64))) (i:Nat) (hi:i<l.length):
 ∃ b off,A=some ⟨b,off,none⟩/\S b/\w.cell? ⟨b,off+i,none⟩=some (.int .i64 l[i])/\(Lit.int .i64 l[i]).wf=true:=by
 obtain⟨b,off,cs,e,hb,hl,hc,hr⟩:=Sl.get h i (by simpa using hi)
 rw [List.getElem_map,D.rd_num] at hr
 obtain⟨rfl,hw⟩:=hr
 exact⟨b,off,e,hb,by simpa using hc 0 _ rfl,hw⟩
theorem wf_i64 {n:Int} (h1: -9223372036854775808<=n) (h2:n<=9223372036854775807):(Lit.int .i64 n).wf=true:=by
 simp [Lit.wf,IntKind.min,IntKind.max,IntKind.signed,IntKind.bits];omega
set_option maxHeartbeats 2000000
set_option maxHeartbeats 1000000
def anyN:GNode:=.mk 17 0 ByteArray.empty ByteArray.empty []
def isAnyB (p:GNode):Bool:=p.op != 20&&p.op != 19
def hd (r:List GNode):GNode:=r.headD anyN
def patOf (a:GNode):GNode:=hd a.kids
def rowD (r:List GNode):D:=.sl 5 (r.map GNode.toD)
theorem rowD_elem {w:World} {S:Nat->Prop} {A:Option Addr} {c:Nat} {rows:List (List GNode)} (h:Sl w S 1 A c (rows.map rowD)) (i:Nat) (hi:i<rows.length):
 ∃ b off A1 c1,A=some ⟨b,off,none⟩/\S b/\w.cell? ⟨b,off+i,none⟩=some (.slice A1 rows[i].length c1)/\Sl w S 5 A1 c1 (rows[i].map GNode.toD):=by
 obtain⟨b,off,cs,e,hb,hl,hc,hr⟩:=Sl.get h i (by simpa using hi)
 rw [List.getElem_map] at hr
 obtain⟨A1,c1,rfl,h1⟩:=D.rd_sl.1 hr
 have:=hc 0 _ rfl
 simp only [Nat.mul_one,Nat.add_zero,List.length_map] at this
 exact⟨b,off,A1,c1,e,hb,this,h1⟩
theorem slOne {w:World} {S:Nat->Prop} {g size:Nat} {T:TypeId} {cs:List Value} {d:D} (hr:Row w g T cs.toArray) (hd:d.rd w S cs) (hl:cs.length=size) (hg:S g):Sl w S size (some ⟨g,0,none⟩) 1 [d]:=by
 refine⟨by simp,by unfold maxLen;omega,.inr ⟨g,0,rfl,hg,?_⟩⟩
 refine rdC_row [d] cs 0 (fun j v hj=>?_) ?_
 · rw [Nat.zero_add,hr.cell];simpa using hj
 · simp only [rdC];exact⟨cs,[],by simp,hl,hd,rfl⟩
theorem slOneRow {w:World} {S:Nat->Prop} {g:Nat} {T:TypeId} {A:Option Addr} {c:Nat} {r:List GNode} (hr:Row w g T #[.slice A r.length c]) (hs:Sl w S 5 A c (r.map GNode.toD)) (hg:S g):Sl w S 1 (some ⟨g,0,none⟩) 1 ([r].map rowD):=
 slOne (cs:=[.slice A r.length c]) hr (by unfold rowD;rw [D.rd_sl];exact⟨A,c,by simp,hs⟩) rfl hg
theorem anyN_rd (w:World) (S:Nat->Prop) (c:Nat) (hc:c<=maxLen) (A:Option Addr):anyN.toD.rd w S [.int .i64 17,.int .i64 0,.string ByteArray.empty,.string ByteArray.empty,.slice A 0 c]:=
 GNode.rd_mk (t:=anyN) ⟨by decide,by decide,by decide,by decide,Sl.nil hc⟩
def Lx (X:Nat->Prop) (w:World):Nat->Prop:=fun b=>b<w.heap.size/\X b
def LTo (X:Nat->Prop) (xs:List GNode) (w:World) (e:Ending) (w':World):Prop:=∃ A c,e= .returned (.slice A xs.length c)/\Sl w' (Lx X w') 5 A c (xs.map GNode.toD)/\Below w.heap.size w w'
def bareA (asks:List GAsk):List GAsk:=asks.filter fun a=>!isAnyB a.pat
def findA (asks:List GAsk) (path:List Int):Int:=idxI (fun a:GAsk=>a.path ==path) asks
def sameP (a b:GNode):Bool:=a.op ==b.op&&(a.s.toList ==b.s.toList&&a.n ==b.n)
def kidsA (path:List Int):Nat->List GNode->List GAsk
 | _,[]=>[]
 | i,k::r=>⟨path++[(i:Int)],k⟩::kidsA path (i+1) r
def yes1 (ask:GAsk) (r:GTrow):Option GTrow:=
 if findA r.asks ask.path<0 then some r
 else match r.asks[(findA r.asks ask.path).toNat]? with
  | some a=>if sameP a.pat ask.pat=true then some ⟨r.alt,r.asks.take (findA r.asks ask.path).toNat++bareA (kidsA ask.path 0 a.pat.kids)++r.asks.drop ((findA r.asks ask.path).toNat+1)⟩ else none
  | none=>none
def yesR (ask:GAsk) (rows:List GTrow):List GTrow:=rows.filterMap (yes1 ask)
def no1 (ask:GAsk) (r:GTrow):Bool:=
 if findA r.asks ask.path<0 then true
 else match r.asks[(findA r.asks ask.path).toNat]? with
  | some a=>!sameP a.pat ask.pat
  | none=>true
def noR (ask:GAsk) (rows:List GTrow):List GTrow:=rows.filter (no1 ask)
def zeroT:GTree:=.mk 0 0 [] ⟨#[]⟩ []
def askT (a:GAsk) (kids:List GTree):GTree:=if a.pat.op=20 then .mk 3 0 a.path a.pat.s kids else .mk 4 a.pat.n a.path ⟨#[]⟩ kids
def growB (g:Nat->List GTrow->GTree × Nat) (many:Nat) (rows:List GTrow):GTree × Nat:=
 if 300<many+1 then(zeroT,many+1)
 else match rows with
  | []=>(.mk 2 0 [] ⟨#[]⟩ [],many+1)
  | r::rest=>match r.asks with
   | []=>(.mk 1 r.alt [] ⟨#[]⟩ [],many+1)
   | a::_=>(askT a [(g (many+1) (yesR a (r::rest))).1,(g (g (many+1) (yesR a (r::rest))).2 (noR a (r::rest))).1],(g (g (many+1) (yesR a (r::rest))).2 (noR a (r::rest))).2)
def growV:Nat->Nat->List GTrow->GTree × Nat
 | 0,many,_=>(zeroT,many+1)
 | k+1,many,rows=>growB (growV k) many rows
theorem growB_less {g:Nat->List GTrow->GTree × Nat} (hg:∀ many rows,many<(g many rows).2) (many:Nat) (rows:List GTrow):many<(growB g many rows).2:=by
 unfold growB
 split
 · exact Nat.lt_succ_self _
 ·
  split
  · exact Nat.lt_succ_self _
  ·
   split
   · exact Nat.lt_succ_self _
   · rename_i r rest _ a t ha
     have h1:=hg (many+1) (yesR a (r::rest))
     have h2:=hg (g (many+1) (yesR a (r::rest))).2 (noR a (r::rest))
     show many<(g (g (many+1) (yesR a (r::rest))).2 (noR a (r::rest))).2
     omega
theorem growV_less:∀ (k many:Nat) (rows:List GTrow),many<(growV k many rows).2
 | 0,many,_=>Nat.lt_succ_self _
 | k+1,many,rows=>growB_less (growV_less k) many rows
def AnyB:Nat->Prop:=fun _=>True
theorem Sl.any {w:World} {B size:Nat} {A:Option Addr} {c:Nat} {xs:List D} (h:Sl w (Lt B) size A c xs) {w':World} (hb:Below B w w') (hB:B<=w'.heap.size) {v:Value} (hv:∀ g,v.ownBlock=some g->B<=g):Sl w' (fun b=>b<w'.heap.size/\v.ownBlock≠some b/\AnyB b) size A c xs:=
 h.keep fun b hb2=>⟨⟨Nat.lt_of_lt_of_le hb2 hB,fun e=>by have:=hv b e;have h3:b<B:=hb2;omega,trivial⟩,hb.block b hb2⟩
theorem own_ge {B g n c:Nat} (hg:(Value.slice (some ⟨B,0,none⟩) n c).ownBlock=some g):B<=g:=by
 have e:B=g:=by simpa [Value.ownBlock] using hg
 omega
def ToInts (l:List Int) (w:World) (e:Ending) (w':World):Prop:=∃ A1 c1,e= .returned (.slice A1 l.length c1)/\Sl w' (Btw w.heap.size w'.heap.size) 1 A1 c1 (l.map (D.num .i64))/\Below w.heap.size w w'
theorem rdC_ints {w w':World} {S S':Nat->Prop}:∀ (l:List Int) (cs:List Value),rdC w 1 S (l.map (D.num .i64)) cs->rdC w' 1 S' (l.map (D.num .i64)) cs
 | [],_,h=>h
 | d::r,cs,h=>by
  simp only [List.map_cons,rdC] at h ⊢
  obtain⟨c1,c2,e,hl,h1,h2⟩:=h
  exact⟨c1,c2,e,hl,D.rd_num.2 (D.rd_num.1 h1),rdC_ints r c2 h2⟩
theorem Grx.slInts {X:Nat->Prop} {w:World} {B:Nat} {e:TypeId} {v:Value} {n:Nat} {l:List Int} (h:Grx X w B e 1 v n (l.map (D.num .i64))):∃ A c,v= .slice A n c/\Sl w (Btw B w.heap.size) 1 A c (l.map (D.num .i64)):=by
 have hlt:=h.own
 obtain⟨h1,cs,h2,h4⟩:=h
 rw [List.length_map] at h1
 rcases h2.2 with ⟨rfl,h⟩ | ⟨g,cap,cur,rfl,a1,a2,a3,a4,a5,a6⟩
 · have:l= []:=List.eq_nil_of_length_eq_zero (by omega)
   subst this
   exact⟨none,0,by rw [h],Sl.nil (by unfold maxLen;omega)⟩
 ·
  refine⟨_,cap,rfl,by rw [List.length_map];omega,a4,.inr ⟨g,0,rfl,hlt g rfl,?_⟩⟩
  refine rdC_row (l.map (D.num .i64)) cs 0 (fun j v hj=>?_) (rdC_ints l cs h4)
  rw [Nat.zero_add,Row.cell (t:=e) (cs:=cur) a2]
  rw [<- a6,List.getElem?_take] at hj
  split at hj
  · simpa using hj
  · cases hj
theorem specDown (path:List Int) (A:Option Addr) (c:Nat) (k:Int) (w:World) (hp:path.length<=1048576) (hk:(Lit.int .i64 k).wf=true) (hs:Sl w (Lt w.heap.size) 1 A c (path.map (D.num .i64))):
 Calls Tryz.prog 92 #[.slice A path.length c,.int .i64 k] w (ToInts (path++[k]) w):=by
 have S0:=LH hs
 have HK:=LH hk
 obtain⟨w0,e0⟩:∃ w0,w0=w.alloc (.cells #[] 3):=⟨_,rfl⟩
 have B0:=LH (show Below w.heap.size w w0 by rw [e0];exact(Below.refl _ _).alloc (Nat.le_refl _) _)
 have G0:=LH (show Grx AnyB w0 w.heap.size 3 1 (.slice (some ⟨w.heap.size,0,none⟩) 0 0) 0 [] from Grx.made (by rw [e0];exact Row.new' _ _ _ rfl) (Nat.le_refl _))
 have EQ:=LH e0
 clear hs hk e0
 go_enter Tryz.func92,Tryz.ntmps92
 have S1:=LH (S0.out.any B0.out B0.out.size (v:=.slice (some ⟨w.heap.size,0,none⟩) 0 0) (fun g hg=>own_ge hg))
 go_wp2_with (first
   | (at_builtin
      rw [<- EQ.out]
      refine wpList_append_X (X:=AnyB) w0 rfl (.tmp 6) (.tmp 7) 28 rfl 3 (.int .i64 0) 1 8 Tryz.underlying28 (by kernel_rfl) rfl (by omega) w.heap.size (.slice (some ⟨w.heap.size,0,none⟩) 0 0) 0 _ G0.out A c path.length _ (by simp) S1.out B0.out.size (by unfold maxLen;omega) (by omega) rfl rfl ?_
      intro A4 c4 w4 G4 hGr4
      have HG:=LH (show Grx AnyB w4 w.heap.size 3 1 (.slice A4 path.length c4) path.length (path.map (D.num .i64)) by simpa using G4)
      have HO:=LH (fun g hg=>(HG.out.own g hg))
      have B4:=LH (B0.out.trans (hGr4.below B0.out.size (fun g hg=>(G0.out.own g hg).1)))
      have HE:=LH (show Value.slice A4 (0+path.length) c4= .slice A4 path.length c4 by rw [Nat.zero_add])
      clear G4 hGr4
      rw [HE.out]
      have E5:=LH (show Below w4.heap.size w4 (w4.alloc (.cells #[.int .i64 k] 3)) from(Below.refl _ _).alloc (Nat.le_refl _) _)
      have G5:=LH (HG.out.below E5.out)
      have B5:=LH (B4.out.trans (E5.out.mono B4.out.size))
      have S5:=LH (show Sl (w4.alloc (.cells #[.int .i64 k] 3)) (fun b=>b<(w4.alloc (.cells #[.int .i64 k] 3)).heap.size/\(Value.slice A4 path.length c4).ownBlock≠some b/\AnyB b) 1 (some ⟨w4.heap.size,0,none⟩) 1 [D.num .i64 k] from
        slOne (T:=3) (cs:=[.int .i64 k]) (Row.new' _ _ _ rfl) (D.rd_num.2 ⟨rfl,HK.out⟩) rfl ⟨by simp,fun e=>by have:=(HO.out _ e).2;omega,trivial⟩))
   | (at_builtin
      refine wpList_append_X (X:=AnyB) (w4.alloc (.cells #[.int .i64 k] 3)) rfl (.tmp 9) (.tmp 11) 28 rfl 3 (.int .i64 0) 1 8 Tryz.underlying28 (by kernel_rfl) rfl (by omega) w.heap.size (.slice A4 path.length c4) path.length _ G5.out (some ⟨w4.heap.size,0,none⟩) 1 1 _ rfl S5.out B5.out.size (by unfold maxLen;omega) (by omega) rfl rfl ?_
      intro A6 c6 w6 G6 hGr6
      have B6:=LH (B5.out.trans (hGr6.below B5.out.size (fun g hg=>(HO.out g hg).1)))
      have HF:=LH (show ToInts (path++[k]) w (.returned (.slice A6 (path.length+1) c6)) w6 by
        obtain⟨A7,c7,e7,S7⟩:=Grx.slInts (l:=path++[k]) (by rw [List.map_append];exact G6)
        exact⟨A7,c7,by rw [List.length_append];exact congrArg Ending.returned e7,S7,B6.out⟩)
      clear G6 hGr6))
 go_ret
 exact Hid.out (by assumption)
theorem specPathEq (a b:List Int) (A:Option Addr) (c:Nat) (B:Option Addr) (d:Nat) (w:World) (ha:Sl w (Lt w.heap.size) 1 A c (a.map (D.num .i64))) (hb:Sl w (Lt w.heap.size) 1 B d (b.map (D.num .i64))):
 Calls Tryz.prog 117 #[.slice A a.length c,.slice B b.length d] w fun e w'=>e= .returned (.bool (a ==b))/\Below w.heap.size w w':=by
 have SA:=LH ha
 have SB:=LH hb
 have hla:a.length<=9223372036854775807:=by simpa using ha.len
 have hlb:b.length<=9223372036854775807:=by simpa using hb.len
 clear ha hb
 go_enter Tryz.func117,Tryz.ntmps117
 go_wp2_with fail
 go_loopw [5] (fun i wr=>∃ (j:Nat),j<=a.length/\j<=b.length/\i= .int .i64 j/\Hid (∀ i,(h1:i<a.length)->(h2:i<b.length)->i<j->a[i]=b[i])/\Below w.heap.size w wr) (fun i _=>a.length - (intOf i).toNat)
 case atStart=>exact⟨0,by omega,by omega,by go_num,LH (fun i _ _ h=>by omega),Below.refl _ _⟩
 case round=>
  obtain⟨j,hj,hj2,rfl,HE,hbl⟩:=hrel
  by_cases hlt:j<a.length
  ·
   have d1:decide ((j:Int)<(a.length:Int))=true:=decide_eq_true (by omega)
   by_cases hlt2:j<b.length
   ·
    have d2:decide ((j:Int)<(b.length:Int))=true:=decide_eq_true (by omega)
    obtain⟨b1,f1,rfl,hS1,g1,_⟩:=int_elem (SA.out.below hbl (Nat.le_refl _)) j hlt
    obtain⟨b2,f2,rfl,hS2,g2,_⟩:=int_elem (SB.out.below hbl (Nat.le_refl _)) j hlt2
    cases he:(a[j] ==b[j])
    ·
     have he2:(a[j] != b[j])=true:=by rw [bne,he];rfl
     have HV:=LH (show(a ==b)=false by
       rw [beq_eq_false_iff_ne]
       intro e
       rw [beq_eq_false_iff_ne] at he
       exact he (by simp [e]))
     go_wp2_with fail
     go_quiet (fail)
     go_wp2_with fail
     go_ret
     exact⟨ret_bool HV.out.symm,hbl.os,hbl.tape,hbl.output,hbl.size,hbl.block⟩
    ·
     have he2:(a[j] != b[j])=false:=by rw [bne,he];rfl
     have HE2:=LH (fun i (h1:i<a.length) (h2:i<b.length) (hij:i<j+1)=>show a[i]=b[i] by
       by_cases hh:i<j
       · exact HE.out i h1 h2 hh
       · obtain rfl:i=j:=by omega
         simpa using he)
     go_wp2_with fail
     go_quiet (fail)
     go_wp2_with fail
     go_roundw
     case rel=>exact⟨j+1,by omega,by omega,by go_num,HE2,⟨hbl.os,hbl.tape,hbl.output,hbl.size,hbl.block⟩⟩
     case measure=>simp [intOf];omega
   ·
    have d3:((a.length:Int) ==(b.length:Int))=false:=by rw [beq_eq_false_iff_ne];omega
    have HV:=LH (show(a ==b)=false by
      rw [beq_eq_false_iff_ne]
      intro e
      rw [e] at hlt
      omega)
    go_wp2_with fail
    go_ret
    exact⟨ret_bool HV.out.symm,hbl⟩
  ·
   by_cases hll:a.length=b.length
   ·
    have d3:((a.length:Int) ==(b.length:Int))=true:=by rw [beq_iff_eq];omega
    have HV:=LH (show(a ==b)=true by
      rw [beq_iff_eq]
      exact List.ext_getElem hll fun i h1 h2=>HE.out i h1 h2 (by omega))
    clear hll
    go_wp2_with fail
    go_ret
    exact⟨ret_bool HV.out.symm,hbl⟩
   ·
    have d3:((a.length:Int) ==(b.length:Int))=false:=by rw [beq_eq_false_iff_ne];omega
    have HV:=LH (show(a ==b)=false by
      rw [beq_eq_false_iff_ne]
      intro e
      exact hll (by rw [e]))
    go_wp2_with fail
    go_ret
    exact⟨ret_bool HV.out.symm,hbl⟩
set_option maxHeartbeats 400000
def zNode:Value:=.agg #[.int .i64 0,.int .i64 0,.string ⟨#[]⟩,.string ⟨#[]⟩,.slice none 0 0]
set_option maxHeartbeats 1000000
theorem anySl (X:Nat->Prop) (w:World) (hX:∀ b,w.heap.size<=b->X b) (v:Value) (hv:∀ g,v.ownBlock=some g->g<w.heap.size):
 Sl (w.alloc (.cells #[.int .i64 17,.int .i64 0,.string ByteArray.empty,.string ByteArray.empty,.slice none 0 0] 49)) (fun b=>b<(w.alloc (.cells #[.int .i64 17,.int .i64 0,.string ByteArray.empty,.string ByteArray.empty,.slice none 0 0] 49)).heap.size/\v.ownBlock≠some b/\X b) 5 (some ⟨w.heap.size,0,none⟩) 1 ([anyN].map GNode.toD):=
 slOne (T:=49) (cs:=[.int .i64 17,.int .i64 0,.string ByteArray.empty,.string ByteArray.empty,.slice none 0 0]) (Row.new' _ _ _ rfl) (anyN_rd _ _ 0 (Nat.zero_le _) none) rfl ⟨by simp,fun e=>by have:=hv _ e;omega,hX _ (Nat.le_refl _)⟩
theorem specAny (X:Nat->Prop) (n:Nat) (row:List GNode) (A:Option Addr) (c:Nat) (w:World) (hX:∀ b,w.heap.size<=b->X b) (hn:n+row.length<=1099511627776) (hs:Sl w (Lx X w) 5 A c (row.map GNode.toD)):
 Calls Tryz.prog 25 #[.int .i64 n,.slice A row.length c] w (LTo X (List.replicate n anyN++row) w):=by
 have HX:=LH hX
 have HS:=LH hs
 obtain⟨w0,e0⟩:∃ w0,w0=w.alloc (.cells #[] 49):=⟨_,rfl⟩
 have E0:=LH (show Below w.heap.size w w0 by rw [e0];exact(Below.refl _ _).alloc (Nat.le_refl _) _)
 have G0:=LH (show Grx X w0 w.heap.size 49 5 (.slice (some ⟨w.heap.size,0,none⟩) 0 0) 0 [] from Grx.made (by rw [e0];exact Row.new' _ _ _ rfl) (Nat.le_refl _))
 clear hX hs
 go_enter Tryz.func25,Tryz.ntmps25
 go_wp2_with fail
 rw [<- e0]
 clear e0
 go_loopw [5,6] (fun v i wr=>∃ (j:Nat) (A:Option Addr) (c:Nat),j<=n/\i= .int .i64 j/\v= .slice A j c/\Hid (Grx X wr w.heap.size 49 5 (.slice A j c) j ((List.replicate j anyN).map GNode.toD))/\Hid (Below w.heap.size w wr)) (fun _ i _=>n - (intOf i).toNat)
 case atStart=>exact⟨0,_,_,by omega,by go_num,rfl,G0,E0⟩
 case round=>
  obtain⟨j,A',c',hj,rfl,rfl,HG,HB⟩:=hrel
  have hsz:=HB.out.size
  have HOW:=LH (fun g (hg:(Value.slice A' j c').ownBlock=some g)=>HG.out.own g hg)
  by_cases hlt:j<n
  ·
   have hji:(j:Int)<(n:Int):=by omega
   have EA:=LH (show Below wr.heap.size wr (wr.alloc (.cells #[.int .i64 17,.int .i64 0,.string ByteArray.empty,.string ByteArray.empty,.slice none 0 0] 49)) from(Below.refl _ _).alloc (Nat.le_refl _) _)
   have GA:=LH (HG.out.below EA.out)
   have TA:=LH (anySl X wr (fun b hb=>HX.out b (Nat.le_trans hsz hb)) (.slice A' j c') (fun g hg=>(HOW.out g hg).2))
   have hBA:=Nat.le_trans hsz EA.out.size
   go_wp2_with (first | (at_builtin;refine wpList_append_X (wr.alloc (.cells #[.int .i64 17,.int .i64 0,.string ByteArray.empty,.string ByteArray.empty,.slice none 0 0] 49)) rfl (.tmp 13) (.tmp 15) 25 rfl 49 zNode 5 72 Tryz.underlying25 (by kernel_rfl) rfl (by omega) w.heap.size (.slice A' j c') j _ GA.out (some ⟨wr.heap.size,0,none⟩) 1 1 _ rfl TA.out hBA (by unfold maxLen;omega) (by omega) rfl rfl ?_;intro A4 c4 w4 G4 hGr4;have G4h:=LH G4;have B4:=LH ((HB.out.trans (EA.out.mono hsz)).trans (hGr4.below hBA (fun g hg=>(HOW.out g hg).1)));clear G4 hGr4))
   go_roundw
   case rel=>exact⟨j+1,A4,c4,by omega,by go_num,rfl,LH (by rw [List.replicate_succ',List.map_append];exact G4h.out),B4⟩
   case measure=>simp [intOf];omega
  ·
   have hjn:j=n:=by omega
   have HJ:=LH hjn
   have TA:=LH (show Sl wr (fun b=>b<wr.heap.size/\(Value.slice A' j c').ownBlock≠some b/\X b) 5 A c (row.map GNode.toD) from HS.out.keep fun b hb=>⟨⟨Nat.lt_of_lt_of_le hb.1 hsz,fun e=>by have:=(HOW.out b e).1;have:=hb.1;omega,hb.2⟩,HB.out.block b hb.1⟩)
   clear hjn
   go_wp2_with (first | (at_builtin;refine wpList_append_X wr rfl (.tmp 17) (.tmp 18) 25 rfl 49 zNode 5 72 Tryz.underlying25 (by kernel_rfl) rfl (by omega) w.heap.size (.slice A' j c') j _ HG.out A c row.length _ (by simp) TA.out hsz (by unfold maxLen;omega) (by omega) rfl rfl ?_;intro A4 c4 w4 G4 hGr4;have G4h:=LH G4;have B4:=LH (HB.out.trans (hGr4.below hsz (fun g hg=>(HOW.out g hg).1)));clear G4 hGr4))
   go_ret
   obtain⟨A5,c5,e5,hs5⟩:=G4h.out.sl HX.out
   obtain⟨rfl,rfl⟩:A4=A5/\c4=c5:=by simpa using e5
   refine⟨A4,c4,by rw [HJ.out];simp,?_,B4.out⟩
   rw [List.map_append,<- HJ.out]
   exact hs5
theorem Sl.stay {X:Nat->Prop} {w w':World} {size:Nat} {A:Option Addr} {c:Nat} {xs:List D} (h:Sl w (Lx X w) size A c xs) (hb:Below w.heap.size w w'):Sl w' (Lx X w) size A c xs:=h.keep fun b hb'=>⟨hb',hb.block b hb'.1⟩
theorem ret_sl {A:Option Addr} {n m c:Nat} (h:n=m):Ending.returned (.slice A n c)= .returned (.slice A m c):=by rw [h]
theorem flat_take {α:Type} (ls:List (List α)) {j:Nat} (h:j<ls.length):(ls.take (j+1)).flatten=(ls.take j).flatten++ls[j]:=by
 rw [take_snoc' ls j h,List.flatten_append];simp
theorem flat_le {α:Type} (ls:List (List α)) (j:Nat):(ls.take j).flatten.length<=ls.flatten.length:=by
 conv=>rhs;rw [<- List.take_append_drop j ls]
 rw [List.flatten_append,List.length_append];omega
theorem isAny_ne {p:GNode} (h1:(p.op ==20)=false) (h2:(p.op ==19)=false):isAnyB p=true:=by unfold isAnyB;simp [bne,h1,h2]
theorem isAny_con {p:GNode} (h1:(p.op ==20)=true):isAnyB p=false:=by unfold isAnyB;simp [bne,h1]
theorem isAny_num {p:GNode} (h1:(p.op ==19)=true):isAnyB p=false:=by unfold isAnyB;simp [bne,h1]
theorem implIsAny (p:GNode) (A1:Option Addr) (c1:Nat) (w:World):
 Calls Tryz.prog 55 #[.agg #[.int .i64 p.op,.int .i64 p.n,.string p.s,.string p.t,.slice A1 p.kids.length c1]] w fun e w'=>e= .returned (.bool (isAnyB p))/\Below w.heap.size w w':=by
 have B:=LH (show Below w.heap.size w (w.alloc (.cells #[.int .i64 p.op,.int .i64 p.n,.string p.s,.string p.t,.slice A1 p.kids.length c1] 49)) from(Below.refl _ _).alloc (Nat.le_refl _) _)
 cases h20:(p.op ==20)
 case' true=>
  have HV:=LH (isAny_con h20)
  have n20:(p.op != 20)=false:=by simp [bne,h20]
 case' false=>
  have n20:(p.op != 20)=true:=by simp [bne,h20]
  cases h19:(p.op ==19)
  case' true=>
   have HV:=LH (isAny_num h19)
   have n19:(p.op != 19)=false:=by simp [bne,h19]
  case' false=>
   have HV:=LH (isAny_ne h20 h19)
   have n19:(p.op != 19)=true:=by simp [bne,h19]
 all_goals
  go_enter Tryz.func55,Tryz.ntmps55
  go_wp2_with fail
  go_ret
  exact⟨ret_bool HV.out.symm,B.out⟩
def zRow:Value:=.slice none 0 0
theorem oneRow {X:Nat->Prop} {w w':World} {A1:Option Addr} {c1:Nat} {r:List GNode} {T:TypeId} (v:Value) (hv:∀ g,v.ownBlock=some g->g<w.heap.size) (hX:X w.heap.size) (e:w'=w.alloc (.cells #[.slice A1 r.length c1] T)) (hs:Sl w (fun b=>b<w.heap.size/\v.ownBlock≠some b/\X b) 5 A1 c1 (r.map GNode.toD)):
 Sl w' (fun b=>b<w'.heap.size/\v.ownBlock≠some b/\X b) 1 (some ⟨w.heap.size,0,none⟩) 1 ([r].map rowD):=by
 subst e
 have hB:Below w.heap.size w (w.alloc (.cells #[.slice A1 r.length c1] T)):=(Below.refl _ _).alloc (Nat.le_refl _) _
 exact slOneRow (Row.new w T #[.slice A1 r.length c1]) (hs.keep fun b hb=>⟨⟨Nat.lt_of_lt_of_le hb.1 hB.size,hb.2⟩,hB.block b hb.1⟩) ⟨by simp,fun h=>by have:=hv _ h;omega,hX⟩
end Go.Proofs.YtamfolaicncblaaGreat
