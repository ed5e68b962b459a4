/- Texts of the claim LTags in one: Dp ConTag. Conditions: none but bounds on sizes. -/
import Derived.Test.YtgbjdhfaklmjcaaGreatZLTags18
import Derived.Laws.OwnMore
import Derived.Test.YtgbjdhfaklmjcaaGreatRows
import Derived.Test.YtgbjdhfaklmjcaaGreatZLTags0
import Derived.Lib.Hide
import Derived.Test.YtgbjdhfaklmjcaaGreatZLTags1
namespace Go.Proofs.YtgbjdhfaklmjcaaGreat
set_option maxRecDepth 20000
set_option linter.unusedVariables false
set_option linter.unusedSimpArgs false
open Go.RowKit
theorem DgR.grx {w:World} {lo hi:Nat} {v:Value} {l:List GData} (h:DgR w lo hi v l) (hh:hi<=w.heap.size):Grx (fun q=>lo<=q) w lo 40 3 v l.length (l.map GData.toD):=by
 obtain⟨cells,h1,h2,h3⟩:=h
 exact⟨by simp,cells,h1,rdC_keep (fun q hq=>⟨⟨Nat.lt_of_lt_of_le hq.2.1 hh,hq.2.2,hq.1⟩,rfl⟩) _ _ (gdL_rd l _ cells h3)⟩
theorem DgR.put {w:World} {lo hi c:Nat} {A:Option Addr} {l:List GData} (h:DgR w lo hi (.slice A l.length c) l) (i:Nat) (hil:i<l.length):∃ (db:Nat) (v:Value) (S1:Nat->Prop),A=some ⟨db,0,none⟩/\(lo<=db/\db<hi/\db<w.heap.size)/\(w.cell? ⟨db,i*3,none⟩=some (.string l[i].name)/\w.cell? ⟨db,i*3+1,none⟩=some (.int .i64 l[i].vars)/\w.cell? ⟨db,i*3+2,none⟩=some v)/\(∀ o,w.frozen? ⟨db,o,none⟩=false)/\gdO w S1 l[i] v/\(∀ x,S1 x->lo<=x/\x<hi/\x≠db)/\
 ∀ (w':World) (d':GData) (v' u:Value) (k:Nat),k<3->[Value.string d'.name,.int .i64 d'.vars,v']= [Value.string l[i].name,.int .i64 l[i].vars,v].set k u->(∀ cur,Row w db 40 cur->Row w' db 40 (cur.setIfInBounds (i*3+k) u))->w.heap.size<=w'.heap.size->hi<=w'.heap.size->(∀ q,lo<=q->q<hi->q≠db->¬ S1 q->w'.heap[q]? =w.heap[q]?)->d'.toD.rd w' (fun q=>q<w'.heap.size/\q≠db/\lo<=q) [.string d'.name,.int .i64 d'.vars,v']->
  Grx (fun q=>lo<=q) w' lo 40 3 (.slice A l.length c) l.length ((l.set i d').map GData.toD):=by
 obtain⟨cells,h1,h2,h3⟩:=h
 have hlt:=h1.lt
 have hcl:=gdL_length l _ cells h3
 obtain⟨v,S1,k1,⟨e0,e1,e2⟩,k3,k4⟩:=gdL_set l _ cells h3 i hil
 rcases h1.2 with ⟨e,h0⟩ | ⟨g,cap,cur,e,a1,a2,a3,a4,a5,a6⟩
 · omega
 cases e
 have hc:∀ (j:Nat) (x:Value),cells[j]? =some x->w.cell? ⟨g,j,none⟩=some x:=fun j x hx=>by
  have hj:j<l.length*3:=by
   rcases Nat.lt_or_ge j cells.length with h | h
   · omega
   · rw [List.getElem?_eq_none h] at hx;cases hx
  rw [h1.cellAt j hj]
  exact hx
 refine⟨g,v,S1,rfl,⟨a1,h2 g rfl,(hlt g rfl).2⟩,⟨hc _ _ e0,hc _ _ e1,hc _ _ e2⟩,fun o=>h1.frozenAt o,k3,fun x hx=>⟨(k1 x hx).1,(k1 x hx).2.1,fun e=>(k1 x hx).2.2 (by rw [e];rfl)⟩,fun w' d' v' u k hk hset hdb hs hh hq hd=>?_⟩
 have hst:=(h1.stored (i*3+k) u).1
 have hm:∀ m,m<3->(cells.set (i*3+k) u)[i*3+m]? =([Value.string l[i].name,.int .i64 l[i].vars,v].set k u)[m]?:=fun m hm=>by
  have hcm:cells[i*3+m]? = [Value.string l[i].name,.int .i64 l[i].vars,v][m]?:=by
   match m,hm with
   | 0,_=>exact e0
   | 1,_=>exact e1
   | 2,_=>exact e2
  by_cases he:k=m
  · subst he
    rw [List.getElem?_set_self (by omega),List.getElem?_set_self (by simpa using hk)]
  · rw [List.getElem?_set_ne (by omega),List.getElem?_set_ne he,hcm]
 refine⟨by simp,_,own_kp hst fun b hb _ _=>?_,k4 w' _ d' v' _ (D.rd_keep (fun b hb=>⟨⟨hb.1,fun e=>by cases e;exact hb.2.1 rfl,hb.2.2⟩,rfl⟩) _ _ hd) (fun b hb hn=>?_) (by simp) (fun j hj=>?_) ?_ ?_ ?_⟩
 · cases hb
   have h1:Row w' g 40 (cur.setIfInBounds (i*3+k) u):=hdb cur a2
   have h2:Row (w.setCell ⟨g,i*3+k,none⟩ u) g 40 (cur.setIfInBounds (i*3+k) u):=Row.set (w:=w) (g:=g) (t:=40) (cs:=cur) a2 (i*3+k) u
   exact Eq.trans h1 (Eq.symm h2)
 · exact⟨⟨by have:=hb.2.1;omega,hb.2.2,hb.1⟩,hq b hb.1 hb.2.1 (fun e=>hb.2.2 (by rw [e];rfl)) hn⟩
 · exact List.getElem?_set_ne (by omega)
 · exact(hm 0 (by omega)).trans (by rw [<- hset];rfl)
 · exact(hm 1 (by omega)).trans (by rw [<- hset];rfl)
 · exact(hm 2 (by omega)).trans (by rw [<- hset];rfl)
set_option maxHeartbeats 1000000
theorem name_ne {a b:ByteArray} (h:¬ a=b):(a.toList ==b.toList)=false:=by
 rw [beq_eq_false_iff_ne];intro e;apply h;rw [ByteArray.toList_eq,ByteArray.toList_eq] at e;exact ByteArray.ext (Array.toList_inj.1 e)
def tagIn (s:ByteArray):List GCon->Nat->Option Nat
 | [],_=>none
 | c::r,n=>if c.name=s then some n else tagIn s r (n+1)
def tagOf (s:ByteArray):List GData->Nat->Option Nat
 | [],_=>none
 | d::r,n=>match tagIn s d.cons n with
  | some x=>some x
  | none=>tagOf s r (n+d.cons.length)
def tagI:Option Nat->Int
 | some n=>n
 | none=> -1
def consN:List GData->Nat | []=>0 | d::r=>d.cons.length+consN r
theorem tagIn_hit {s:ByteArray} {l:List GCon} {k n:Nat} (h:k<l.length) (e:l[k].name=s):tagIn s (l.drop k) n=some n:=by
 rw [List.drop_eq_getElem_cons h,tagIn,if_pos e]
theorem tagIn_miss {s:ByteArray} {l:List GCon} {k n:Nat} (h:k<l.length) (e:¬ l[k].name=s):tagIn s (l.drop k) n=tagIn s (l.drop (k+1)) (n+1):=by
 rw [List.drop_eq_getElem_cons h,tagIn,if_neg e]
theorem tagOf_hit {s:ByteArray} {l:List GData} {j n m:Nat} (h:j<l.length) (e:tagIn s l[j].cons n=some m):tagOf s (l.drop j) n=some m:=by
 rw [List.drop_eq_getElem_cons h,tagOf,e]
theorem tagOf_miss {s:ByteArray} {l:List GData} {j n:Nat} (h:j<l.length) (e:tagIn s l[j].cons n=none):tagOf s (l.drop j) n=tagOf s (l.drop (j+1)) (n+l[j].cons.length):=by
 rw [List.drop_eq_getElem_cons h,tagOf,e]
theorem consN_drop {l:List GData} {j:Nat} (h:j<l.length):consN (l.drop j)=l[j].cons.length+consN (l.drop (j+1)):=by
 rw [List.drop_eq_getElem_cons h,consN]
theorem specConTag (l:List GData) (A:Option Addr) (c:Nat) (s:ByteArray) (w:World) (hm:consN l<=1048576) (hs:Sl w (Lt w.heap.size) 3 A c (l.map GData.toD)):
 Calls Tryz.prog 14 #[.slice A l.length c,.string s] w fun e w'=>e= .returned (.int .i64 (tagI (tagOf s l 0)))/\Below w.heap.size w w':=by
 have hlen:l.length<=9223372036854775807:=by simpa using hs.len
 have S0:=LH hs
 clear hs
 go_enter Tryz.func14,Tryz.ntmps14
 go_wp2_with fail
 go_loopw [5,6] (fun n i wr=>∃ (j m:Nat),j<=l.length/\i= .int .i64 j/\n= .int .i64 m/\Hid (tagOf s l 0=tagOf s (l.drop j) m)/\m+consN (l.drop j)<=1048576/\Below w.heap.size w wr) (fun _ i _=>l.length - (intOf i).toNat)
 case atStart=>exact⟨0,0,by omega,by go_num,by go_num,LH rfl,by simpa using hm,Below.refl _ _⟩
 case round=>
  obtain⟨j,m,hj,rfl,rfl,HT,hbd,hbl⟩:=hrel
  have hsz:=hbl.size
  by_cases hlt:j<l.length
  ·
   obtain⟨b,off,A1,c1,rfl,hSb,g0,g1,g2,hat⟩:=GData.elem (S0.out.below hbl (Nat.le_refl _)) j hlt
   have S1:=LH hat.2.2
   have hcl:(l[j]).cons.length<=9223372036854775807:=by simpa using hat.2.2.len
   have hcd:=consN_drop hlt
   have hbd1:m+(l[j]).cons.length<=1048576:=by omega
   have hbd2:(m+(l[j]).cons.length)+consN (l.drop (j+1))<=1048576:=by omega
   clear hcd hat
   go_wp2_with fail
   go_loopw [5,7] (fun n i wr2=>∃ (k:Nat),k<=(l[j]).cons.length/\i= .int .i64 k/\n= .int .i64 ((m+k:Nat):Int)/\Hid (tagIn s (l[j]).cons m=tagIn s ((l[j]).cons.drop k) (m+k))/\Below w.heap.size w wr2) (fun _ i _=>(l[j]).cons.length - (intOf i).toNat)
   case atStart=>exact⟨0,by omega,by go_num,by go_num,LH rfl,hbl⟩
   case round=>
    obtain⟨k,hk,rfl,rfl,HI,hbk⟩:=hrel
    obtain⟨b',off',A1',c1',eA,hSb',q0,q1,q2,hat'⟩:=GData.elem (S0.out.below hbk (Nat.le_refl _)) j hlt
    obtain⟨rfl,rfl⟩:b=b'/\off=off':=by simpa using eA
    by_cases hkt:k<(l[j]).cons.length
    ·
     obtain⟨b2,off2,A2,c2,rfl,hSb2,p0,p1,hat2⟩:=GCon.elem hat'.2.2 k hkt
     by_cases he:((l[j]).cons[k]).name=s
     · have HV:=LH (show tagOf s l 0=some (m+k) from HT.out.trans (tagOf_hit hlt (HI.out.trans (tagIn_hit hkt he))))
       have hbe:(((l[j]).cons[k]).name.toList ==s.toList)=true:=by rw [he];simp
       clear he
       go_wp2_with fail
       go_ret
       exact⟨ret_int (by rw [HV.out];rfl),hbk⟩
     · have HI2:=LH (HI.out.trans (tagIn_miss hkt he))
       have hbe:(((l[j]).cons[k]).name.toList ==s.toList)=false:=name_ne he
       clear he
       go_wp2_with fail
       go_roundw
       case rel=>exact⟨k+1,by omega,by go_num,by go_num,HI2,hbk⟩
       case measure=>simp [intOf];omega
    · have hkl:k=(l[j]).cons.length:=by omega
      have HO:=LH (tagOf_miss (s:=s) (n:=m) hlt (HI.out.trans (by rw [hkl,List.drop_length];rfl)))
      have Hk:=LH hkl
      clear hkl
      go_wp2_with fail
      go_roundw
      case rel=>exact⟨j+1,m+k,by omega,by go_num,by go_num,LH (by rw [Hk.out];exact HT.out.trans HO.out),by rw [Hk.out];exact hbd2,hbk⟩
      case measure=>simp [intOf];omega
  · have hjl:j=l.length:=by omega
    have Hj:=LH hjl
    clear hjl
    go_wp2_with fail
    go_ret
    exact⟨ret_int (by rw [HT.out,Hj.out,List.drop_length];rfl),hbl⟩
theorem implConTag (l:List GData) (A:Option Addr) (c:Nat) (s:ByteArray) (w:World) (hm:consN l<=1048576) (hs:Sl w (Lt w.heap.size) 3 A c (l.map GData.toD)):
 Calls Tryz.prog 6 #[.slice A l.length c,.string s] w fun e w'=>e= .returned (.int .i64 (tagI (tagOf s l 0)))/\Below w.heap.size w w':=by
 have hlen:l.length<=9223372036854775807:=by simpa using hs.len
 have S0:=LH hs
 clear hs
 go_enter Tryz.func6,Tryz.ntmps6
 go_wp2_with fail
 go_loopw [5,12] (fun n i wr=>∃ (j m:Nat),j<=l.length/\i= .int .i64 j/\n= .int .i64 m/\Hid (tagOf s l 0=tagOf s (l.drop j) m)/\m+consN (l.drop j)<=1048576/\Below w.heap.size w wr) (fun _ i _=>l.length - (intOf i).toNat)
 case atStart=>exact⟨0,0,by omega,by go_num,by go_num,LH rfl,by simpa using hm,Below.refl _ _⟩
 case round=>
  obtain⟨j,m,hj,rfl,rfl,HT,hbd,hbl⟩:=hrel
  have hsz:=hbl.size
  by_cases hlt:j<l.length
  ·
   obtain⟨b,off,A1,c1,rfl,hSb,g0,g1,g2,hat⟩:=GData.elem (S0.out.below hbl (Nat.le_refl _)) j hlt
   have S1:=LH hat.2.2
   have hcl:(l[j]).cons.length<=9223372036854775807:=by simpa using hat.2.2.len
   have hcd:=consN_drop hlt
   have hbd1:m+(l[j]).cons.length<=1048576:=by omega
   have hbd2:(m+(l[j]).cons.length)+consN (l.drop (j+1))<=1048576:=by omega
   clear hcd hat
   go_wp2_with fail
   go_loopw [5,19] (fun n i wr2=>∃ (k:Nat),k<=(l[j]).cons.length/\i= .int .i64 k/\n= .int .i64 ((m+k:Nat):Int)/\Hid (tagIn s (l[j]).cons m=tagIn s ((l[j]).cons.drop k) (m+k))/\Hid (Sl wr2 (Lt w.heap.size) 2 A1 c1 ((l[j]).cons.map GCon.toD))/\Below w.heap.size w wr2) (fun _ i _=>(l[j]).cons.length - (intOf i).toNat)
   case atStart=>exact⟨0,by omega,by go_num,by go_num,LH rfl,LH (S1.out.below ((Below.refl _ _).alloc hsz _) (Nat.le_refl _)),hbl.alloc hsz _⟩
   case round=>
    obtain⟨k,hk,rfl,rfl,HI,S2,hbk⟩:=hrel
    have hsz2:=hbk.size
    by_cases hkt:k<(l[j]).cons.length
    ·
     obtain⟨b2,off2,A2,c2,rfl,hSb2,p0,p1,hat2⟩:=GCon.elem S2.out k hkt
     by_cases he:((l[j]).cons[k]).name=s
     · have HV:=LH (show tagOf s l 0=some (m+k) from HT.out.trans (tagOf_hit hlt (HI.out.trans (tagIn_hit hkt he))))
       have hbe:(((l[j]).cons[k]).name.toList ==s.toList)=true:=by rw [he];simp
       clear he
       go_wp2_with fail
       go_ret
       exact⟨ret_int (by rw [HV.out];rfl),hbk.alloc hsz2 _⟩
     · have HI2:=LH (HI.out.trans (tagIn_miss hkt he))
       have hbe:(((l[j]).cons[k]).name.toList ==s.toList)=false:=name_ne he
       clear he
       go_wp2_with fail
       go_roundw
       case rel=>exact⟨k+1,by omega,by go_num,by go_num,HI2,LH (S2.out.below ((Below.refl _ _).alloc hsz2 _) (Nat.le_refl _)),hbk.alloc hsz2 _⟩
       case measure=>simp [intOf];omega
    · have hkl:k=(l[j]).cons.length:=by omega
      have HO:=LH (tagOf_miss (s:=s) (n:=m) hlt (HI.out.trans (by rw [hkl,List.drop_length];rfl)))
      have Hk:=LH hkl
      clear hkl
      go_wp2_with fail
      go_roundw
      case rel=>exact⟨j+1,m+k,by omega,by go_num,by go_num,LH (by rw [Hk.out];exact HT.out.trans HO.out),by rw [Hk.out];exact hbd2,hbk⟩
      case measure=>simp [intOf];omega
  · have hjl:j=l.length:=by omega
    have Hj:=LH hjl
    clear hjl
    go_wp2_with fail
    go_ret
    exact⟨ret_int (by rw [HT.out,Hj.out,List.drop_length];rfl),hbl⟩
end Go.Proofs.YtgbjdhfaklmjcaaGreat
