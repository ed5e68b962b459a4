/- Texts of the claim LTreesRight in one: TrE. Conditions: none but bounds on sizes. -/
import Derived.Test.YtamfolaicncblaaGreatZLTreesRight18
import Derived.Test.YtamfolaicncblaaGreatZLTreesRight3
import Derived.Deep.CutRange
import Derived.Test.YtamfolaicncblaaGreatZLTreesRight2
namespace Go.Proofs.YtamfolaicncblaaGreat
set_option maxRecDepth 20000
set_option linter.unusedVariables false
set_option linter.unusedSimpArgs false
open Go.RowKit
set_option maxHeartbeats 1000000
theorem yesR_take {a:GAsk} {rows:List GTrow} {j:Nat} (h:j<rows.length):yesR a (rows.take (j+1))=yesR a (rows.take j)++(yes1 a rows[j]).toList:=by
 unfold yesR;rw [take_snoc' rows j h,List.filterMap_append];cases hr:yes1 a rows[j]<;>simp [hr]
def Xw1 (v:Value) (Y:Nat->Prop):Nat->Prop:=fun b=>v.ownBlock≠some b/\Y b
def Xn (n:Nat) (v:Value) (Y:Nat->Prop):Nat->Prop:=fun b=>b≠n/\v.ownBlock≠some b/\Y b
theorem Grx.keepN {V:Value} {Y:Nat->Prop} {w w':World} {B n size:Nat} {e:TypeId} {v:Value} {m:Nat} {xs:List D} (h:Grx (Xn n V Y) w B e size v m xs) (hv:v.ownBlock≠some n) (hs:w.heap.size<=w'.heap.size) (hk:∀ b,b<w.heap.size->b≠n->w'.heap[b]? =w.heap[b]?):Grx (Xn n V Y) w' B e size v m xs:=by
 have ho:=h.own
 obtain⟨h1,cs,h2,h4⟩:=h
 refine⟨h1,cs,⟨h2.1,?_⟩,rdC_keep (fun b hb=>⟨⟨Nat.lt_of_lt_of_le hb.1 hs,hb.2⟩,hk b hb.1 hb.2.2.1⟩) xs cs h4⟩
 rcases h2.2 with h | ⟨g,cap,cur,rfl,a1,a2,a3⟩
 · exact .inl h
 · exact .inr ⟨g,cap,cur,rfl,a1,(hk g (ho g rfl).2 (fun e=>hv (by rw [<- e];rfl))).trans a2,a3⟩
theorem Grx.toN {V:Value} {Y:Nat->Prop} {w w':World} {B size:Nat} {e:TypeId} {v:Value} {m:Nat} {xs:List D} (h:Grx (Xw1 V Y) w B e size v m xs) (hb:Below w.heap.size w w'):Grx (Xn w.heap.size V Y) w' B e size v m xs:=by
 have ho:=h.own
 obtain⟨h1,cs,h2,h4⟩:=h
 refine⟨h1,cs,⟨h2.1,?_⟩,rdC_keep (fun b hb2=>⟨⟨Nat.lt_of_lt_of_le hb2.1 hb.size,hb2.2.1,Nat.ne_of_lt hb2.1,hb2.2.2⟩,hb.block b hb2.1⟩) xs cs h4⟩
 rcases h2.2 with h | ⟨g,cap,cur,rfl,a1,a2,a3⟩
 · exact .inl h
 · exact .inr ⟨g,cap,cur,rfl,a1,(hb.block g (ho g rfl).2).trans a2,a3⟩
theorem specYes (S:Nat->Prop) (a:GAsk) (rows:List GTrow) (A:Option Addr) (c:Nat) (A1:Option Addr) (c1:Nat) (A2:Option Addr) (c2:Nat) (w:World) (hl:rows.length<=1048576) (n:Nat) (hn:n<=1048575) (hap:a.path.length<=n) (hb:RowsOk n rows) (hS:∀ b,S b->b<w.heap.size) (hs:Sl w S 2 A c (rows.map GTrow.toD)) (ha:GAsk.At w (Lt w.heap.size) A1 c1 A2 c2 a):
 Calls Tryz.prog 60 #[.slice A rows.length c,.agg (askC a A1 c1 A2 c2)] w (ToTrowsS S (yesR a rows) w):=by
 unfold askC
 have HS:=LH hs
 have HA:=LH ha
 have HBD:=LH hb
 have HSL:=LH hS
 clear hs ha hb hS
 obtain⟨w0,e0⟩:∃ w0,w0=(w.alloc (.cells #[.slice A1 a.path.length c1,.int .i64 a.pat.op,.int .i64 a.pat.n,.string a.pat.s,.string a.pat.t,.slice A2 a.pat.kids.length c2] 83)).alloc (.cells #[] 80):=⟨_,rfl⟩
 have HB0:=LH (show Below w.heap.size w w0 by rw [e0];exact((Below.refl _ _).alloc (Nat.le_refl _) _).alloc (by simp) _)
 have HRa0:=LH (show Row w0 w.heap.size 83 #[.slice A1 a.path.length c1,.int .i64 a.pat.op,.int .i64 a.pat.n,.string a.pat.s,.string a.pat.t,.slice A2 a.pat.kids.length c2] by rw [e0];exact(Row.new' _ _ _ rfl).alloc _)
 have G0:=LH (show Grx (Xs S w.heap.size) w0 (w.heap.size+1) 80 2 (.slice (some ⟨w.heap.size+1,0,none⟩) 0 0) 0 [] from Grx.made (by rw [e0];exact Row.new' _ _ _ (by simp)) (Nat.le_refl _))
 have hs0:w.heap.size+1<=w0.heap.size:=by rw [e0];simp
 go_enter Tryz.func60,Tryz.ntmps60
 go_wp2_with fail
 rw [<- e0]
 clear e0
 go_loopw [5,6] (fun v i wr=>∃ (j m:Nat) (A':Option Addr) (c':Nat),j<=rows.length/\i= .int .i64 j/\v= .slice A' m c'/\m<=j/\Hid (Grx (Xs S w.heap.size) wr (w.heap.size+1) 80 2 (.slice A' m c') m ((yesR a (rows.take j)).map GTrow.toD))/\Hid (Row wr w.heap.size 83 #[.slice A1 a.path.length c1,.int .i64 a.pat.op,.int .i64 a.pat.n,.string a.pat.s,.string a.pat.t,.slice A2 a.pat.kids.length c2])/\w.heap.size+1<=wr.heap.size/\Hid (Below w.heap.size w wr)) (fun _ i _=>rows.length - (intOf i).toNat)
 case atStart=>exact⟨0,0,_,_,by omega,by go_num,rfl,by omega,G0,HRa0,hs0,HB0⟩
 case round=>
  clear HRa0 HB0 G0 hs0
  obtain⟨j,m,A',c',hj,rfl,rfl,hm,HG,HRa,hs1,HB⟩:=hrel
  have hsz:=HB.out.size
  have hca:=fun i=>HRa.out.cell i
  have HOW:=LH (fun g (hg:(Value.slice A' m c').ownBlock=some g)=>HG.out.own g hg)
  by_cases hlt:j<rows.length
  ·
   obtain⟨b,off,B1,d1,rfl,hSb,g0,g1,hat⟩:=GTrow.elem (HS.out.keep (w':=wr) (S':=S) fun q hq=>⟨hq,HB.out.block q (HSL.out q hq)⟩) j hlt
   have hSb':b<w.heap.size:=HSL.out b hSb
   have hbl:b<wr.heap.size:=Nat.lt_of_lt_of_le hSb' hsz
   have HAT:=LH hat
   obtain⟨fi,hfi⟩:∃ fi,findA rows[j].asks a.path=fi:=⟨_,rfl⟩
   have hff:=specFind rows[j] a.path B1 d1 A1 c1 wr.drew (Nat.le_trans (asksM_len _) (HBD.out _ (List.getElem_mem hlt)).1) (hat.2.keep fun q hq=>⟨Nat.lt_of_lt_of_le (HSL.out q hq) hsz,rfl⟩) ((HA.out.1.below HB.out (Nat.le_refl _)).keep fun q hq=>⟨Nat.lt_of_lt_of_le hq hsz,rfl⟩)
   rw [hfi] at hff
   have HF:=LH hff
   have HFI:=LH hfi
   clear hff hfi
   have HT:=LH (yesR_take (a:=a) (rows:=rows) (j:=j) hlt)
   clear hat
   go_wp2_with fail
   go_region_held3 (fun x=>(∀ i,x.cell? ⟨w.heap.size,i,none⟩=(#[.slice A1 a.path.length c1,.int .i64 a.pat.op,.int .i64 a.pat.n,.string a.pat.s,.string a.pat.t,.slice A2 a.pat.kids.length c2]:Array Value)[i]?)/\x.cell? ⟨b,off+j*2,none⟩=some (.int .i64 rows[j].alt)/\x.cell? ⟨b,off+j*2+1,none⟩=some (.slice B1 rows[j].asks.length d1)) (first | exact⟨hca,g0,g1⟩ | exact⟨hca2,k0,k1⟩) (first
     | (go_at_call 90
        go_must (
          refine HF.out.mono ?_
          rintro e w2 ⟨rfl,hb2⟩
          have E2:=LH (((Below.refl wr.heap.size wr).drew).trans hb2)
          have R2:=LH (HRa.out.below E2.out HRa.out.lt)
          have hca2:=fun i=>R2.out.cell i
          have k0:=(E2.out.cell (p:=⟨b,off+j*2,none⟩) hbl).trans g0
          have k1:=(E2.out.cell (p:=⟨b,off+j*2+1,none⟩) hbl).trans g1
          clear hb2)))
   all_goals
    have B2:=LH (HB.out.trans (E2.out.mono hsz))
    have hs2:=Nat.le_trans hs1 E2.out.size
    have G2:=LH (HG.out.below E2.out)
    clear g0 g1 hca
    by_cases hnn:fi<0
    ·
     have HV:=LH (show yesR a (rows.take (j+1))=yesR a (rows.take j)++[rows[j]] by rw [HT.out];unfold yes1;rw [HFI.out];simp [hnn])
     have dn:decide (fi<0)=true:=decide_eq_true hnn
     clear hnn
     obtain⟨w3,e3⟩:∃ w3,w3=w2:=⟨_,rfl⟩
     have E3:=LH (show Below w2.heap.size w2 w3 by rw [e3];exact Below.refl _ _)
     rw [<- e3] at k0 k1 ⊢
     clear e3
     obtain⟨w5,e5⟩:∃ w5,w5=w3.alloc (.cells #[.int .i64 rows[j].alt,.slice B1 rows[j].asks.length d1] 80):=⟨_,rfl⟩
     have E5:=LH (show Below w2.heap.size w2 w5 by rw [e5];exact E3.out.alloc E3.out.size _)
     have hs3:=Nat.le_trans hs2 E3.out.size
     have hs5:=Nat.le_trans hs2 E5.out.size
     have G5:=LH (G2.out.below E5.out)
     have B5:=LH (B2.out.trans (E5.out.mono (Nat.le_trans (Nat.le_succ _) hs2)))
     have T5:=LH (show Sl w5 (fun b=>b<w5.heap.size/\(Value.slice A' m c').ownBlock≠some b/\Xs S w.heap.size b) 2 (some ⟨w3.heap.size,0,none⟩) 1 [(rows[j]).toD] from
       slOne (T:=80) (cs:=[.int .i64 rows[j].alt,.slice B1 rows[j].asks.length d1]) (by rw [e5];exact Row.new' _ _ _ rfl) (GTrow.rd_mk (HAT.out.keep fun q hq=>⟨⟨Nat.lt_of_lt_of_le (HSL.out q hq) B5.out.size,fun e=>by have:=(HOW.out q e).1;have h4:=HSL.out q hq;omega,.inl hq⟩,((E2.out.trans (E5.out.mono E2.out.size)).block q (Nat.lt_of_lt_of_le (HSL.out q hq) hsz))⟩)) rfl ⟨by rw [e5];simp,fun e=>by have:=(HOW.out _ e).2;have:=E2.out.size;have:=E3.out.size;omega,.inr (by have:=E2.out.size;have:=E3.out.size;omega)⟩)
     go_wp2_with (first
       | (at_builtin
          rw [<- e5]
          refine wpList_append_X w5 rfl (.tmp 27) (.tmp 32) 75 rfl 80 zTrow 2 32 Tryz.underlying75 (by kernel_rfl) rfl (by omega) (w.heap.size+1) (.slice A' m c') m _ G5.out (some ⟨w3.heap.size,0,none⟩) 1 1 _ rfl T5.out hs5 (by unfold maxLen;omega) (by omega) rfl rfl ?_
          intro A6 c6 w6 G6 hGr6
          have G6h:=LH G6
          have Z6:=LH (Nat.le_trans hs5 hGr6.size)
          have Ra6:=LH (hGr6.row (R2.out.below E5.out R2.out.lt) (fun e=>by have:=(HOW.out _ e).1;omega))
          have B6:=LH (B5.out.trans (hGr6.below (B:=w.heap.size) (by omega) (fun g hg=>by have:=(HOW.out g hg).1;omega)))
          clear G6 hGr6))
     go_roundw
     case rel=>exact⟨j+1,m+1,A6,c6,by omega,by go_num,rfl,by omega,LH (by rw [HV.out,List.map_append];exact G6h.out),Ra6,Z6.out,B6⟩
     case measure=>simp [intOf];omega
    ·
     obtain⟨k,hk,ek,hpk,-⟩:=idxI_spec (p:=fun x:GAsk=>x.path ==a.path) (l:=rows[j].asks) (show 0<=findA rows[j].asks a.path by rw [HFI.out];omega)
     obtain rfl:fi=(k:Int):=by rw [<- HFI.out];exact ek
     obtain⟨b2,off2,D1,f1,D2,f2,rfl,hSb2,q0,q1,q2,q3,q4,q5,hatk⟩:=GAsk.elem (HAT.out.2.keep (w':=w2) (S':=S) fun q hq=>⟨hq,E2.out.block q (Nat.lt_of_lt_of_le (HSL.out q hq) hsz)⟩) k hk
     have hkl:=asksM_len rows[j].asks
     have hkm:=(HBD.out _ (List.getElem_mem hlt)).1
     have hkn:rows[j].asks[k].pat.kids.length<=1048576:=by
      have h1:=asksM_mem (List.getElem_mem hk)
      have h2:=GNode.bulk_eq rows[j].asks[k].pat
      have h3:=bulkL_len GNode.bulk rows[j].asks[k].pat.kids
      omega
     have dn:decide ((k:Int)<0)=false:=decide_eq_false hnn
     have HYE:=LH (show yes1 a rows[j]=if sameP rows[j].asks[k].pat a.pat=true then some ⟨rows[j].alt,rows[j].asks.take k++bareA (kidsA a.path 0 rows[j].asks[k].pat.kids)++rows[j].asks.drop (k+1)⟩ else none by
       unfold yes1
       rw [HFI.out,if_neg hnn]
       simp [hk])
     have HAL:=LH (fun x:World=>specAskAlike rows[j].asks[k].pat a.pat D2 f2 A2 c2 x)
     have hbw2:=Nat.lt_of_lt_of_le hbl E2.out.size
     have HATK:=LH hatk
     have hr2:=R2.out.lt
     obtain⟨w3,e3⟩:∃ w3,w3=w2.alloc (.cells #[.int .i64 rows[j].asks[k].pat.op,.int .i64 rows[j].asks[k].pat.n,.string rows[j].asks[k].pat.s,.string rows[j].asks[k].pat.t,.slice D2 rows[j].asks[k].pat.kids.length f2] 49):=⟨_,rfl⟩
     have E3:=LH (show Below w2.heap.size w2 w3 by rw [e3];exact(Below.refl _ _).alloc (Nat.le_refl _) _)
     have RQ3:=LH (show Row w3 w2.heap.size 49 #[.int .i64 rows[j].asks[k].pat.op,.int .i64 rows[j].asks[k].pat.n,.string rows[j].asks[k].pat.s,.string rows[j].asks[k].pat.t,.slice D2 rows[j].asks[k].pat.kids.length f2] by rw [e3];exact Row.new _ _ _)
     clear hpk ek hnn hatk
     go_wp2_with fail
     rw [<- e3]
     refine(HAL.out w3).mono ?_
     rintro e w4 ⟨rfl,hb4⟩
     have E4:=LH (E3.out.trans (hb4.mono E3.out.size))
     have RQ4:=LH (RQ3.out.below hb4 RQ3.out.lt)
     have R4:=LH (R2.out.below E4.out hr2)
     have B4:=LH (B2.out.trans (E4.out.mono (Nat.le_trans (Nat.le_succ _) hs2)))
     have G4:=LH (G2.out.below E4.out)
     have hs4:=Nat.le_trans hs2 E4.out.size
     clear hb4 e3 hca2
     cases hsp:sameP rows[j].asks[k].pat a.pat
     · have HV:=LH (show yesR a (rows.take (j+1))=yesR a (rows.take j) by rw [HT.out,HYE.out,hsp];simp)
       clear hsp k0 k1 q0 q1 q2 q3 q4 q5
       go_wp2_with fail
       go_roundw
       case rel=>exact⟨j+1,m,A',c',by omega,by go_num,rfl,by omega,LH (by rw [HV.out];exact G4.out),R4,hs4,B4⟩
       case measure=>simp [intOf];omega
     ·
      have HV:=LH (show yesR a (rows.take (j+1))=yesR a (rows.take j)++[⟨rows[j].alt,rows[j].asks.take k++bareA (kidsA a.path 0 rows[j].asks[k].pat.kids)++rows[j].asks.drop (k+1)⟩] by rw [HT.out,HYE.out,hsp];rfl)
      have p0:w4.cell? ⟨b,off+j*2,none⟩=some (.int .i64 rows[j].alt):=(E4.out.cell (p:=⟨b,off+j*2,none⟩) hbw2).trans k0
      have p1:w4.cell? ⟨b,off+j*2+1,none⟩=some (.slice (some ⟨b2,off2,none⟩) rows[j].asks.length d1):=(E4.out.cell (p:=⟨b,off+j*2+1,none⟩) hbw2).trans k1
      clear hsp k0 k1 q0 q1 q2 q3 q4 q5
      have hd1:=HAT.out.2.1
      rw [List.length_map] at hd1
      have HH:=run_headAt (P:=Tryz.prog) 78 83 6 Tryz.underlying78 (by kernel_rfl) b2 off2 rows[j].asks.length d1 k k rfl (by omega)
      have hz4:w.heap.size<=w4.heap.size:=B4.out.size
      have hb4:=Nat.lt_of_lt_of_le hbw2 E4.out.size
      have HK4:=LH (fun q (hq:q<w.heap.size)=>show w4.heap[q]? =wr.heap[q]? from(E2.out.trans (E4.out.mono E2.out.size)).block q (Nat.lt_of_lt_of_le hq hsz))
      have HT5:=LH (fun(X:Nat->Prop) (x:World) (be:Nat) (hx:Below w4.heap.size w4 x) (hbe:w4.heap.size<=be) (hX:∀ q,S q->X q)=>show Sl x (fun b=>b<x.heap.size/\(Value.slice (some ⟨be,0,none⟩) 0 0).ownBlock≠some b/\X b) 6 (some ⟨b2,off2,none⟩) d1 ((rows[j].asks.take k).map GAsk.toD) by
        rw [List.map_take]
        exact(HAT.out.2.take k).keep fun q hq=>⟨⟨Nat.lt_of_lt_of_le (HSL.out q hq) (Nat.le_trans hz4 hx.size),fun e=>by have:=own_ge e;have h4:=HSL.out q hq;omega,hX q hq⟩,(hx.block q (Nat.lt_of_lt_of_le (HSL.out q hq) hz4)).trans (HK4.out q (HSL.out q hq))⟩)
      have HF5:=LH (fun(x:World) (hx:Below w4.heap.size w4 x)=>show x.cell? ⟨b,off+j*2,none⟩=some (.int .i64 rows[j].alt)/\x.cell? ⟨b,off+j*2+1,none⟩=some (.slice (some ⟨b2,off2,none⟩) rows[j].asks.length d1) from⟨(hx.cell (p:=⟨b,off+j*2,none⟩) hb4).trans p0,(hx.cell (p:=⟨b,off+j*2+1,none⟩) hb4).trans p1⟩)
      have GA5:=LH (show Grx (Xw1 (.slice A' m c') (Xs S w.heap.size)) (w4.alloc (.cells #[] 83)).drew w4.heap.size 83 6 (.slice (some ⟨w4.heap.size,0,none⟩) 0 0) 0 [] from Grx.made (Row.new w4 _ _) (Nat.le_refl _))
      have GB5:=LH (show Grx (Xn (w4.heap.size+1) (.slice A' m c') (Xs S w.heap.size)) ((w4.alloc (.cells #[] 83)).alloc (.cells #[.int .i64 0,.slice none 0 0] 80)).drew w4.heap.size 83 6 (.slice (some ⟨w4.heap.size,0,none⟩) 0 0) 0 [] from Grx.made ((Row.new w4 _ _).alloc _) (Nat.le_refl _))
      have GC5:=LH (show Grx (Xn w4.heap.size (.slice A' m c') (Xs S w.heap.size)) ((w4.alloc (.cells #[.int .i64 0,.slice none 0 0] 80)).alloc (.cells #[] 83)).drew w4.heap.size 83 6 (.slice (some ⟨w4.heap.size+1,0,none⟩) 0 0) 0 [] from Grx.made (show Row ((w4.alloc (.cells #[.int .i64 0,.slice none 0 0] 80)).alloc (.cells #[] 83)) (w4.heap.size+1) 83 #[] from Row.new' _ _ _ (by simp)) (Nat.le_succ _))
      have RB5:=LH (show Row ((w4.alloc (.cells #[] 83)).alloc (.cells #[.int .i64 0,.slice none 0 0] 80)).drew (w4.heap.size+1) 80 #[.int .i64 0,.slice none 0 0] from(show Row ((w4.alloc (.cells #[] 83)).alloc (.cells #[.int .i64 0,.slice none 0 0] 80)) (w4.heap.size+1) 80 #[.int .i64 0,.slice none 0 0] from Row.new' _ _ _ (by simp)))
      have RC5:=LH (show Row ((w4.alloc (.cells #[.int .i64 0,.slice none 0 0] 80)).alloc (.cells #[] 83)).drew w4.heap.size 80 #[.int .i64 0,.slice none 0 0] from(Row.new w4 _ _).alloc _)
      have NB5:=LH (show(Value.slice (some ⟨w4.heap.size,0,none⟩) 0 0).ownBlock≠some (w4.heap.size+1) by simp [Value.ownBlock])
      have NC5:=LH (show(Value.slice (some ⟨w4.heap.size+1,0,none⟩) 0 0).ownBlock≠some w4.heap.size by simp [Value.ownBlock])
      obtain⟨oe,hoe⟩:∃ oe,oe=Obj.cells #[] 83:=⟨_,rfl⟩
      obtain⟨on,hon⟩:∃ on,on=Obj.cells #[.int .i64 0,.slice none 0 0] 80:=⟨_,rfl⟩
      have EA:=LH (show Below w4.heap.size w4 (w4.alloc oe).drew from((Below.refl _ _).alloc (Nat.le_refl _) _).drew)
      have EB:=LH (show Below w4.heap.size w4 ((w4.alloc oe).alloc on).drew from(((Below.refl _ _).alloc (Nat.le_refl _) _).alloc (by simp) _).drew)
      have EC:=LH (show Below w4.heap.size w4 ((w4.alloc on).alloc oe).drew from(((Below.refl _ _).alloc (Nat.le_refl _) _).alloc (by simp) _).drew)
      rw [hoe] at EA EB EC
      rw [hon] at EB EC
      clear hoe hon
      go_upto_region 10 with (fail)
      go_cut [9] from 48 to 62 (fun v x=>∃ (n3:Nat) (A6:Option Addr) (c6:Nat),v= .pointer (some ⟨n3,0,none⟩)/\Hid (Below w4.heap.size w4 x)/\Hid (Row x n3 80 #[.int .i64 rows[j].alt,.slice A6 k c6])/\Hid (Grx (Xn n3 (.slice A' m c') (Xs S w.heap.size)) x w4.heap.size 83 6 (.slice A6 k c6) k ((rows[j].asks.take k).map GAsk.toD))/\Hid ((Value.slice A6 k c6).ownBlock≠some n3)/\w4.heap.size<=n3)
      case first=>
       go_region_held3 (fun x=>x.cell? ⟨b,off+j*2,none⟩=some (.int .i64 rows[j].alt)/\x.cell? ⟨b,off+j*2+1,none⟩=some (.slice (some ⟨b2,off2,none⟩) rows[j].asks.length d1)) (first | exact HF5.out _ (Below.refl _ _) | exact HF5.out _ (Below.refl _ _).drew | exact HF5.out _ EA.out | exact HF5.out _ EB.out | exact HF5.out _ EC.out | exact HF5.out _ (((Below.refl _ _).alloc (Nat.le_refl _) _).drew) | exact HF5.out _ E6.out | exact HF5.out _ (E6.out.alloc E6.out.size _) | exact HF5.out _ ((((E6.out).setCell (by simp) _)).setCell (by simp) _)) (first
         | (refine step_append_X _ rfl (.tmp 53) (.tmp 60) 78 rfl 83 zAsk 6 96 Tryz.underlying78 (by kernel_rfl) rfl (by omega) w4.heap.size (.slice (some ⟨w4.heap.size,0,none⟩) 0 0) 0 [] GA5.out (some ⟨b2,off2,none⟩) d1 k _ (by simp;omega) (HT5.out (Xw1 (.slice A' m c') (Xs S w.heap.size)) _ _ EA.out (by omega) (fun q hq=>⟨fun e=>by have:=(HOW.out _ e).1;have:=HSL.out q hq;omega,.inl hq⟩)) EA.out.size (by unfold maxLen;omega) (by omega) rfl rfl ?_
            intro A6 c6 w6 G6 hGr6
            have HG6:=LH (show Grx (Xw1 (.slice A' m c') (Xs S w.heap.size)) w6 w4.heap.size 83 6 (.slice A6 k c6) k ((rows[j].asks.take k).map GAsk.toD) by simpa using G6)
            have HE6:=LH (show Value.slice A6 (0+k) c6= .slice A6 k c6 by rw [Nat.zero_add])
            have E6:=LH (EA.out.trans (hGr6.below EA.out.size (fun g hg=>Nat.le_trans (by omega) (own_ge hg))))
            clear G6 hGr6
            rw [HE6.out])
         | (refine step_append_X _ rfl (.tmp 53) (.tmp 60) 78 rfl 83 zAsk 6 96 Tryz.underlying78 (by kernel_rfl) rfl (by omega) w4.heap.size (.slice (some ⟨w4.heap.size,0,none⟩) 0 0) 0 [] GB5.out (some ⟨b2,off2,none⟩) d1 k _ (by simp;omega) (HT5.out (Xn (w4.heap.size+1) (.slice A' m c') (Xs S w.heap.size)) _ _ EB.out (by omega) (fun q hq=>⟨by have:=HSL.out q hq;omega,fun e=>by have:=(HOW.out _ e).1;have:=HSL.out q hq;omega,.inl hq⟩)) EB.out.size (by unfold maxLen;omega) (by omega) rfl rfl ?_
            intro A6 c6 w6 G6 hGr6
            have HG6:=LH (show Grx (Xn (w4.heap.size+1) (.slice A' m c') (Xs S w.heap.size)) w6 w4.heap.size 83 6 (.slice A6 k c6) k ((rows[j].asks.take k).map GAsk.toD) by simpa using G6)
            have HE6:=LH (show Value.slice A6 (0+k) c6= .slice A6 k c6 by rw [Nat.zero_add])
            have E6:=LH (EB.out.trans (hGr6.below EB.out.size (fun g hg=>Nat.le_trans (by omega) (own_ge hg))))
            have RN6:=LH (hGr6.row RB5.out NB5.out)
            have NN6:=LH (show(Value.slice A6 k c6).ownBlock≠some (w4.heap.size+1) by rw [<- HE6.out];exact hGr6.ne NB5.out RB5.out.lt)
            have hcn6:=fun i=>RN6.out.cell i
            have hfn6:=fun i=>RN6.out.frozen i
            clear G6 hGr6
            rw [HE6.out])
         | (refine step_append_X _ rfl (.tmp 53) (.tmp 60) 78 rfl 83 zAsk 6 96 Tryz.underlying78 (by kernel_rfl) rfl (by omega) w4.heap.size (.slice (some ⟨w4.heap.size+1,0,none⟩) 0 0) 0 [] GC5.out (some ⟨b2,off2,none⟩) d1 k _ (by simp;omega) (HT5.out (Xn w4.heap.size (.slice A' m c') (Xs S w.heap.size)) _ _ EC.out (by omega) (fun q hq=>⟨by have:=HSL.out q hq;omega,fun e=>by have:=(HOW.out _ e).1;have:=HSL.out q hq;omega,.inl hq⟩)) EC.out.size (by unfold maxLen;omega) (by omega) rfl rfl ?_
            intro A6 c6 w6 G6 hGr6
            have HG6:=LH (show Grx (Xn w4.heap.size (.slice A' m c') (Xs S w.heap.size)) w6 w4.heap.size 83 6 (.slice A6 k c6) k ((rows[j].asks.take k).map GAsk.toD) by simpa using G6)
            have HE6:=LH (show Value.slice A6 (0+k) c6= .slice A6 k c6 by rw [Nat.zero_add])
            have E6:=LH (EC.out.trans (hGr6.below EC.out.size (fun g hg=>Nat.le_trans (by omega) (own_ge hg))))
            have RN6:=LH (hGr6.row RC5.out NC5.out)
            have NN6:=LH (show(Value.slice A6 k c6).ownBlock≠some w4.heap.size by rw [<- HE6.out];exact hGr6.ne NC5.out RC5.out.lt)
            have hcn6:=fun i=>RN6.out.cell i
            have hfn6:=fun i=>RN6.out.frozen i
            clear G6 hGr6
            rw [HE6.out])
         | fail)
       all_goals (first
         | (obtain⟨n3,en⟩:∃ n3,n3=w6.heap.size:=⟨_,rfl⟩
            obtain⟨w7,e7⟩:∃ w7,w7=w6.alloc (.cells #[.int .i64 rows[j].alt,.slice A6 k c6] 80):=⟨_,rfl⟩
            rw [<- e7]
            rw [<- en]
            have hn4:w4.heap.size<=n3:=by rw [en];exact E6.out.size
            have H7:=LH (show(Below w4.heap.size w4 w7/\Row w7 n3 80 #[.int .i64 rows[j].alt,.slice A6 k c6]/\Grx (Xn n3 (.slice A' m c') (Xs S w.heap.size)) w7 w4.heap.size 83 6 (.slice A6 k c6) k ((rows[j].asks.take k).map GAsk.toD)/\(Value.slice A6 k c6).ownBlock≠some n3/\w4.heap.size<=n3) by
              rw [e7,en]
              exact⟨E6.out.alloc E6.out.size _,Row.new w6 _ _,HG6.out.toN ((Below.refl _ _).alloc (Nat.le_refl _) _),fun e=>by have:=(HG6.out.own _ e).2;omega,E6.out.size⟩)
            clear en e7)
         | (obtain⟨n3,en⟩:∃ n3,n3=w4.heap.size+1:=⟨_,rfl⟩
            have hn4:w4.heap.size<=n3:=by omega
            have HG7:=LH (show Grx (Xn n3 (.slice A' m c') (Xs S w.heap.size)) w6 w4.heap.size 83 6 (.slice A6 k c6) k ((rows[j].asks.take k).map GAsk.toD) by rw [en];exact HG6.out)
            rw [<- en] at RN6 NN6 ⊢
            obtain⟨w7,e7⟩:∃ w7,w7=(w6.setCell ⟨n3,0,none⟩ (.int .i64 rows[j].alt)).setCell ⟨n3,1,none⟩ (.slice A6 k c6):=⟨_,rfl⟩
            rw [<- e7]
            have H7:=LH (show(Below w4.heap.size w4 w7/\Row w7 n3 80 #[.int .i64 rows[j].alt,.slice A6 k c6]/\Grx (Xn n3 (.slice A' m c') (Xs S w.heap.size)) w7 w4.heap.size 83 6 (.slice A6 k c6) k ((rows[j].asks.take k).map GAsk.toD)/\(Value.slice A6 k c6).ownBlock≠some n3/\w4.heap.size<=n3) by
              rw [e7]
              exact⟨(E6.out.setCell (p:=⟨n3,0,none⟩) hn4 _).setCell (p:=⟨n3,1,none⟩) hn4 _,(RN6.out.set 0 _).set 1 _,HG7.out.keepN NN6.out (by simp [World.setCell]) (fun q hq hq2=>(Below.heap_setCell _ ⟨n3,1,none⟩ _ q hq2).trans (Below.heap_setCell _ ⟨n3,0,none⟩ _ q hq2)),NN6.out,hn4⟩)
            clear en e7 RN6 NN6 hcn6 hfn6 HG7)
         | (obtain⟨n3,en⟩:∃ n3,n3=w4.heap.size:=⟨_,rfl⟩
            have hn4:w4.heap.size<=n3:=by omega
            have HG7:=LH (show Grx (Xn n3 (.slice A' m c') (Xs S w.heap.size)) w6 w4.heap.size 83 6 (.slice A6 k c6) k ((rows[j].asks.take k).map GAsk.toD) by rw [en];exact HG6.out)
            rw [<- en] at RN6 NN6 ⊢
            obtain⟨w7,e7⟩:∃ w7,w7=(w6.setCell ⟨n3,0,none⟩ (.int .i64 rows[j].alt)).setCell ⟨n3,1,none⟩ (.slice A6 k c6):=⟨_,rfl⟩
            rw [<- e7]
            have H7:=LH (show(Below w4.heap.size w4 w7/\Row w7 n3 80 #[.int .i64 rows[j].alt,.slice A6 k c6]/\Grx (Xn n3 (.slice A' m c') (Xs S w.heap.size)) w7 w4.heap.size 83 6 (.slice A6 k c6) k ((rows[j].asks.take k).map GAsk.toD)/\(Value.slice A6 k c6).ownBlock≠some n3/\w4.heap.size<=n3) by
              rw [e7]
              exact⟨(E6.out.setCell (p:=⟨n3,0,none⟩) hn4 _).setCell (p:=⟨n3,1,none⟩) hn4 _,(RN6.out.set 0 _).set 1 _,HG7.out.keepN NN6.out (by simp [World.setCell]) (fun q hq hq2=>(Below.heap_setCell _ ⟨n3,1,none⟩ _ q hq2).trans (Below.heap_setCell _ ⟨n3,0,none⟩ _ q hq2)),NN6.out,hn4⟩)
            clear en e7 RN6 NN6 hcn6 hfn6 HG7))
       all_goals
        go_wp2_with fail
        go_meet
        exact⟨n3,A6,c6,rfl,LH H7.out.1,LH H7.out.2.1,LH H7.out.2.2.1,LH H7.out.2.2.2.1,hn4⟩
      case rest=>
       have P1:=LH p1
       clear HH p0 p1 HT5 HF5 GA5 GB5 GC5 RB5 RC5 NB5 NC5 EA EB EC oe on
       obtain⟨n3,A6,c6,rfl,C1,C2,C3,C4,hn4⟩:=hcut
       have RQ7:=LH (RQ4.out.below C1.out RQ4.out.lt)
       have R7:=LH (R4.out.below C1.out R4.out.lt)
       have hn7:=C2.out.lt
       go_wp2_with fail
       go_loopw [10] (fun i x=>∃ (t m':Nat) (A7:Option Addr) (c7:Nat),t<=rows[j].asks[k].pat.kids.length/\i= .int .i64 t/\m'=k+t/\Hid (Grx (Xn n3 (.slice A' m c') (Xs S w.heap.size)) x w4.heap.size 83 6 (.slice A7 m' c7) m' ((rows[j].asks.take k++kidsA a.path 0 (rows[j].asks[k].pat.kids.take t)).map GAsk.toD))/\Hid ((Value.slice A7 m' c7).ownBlock≠some n3)/\Hid (Row x n3 80 #[.int .i64 rows[j].alt,.slice A7 m' c7])/\Hid (Row x w2.heap.size 49 #[.int .i64 rows[j].asks[k].pat.op,.int .i64 rows[j].asks[k].pat.n,.string rows[j].asks[k].pat.s,.string rows[j].asks[k].pat.t,.slice D2 rows[j].asks[k].pat.kids.length f2])/\Hid (Row x w.heap.size 83 #[.slice A1 a.path.length c1,.int .i64 a.pat.op,.int .i64 a.pat.n,.string a.pat.s,.string a.pat.t,.slice A2 a.pat.kids.length c2])/\n3<x.heap.size/\Hid (Below w4.heap.size w4 x)) (fun i _=>rows[j].asks[k].pat.kids.length - (intOf i).toNat)
       case atStart=>exact⟨0,k,A6,c6,by omega,by go_num,by omega,LH (by simpa [kidsA] using C3.out),C4,C2,RQ7,R7,hn7,C1⟩
       case round=>
        obtain⟨t,m',A7,c7,ht,rfl,hm7,HG7,HN7,HRN,HRQ,HRA,hnx,HBX⟩:=hrel
        have hzx:=HBX.out.size
        have hm8:m'<=2097152:=by omega
        have HM7:=LH hm7
        clear hm7
        have hcn:=fun i=>HRN.out.cell i
        have hcq:=fun i=>HRQ.out.cell i
        have hck:=fun i=>HRA.out.cell i
        by_cases hlk:t<rows[j].asks[k].pat.kids.length
        ·
         go_wp2_with fail
         have BW:=LH (B4.out.trans (HBX.out.mono hz4))
         have EX:=LH (E4.out.trans (HBX.out.mono E4.out.size))
         obtain⟨bk,ofk,A9,c9,rfl,hSbk,t0,t1,t2,t3,t4,hkat⟩:=GNode.elem (HATK.out.2.2.2.2.2.keep (w':=wr) (S':=S) fun q hq=>⟨hq,EX.out.block q (Nat.lt_of_lt_of_le (HSL.out q hq) (Nat.le_trans (Nat.le_succ _) hs2))⟩) t hlk
         have hSbk':bk<w4.heap.size:=Nat.lt_of_lt_of_le (HSL.out _ hSbk) hz4
         have hwo:=Nat.le_trans E2.out.size E4.out.size
         obtain⟨p8,hp8⟩:∃ p8,a.path++[(t:Int)]=p8:=⟨_,rfl⟩
         have hd8:=specDown a.path A1 c1 (t:Int) wr.drew (by omega) (wf_i64 (by omega) (by omega)) ((HA.out.1.below BW.out (Nat.le_refl _)).keep fun q hq=>⟨Nat.lt_of_lt_of_le hq BW.out.size,rfl⟩)
         rw [hp8] at hd8
         have HD8:=LH hd8
         obtain⟨kt,hkt⟩:∃ kt,rows[j].asks[k].pat.kids[t]=kt:=⟨_,rfl⟩
         rw [hkt] at t0 t1 t2 t3 t4 hkat
         have HKT:=LH (show kidsA a.path 0 (rows[j].asks[k].pat.kids.take (t+1))=kidsA a.path 0 (rows[j].asks[k].pat.kids.take t)++[⟨p8,kt⟩] by rw [kidsA_take a.path _ t hlk,hp8,hkt])
         have HKA:=LH hkat
         have hr4:=R4.out.lt
         have hq4:=RQ4.out.lt
         have HF14:=LH (fun(x:World) (hx:∀ q,q<w4.heap.size->x.heap[q]? =wr.heap[q]?) (hx3:x.cell? ⟨n3,1,none⟩=some (.slice A7 m' c7))=>show(∀ i,x.cell? ⟨w.heap.size,i,none⟩=(#[.slice A1 a.path.length c1,.int .i64 a.pat.op,.int .i64 a.pat.n,.string a.pat.s,.string a.pat.t,.slice A2 a.pat.kids.length c2]:Array Value)[i]?)/\(∀ i,x.cell? ⟨w2.heap.size,i,none⟩=(#[.int .i64 rows[j].asks[k].pat.op,.int .i64 rows[j].asks[k].pat.n,.string rows[j].asks[k].pat.s,.string rows[j].asks[k].pat.t,.slice (some ⟨bk,ofk,none⟩) rows[j].asks[k].pat.kids.length f2]:Array Value)[i]?)/\x.cell? ⟨bk,ofk+t*5,none⟩=some (.int .i64 kt.op)/\x.cell? ⟨bk,ofk+t*5+1,none⟩=some (.int .i64 kt.n)/\x.cell? ⟨bk,ofk+t*5+2,none⟩=some (.string kt.s)/\x.cell? ⟨bk,ofk+t*5+3,none⟩=some (.string kt.t)/\x.cell? ⟨bk,ofk+t*5+4,none⟩=some (.slice A9 kt.kids.length c9)/\x.cell? ⟨n3,1,none⟩=some (.slice A7 m' c7) from
           ⟨fun i=>(World.cell?_of_block (hx _ hr4)).trans (hck i),fun i=>(World.cell?_of_block (hx _ hq4)).trans (hcq i),(World.cell?_of_block (hx _ hSbk')).trans t0,(World.cell?_of_block (hx _ hSbk')).trans t1,(World.cell?_of_block (hx _ hSbk')).trans t2,(World.cell?_of_block (hx _ hSbk')).trans t3,(World.cell?_of_block (hx _ hSbk')).trans t4,hx3⟩)
         have K1:=LH (show ∀ q,q<w4.heap.size->wr.drew.heap[q]? =wr.heap[q]? from fun _ _=>rfl)
         clear hck hcq t0 t1 t2 t3 t4 hkat hd8 hp8 hkt hSbk
         refine wp_region_T (fun x=>(∀ i,x.cell? ⟨w.heap.size,i,none⟩=(#[.slice A1 a.path.length c1,.int .i64 a.pat.op,.int .i64 a.pat.n,.string a.pat.s,.string a.pat.t,.slice A2 a.pat.kids.length c2]:Array Value)[i]?)/\(∀ i,x.cell? ⟨w2.heap.size,i,none⟩=(#[.int .i64 rows[j].asks[k].pat.op,.int .i64 rows[j].asks[k].pat.n,.string rows[j].asks[k].pat.s,.string rows[j].asks[k].pat.t,.slice (some ⟨bk,ofk,none⟩) rows[j].asks[k].pat.kids.length f2]:Array Value)[i]?)/\x.cell? ⟨bk,ofk+t*5,none⟩=some (.int .i64 kt.op)/\x.cell? ⟨bk,ofk+t*5+1,none⟩=some (.int .i64 kt.n)/\x.cell? ⟨bk,ofk+t*5+2,none⟩=some (.string kt.s)/\x.cell? ⟨bk,ofk+t*5+3,none⟩=some (.string kt.t)/\x.cell? ⟨bk,ofk+t*5+4,none⟩=some (.slice A9 kt.kids.length c9)/\x.cell? ⟨n3,1,none⟩=some (.slice A7 m' c7)) 15 (by kernel_rfl) ?_
         have hS1:=HF14.out _ K1.out (hcn 1)
         refine wpAnyT_take (i:=0) (oi:=_) (v:=?vv0) rfl (by kernel_rfl) (by kernel_rfl) (by kernel_rfl) (by kernel_rfl) (fun _ _ _ h=>h) (Or.inl ⟨by rfl,?hy0⟩) hS1 ?_
         case hy0=>(intro x hSx;(try dsimp only at hSx);go_simp;(try with_reducible rfl))
         try simp only [nA,nB,nC,Act.put,nD,nE,nF]
         refine wpAnyT_take (i:=1) (oi:=_) (v:=?vv1) rfl (by kernel_rfl) (by kernel_rfl) (by kernel_rfl) (by kernel_rfl) (fun _ _ _ h=>h) (Or.inl ⟨by rfl,?hy1⟩) hS1 ?_
         case hy1=>(intro x hSx;(try dsimp only at hSx);go_simp;(try with_reducible rfl))
         try simp only [nA,nB,nC,Act.put,nD,nE,nF]
         refine wpAnyT_take (i:=2) (oi:=_) (v:=?vv2) rfl (by kernel_rfl) (by kernel_rfl) (by kernel_rfl) (by kernel_rfl) (fun _ _ _ h=>h) (Or.inl ⟨by rfl,?hy2⟩) hS1 ?_
         case hy2=>(intro x hSx;(try dsimp only at hSx);go_simp;(try with_reducible rfl))
         try simp only [nA,nB,nC,Act.put,nD,nE,nF]
         refine wpAnyT_take (i:=3) (oi:=_) (v:=?vv3) rfl (by kernel_rfl) (by kernel_rfl) (by kernel_rfl) (by kernel_rfl) (fun _ _ _ h=>h) (Or.inl ⟨by rfl,?hy3⟩) hS1 ?_
         case hy3=>(intro x hSx;(try dsimp only at hSx);go_simp;(try with_reducible rfl))
         try simp only [nA,nB,nC,Act.put,nD,nE,nF]
         refine wpAnyT_take (i:=4) (oi:=_) (v:=?vv4) rfl (by kernel_rfl) (by kernel_rfl) (by kernel_rfl) (by kernel_rfl) (fun _ _ _ h=>h) (Or.inl ⟨by rfl,?hy4⟩) hS1 ?_
         case hy4=>(intro x hSx;(try dsimp only at hSx);go_simp;(try with_reducible rfl))
         try simp only [nA,nB,nC,Act.put,nD,nE,nF]
         refine wpAnyT_take (i:=6) (oi:=_) (v:=?vv6) rfl (by kernel_rfl) (by kernel_rfl) (by kernel_rfl) (by kernel_rfl) (fun _ _ _ h=>h) (Or.inl ⟨by rfl,?hy6⟩) hS1 ?_
         case hy6=>(intro x hSx;(try dsimp only at hSx);go_simp;(try with_reducible rfl))
         try simp only [nA,nB,nC,Act.put,nD,nE,nF]
         refine wpAnyT_take (i:=7) (oi:=_) (v:=?vv7) rfl (by kernel_rfl) (by kernel_rfl) (by kernel_rfl) (by kernel_rfl) (fun _ _ _ h=>h) (Or.inl ⟨by rfl,?hy7⟩) hS1 ?_
         case hy7=>(intro x hSx;(try dsimp only at hSx);go_simp;(try with_reducible rfl))
         try simp only [nA,nB,nC,Act.put,nD,nE,nF]
         refine wpAnyT_take (i:=8) (oi:=_) (v:=?vv8) rfl (by kernel_rfl) (by kernel_rfl) (by kernel_rfl) (by kernel_rfl) (fun _ _ _ h=>h) (Or.inl ⟨by rfl,?hy8⟩) hS1 ?_
         case hy8=>(intro x hSx;(try dsimp only at hSx);go_simp;(try with_reducible rfl))
         try simp only [nA,nB,nC,Act.put,nD,nE,nF]
         refine wpAnyT_take (i:=9) (oi:=_) (v:=?vv9) rfl (by kernel_rfl) (by kernel_rfl) (by kernel_rfl) (by kernel_rfl) (fun _ _ _ h=>h) (Or.inl ⟨by rfl,?hy9⟩) hS1 ?_
         case hy9=>(intro x hSx;(try dsimp only at hSx);go_simp;(try with_reducible rfl))
         try simp only [nA,nB,nC,Act.put,nD,nE,nF]
         refine wpAnyT_take (i:=10) (oi:=_) (v:=?vv10) rfl (by kernel_rfl) (by kernel_rfl) (by kernel_rfl) (by kernel_rfl) (fun _ _ _ h=>h) (Or.inl ⟨by rfl,?hy10⟩) hS1 ?_
         case hy10=>(intro x hSx;(try dsimp only at hSx);go_simp;(try with_reducible rfl))
         try simp only [nA,nB,nC,Act.put,nD,nE,nF]
         refine wpAnyT_step (i:=5) (by kernel_rfl) rfl (fun K hK=>?_)
         try simp only [nA,nB,nC]
         go_simp
         go_at_call 92
         refine HD8.out.mono ?_
         rintro e w8 ⟨A8,c8,rfl,hs8,hb8⟩
         have E8:=LH (((Below.refl wr.heap.size wr).drew).trans hb8)
         have hn8:=Nat.lt_of_lt_of_le hnx E8.out.size
         have hz8:=E8.out.size
         have R8:=LH (HRN.out.below E8.out HRN.out.lt)
         have hcn8:=fun i=>R8.out.cell i
         have hcn8a:=fun(o:Obj) (i:Nat)=>(HRN.out.below ((E8.out).alloc E8.out.size o) HRN.out.lt).cell i
         have K8:=LH (fun q (hq:q<w4.heap.size)=>E8.out.block q (Nat.lt_of_lt_of_le hq hzx))
         obtain⟨o8,ho8⟩:∃ o8,o8=Obj.cells #[.slice A8 p8.length c8,.int .i64 kt.op,.int .i64 kt.n,.string kt.s,.string kt.t,.slice A9 kt.kids.length c9] 83:=⟨_,rfl⟩
         have E8a:=LH (show Below wr.heap.size wr (w8.alloc o8) from E8.out.alloc hz8 _)
         have G8:=LH (HG7.out.below E8a.out)
         have HO8:=LH (fun g (hg:(Value.slice A7 m' c7).ownBlock=some g)=>HG7.out.own g hg)
         have T8:=LH (show Sl (w8.alloc o8) (fun b=>b<(w8.alloc o8).heap.size/\(Value.slice A7 m' c7).ownBlock≠some b/\Xn n3 (.slice A' m c') (Xs S w.heap.size) b) 6 (some ⟨w8.heap.size,0,none⟩) 1 [(⟨p8,kt⟩:GAsk).toD] from
         oneAsk (T:=83) (r:=⟨p8,kt⟩) (.slice A7 m' c7) (fun g hg=>Nat.lt_of_lt_of_le (HO8.out g hg).2 hz8) ⟨by omega,fun e=>by have:=(HOW.out _ e).2;omega,.inr (by omega)⟩ (by rw [ho8];exact Row.new w8 _ _) ((Below.refl _ _).alloc (Nat.le_refl _) _) ⟨hs8.keep fun q hq=>⟨⟨hq.2,fun e=>by have:=(HO8.out _ e).2;have h1:wr.heap.size<=q:=hq.1;omega,by have h1:wr.heap.size<=q:=hq.1;omega,fun e=>by have:=(HOW.out _ e).2;have h1:wr.heap.size<=q:=hq.1;omega,.inr (by have h1:wr.heap.size<=q:=hq.1;omega)⟩,rfl⟩,HKA.out.keep fun q hq=>⟨⟨by have h1:=HSL.out q hq;omega,fun e=>by have:=(HO8.out _ e).1;have h1:=HSL.out q hq;omega,by have h1:=HSL.out q hq;omega,fun e=>by have:=(HOW.out _ e).1;have h1:=HSL.out q hq;omega,.inl hq⟩,K8.out q (Nat.lt_of_lt_of_le (HSL.out q hq) hz4)⟩⟩)
         have K8a:=LH (fun q (hq:q<w4.heap.size)=>E8a.out.block q (Nat.lt_of_lt_of_le hq hzx))
         rw [ho8] at E8a G8 T8 K8a
         clear ho8 hb8 hs8
         refine hK.out _ _ (HF14.out _ K8.out (hcn8 1)) (fun hS8=>?_)
         clear hK K
         try simp only [nA,nB,nC,Act.put,nD,nE,nF]
         clear hS1
         refine wpAnyT_take (i:=11) (oi:=_) (v:=?vv11) rfl (by kernel_rfl) (by kernel_rfl) (by kernel_rfl) (by kernel_rfl) (fun _ _ _ h=>h) (Or.inl ⟨by rfl,?hy11⟩) hS8 ?_
         case hy11=>(intro x hSx;(try dsimp only at hSx);go_simp;(try with_reducible rfl))
         try simp only [nA,nB,nC,Act.put,nD,nE,nF]
         refine wpAnyT_step (i:=12) (by kernel_rfl) rfl (fun K hK=>?_)
         try simp only [nA,nB,nC]
         go_simp
         refine hK.out _ _ (HF14.out _ K8a.out (hcn8a _ 1)) (fun hS8a=>?_)
         clear hK K
         try simp only [nA,nB,nC,Act.put,nD,nE,nF]
         clear hS8
         refine wpAnyT_step (i:=13) (by kernel_rfl) rfl (fun K hK=>?_)
         refine step_append_X _ rfl (.tmp 71) (.tmp 82) 78 rfl 83 zAsk 6 96 Tryz.underlying78 (by kernel_rfl) rfl (by omega) w4.heap.size (.slice A7 m' c7) m' _ G8.out (some ⟨w8.heap.size,0,none⟩) 1 1 _ rfl T8.out (Nat.le_trans hzx E8a.out.size) (by unfold maxLen;omega) (by omega) rfl rfl ?_
         intro A10 c10 w10 G10 hGr10
         have HG10:=LH G10
         have HN10:=LH (hGr10.ne HN7.out (Nat.lt_of_lt_of_le hnx E8a.out.size))
         have hn10:=Nat.lt_of_lt_of_le (Nat.lt_of_lt_of_le hnx E8a.out.size) hGr10.size
         have B10:=LH (HBX.out.trans ((E8a.out.mono hzx).trans (hGr10.below (B:=w4.heap.size) (Nat.le_trans hzx E8a.out.size) (fun g hg=>(HO8.out g hg).1))))
         have R10:=LH (hGr10.row (HRN.out.below E8a.out HRN.out.lt) HN7.out)
         have RQ10:=LH (hGr10.row (HRQ.out.below E8a.out HRQ.out.lt) (fun e=>by have:=(HO8.out _ e).1;omega))
         have RA10:=LH (hGr10.row (HRA.out.below E8a.out HRA.out.lt) (fun e=>by have:=(HO8.out _ e).1;omega))
         have hcn10:=fun i=>R10.out.cell i
         have hfn10:=fun i=>R10.out.frozen i
         have K9:=LH (fun q (hq:q<w4.heap.size)=>(B10.out.block q hq).trans (HBX.out.block q hq).symm)
         clear G10 hGr10
         refine hK.out _ _ (HF14.out _ K9.out (hcn10 1)) (fun hS10=>?_)
         clear hK K
         try simp only [nA,nB,nC,Act.put,nD,nE,nF]
         clear hS8a
         refine wpAnyT_take (i:=14) (oi:=_) (v:=?vv14) rfl (by kernel_rfl) (by kernel_rfl) (by kernel_rfl) (by kernel_rfl) (fun _ _ _ h=>h) (Or.inl ⟨by rfl,?hy14⟩) hS10 ?_
         case hy14=>(intro x hSx;(try dsimp only at hSx);go_simp;(try with_reducible rfl))
         try simp only [nA,nB,nC,Act.put,nD,nE,nF]
         refine wpAnyT_last (by kernel_rfl) (by kernel_rfl) rfl (fun K hK=>?_)
         try simp only [nA,nB,nC]
         go_simp
         refine hK.out _ _ ?_
         clear hK K
         try simp only [nA,nB,nC,Act.put,nD,nE,nF]
         obtain⟨wz,ez⟩:∃ wz,wz=w10.setCell ⟨n3,1,none⟩ (.slice A10 (m'+1) c10):=⟨_,rfl⟩
         rw [<- ez]
         have FIN:=LH (show Below w4.heap.size w4 wz/\Hid (Grx (Xn n3 (.slice A' m c') (Xs S w.heap.size)) wz w4.heap.size 83 6 (.slice A10 (m'+1) c10) (m'+1) ((rows[j].asks.take k++kidsA a.path 0 (rows[j].asks[k].pat.kids.take (t+1))).map GAsk.toD))/\Hid (Row wz n3 80 #[.int .i64 rows[j].alt,.slice A10 (m'+1) c10])/\Hid (Row wz w2.heap.size 49 #[.int .i64 rows[j].asks[k].pat.op,.int .i64 rows[j].asks[k].pat.n,.string rows[j].asks[k].pat.s,.string rows[j].asks[k].pat.t,.slice (some ⟨bk,ofk,none⟩) rows[j].asks[k].pat.kids.length f2])/\Hid (Row wz w.heap.size 83 #[.slice A1 a.path.length c1,.int .i64 a.pat.op,.int .i64 a.pat.n,.string a.pat.s,.string a.pat.t,.slice A2 a.pat.kids.length c2])/\n3<wz.heap.size by
           rw [ez]
           refine⟨B10.out.setCell (p:=⟨n3,1,none⟩) hn4 _,LH ?_,LH (R10.out.set 1 _),LH (RQ10.out.far (p:=⟨n3,1,none⟩) (by simp<;>omega) _),LH (RA10.out.far (p:=⟨n3,1,none⟩) (by simp<;>omega) _),by simp [World.setCell];omega⟩
           rw [HKT.out,<- List.append_assoc,List.map_append]
           exact HG10.out.keepN HN10.out (by simp [World.setCell]) (fun q hq hq2=>Below.heap_setCell _ ⟨n3,1,none⟩ _ q hq2))
         clear ez hcn10 hfn10 hcn8
         go_wp2_with fail
         go_roundw
         case rel=>exact⟨t+1,m'+1,A10,c10,by omega,by go_num,by have:=HM7.out;omega,FIN.out.2.1,HN10,FIN.out.2.2.1,FIN.out.2.2.2.1,FIN.out.2.2.2.2.1,FIN.out.2.2.2.2.2,LH FIN.out.1⟩
         case measure=>simp [intOf];omega
        ·
         have HTK:=LH (show rows[j].asks[k].pat.kids.take t=rows[j].asks[k].pat.kids by rw [show t=rows[j].asks[k].pat.kids.length by omega,List.take_length])
         have BW:=LH (B4.out.trans (HBX.out.mono hz4))
         have hwo:=Nat.le_trans E2.out.size E4.out.size
         have HOW7:=LH (fun g (hg:(Value.slice A7 m' c7).ownBlock=some g)=>HG7.out.own g hg)
         have T15:=LH (show Sl wr.drew (fun b=>b<wr.drew.heap.size/\(Value.slice A7 m' c7).ownBlock≠some b/\Xn n3 (.slice A' m c') (Xs S w.heap.size) b) 6 (restAt b2 off2 6 (k+1) d1) (d1 - (k+1)) ((rows[j].asks.drop (k+1)).map GAsk.toD) by
           rw [List.map_drop]
           exact(Sl.restAt HAT.out.2 (by rw [List.length_map];omega)).keep fun q hq=>⟨⟨Nat.lt_of_lt_of_le (HSL.out q hq) BW.out.size,fun e=>by have:=(HOW7.out _ e).1;have h4:=HSL.out q hq;omega,by have h4:=HSL.out q hq;omega,fun e=>by have:=(HOW.out _ e).1;have h4:=HSL.out q hq;omega,.inl hq⟩,(HBX.out.block q (Nat.lt_of_lt_of_le (HSL.out q hq) hz4)).trans (HK4.out q (HSL.out q hq))⟩)
         have G15:=LH (HG7.out.below ((Below.refl wr.heap.size wr).drew))
         have HR15:=run_restAt (P:=Tryz.prog) 78 83 6 Tryz.underlying78 (by kernel_rfl) b2 off2 rows[j].asks.length d1 (k+1) ((k:Int)+1) (by omega) (by omega) (by omega)
         have hwk:IntKind.i64.wrap ((k:Int)+1)=(k:Int)+1:=(IntWalk.i64_left _).trans (IntWalk.wrap64_in ((k:Int)+1) (by omega))
         have hb15:m'+(rows[j].asks.length - (k+1))<=3145728:=Nat.add_le_add hm8 (Nat.le_trans (Nat.sub_le _ _) (Nat.le_trans hkl hkm))
         have hb16:(m'+(rows[j].asks.length - (k+1)))*96<=140737488355328:=Nat.le_trans (Nat.mul_le_mul_right 96 hb15) (by decide)
         have hb17:m'+(rows[j].asks.length - (k+1))<=maxLen:=Nat.le_trans hb15 (by unfold maxLen;decide)
         have F15:=LH (fun(x:World) (hx:∀ q,q<w4.heap.size->x.heap[q]? =wr.heap[q]?) (hx3:x.cell? ⟨n3,1,none⟩=some (.slice A7 m' c7))=>show x.cell? ⟨b,off+j*2+1,none⟩=some (.slice (some ⟨b2,off2,none⟩) rows[j].asks.length d1)/\x.cell? ⟨n3,1,none⟩=some (.slice A7 m' c7) from
           ⟨(World.cell?_of_block (hx _ hb4)).trans ((HBX.out.cell (p:=⟨b,off+j*2+1,none⟩) hb4).trans P1.out),hx3⟩)
         have K1:=LH (show ∀ q,q<w4.heap.size->wr.drew.heap[q]? =wr.heap[q]? from fun _ _=>rfl)
         obtain⟨mm,hmm⟩:∃ mm,m'+(rows[j].asks.length - (k+1))=mm:=⟨_,rfl⟩
         have HMM:=LH hmm
         clear hmm
         go_wp2_with fail
         refine wp_region_T (fun x=>x.cell? ⟨b,off+j*2+1,none⟩=some (.slice (some ⟨b2,off2,none⟩) rows[j].asks.length d1)/\x.cell? ⟨n3,1,none⟩=some (.slice A7 m' c7)) 12 (by kernel_rfl) ?_
         have hS1:=F15.out _ K1.out (hcn 1)
         refine wpAnyT_take (i:=0) (oi:=_) (v:=?zv0) rfl (by kernel_rfl) (by kernel_rfl) (by kernel_rfl) (by kernel_rfl) (fun _ _ _ h=>h) (Or.inl ⟨by rfl,?zh0⟩) hS1 ?_
         case zh0=>(intro x hSx;(try dsimp only at hSx);go_simp;(try with_reducible rfl))
         try simp only [nA,nB,nC,Act.put,nD,nE,nF]
         refine wpAnyT_take (i:=1) (oi:=_) (v:=?zv1) rfl (by kernel_rfl) (by kernel_rfl) (by kernel_rfl) (by kernel_rfl) (fun _ _ _ h=>h) (Or.inl ⟨by rfl,?zh1⟩) hS1 ?_
         case zh1=>(intro x hSx;(try dsimp only at hSx);go_simp;(try with_reducible rfl))
         try simp only [nA,nB,nC,Act.put,nD,nE,nF]
         refine wpAnyT_take (i:=2) (oi:=_) (v:=?zv2) rfl (by kernel_rfl) (by kernel_rfl) (by kernel_rfl) (by kernel_rfl) (fun _ _ _ h=>h) (Or.inl ⟨by rfl,?zh2⟩) hS1 ?_
         case zh2=>(intro x hSx;(try dsimp only at hSx);go_simp;(try with_reducible rfl))
         try simp only [nA,nB,nC,Act.put,nD,nE,nF]
         refine wpAnyT_take (i:=3) (oi:=_) (v:=?zv3) rfl (by kernel_rfl) (by kernel_rfl) (by kernel_rfl) (by kernel_rfl) (fun _ _ _ h=>h) (Or.inl ⟨by rfl,?zh3⟩) hS1 ?_
         case zh3=>(intro x hSx;(try dsimp only at hSx);go_simp;(try with_reducible rfl))
         try simp only [nA,nB,nC,Act.put,nD,nE,nF]
         refine wpAnyT_take (i:=4) (oi:=_) (v:=?zv4) rfl (by kernel_rfl) (by kernel_rfl) (by kernel_rfl) (by kernel_rfl) (fun _ _ _ h=>h) (Or.inl ⟨by rfl,?zh4⟩) hS1 ?_
         case zh4=>(intro x hSx;(try dsimp only at hSx);go_simp;(try with_reducible rfl))
         try simp only [nA,nB,nC,Act.put,nD,nE,nF]
         refine wpAnyT_take (i:=5) (oi:=_) (v:=?zv5) rfl (by kernel_rfl) (by kernel_rfl) (by kernel_rfl) (by kernel_rfl) (fun _ _ _ h=>h) (Or.inl ⟨by rfl,?zh5⟩) hS1 ?_
         case zh5=>(intro x hSx;(try dsimp only at hSx);go_simp;(try with_reducible rfl))
         try simp only [nA,nB,nC,Act.put,nD,nE,nF]
         refine wpAnyT_take (i:=6) (oi:=_) (v:=?zv6) rfl (by kernel_rfl) (by kernel_rfl) (by kernel_rfl) (by kernel_rfl) (fun _ _ _ h=>h) (Or.inl ⟨by rfl,?zh6⟩) hS1 ?_
         case zh6=>(intro x hSx;(try dsimp only at hSx);go_simp;(try with_reducible rfl))
         try simp only [nA,nB,nC,Act.put,nD,nE,nF]
         refine wpAnyT_take (i:=7) (oi:=_) (v:=?zv7) rfl (by kernel_rfl) (by kernel_rfl) (by kernel_rfl) (by kernel_rfl) (fun _ _ _ h=>h) (Or.inl ⟨by rfl,?zh7⟩) hS1 ?_
         case zh7=>(intro x hSx;(try dsimp only at hSx);go_simp;(try with_reducible rfl))
         try simp only [nA,nB,nC,Act.put,nD,nE,nF]
         refine wpAnyT_take (i:=8) (oi:=_) (v:=?zv8) rfl (by kernel_rfl) (by kernel_rfl) (by kernel_rfl) (by kernel_rfl) (fun _ _ _ h=>h) (Or.inl ⟨by rfl,?zh8⟩) hS1 ?_
         case zh8=>(intro x hSx;(try dsimp only at hSx);go_simp;(try with_reducible rfl))
         try simp only [nA,nB,nC,Act.put,nD,nE,nF]
         refine wpAnyT_take (i:=9) (oi:=_) (v:=?zv9) rfl (by kernel_rfl) (by kernel_rfl) (by kernel_rfl) (by kernel_rfl) (fun _ _ _ h=>h) (Or.inl ⟨by rfl,?zh9⟩) hS1 ?_
         case zh9=>(intro x hSx;(try dsimp only at hSx);go_simp;(try with_reducible rfl))
         try simp only [nA,nB,nC,Act.put,nD,nE,nF]
         refine wpAnyT_step (i:=10) (by kernel_rfl) rfl (fun K hK=>?_)
         refine step_append_X _ rfl (.tmp 86) (.tmp 94) 78 rfl 83 zAsk 6 96 Tryz.underlying78 (by kernel_rfl) rfl (by omega) w4.heap.size (.slice A7 m' c7) m' _ G15.out (restAt b2 off2 6 (k+1) d1) (d1 - (k+1)) (rows[j].asks.length - (k+1)) _ (by rw [List.length_map,List.length_drop]) T15.out hzx hb17 hb16 rfl rfl ?_
         intro A11 c11 w11 G11 hGr11
         rw [HMM.out] at G11 hGr11 ⊢
         have HG11:=LH G11
         have HN11:=LH (hGr11.ne HN7.out hnx)
         have B11:=LH (HBX.out.trans (((Below.refl w4.heap.size wr).drew).trans (hGr11.below (B:=w4.heap.size) hzx (fun g hg=>(HOW7.out g hg).1))))
         have R11:=LH (hGr11.row (HRN.out.below ((Below.refl wr.heap.size wr).drew) HRN.out.lt) HN7.out)
         have hcn11:=fun i=>R11.out.cell i
         have hfn11:=fun i=>R11.out.frozen i
         have K11:=LH (fun q (hq:q<w4.heap.size)=>(B11.out.block q hq).trans (HBX.out.block q hq).symm)
         clear G11 hGr11
         refine hK.out _ _ (F15.out _ K11.out (hcn11 1)) (fun hS11=>?_)
         clear hK K hS1
         try simp only [nA,nB,nC,Act.put,nD,nE,nF]
         refine wpAnyT_take (i:=11) (oi:=_) (v:=?zv11) rfl (by kernel_rfl) (by kernel_rfl) (by kernel_rfl) (by kernel_rfl) (fun _ _ _ h=>h) (Or.inl ⟨by rfl,?zh11⟩) hS11 ?_
         case zh11=>(intro x hSx;(try dsimp only at hSx);go_simp;(try with_reducible rfl))
         try simp only [nA,nB,nC,Act.put,nD,nE,nF]
         refine wpAnyT_last (by kernel_rfl) (by kernel_rfl) rfl (fun K hK=>?_)
         try simp only [nA,nB,nC]
         go_simp
         refine hK.out _ _ ?_
         clear hK K hS11
         try simp only [nA,nB,nC,Act.put,nD,nE,nF]
         obtain⟨wz,ez⟩:∃ wz,wz=w11.setCell ⟨n3,1,none⟩ (.slice A11 mm c11):=⟨_,rfl⟩
         rw [<- ez]
         obtain⟨T,hT⟩:∃ T,rows[j].asks.take k++kidsA a.path 0 rows[j].asks[k].pat.kids++rows[j].asks.drop (k+1)=T:=⟨_,rfl⟩
         have BZ:=LH (show Below w4.heap.size w4 wz by rw [ez];exact B11.out.setCell (p:=⟨n3,1,none⟩) hn4 _)
         have RZ:=LH (show Row wz n3 80 #[.int .i64 rows[j].alt,.slice A11 mm c11] by rw [ez];exact R11.out.set 1 _)
         have GZ:=LH (show Grx (Xn n3 (.slice A' m c') (Xs S w.heap.size)) wz w4.heap.size 83 6 (.slice A11 mm c11) mm (T.map GAsk.toD) by
           rw [ez,<- hT,List.map_append,<- HTK.out]
           exact HG11.out.keepN HN11.out (by simp [World.setCell]) (fun q hq hq2=>Below.heap_setCell _ ⟨n3,1,none⟩ _ q hq2))
         have HTM:=LH (show asksM T<=asksM rows[j].asks by rw [<- hT];exact asksM_turned rows[j].asks k hk a.path)
         have HTL:=LH (show bareA T=rows[j].asks.take k++bareA (kidsA a.path 0 rows[j].asks[k].pat.kids)++rows[j].asks.drop (k+1) by rw [<- hT];exact bareA_turned (fun x hx=>((HBD.out _ (List.getElem_mem hlt)).2 x hx).1) k _)
         clear hT ez hcn11 hfn11 hcn hcq hck
         obtain⟨L,hL⟩:∃ L,bareA T=L:=⟨_,rfl⟩
         have HV2:=LH (show yesR a (rows.take (j+1))=yesR a (rows.take j)++[⟨rows[j].alt,L⟩] by rw [HV.out,<- HTL.out,hL])
         have hlz:=GZ.out.1
         rw [List.length_map] at hlz
         obtain⟨A5,c5,e5,hs5⟩:=GZ.out.slY (Y:=fun b=>(Value.slice A' m c').ownBlock≠some b/\Xs S w.heap.size b) (fun b h=>h.2) (fun b h=>⟨fun e=>by have:=(HOW.out _ e).2;omega,.inr (by omega)⟩)
         obtain⟨rfl,rfl⟩:A11=A5/\c11=c5:=by simpa using e5
         have hdz:=specBareS (fun b=>((Value.slice A' m c').ownBlock≠some b/\Xs S w.heap.size b)/\b<wz.heap.size) ⟨rows[j].alt,T⟩ A11 c11 wz (Nat.le_trans (asksM_len T) (Nat.le_trans HTM.out hkm)) (fun q hq=>hq.2) hs5
         rw [show(⟨rows[j].alt,T⟩:GTrow).asks.length=mm from hlz,hL] at hdz
         have HDZ:=LH hdz
         have hcz:=fun i=>RZ.out.cell i
         clear hdz hs5 hlz hL e5
         go_wp2_with fail
         refine HDZ.out.mono ?_
         rintro e w12 ⟨A12,c12,rfl,hs12,hb12⟩
         have E12:=LH (BZ.out.trans (hb12.mono BZ.out.size))
         obtain⟨w13,e13⟩:∃ w13,w13=w12.alloc (.cells #[.int .i64 rows[j].alt,.slice A12 L.length c12] 80):=⟨_,rfl⟩
         have E13:=LH (show Below w4.heap.size w4 w13 by rw [e13];exact E12.out.alloc E12.out.size _)
         have hs13:=Nat.le_trans hs4 E13.out.size
         have G13:=LH (G4.out.below E13.out)
         have B13:=LH (B4.out.trans (E13.out.mono hz4))
         have T13:=LH (show Sl w13 (fun b=>b<w13.heap.size/\(Value.slice A' m c').ownBlock≠some b/\Xs S w.heap.size b) 2 (some ⟨w12.heap.size,0,none⟩) 1 [(⟨rows[j].alt,L⟩:GTrow).toD] from
           slOne (T:=80) (cs:=[.int .i64 rows[j].alt,.slice A12 L.length c12]) (by rw [e13];exact Row.new' _ _ _ rfl) (GTrow.rd_mk (t:=⟨rows[j].alt,L⟩) ⟨HAT.out.1,hs12.keep fun q hq=>⟨⟨by rw [e13];simp;have:=hq.2;omega,fun e=>by rcases hq.1 with h | h;exact h.1.1 e;have:=(HOW.out _ e).2;have:=BZ.out.size;omega,by rcases hq.1 with h | h;exact h.1.2;exact .inr (by have:=BZ.out.size;omega)⟩,by rw [e13];exact((Below.refl _ _).alloc (Nat.le_refl _) _).block q hq.2⟩⟩) rfl ⟨by rw [e13];simp,fun e=>by have:=(HOW.out _ e).2;have:=E12.out.size;omega,.inr (by have:=E12.out.size;omega)⟩)
         clear hb12 hs12
         go_wp2_with (first
           | (at_builtin
              rw [<- e13]
              refine wpList_append_X w13 rfl (.tmp 97) (.tmp 100) 75 rfl 80 zTrow 2 32 Tryz.underlying75 (by kernel_rfl) rfl (by omega) (w.heap.size+1) (.slice A' m c') m _ G13.out (some ⟨w12.heap.size,0,none⟩) 1 1 _ rfl T13.out hs13 (by unfold maxLen;omega) (by omega) rfl rfl ?_
              intro A14 c14 w14 G14 hGr14
              have G14h:=LH G14
              have Z14:=LH (Nat.le_trans hs13 hGr14.size)
              have Ra14:=LH (hGr14.row (R4.out.below E13.out R4.out.lt) (fun e=>by have:=(HOW.out _ e).1;omega))
              have B14:=LH (B13.out.trans (hGr14.below (B:=w.heap.size) (by omega) (fun g hg=>by have:=(HOW.out g hg).1;omega)))
              clear G14 hGr14))
         go_roundw
         case rel=>exact⟨j+1,m+1,A14,c14,by omega,by go_num,rfl,by omega,LH (by rw [HV2.out,List.map_append];exact G14h.out),Ra14,Z14.out,B14⟩
         case measure=>simp [intOf];omega
  ·
   have hje:j=rows.length:=by omega
   have HLE:=LH (show rows.take j=rows by rw [hje,List.take_length])
   clear hje
   go_wp2_with fail
   go_ret
   have hG:=HG.out
   rw [HLE.out] at hG
   obtain⟨A5,c5,e5,hs5⟩:=hG.slY (Y:=Xs S w.heap.size) (fun _ h=>h) (fun b h=>.inr (by omega))
   have hl5:=hG.1
   obtain⟨rfl,rfl⟩:A'=A5/\c'=c5:=by simpa using e5
   exact⟨A',c',ret_sl (by rw [<- hl5];simp),hs5,HB.out⟩
end Go.Proofs.YtamfolaicncblaaGreat
