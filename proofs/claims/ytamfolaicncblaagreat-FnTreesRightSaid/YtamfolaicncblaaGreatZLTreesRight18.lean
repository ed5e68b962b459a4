/- Texts of the claim LTreesRight in one: TrB TrC TrD TreesQ Slc. Conditions: none but bounds on sizes. -/
import Derived.Test.YtamfolaicncblaaGreatZLTreesRight17
import Derived.BigQuiet
import Derived.Deep.RegionLaw
import Derived.Deep.DeepMust
import Derived.Deep.RegionHeld3
import Derived.Test.YtamfolaicncblaaGreatZLTreesRight4
import Derived.Test.YtamfolaicncblaaGreatZLTreesRight2
namespace Go.Proofs.YtamfolaicncblaaGreat
set_option maxRecDepth 20000
set_option linter.unusedVariables false
set_option linter.unusedSimpArgs false
open Go.RowKit
set_option maxHeartbeats 1000000
theorem Grx.keepX {X:Nat->Prop} {w w':World} {B:Nat} {e:TypeId} {size:Nat} {v:Value} {n:Nat} {xs:List D} (h:Grx X w B e size v n xs) (hs:w.heap.size<=w'.heap.size) (hk:∀ b,b<w.heap.size->X b\/B<=b->w'.heap[b]? =w.heap[b]?):Grx X w' B e size v n xs:=by
 have ho:=h.own
 obtain⟨h1,cs,h2,h4⟩:=h
 refine⟨h1,cs,⟨h2.1,?_⟩,rdC_keep (fun b hb=>⟨⟨Nat.lt_of_lt_of_le hb.1 hs,hb.2⟩,hk b hb.1 (.inl hb.2.2)⟩) xs cs h4⟩
 rcases h2.2 with h | ⟨g,cap,cur,rfl,a1,a2,a3⟩
 · exact .inl h
 · exact .inr ⟨g,cap,cur,rfl,a1,(hk g (ho g rfl).2 (.inr a1)).trans a2,a3⟩
theorem Grx.slX {X:Nat->Prop} {w:World} {B:Nat} {e:TypeId} {size:Nat} {v:Value} {n:Nat} {xs:List D} (h:Grx X w B e size v n xs):∃ A c,v= .slice A n c/\Sl w (Lt w.heap.size) size A c xs:=by
 have hlt:=h.own
 obtain⟨h1,cs,h2,h4⟩:=h
 rcases h2.2 with ⟨rfl,h⟩ | ⟨g,cap,cur,rfl,a1,a2,a3,a4,a5,a6⟩
 · have:xs= []:=List.eq_nil_of_length_eq_zero (by omega)
   subst this
   exact⟨none,0,by rw [h],Sl.nil (by unfold maxLen;omega)⟩
 ·
  refine⟨_,cap,rfl,by omega,a4,.inr ⟨g,0,rfl,(hlt g rfl).2,?_⟩⟩
  refine rdC_row xs cs 0 (fun j v hj=>?_) (rdC_keep (fun b hb=>⟨hb.1,rfl⟩) xs cs h4)
  rw [Nat.zero_add,Row.cell (t:=e) (cs:=cur) a2]
  rw [<- a6,List.getElem?_take] at hj
  split at hj
  · simpa using hj
  · cases hj
theorem Grx.slY {X Y:Nat->Prop} {w:World} {B:Nat} {e:TypeId} {size:Nat} {v:Value} {n:Nat} {xs:List D} (h:Grx X w B e size v n xs) (hX:∀ b,X b->Y b) (hB:∀ b,B<=b->Y b):∃ A c,v= .slice A n c/\Sl w (fun b=>Y b/\b<w.heap.size) size A c xs:=by
 have hlt:=h.own
 obtain⟨h1,cs,h2,h4⟩:=h
 rcases h2.2 with ⟨rfl,h⟩ | ⟨g,cap,cur,rfl,a1,a2,a3,a4,a5,a6⟩
 · have:xs= []:=List.eq_nil_of_length_eq_zero (by omega)
   subst this
   exact⟨none,0,by rw [h],Sl.nil (by unfold maxLen;omega)⟩
 ·
  refine⟨_,cap,rfl,by omega,a4,.inr ⟨g,0,rfl,⟨hB _ (hlt g rfl).1,(hlt g rfl).2⟩,?_⟩⟩
  refine rdC_row xs cs 0 (fun j v hj=>?_) (rdC_keep (fun b hb=>⟨⟨hX _ hb.2.2,hb.1⟩,rfl⟩) xs cs h4)
  rw [Nat.zero_add,Row.cell (t:=e) (cs:=cur) a2]
  rw [<- a6,List.getElem?_take] at hj
  split at hj
  · simpa using hj
  · cases hj
def ToRowS (S:Nat->Prop) (r:GTrow) (w:World) (e:Ending) (w':World):Prop:=∃ A1 c1,e= .returned (.agg #[.int .i64 r.alt,.slice A1 r.asks.length c1])/\Sl w' (fun b=>(S b\/w.heap.size<=b)/\b<w'.heap.size) 6 A1 c1 (r.asks.map GAsk.toD)/\Below w.heap.size w w'
theorem bareA_take {asks:List GAsk} {j:Nat} (h:j<asks.length):bareA (asks.take (j+1))=bareA (asks.take j)++(if isAnyB asks[j].pat=true then [] else [asks[j]]):=by
 unfold bareA;rw [take_snoc' asks j h,List.filter_append];cases hr:isAnyB asks[j].pat<;>simp [hr]
def Xq (S:Nat->Prop) (B:Nat):Nat->Prop:=fun b=>S b\/B+3<=b
def zAsk:Value:=.agg #[.slice none 0 0,.int .i64 0,.int .i64 0,.string ⟨#[]⟩,.string ⟨#[]⟩,.slice none 0 0]
theorem oneAsk {X:Nat->Prop} {w w':World} {A1:Option Addr} {c1:Nat} {A2:Option Addr} {c2:Nat} {r:GAsk} {T:TypeId} (v:Value) (hv:∀ g,v.ownBlock=some g->g<w.heap.size) (hX:X w.heap.size) (hr:Row w' w.heap.size T #[.slice A1 r.path.length c1,.int .i64 r.pat.op,.int .i64 r.pat.n,.string r.pat.s,.string r.pat.t,.slice A2 r.pat.kids.length c2]) (hB:Below w.heap.size w w') (hs:GAsk.At w (fun b=>b<w.heap.size/\v.ownBlock≠some b/\X b) A1 c1 A2 c2 r):
 Sl w' (fun b=>b<w'.heap.size/\v.ownBlock≠some b/\X b) 6 (some ⟨w.heap.size,0,none⟩) 1 [r.toD]:=
 slOne (T:=T) (cs:=[.slice A1 r.path.length c1,.int .i64 r.pat.op,.int .i64 r.pat.n,.string r.pat.s,.string r.pat.t,.slice A2 r.pat.kids.length c2]) hr (GAsk.rd_mk (hs.keep fun b hb=>⟨⟨Nat.lt_of_lt_of_le hb.1 hB.size,hb.2⟩,hB.block b hb.1⟩)) rfl ⟨hr.lt,fun h=>by have:=hv _ h;omega,hX⟩
theorem specBareS (S:Nat->Prop) (r:GTrow) (A:Option Addr) (c:Nat) (w:World) (hl:r.asks.length<=1048576) (hS:∀ b,S b->b<w.heap.size) (hs:Sl w S 6 A c (r.asks.map GAsk.toD)):
 Calls Tryz.prog 34 #[.agg #[.int .i64 r.alt,.slice A r.asks.length c]] w (ToRowS S ⟨r.alt,bareA r.asks⟩ w):=by
 have HS:=LH hs
 have HSL:=LH hS
 have HX3:=LH (fun q (hq:Xq S w.heap.size q\/w.heap.size+3<=q)=>show q<w.heap.size\/w.heap.size+3<=q from by
   rcases hq with (h | h) | h
   · exact .inl (hS q h)
   · exact .inr h
   · exact .inr h)
 clear hs hS
 obtain⟨w0,e0⟩:∃ w0,w0=((w.alloc (.cells #[.int .i64 r.alt,.slice A r.asks.length c] 80)).alloc (.cells #[.int .i64 0,.slice none 0 0] 80)).alloc (.cells #[.int .i64 r.alt,.slice none 0 0] 80):=⟨_,rfl⟩
 have HB0:=LH (show Below w.heap.size w w0 by rw [e0];exact(((Below.refl _ _).alloc (Nat.le_refl _) _).alloc (by simp) _).alloc (by simp;omega) _)
 have hs0:w.heap.size+3<=w0.heap.size:=by rw [e0];simp
 have HRa0:=LH (show Row w0 w.heap.size 80 #[.int .i64 r.alt,.slice A r.asks.length c] by rw [e0];exact((Row.new' _ _ _ rfl).alloc _).alloc _)
 have HRz0:=LH (show Row w0 (w.heap.size+1) 80 #[.int .i64 0,.slice none 0 0] by rw [e0];exact(Row.new' _ _ _ (by simp)).alloc _)
 have HRo0:=LH (show Row w0 (w.heap.size+1+1) 80 #[.int .i64 r.alt,.slice none 0 0] by rw [e0];exact Row.new' _ _ _ (by simp))
 go_enter Tryz.func34,Tryz.ntmps34
 go_wp2_with fail
 rw [<- e0]
 clear e0
 go_loopw [4] (fun i wr=>∃ (j m:Nat) (A':Option Addr) (c':Nat),j<=r.asks.length/\i= .int .i64 j/\m<=j/\Hid (Grx (Xq S w.heap.size) wr (w.heap.size+3) 83 6 (.slice A' m c') m ((bareA (r.asks.take j)).map GAsk.toD))/\Hid (Row wr w.heap.size 80 #[.int .i64 r.alt,.slice A r.asks.length c])/\Hid (Row wr (w.heap.size+1) 80 #[.int .i64 0,.slice none 0 0])/\Hid (Row wr (w.heap.size+1+1) 80 #[.int .i64 r.alt,.slice A' m c'])/\w.heap.size+3<=wr.heap.size/\Below w.heap.size w wr) (fun i _=>r.asks.length - (intOf i).toNat)
 case atStart=>exact⟨0,0,none,0,by omega,by go_num,by omega,LH (Grx.nil _ _ _ _ _),HRa0,HRz0,HRo0,hs0,HB0.out⟩
 case round=>
  clear HRa0 HRz0 HRo0 HB0 hs0
  obtain⟨j,m,A',c',hj,rfl,hm,HG,HRa,HRz,HRo,hs3,hbl⟩:=hrel
  have hsz:=hbl.size
  have hca:=fun i=>HRa.out.cell i
  have hco:=fun i=>HRo.out.cell i
  by_cases hlt:j<r.asks.length
  ·
   obtain⟨b,off,A1,c1,A2,c2,rfl,hSb,g0,g1,g2,g3,g4,g5,hat⟩:=GAsk.elem (HS.out.keep (w':=wr) (S':=S) fun q hq=>⟨hq,hbl.block q (HSL.out q hq)⟩) j hlt
   have HT:=LH (bareA_take (asks:=r.asks) (j:=j) hlt)
   have HAT:=LH hat
   clear hat
   cases h20:(r.asks[j].pat.op ==20)
   case' true=>
    have HV:=LH (show bareA (r.asks.take (j+1))=bareA (r.asks.take j)++[r.asks[j]] by rw [HT.out,isAny_con h20];simp)
   case' false=>
    cases h19:(r.asks[j].pat.op ==19)
    case' true=>
     have HV:=LH (show bareA (r.asks.take (j+1))=bareA (r.asks.take j)++[r.asks[j]] by rw [HT.out,isAny_num h19];simp)
    case' false=>
     have HV:=LH (show bareA (r.asks.take (j+1))=bareA (r.asks.take j) by rw [HT.out,isAny_ne h20 h19];simp)
   case false.false=>
    go_wp2_with fail
    go_roundw
    case rel=>exact⟨j+1,m,A',c',by omega,by go_num,by omega,LH (by rw [HV.out];exact HG.out),HRa,HRz,HRo,hs3,hbl⟩
    case measure=>simp [intOf];omega
   all_goals
    have HOW:=LH (fun g (hg:(Value.slice A' m c').ownBlock=some g)=>HG.out.own g hg)
    obtain⟨w5,e5⟩:∃ w5,w5=(wr.alloc (.cells #[.slice A1 r.asks[j].path.length c1,.int .i64 r.asks[j].pat.op,.int .i64 r.asks[j].pat.n,.string r.asks[j].pat.s,.string r.asks[j].pat.t,.slice A2 r.asks[j].pat.kids.length c2] 83)).drew:=⟨_,rfl⟩
    have E5:=LH (show Below wr.heap.size wr w5 by rw [e5];exact((Below.refl _ _).alloc (Nat.le_refl _) _).drew)
    have T5:=LH (oneAsk (X:=Xq S w.heap.size) (w:=wr) (Value.slice A' m c') (fun g hg=>(HOW.out g hg).2) (.inr hs3) (show Row w5 wr.heap.size 83 _ by rw [e5];exact Row.new wr _ _) E5.out (HAT.out.keep (w':=wr) fun b hb=>⟨⟨Nat.lt_of_lt_of_le (HSL.out b hb) hsz,fun e=>by have:=(HOW.out b e).1;have h4:=HSL.out b hb;omega,.inl hb⟩,rfl⟩))
    have G5:=LH (HG.out.below E5.out)
    have hs5:=Nat.le_trans hs3 E5.out.size
    have hla:=HRa.out.lt
    have hlo:=HRo.out.lt
    go_wp2_with fail
    go_region_law (first
      | (rw [<- e5]
         refine step_append_X w5 rfl (.tmp 34) (.tmp 40) 78 rfl 83 zAsk 6 96 Tryz.underlying78 (by kernel_rfl) rfl (by omega) (w.heap.size+3) (.slice A' m c') m ((bareA (r.asks.take j)).map GAsk.toD) G5.out (some ⟨wr.heap.size,0,none⟩) 1 1 [r.asks[j].toD] rfl T5.out hs5 (by unfold maxLen;omega) (by omega) rfl rfl ?_
         intro A6 c6 w6 G6 hGr6
         have G6h:=LH G6
         have B6:=LH ((E5.out.mono hsz).trans (hGr6.below (B:=w.heap.size) (by omega) (fun g hg=>by have:=(HOW.out g hg).1;omega)))
         have Z6:=LH hGr6.size
         have Ra6:=LH (hGr6.row (HRa.out.below E5.out (by omega)) (fun e=>by have:=(HOW.out _ e).1;omega))
         have Rz6:=LH (hGr6.row (HRz.out.below E5.out (by omega)) (fun e=>by have:=(HOW.out _ e).1;omega))
         have Ro6:=LH (hGr6.row (HRo.out.below E5.out (by omega)) (fun e=>by have:=(HOW.out _ e).1;omega))
         have hco6:=fun i=>Ro6.out.cell i
         have hfo6:=fun i=>Ro6.out.frozen i
         clear G6 hGr6))
    all_goals
     go_wp2_with fail
     go_roundw
     case rel=>
      have BB:=hbl.trans (B6.out)
      have hz6:=Nat.le_trans E5.out.size Z6.out
      refine⟨j+1,m+1,A6,c6,by omega,by go_num,by omega,LH ?_,LH ((Ra6.out).far (p:=⟨w.heap.size+1+1,1,none⟩) (by simp<;>omega) _),LH ((Rz6.out).far (p:=⟨w.heap.size+1+1,1,none⟩) (by simp<;>omega) _),LH (Ro6.out.set 1 _),?_,BB.setCell (p:=⟨w.heap.size+1+1,1,none⟩) (by simp<;>omega) _⟩
      · rw [HV.out,List.map_append]
        exact G6h.out.keepX (by simp [World.setCell]) (fun q hq hq2=>Below.heap_setCell _ ⟨w.heap.size+1+1,1,none⟩ _ q (by rcases HX3.out q hq2 with h | h<;>simp<;>omega))
      · simp [World.setCell];omega
     case measure=>simp [intOf];omega
  ·
   have hjl:j=r.asks.length:=by omega
   have HLE:=LH (show r.asks.take j=r.asks by rw [hjl,List.take_length])
   have hl5:=HG.out.1
   rw [HLE.out,List.length_map] at hl5
   have hG:=HG.out
   rw [HLE.out] at hG
   have hcz:=fun i=>HRz.out.cell i
   have hfz:=fun i=>HRz.out.frozen i
   have hG2:=hG.keepX (w':=setCells wr (w.heap.size+1) 0 [.int .i64 r.alt,.slice A' m c']) (by rw [setCells_size];exact Nat.le_refl _) (fun q hq hq2=>setCells_block _ _ _ _ _ (by rcases HX3.out q hq2 with h | h<;>omega))
   have BF:=LH (setCells_below hbl (w.heap.size+1) 0 (by omega) [.int .i64 r.alt,.slice A' m c'])
   have hsl:=hG2.slY (Y:=fun b=>S b\/w.heap.size<=b) (fun b h=>h.elim .inl (fun h=>.inr (by omega))) (fun b h=>.inr (by omega))
   have HSL:=LH hsl
   clear hsl hG2 hG hjl
   go_wp2_with fail
   obtain⟨A5,c5,e5,hs5⟩:=HSL.out
   obtain⟨rfl,rfl⟩:A'=A5/\c'=c5:=by simpa using e5
   exact bodyPost_ret (v:=.agg #[.int .i64 r.alt,.slice A' m c']) (by simp [results,Tryz.results34,go_sem,hca,hcz,hco]) rfl ⟨A',c',by rw [<- hl5],hs5,BF.out⟩
theorem specFind (r:GTrow) (path:List Int) (A:Option Addr) (c:Nat) (B:Option Addr) (d:Nat) (w:World) (hl:r.asks.length<=1048576) (hs:Sl w (Lt w.heap.size) 6 A c (r.asks.map GAsk.toD)) (hp:Sl w (Lt w.heap.size) 1 B d (path.map (D.num .i64))):
 Calls Tryz.prog 90 #[.agg #[.int .i64 r.alt,.slice A r.asks.length c],.slice B path.length d] w fun e w'=>e= .returned (.int .i64 (findA r.asks path))/\Below w.heap.size w w':=by
 have HS:=LH hs
 have HP:=LH hp
 clear hs hp
 obtain⟨w0,e0⟩:∃ w0,w0=w.alloc (.cells #[.int .i64 r.alt,.slice A r.asks.length c] 80):=⟨_,rfl⟩
 have HB0:=LH (show Below w.heap.size w w0 by rw [e0];exact(Below.refl _ _).alloc (Nat.le_refl _) _)
 have HRa0:=LH (show Row w0 w.heap.size 80 #[.int .i64 r.alt,.slice A r.asks.length c] by rw [e0];exact Row.new' _ _ _ rfl)
 go_enter Tryz.func90,Tryz.ntmps90
 go_wp2_with fail
 rw [<- e0]
 clear e0
 go_loopw [5] (fun i wr=>∃ (j:Nat),j<=r.asks.length/\i= .int .i64 j/\Hid (noneTo (fun a:GAsk=>a.path ==path) r.asks j)/\Hid (Row wr w.heap.size 80 #[.int .i64 r.alt,.slice A r.asks.length c])/\Below w.heap.size w wr) (fun i _=>r.asks.length - (intOf i).toNat)
 case atStart=>exact⟨0,by omega,by go_num,LH (noneTo_zero _ _),HRa0,HB0.out⟩
 case round=>
  clear HRa0 HB0
  obtain⟨j,hj,rfl,HE,HRa,hbl⟩:=hrel
  have hsz:=hbl.size
  have hca:=fun i=>HRa.out.cell i
  by_cases hlt:j<r.asks.length
  ·
   obtain⟨b,off,A1,c1,A2,c2,rfl,hSb,g0,g1,g2,g3,g4,g5,hat⟩:=GAsk.elem (HS.out.below hbl (Nat.le_refl _)) j hlt
   have HC:=LH (specPathEq r.asks[j].path path A1 c1 B d wr (hat.1.keep fun q hq=>⟨Nat.lt_of_lt_of_le hq hsz,rfl⟩) (HP.out.below hbl hsz))
   clear hat
   go_wp2_with fail
   refine HC.out.mono ?_
   rintro e w2 ⟨rfl,hb2⟩
   have B2:=LH (hbl.trans (hb2.mono hsz))
   have R2:=LH (HRa.out.below hb2 HRa.out.lt)
   clear hb2
   cases he:(r.asks[j].path ==path)
   · have HE2:=LH (noneTo_succ HE.out hlt he)
     clear he
     go_wp2_with fail
     go_roundw
     case rel=>exact⟨j+1,by omega,by go_num,HE2,R2,B2.out⟩
     case measure=>simp [intOf];omega
   · have HV:=LH (show findA r.asks path=(j:Int) from idxI_at HE.out hlt he)
     clear he
     go_wp2_with fail
     go_ret
     exact⟨by rw [HV.out];rfl,B2.out⟩
  · have hjl:j=r.asks.length:=by omega
    have HV:=LH (show findA r.asks path= -1 from idxI_none (hjl ▸ HE.out))
    clear hjl
    go_wp2_with fail
    go_ret
    exact⟨by rw [HV.out];rfl,hbl⟩
theorem sameP_def (p q:GNode):sameP p q=(p.op ==q.op&&(p.s.toList ==q.s.toList&&p.n ==q.n)):=rfl
theorem specAskAlike (p q:GNode) (A:Option Addr) (c:Nat) (B:Option Addr) (d:Nat) (w:World):
 Calls Tryz.prog 91 #[.agg #[.int .i64 p.op,.int .i64 p.n,.string p.s,.string p.t,.slice A p.kids.length c],.agg #[.int .i64 q.op,.int .i64 q.n,.string q.s,.string q.t,.slice B q.kids.length d]] w fun e w'=>e= .returned (.bool (sameP p q))/\Below w.heap.size w w':=by
 have B:=LH (show Below w.heap.size w ((w.alloc (.cells #[.int .i64 p.op,.int .i64 p.n,.string p.s,.string p.t,.slice A p.kids.length c] 49)).alloc (.cells #[.int .i64 q.op,.int .i64 q.n,.string q.s,.string q.t,.slice B q.kids.length d] 49)) from((Below.refl _ _).alloc (Nat.le_refl _) _).alloc (by simp) _)
 cases h1:(p.op ==q.op)
 case' true=>cases h2:(p.s.toList ==q.s.toList)
 case' true.true=>cases h3:(p.n ==q.n)
 all_goals
  go_enter Tryz.func91,Tryz.ntmps91
  go_wp2_with fail
  go_ret
  exact⟨ret_bool (by rw [sameP_def];simp [*]),B.out⟩
def Xs (S:Nat->Prop) (B:Nat):Nat->Prop:=fun b=>S b\/B<=b
def ToTrowsS (S:Nat->Prop) (rows:List GTrow) (w:World) (e:Ending) (w':World):Prop:=∃ A1 c1,e= .returned (.slice A1 rows.length c1)/\Sl w' (fun b=>Xs S w.heap.size b/\b<w'.heap.size) 2 A1 c1 (rows.map GTrow.toD)/\Below w.heap.size w w'
def zTrow:Value:=.agg #[.int .i64 0,.slice none 0 0]
def askC (a:GAsk) (A1:Option Addr) (c1:Nat) (A2:Option Addr) (c2:Nat):Array Value:=#[.slice A1 a.path.length c1,.int .i64 a.pat.op,.int .i64 a.pat.n,.string a.pat.s,.string a.pat.t,.slice A2 a.pat.kids.length c2]
theorem noR_take {a:GAsk} {rows:List GTrow} {j:Nat} (h:j<rows.length):noR a (rows.take (j+1))=noR a (rows.take j)++(if no1 a rows[j]=true then [rows[j]] else []):=by
 unfold noR;rw [take_snoc' rows j h,List.filter_append];cases hr:no1 a rows[j]<;>simp [hr]
theorem specNo (S:Nat->Prop) (a:GAsk) (rows:List GTrow) (A:Option Addr) (c:Nat) (A1:Option Addr) (c1:Nat) (A2:Option Addr) (c2:Nat) (w:World) (hl:rows.length<=1048576) (hb:∀ r∈rows,r.asks.length<=1048576) (hS:∀ b,S b->b<w.heap.size) (hs:Sl w S 2 A c (rows.map GTrow.toD)) (ha:GAsk.At w (Lt w.heap.size) A1 c1 A2 c2 a):
 Calls Tryz.prog 61 #[.slice A rows.length c,.agg (askC a A1 c1 A2 c2)] w (ToTrowsS S (noR a rows) w):=by
 unfold askC
 have HS:=LH hs
 have HA:=LH ha
 have HBD:=LH hb
 have HSL:=LH hS
 clear hs ha hb hS
 obtain⟨w0,e0⟩:∃ w0,w0=(w.alloc (.cells #[.slice A1 a.path.length c1,.int .i64 a.pat.op,.int .i64 a.pat.n,.string a.pat.s,.string a.pat.t,.slice A2 a.pat.kids.length c2] 83)).alloc (.cells #[] 80):=⟨_,rfl⟩
 have HB0:=LH (show Below w.heap.size w w0 by rw [e0];exact((Below.refl _ _).alloc (Nat.le_refl _) _).alloc (by simp) _)
 have HRa0:=LH (show Row w0 w.heap.size 83 #[.slice A1 a.path.length c1,.int .i64 a.pat.op,.int .i64 a.pat.n,.string a.pat.s,.string a.pat.t,.slice A2 a.pat.kids.length c2] by rw [e0];exact(Row.new' _ _ _ rfl).alloc _)
 have G0:=LH (show Grx (Xs S w.heap.size) w0 (w.heap.size+1) 80 2 (.slice (some ⟨w.heap.size+1,0,none⟩) 0 0) 0 [] from Grx.made (by rw [e0];exact Row.new' _ _ _ (by simp)) (Nat.le_refl _))
 have hs0:w.heap.size+1<=w0.heap.size:=by rw [e0];simp
 go_enter Tryz.func61,Tryz.ntmps61
 go_wp2_with fail
 rw [<- e0]
 clear e0
 go_loopw [5,6] (fun v i wr=>∃ (j m:Nat) (A':Option Addr) (c':Nat),j<=rows.length/\i= .int .i64 j/\v= .slice A' m c'/\m<=j/\Hid (Grx (Xs S w.heap.size) wr (w.heap.size+1) 80 2 (.slice A' m c') m ((noR a (rows.take j)).map GTrow.toD))/\Hid (Row wr w.heap.size 83 #[.slice A1 a.path.length c1,.int .i64 a.pat.op,.int .i64 a.pat.n,.string a.pat.s,.string a.pat.t,.slice A2 a.pat.kids.length c2])/\w.heap.size+1<=wr.heap.size/\Hid (Below w.heap.size w wr)) (fun _ i _=>rows.length - (intOf i).toNat)
 case atStart=>exact⟨0,0,_,_,by omega,by go_num,rfl,by omega,G0,HRa0,hs0,HB0⟩
 case round=>
  clear HRa0 HB0 G0 hs0
  obtain⟨j,m,A',c',hj,rfl,rfl,hm,HG,HRa,hs1,HB⟩:=hrel
  have hsz:=HB.out.size
  have hca:=fun i=>HRa.out.cell i
  have HOW:=LH (fun g (hg:(Value.slice A' m c').ownBlock=some g)=>HG.out.own g hg)
  by_cases hlt:j<rows.length
  ·
   obtain⟨b,off,B1,d1,rfl,hSb,g0,g1,hat⟩:=GTrow.elem (HS.out.keep (w':=wr) (S':=S) fun q hq=>⟨hq,HB.out.block q (HSL.out q hq)⟩) j hlt
   have hSb':b<w.heap.size:=HSL.out b hSb
   have hbl:b<wr.heap.size:=Nat.lt_of_lt_of_le hSb' hsz
   have HAT:=LH hat
   obtain⟨fi,hfi⟩:∃ fi,findA rows[j].asks a.path=fi:=⟨_,rfl⟩
   have hff:=specFind rows[j] a.path B1 d1 A1 c1 wr.drew (HBD.out _ (List.getElem_mem hlt)) (hat.2.keep fun q hq=>⟨Nat.lt_of_lt_of_le (HSL.out q hq) hsz,rfl⟩) ((HA.out.1.below HB.out (Nat.le_refl _)).keep fun q hq=>⟨Nat.lt_of_lt_of_le hq hsz,rfl⟩)
   rw [hfi] at hff
   have HF:=LH hff
   have HFI:=LH hfi
   clear hff hfi
   have HT:=LH (noR_take (a:=a) (rows:=rows) (j:=j) hlt)
   clear hat
   go_wp2_with fail
   go_region_law (first
     | (go_simp
        go_at_call 90
        go_must (
          refine HF.out.mono ?_
          rintro e w2 ⟨rfl,hb2⟩
          have E2:=LH (((Below.refl wr.heap.size wr).drew).trans hb2)
          have R2:=LH (HRa.out.below E2.out HRa.out.lt)
          have hca2:=fun i=>R2.out.cell i
          clear hb2)))
   all_goals
    have B2:=LH (HB.out.trans (E2.out.mono hsz))
    have hs2:=Nat.le_trans hs1 E2.out.size
    have G2:=LH (HG.out.below E2.out)
    have k0:w2.cell? ⟨b,off+j*2,none⟩=some (.int .i64 rows[j].alt):=(E2.out.cell (p:=⟨b,off+j*2,none⟩) hbl).trans g0
    have k1:w2.cell? ⟨b,off+j*2+1,none⟩=some (.slice B1 rows[j].asks.length d1):=(E2.out.cell (p:=⟨b,off+j*2+1,none⟩) hbl).trans g1
    clear g0 g1 hca
    by_cases hn:fi<0
    ·
     have HV:=LH (show noR a (rows.take (j+1))=noR a (rows.take j)++[rows[j]] by rw [HT.out];unfold no1;rw [HFI.out];simp [hn])
     have dn:decide (fi<0)=true:=decide_eq_true hn
     clear hn
     go_wp2_with fail
     go_simp
     go_big_quiet (fail)
     obtain⟨w3,e3⟩:∃ w3,w3=w2.drewN nq:=⟨_,rfl⟩
     have E3:=LH (show Below w2.heap.size w2 w3 by rw [e3];exact⟨rfl,rfl,rfl,Nat.le_refl _,fun _ _=>rfl⟩)
     have c0:w3.cell? ⟨b,off+j*2,none⟩=some (.int .i64 rows[j].alt):=by rw [e3];exact k0
     have c1:w3.cell? ⟨b,off+j*2+1,none⟩=some (.slice B1 rows[j].asks.length d1):=by rw [e3];exact k1
     rw [<- e3]
     clear e3
     obtain⟨w5,e5⟩:∃ w5,w5=w3.alloc (.cells #[.int .i64 rows[j].alt,.slice B1 rows[j].asks.length d1] 80):=⟨_,rfl⟩
     have E5:=LH (show Below w2.heap.size w2 w5 by rw [e5];exact E3.out.alloc E3.out.size _)
     have hs3:=Nat.le_trans hs2 E3.out.size
     have hs5:=Nat.le_trans hs2 E5.out.size
     have G5:=LH (G2.out.below E5.out)
     have B5:=LH (B2.out.trans (E5.out.mono (Nat.le_trans (Nat.le_succ _) hs2)))
     have T5:=LH (show Sl w5 (fun b=>b<w5.heap.size/\(Value.slice A' m c').ownBlock≠some b/\Xs S w.heap.size b) 2 (some ⟨w3.heap.size,0,none⟩) 1 [(rows[j]).toD] from
       slOne (T:=80) (cs:=[.int .i64 rows[j].alt,.slice B1 rows[j].asks.length d1]) (by rw [e5];exact Row.new' _ _ _ rfl) (GTrow.rd_mk (HAT.out.keep fun q hq=>⟨⟨Nat.lt_of_lt_of_le (HSL.out q hq) B5.out.size,fun e=>by have:=(HOW.out q e).1;have h4:=HSL.out q hq;omega,.inl hq⟩,((E2.out.trans (E5.out.mono E2.out.size)).block q (Nat.lt_of_lt_of_le (HSL.out q hq) hsz))⟩)) rfl ⟨by rw [e5];simp,fun e=>by have:=(HOW.out _ e).2;have:=E2.out.size;have:=E3.out.size;omega,.inr (by have:=E2.out.size;have:=E3.out.size;omega)⟩)
     go_wp2_with (first
       | (at_builtin
          rw [<- e5]
          refine wpList_append_X w5 rfl (.tmp 39) (.tmp 44) 75 rfl 80 zTrow 2 32 Tryz.underlying75 (by kernel_rfl) rfl (by omega) (w.heap.size+1) (.slice A' m c') m _ G5.out (some ⟨w3.heap.size,0,none⟩) 1 1 _ rfl T5.out hs5 (by unfold maxLen;omega) (by omega) rfl rfl ?_
          intro A6 c6 w6 G6 hGr6
          have G6h:=LH G6
          have Z6:=LH (Nat.le_trans hs5 hGr6.size)
          have Ra6:=LH (hGr6.row (R2.out.below E5.out R2.out.lt) (fun e=>by have:=(HOW.out _ e).1;omega))
          have B6:=LH (B5.out.trans (hGr6.below (B:=w.heap.size) (by omega) (fun g hg=>by have:=(HOW.out g hg).1;omega)))
          clear G6 hGr6))
     go_roundw
     case rel=>exact⟨j+1,m+1,A6,c6,by omega,by go_num,rfl,by omega,LH (by rw [HV.out,List.map_append];exact G6h.out),Ra6,Z6.out,B6⟩
     case measure=>simp [intOf];omega
    ·
     obtain⟨k,hk,ek,hpk,-⟩:=idxI_spec (p:=fun x:GAsk=>x.path ==a.path) (l:=rows[j].asks) (show 0<=findA rows[j].asks a.path by rw [HFI.out];omega)
     obtain rfl:fi=(k:Int):=by rw [<- HFI.out];exact ek
     obtain⟨b2,off2,D1,f1,D2,f2,rfl,hSb2,q0,q1,q2,q3,q4,q5,hatk⟩:=GAsk.elem (HAT.out.2.keep (w':=w2) (S':=Lt wr.heap.size) fun q hq=>⟨Nat.lt_of_lt_of_le (HSL.out q hq) hsz,E2.out.block q (Nat.lt_of_lt_of_le (HSL.out q hq) hsz)⟩) k hk
     have hSb2':b2<wr.heap.size:=hSb2
     have dn:decide ((k:Int)<0)=false:=decide_eq_false hn
     have HNO:=LH (show no1 a rows[j]= !sameP rows[j].asks[k].pat a.pat by
       unfold no1
       rw [HFI.out,if_neg hn]
       simp [hk])
     have HAL:=LH (fun x:World=>specAskAlike rows[j].asks[k].pat a.pat D2 f2 A2 c2 x)
     have hbw2:=Nat.lt_of_lt_of_le hbl E2.out.size
     have hb2w:=Nat.lt_of_lt_of_le hSb2' E2.out.size
     clear hpk ek hn hatk
     go_wp2_with fail
     go_simp
     go_region_held3 (fun w'=>(∀ i,w'.cell? ⟨w.heap.size,i,none⟩=(#[.slice A1 a.path.length c1,.int .i64 a.pat.op,.int .i64 a.pat.n,.string a.pat.s,.string a.pat.t,.slice A2 a.pat.kids.length c2]:Array Value)[i]?)/\w'.cell? ⟨b,off+j*2+1,none⟩=some (.slice (some ⟨b2,off2,none⟩) rows[j].asks.length d1)/\w'.cell? ⟨b2,off2+k*6+1,none⟩=some (.int .i64 rows[j].asks[k].pat.op)/\w'.cell? ⟨b2,off2+k*6+1+1,none⟩=some (.int .i64 rows[j].asks[k].pat.n)/\w'.cell? ⟨b2,off2+k*6+1+2,none⟩=some (.string rows[j].asks[k].pat.s)/\w'.cell? ⟨b2,off2+k*6+1+3,none⟩=some (.string rows[j].asks[k].pat.t)/\w'.cell? ⟨b2,off2+k*6+1+4,none⟩=some (.slice D2 rows[j].asks[k].pat.kids.length f2)) (first | exact⟨hca2,k1,q1,q2,q3,q4,q5⟩ | exact⟨hca3,l1,r1,r2,r3,r4,r5⟩) (first
       | (go_at_call 91
          go_must (
            refine(HAL.out w2.drew).mono ?_
            rintro e w3 ⟨rfl,hb3⟩
            have E3:=LH (((Below.refl w2.heap.size w2).drew).trans hb3)
            have R3:=LH (R2.out.below E3.out R2.out.lt)
            have hca3:=fun i=>R3.out.cell i
            have l1:=(E3.out.cell (p:=⟨b,off+j*2+1,none⟩) hbw2).trans k1
            have r1:=(E3.out.cell (p:=⟨b2,off2+k*6+1,none⟩) hb2w).trans q1
            have r2:=(E3.out.cell (p:=⟨b2,off2+k*6+1+1,none⟩) hb2w).trans q2
            have r3:=(E3.out.cell (p:=⟨b2,off2+k*6+1+2,none⟩) hb2w).trans q3
            have r4:=(E3.out.cell (p:=⟨b2,off2+k*6+1+3,none⟩) hb2w).trans q4
            have r5:=(E3.out.cell (p:=⟨b2,off2+k*6+1+4,none⟩) hb2w).trans q5
            clear hb3)))
     all_goals
      cases hsp:sameP rows[j].asks[k].pat a.pat
      ·
       have HV:=LH (show noR a (rows.take (j+1))=noR a (rows.take j)++[rows[j]] by rw [HT.out,HNO.out,hsp];rfl)
       have c0:w3.cell? ⟨b,off+j*2,none⟩=some (.int .i64 rows[j].alt):=(E3.out.cell (p:=⟨b,off+j*2,none⟩) hbw2).trans k0
       have hs3:=Nat.le_trans hs2 E3.out.size
       clear hsp k0 k1 q0 q1 q2 q3 q4 q5 r1 r2 r3 r4 r5 hca2 hca3
       obtain⟨w5,e5⟩:∃ w5,w5=w3.alloc (.cells #[.int .i64 rows[j].alt,.slice (some ⟨b2,off2,none⟩) rows[j].asks.length d1] 80):=⟨_,rfl⟩
       have E5:=LH (show Below w2.heap.size w2 w5 by rw [e5];exact E3.out.alloc E3.out.size _)
       have hs5:=Nat.le_trans hs2 E5.out.size
       have G5:=LH (G2.out.below E5.out)
       have B5:=LH (B2.out.trans (E5.out.mono (Nat.le_trans (Nat.le_succ _) hs2)))
       have T5:=LH (show Sl w5 (fun b=>b<w5.heap.size/\(Value.slice A' m c').ownBlock≠some b/\Xs S w.heap.size b) 2 (some ⟨w3.heap.size,0,none⟩) 1 [(rows[j]).toD] from
         slOne (T:=80) (cs:=[.int .i64 rows[j].alt,.slice (some ⟨b2,off2,none⟩) rows[j].asks.length d1]) (by rw [e5];exact Row.new' _ _ _ rfl) (GTrow.rd_mk (HAT.out.keep fun q hq=>⟨⟨Nat.lt_of_lt_of_le (HSL.out q hq) B5.out.size,fun e=>by have:=(HOW.out q e).1;have h4:=HSL.out q hq;omega,.inl hq⟩,((E2.out.trans (E5.out.mono E2.out.size)).block q (Nat.lt_of_lt_of_le (HSL.out q hq) hsz))⟩)) rfl ⟨by rw [e5];simp,fun e=>by have:=(HOW.out _ e).2;have:=E2.out.size;have:=E3.out.size;omega,.inr (by have:=E2.out.size;have:=E3.out.size;omega)⟩)
       go_wp2_with (first
         | (at_builtin
            rw [<- e5]
            refine wpList_append_X w5 rfl (.tmp 39) (.tmp 44) 75 rfl 80 zTrow 2 32 Tryz.underlying75 (by kernel_rfl) rfl (by omega) (w.heap.size+1) (.slice A' m c') m _ G5.out (some ⟨w3.heap.size,0,none⟩) 1 1 _ rfl T5.out hs5 (by unfold maxLen;omega) (by omega) rfl rfl ?_
            intro A6 c6 w6 G6 hGr6
            have G6h:=LH G6
            have Z6:=LH (Nat.le_trans hs5 hGr6.size)
            have Ra6:=LH (hGr6.row (R2.out.below E5.out R2.out.lt) (fun e=>by have:=(HOW.out _ e).1;omega))
            have B6:=LH (B5.out.trans (hGr6.below (B:=w.heap.size) (by omega) (fun g hg=>by have:=(HOW.out g hg).1;omega)))
            clear G6 hGr6))
       go_roundw
       case rel=>exact⟨j+1,m+1,A6,c6,by omega,by go_num,rfl,by omega,LH (by rw [HV.out,List.map_append];exact G6h.out),Ra6,Z6.out,B6⟩
       case measure=>simp [intOf];omega
      · have HV:=LH (show noR a (rows.take (j+1))=noR a (rows.take j) by rw [HT.out,HNO.out,hsp];simp)
        have B3:=LH (B2.out.trans (E3.out.mono (Nat.le_trans (Nat.le_succ _) hs2)))
        have G3:=LH (G2.out.below E3.out)
        have hs3:=Nat.le_trans hs2 E3.out.size
        clear hsp k0 k1 q0 q1 q2 q3 q4 q5 r1 r2 r3 r4 r5 hca2 hca3
        go_wp2_with fail
        go_roundw
        case rel=>exact⟨j+1,m,A',c',by omega,by go_num,rfl,by omega,LH (by rw [HV.out];exact G3.out),R3,hs3,B3⟩
        case measure=>simp [intOf];omega
  ·
   have hje:j=rows.length:=by omega
   have HLE:=LH (show rows.take j=rows by rw [hje,List.take_length])
   clear hje
   go_wp2_with fail
   go_ret
   have hG:=HG.out
   rw [HLE.out] at hG
   obtain⟨A5,c5,e5,hs5⟩:=hG.slY (Y:=Xs S w.heap.size) (fun _ h=>h) (fun b h=>.inr (by omega))
   have hl5:=hG.1
   obtain⟨rfl,rfl⟩:A'=A5/\c'=c5:=by simpa using e5
   exact⟨A',c',ret_sl (by rw [<- hl5];simp),hs5,HB.out⟩
def asksM (l:List GAsk):Nat:=bulkL (fun x:GAsk=>x.pat.bulk) l
theorem asksM_nil:asksM []=0:=rfl
theorem asksM_cons (x:GAsk) (l:List GAsk):asksM (x::l)=1+x.pat.bulk+asksM l:=rfl
theorem asksM_append:∀ (a b:List GAsk),asksM (a++b)=asksM a+asksM b
 | [],b=>by simp [asksM_nil]
 | x::a,b=>by rw [List.cons_append,asksM_cons,asksM_cons,asksM_append a b];omega
theorem asksM_len (l:List GAsk):l.length<=asksM l:=bulkL_len _ l
theorem asksM_mem {l:List GAsk} {x:GAsk} (h:x∈l):x.pat.bulk+1<=asksM l:=bulkL_mem (fun x:GAsk=>x.pat.bulk) l x h
theorem asksM_bare:∀ (l:List GAsk),asksM (bareA l)<=asksM l
 | []=>Nat.le_refl _
 | x::l=>by
  have h:=asksM_bare l
  unfold bareA at h ⊢
  rw [List.filter_cons]
  split
  · rw [asksM_cons,asksM_cons];omega
  · rw [asksM_cons];omega
theorem kidsA_len (p:List Int):∀ (i:Nat) (l:List GNode),(kidsA p i l).length=l.length
 | _,[]=>rfl
 | i,k::r=>by show(kidsA p (i+1) r).length+1=r.length+1;rw [kidsA_len p (i+1) r]
theorem kidsA_M (p:List Int):∀ (i:Nat) (l:List GNode),asksM (kidsA p i l)=bulkL GNode.bulk l
 | _,[]=>rfl
 | i,k::r=>by show 1+k.bulk+asksM (kidsA p (i+1) r)=1+k.bulk+bulkL GNode.bulk r;rw [kidsA_M p (i+1) r]
theorem kidsA_snoc (p:List Int) (x:GNode):∀ (i:Nat) (l:List GNode),kidsA p i (l++[x])=kidsA p i l++[⟨p++[((i+l.length:Nat):Int)],x⟩]
 | i,[]=>rfl
 | i,k::r=>by
  show⟨p++[(i:Int)],k⟩::kidsA p (i+1) (r++[x])=⟨p++[(i:Int)],k⟩::(kidsA p (i+1) r++[⟨p++[((i+(r.length+1):Nat):Int)],x⟩])
  rw [kidsA_snoc p x (i+1) r,show i+1+r.length=i+(r.length+1) by omega]
theorem kidsA_take (p:List Int) (l:List GNode) (i:Nat) (h:i<l.length):kidsA p 0 (l.take (i+1))=kidsA p 0 (l.take i)++[⟨p++[(i:Int)],l[i]⟩]:=by
 rw [take_snoc' l i h,kidsA_snoc]
 simp [Nat.min_eq_left (Nat.le_of_lt h)]
theorem kidsA_mem (p:List Int):∀ (i:Nat) (l:List GNode) (x:GAsk),x∈kidsA p i l->x.path.length=p.length+1/\x.pat∈l
 | _,[],x,h=>by cases h
 | i,k::r,x,h=>by
  have h2:x∈(⟨p++[(i:Int)],k⟩:GAsk)::kidsA p (i+1) r:=h
  rcases List.mem_cons.1 h2 with rfl | h3
  · simp
  · have:=kidsA_mem p (i+1) r x h3
    exact⟨this.1,List.mem_cons_of_mem _ this.2⟩
theorem asksM_split (l:List GAsk) (k:Nat) (h:k<l.length):asksM l=asksM (l.take k)+(1+l[k].pat.bulk)+asksM (l.drop (k+1)):=by
 have h1:l=l.take k++(l[k]::l.drop (k+1)):=by rw [<- List.drop_eq_getElem_cons h,List.take_append_drop]
 calc asksM l=asksM (l.take k++(l[k]::l.drop (k+1))):=by rw [<- h1]
  _=_:=by rw [asksM_append,asksM_cons];omega
theorem asksM_turned (l:List GAsk) (k:Nat) (h:k<l.length) (p:List Int):asksM (l.take k++kidsA p 0 l[k].pat.kids++l.drop (k+1))<=asksM l:=by
 rw [asksM_append,asksM_append,kidsA_M,asksM_split l k h]
 have:=GNode.bulk_eq l[k].pat
 omega
theorem bareA_all {l:List GAsk} (h:∀ x∈l,isAnyB x.pat=false):bareA l=l:=by
 unfold bareA
 rw [List.filter_eq_self]
 intro x hx
 simp [h x hx]
theorem bareA_append (a b:List GAsk):bareA (a++b)=bareA a++bareA b:=by unfold bareA;exact List.filter_append ..
theorem bareA_turned {l:List GAsk} (h:∀ x∈l,isAnyB x.pat=false) (k:Nat) (m:List GAsk):bareA (l.take k++m++l.drop (k+1))=l.take k++bareA m++l.drop (k+1):=by
 rw [bareA_append,bareA_append,bareA_all fun x hx=>h x (List.mem_of_mem_take hx),bareA_all fun x hx=>h x (List.mem_of_mem_drop hx)]
def RowsOk (n:Nat) (rows:List GTrow):Prop:=∀ r∈rows,asksM r.asks<=1048576/\∀ x∈r.asks,isAnyB x.pat=false/\x.path.length<=n
theorem RowsOk.mono {n m:Nat} {rows:List GTrow} (h:RowsOk n rows) (hm:n<=m):RowsOk m rows:=fun r hr=>⟨(h r hr).1,fun x hx=>⟨((h r hr).2 x hx).1,Nat.le_trans ((h r hr).2 x hx).2 hm⟩⟩
theorem RowsOk.no {n:Nat} {rows:List GTrow} (h:RowsOk n rows) (a:GAsk):RowsOk n (noR a rows):=fun r hr=>h r ((List.mem_filter.1 hr).1)
theorem RowsOk.yes {n:Nat} {rows:List GTrow} (h:RowsOk n rows) (a:GAsk) (ha:a.path.length<=n):RowsOk (n+1) (yesR a rows):=by
 intro r hr
 unfold yesR at hr
 obtain⟨r0,h0,h1⟩:=List.mem_filterMap.1 hr
 have H:=h r0 h0
 unfold yes1 at h1
 split at h1
 · obtain rfl:=Option.some.inj h1
   exact⟨H.1,fun x hx=>⟨(H.2 x hx).1,Nat.le_succ_of_le (H.2 x hx).2⟩⟩
 ·
  rename_i hf
  split at h1
  ·
   rename_i x hx
   split at h1
   ·
    obtain rfl:=Option.some.inj h1
    obtain⟨hk,rfl⟩:=List.getElem?_eq_some_iff.1 hx
    refine⟨?_,fun y hy=>?_⟩
    · have h2:=asksM_turned r0.asks (findA r0.asks a.path).toNat hk a.path
      have h3:=asksM_bare (kidsA a.path 0 r0.asks[(findA r0.asks a.path).toNat].pat.kids)
      rw [asksM_append,asksM_append] at h2 ⊢
      omega
    ·
     rcases List.mem_append.1 hy with hy | hy
     · rcases List.mem_append.1 hy with hy | hy
       · have:=H.2 y (List.mem_of_mem_take hy)
         exact⟨this.1,Nat.le_succ_of_le this.2⟩
       · unfold bareA at hy
         have h5:=List.mem_filter.1 hy
         have h6:=kidsA_mem _ _ _ _ h5.1
         exact⟨by simpa using h5.2,by omega⟩
     · have:=H.2 y (List.mem_of_mem_drop hy)
       exact⟨this.1,Nat.le_succ_of_le this.2⟩
   · cases h1
  · cases h1
def restAt (b off size k c:Nat):Option Addr:=if c=k then some ⟨b,off,none⟩ else some ⟨b,off+k*size,none⟩
theorem run_restAt {P:Program} (T e:TypeId) (size:Nat) (ht:P.underlying T=some (.slice e)) (hi:(P.info? e).map (fun i=>i.size)=some size) (b off n c k:Nat) (i:Int) (hik:i=(k:Int)) (hk:k<=n) (hn:n<=c) (w:World):
 (Instr.slice T (.slice (some ⟨b,off,none⟩) n c) (some (.int .i64 i)) none none).run P w= .ok (.slice (restAt b off size k c) (n - k) (c - k)) w:=by
 subst hik
 have he:P.elem T=e:=by simp [Program.elem,ht]
 obtain⟨i,h1,h2⟩:=Option.map_eq_some_iff.1 hi
 subst h2
 rw [run_slice_l w T (some ⟨b,off,none⟩) n c (by rw [he];exact ht) .i64 k (by omega) (by omega)]
 rw [he]
 simp only [sizeOf,typeInfo,Sem.run_bind,h1,Result.andThen_ok,Sem.run_pure,sliced,restAt]
 by_cases hc:c=k
 · subst hc
   simp [h1,Result.andThen]
 · simp [h1,Result.andThen,hc,Addr.add]
theorem run_headAt {P:Program} (T e:TypeId) (size:Nat) (ht:P.underlying T=some (.slice e)) (hi:(P.info? e).map (fun i=>i.size)=some size) (b off n c k:Nat) (i:Int) (hik:i=(k:Int)) (hk:k<=c) (w:World):
 (Instr.slice T (.slice (some ⟨b,off,none⟩) n c) none (some (.int .i64 i)) none).run P w= .ok (.slice (some ⟨b,off,none⟩) k c) w:=by
 subst hik
 have he:P.elem T=e:=by simp [Program.elem,ht]
 obtain⟨i,h1,h2⟩:=Option.map_eq_some_iff.1 hi
 subst h2
 rw [run_slice_h w T (some ⟨b,off,none⟩) n c (by rw [he];exact ht) .i64 k (by omega) (by omega)]
 rw [he]
 simp only [sizeOf,typeInfo,Sem.run_bind,h1,Result.andThen_ok,Sem.run_pure,sliced]
 simp [h1,Result.andThen,Addr.add]
theorem Sl.restAt {w:World} {S:Nat->Prop} {size b off c k:Nat} {xs:List D} (h:Sl w S size (some ⟨b,off,none⟩) c xs) (hk:k<=xs.length):Sl w S size (restAt b off size k c) (c - k) (xs.drop k):=by
 have hl:=h.1
 unfold Go.Proofs.YtamfolaicncblaaGreat.restAt
 split
 · rename_i hc
   have hcl:c<=maxLen:=h.2.1
   have:xs.drop k= []:=List.drop_eq_nil_of_le (by omega)
   rw [this]
   exact Sl.nil (by omega)
 · exact Sl.drop h k hk
end Go.Proofs.YtamfolaicncblaaGreat
