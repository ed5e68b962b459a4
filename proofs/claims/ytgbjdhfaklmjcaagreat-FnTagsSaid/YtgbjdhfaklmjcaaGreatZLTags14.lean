/- Texts of the claim LTags in one: GProg TidyP Tail NodeA NodeC. Conditions: none but bounds on sizes. -/
import Derived.Test.YtgbjdhfaklmjcaaGreatZLTags0
import Derived.Test.YtgbjdhfaklmjcaaGreatZLTags13
import Derived.Test.YtgbjdhfaklmjcaaGreatZLTags2
import Derived.Test.YtgbjdhfaklmjcaaGreatZLTags1
namespace Go.Proofs.YtgbjdhfaklmjcaaGreat
set_option maxRecDepth 20000
set_option linter.unusedVariables false
set_option linter.unusedSimpArgs false
open Go.RowKit
structure GProg where
 datas:List GData
 main:GNode
def GProg.toD (x:GProg):D:=.agg [.sl 3 (x.datas.map GData.toD),x.main.toD]
def GProg.bulk (x:GProg):Nat:=bulkL GData.bulk x.datas+x.main.bulk
theorem GProg.bulk_eq (t:GProg):t.bulk=bulkL GData.bulk t.datas+t.main.bulk:=rfl
def GProg.At (w:World) (S:Nat->Prop) (A1:Option Addr) (c1:Nat) (A2:Option Addr) (c2:Nat) (t:GProg):Prop:=
 Sl w S 3 A1 c1 (t.datas.map GData.toD)/\GNode.At w S A2 c2 t.main
theorem GProg.rd {w:World} {S:Nat->Prop} {t:GProg} {cs:List Value} (h:t.toD.rd w S cs):∃ A1 c1 A2 c2,cs= [.slice A1 t.datas.length c1,.int .i64 t.main.op,.int .i64 t.main.n,.string t.main.s,.string t.main.t,.slice A2 t.main.kids.length c2]/\GProg.At w S A1 c1 A2 c2 t:=by
 unfold GProg.toD at h
 rw [D.rd_agg] at h
 rw [D.rdF_cons] at h
 obtain⟨x0,r0,rfl,k0,h⟩:=h
 obtain⟨A1,c1,rfl,h0⟩:=D.rd_sl.1 k0
 rw [D.rdF_cons] at h
 obtain⟨x1,r1,rfl,k1,h⟩:=h
 obtain⟨A2,c2,rfl,h1⟩:=GNode.rd k1
 obtain rfl:=D.rdF_nil.1 h
 exact⟨A1,c1,A2,c2,by simp [List.length_map],h0,h1⟩
theorem GProg.rd_mk {w:World} {S:Nat->Prop} {t:GProg} {A1:Option Addr} {c1:Nat} {A2:Option Addr} {c2:Nat} (h:GProg.At w S A1 c1 A2 c2 t):t.toD.rd w S [.slice A1 t.datas.length c1,.int .i64 t.main.op,.int .i64 t.main.n,.string t.main.s,.string t.main.t,.slice A2 t.main.kids.length c2]:=by
 unfold GProg.toD
 unfold GProg.At at h
 obtain⟨h0,h1⟩:=h
 rw [D.rd_agg]
 exact D.rdF_cons.2 ⟨[_],[_,_,_,_,_],rfl,D.rd_sl.2 ⟨A1,c1,by simp [List.length_map],h0⟩,D.rdF_cons.2 ⟨[_,_,_,_,_],[],rfl,GNode.rd_mk h1,D.rdF_nil.2 rfl⟩⟩
theorem GProg.elem {w:World} {S:Nat->Prop} {A:Option Addr} {c:Nat} {l:List GProg} (h:Sl w S 6 A c (l.map GProg.toD)) (i:Nat) (hi:i<l.length):
 ∃ b off A1 c1 A2 c2,A=some ⟨b,off,none⟩/\S b/\w.cell? ⟨b,off+i*6,none⟩=some (.slice A1 l[i].datas.length c1)/\w.cell? ⟨b,off+i*6+1,none⟩=some (.int .i64 l[i].main.op)/\w.cell? ⟨b,off+i*6+2,none⟩=some (.int .i64 l[i].main.n)/\w.cell? ⟨b,off+i*6+3,none⟩=some (.string l[i].main.s)/\w.cell? ⟨b,off+i*6+4,none⟩=some (.string l[i].main.t)/\w.cell? ⟨b,off+i*6+5,none⟩=some (.slice A2 l[i].main.kids.length c2)/\GProg.At w S A1 c1 A2 c2 l[i]:=by
 obtain⟨b,off,cs,e,hb,hl,hc,hr⟩:=Sl.get h i (by simpa using hi)
 rw [List.getElem_map] at hr
 obtain⟨A1,c1,A2,c2,rfl,h1⟩:=GProg.rd hr
 exact⟨b,off,A1,c1,A2,c2,e,hb,hc 0 _ rfl,hc 1 _ rfl,hc 2 _ rfl,hc 3 _ rfl,hc 4 _ rfl,hc 5 _ rfl,h1⟩
theorem GProg.At.keep {w w':World} {S S':Nat->Prop} {t:GProg} {A1:Option Addr} {c1:Nat} {A2:Option Addr} {c2:Nat} (h:GProg.At w S A1 c1 A2 c2 t) (hk:∀ b,S b->S' b/\w'.heap[b]? =w.heap[b]?):GProg.At w' S' A1 c1 A2 c2 t:=by
 unfold GProg.At at h ⊢
 obtain⟨h0,h1⟩:=h
 exact⟨h0.keep hk,h1.keep hk⟩
theorem GProg.At.below {w w':World} {B B':Nat} {t:GProg} {A1:Option Addr} {c1:Nat} {A2:Option Addr} {c2:Nat} (h:GProg.At w (Lt B) A1 c1 A2 c2 t) (hb:Below B w w') (hB:B<=B'):GProg.At w' (Lt B') A1 c1 A2 c2 t:=
 h.keep (keep_below hb hB)
def GProg.Ow (w:World) (S:Nat->Prop) (A1:Option Addr) (c1:Nat) (A2:Option Addr) (c2:Nat) (t:GProg):Prop:=
 ∃ S1 S2:Nat->Prop,(∀ x,S1 x->S x)/\(∀ x,S2 x->S x)/\(∀ x,S1 x->¬ S2 x)/\Osl w S1 3 A1 c1 (t.datas.map GData.toD)/\GNode.Ow w S2 A2 c2 t.main
theorem GProg.own_mk {w:World} {S:Nat->Prop} {t:GProg} {A1:Option Addr} {c1:Nat} {A2:Option Addr} {c2:Nat} (h:GProg.Ow w S A1 c1 A2 c2 t):t.toD.own w S [.slice A1 t.datas.length c1,.int .i64 t.main.op,.int .i64 t.main.n,.string t.main.s,.string t.main.t,.slice A2 t.main.kids.length c2]:=by
 unfold GProg.toD
 unfold GProg.Ow at h
 obtain⟨S1,S2,g1,g2,d12,h0,h1⟩:=h
 rw [D.own_agg]
 exact D.ownF_cons (S:=S) (S1:=S1) (S2:=S2) (c1:=[_]) (c2:=[_,_,_,_,_]) (fun x hx=>⟨g1 x hx,fun h=>d12 x hx h⟩) (g2) (D.own_sl.2 ⟨A1,c1,by simp [List.length_map],h0⟩) (D.ownF_last (GNode.own_mk h1))
theorem GProg.Ow.keep {w w':World} {S S':Nat->Prop} {t:GProg} {A1:Option Addr} {c1:Nat} {A2:Option Addr} {c2:Nat} (h:GProg.Ow w S A1 c1 A2 c2 t) (hk:∀ b,S b->S' b/\w'.heap[b]? =w.heap[b]?):GProg.Ow w' S' A1 c1 A2 c2 t:=by
 unfold GProg.Ow at h ⊢
 obtain⟨S1,S2,g1,g2,d12,h0,h1⟩:=h
 exact⟨S1,S2,fun x hx=>(hk x (g1 x hx)).1,fun x hx=>(hk x (g2 x hx)).1,d12,h0.keep fun b hb=>⟨hb,(hk b (g1 b hb)).2⟩,h1.keep fun b hb=>⟨hb,(hk b (g2 b hb)).2⟩⟩
theorem GProg.Ow.at {w:World} {S:Nat->Prop} {t:GProg} {A1:Option Addr} {c1:Nat} {A2:Option Addr} {c2:Nat} (h:GProg.Ow w S A1 c1 A2 c2 t):GProg.At w S A1 c1 A2 c2 t:=by
 unfold GProg.Ow at h
 unfold GProg.At
 obtain⟨S1,S2,g1,g2,d12,h0,h1⟩:=h
 exact⟨h0.sl.keep fun b hb=>⟨g1 b hb,rfl⟩,h1.at.keep fun b hb=>⟨g2 b hb,rfl⟩⟩
def badA (vs:Int) (t:GTy):Bool:=decide (24<t.deep)||!t.tidy vs
def badK (vs:Int) (c:GCon):Bool:=!conB c.name||c.args.any (badA vs)
def badG (d:GData):Bool:=!conB d.name||(!inB d.vars 0 26||(d.cons.isEmpty||d.cons.any (badK d.vars)))
def tidyP (p:GProg):Bool:=!(p.datas.any badG)&&(decide (p.main.deep<=24)&&p.main.exp)
theorem tidyP_data {p:GProg} (h:p.datas.any badG=true):tidyP p=false:=by unfold tidyP;rw [h];rfl
theorem tidyP_main {p:GProg} (h:p.datas.any badG=false):tidyP p=(decide (p.main.deep<=24)&&p.main.exp):=by unfold tidyP;rw [h];rfl
theorem badG_name {d:GData} (h:conB d.name=false):badG d=true:=by unfold badG;rw [h];rfl
theorem badG_vars {d:GData} (h:inB d.vars 0 26=false):badG d=true:=by unfold badG;rw [h];simp
theorem badG_none {d:GData} (h:d.cons.length=0):badG d=true:=by unfold badG;rw [List.eq_nil_of_length_eq_zero h];simp
theorem badG_con {d:GData} (h:d.cons.any (badK d.vars)=true):badG d=true:=by unfold badG;rw [h];simp
theorem badG_not {d:GData} (h0:conB d.name=true) (h1:inB d.vars 0 26=true) (h2:¬ d.cons.length=0) (h:d.cons.any (badK d.vars)=false):badG d=false:=by
 unfold badG;rw [h0,h1,h]
 cases hc:d.cons with
 | nil=>rw [hc] at h2;exact absurd rfl h2
 | cons a r=>rfl
theorem GCon.args_bulk (c:GCon):bulkL GTy.bulk c.args<=c.bulk:=by have:=c.bulk_eq;omega
theorem GData.cons_bulk (d:GData):bulkL GCon.bulk d.cons<=d.bulk:=by have:=d.bulk_eq;omega
theorem arg_bulk {l:List GData} {j k m:Nat} (hj:j<l.length) (hk:k<l[j].cons.length) (hm:m<(l[j].cons[k]).args.length):((l[j].cons[k]).args[m]).bulk<=bulkL GData.bulk l:=by
 have h1:=bulkL_mem GData.bulk l _ (List.getElem_mem hj)
 have h2:=bulkL_mem GCon.bulk l[j].cons _ (List.getElem_mem hk)
 have h3:=bulkL_mem GTy.bulk (l[j].cons[k]).args _ (List.getElem_mem hm)
 have h4:=GData.cons_bulk l[j]
 have h5:=GCon.args_bulk (l[j].cons[k])
 omega
end Go.Proofs.YtgbjdhfaklmjcaaGreat
namespace Go.Proofs.YtgbjdhfaklmjcaaGreat
set_option maxRecDepth 20000
set_option linter.unusedVariables false
set_option linter.unusedSimpArgs false
open Go.RowKit
end Go.Proofs.YtgbjdhfaklmjcaaGreat
namespace Go.Proofs.YtgbjdhfaklmjcaaGreat
set_option maxRecDepth 20000
set_option linter.unusedVariables false
set_option linter.unusedSimpArgs false
open Go.RowKit
set_option maxHeartbeats 1000000
theorem two_of {l:List GNode} (h:l.length=2):∃ p x,l= [p,x]:=by
 match l,h with
 | [p,x],_=>exact⟨p,x,rfl⟩
theorem alt_false {a:GNode} (h:alt1 a.op a.n a.s a.t a.kids.length=false):a.alt=false:=by rw [a.alt_eq,h];rfl
theorem alt_two {a p x:GNode} (h:alt1 a.op a.n a.s a.t a.kids.length=true) (hk:a.kids= [p,x]):a.alt=(p.pat&&x.exp):=by rw [a.alt_eq,h,hk,GNode.altK_two];rfl
theorem specEs (a:GNode) (A1:Option Addr) (c1:Nat) (w:World) (HE:∀ x∈a.kids,∀ (A2:Option Addr) (c2:Nat) (w2:World),GNode.At w2 (Lt w2.heap.size) A2 c2 x->Calls Tryz.prog 79 #[.agg #[.int .i64 x.op,.int .i64 x.n,.string x.s,.string x.t,.slice A2 x.kids.length c2]] w2 fun e w'=>e= .returned (.bool x.exp)/\Below w2.heap.size w2 w')
 (hat:GNode.At w (Lt w.heap.size) A1 c1 a):
 Calls Tryz.prog 93 #[.agg #[.int .i64 a.op,.int .i64 a.n,.string a.s,.string a.t,.slice A1 a.kids.length c1],.int .i64 0] w fun e w'=>e= .returned (.bool (GNode.expL a.kids))/\Below w.heap.size w w':=by
 have HEH:=LH HE
 have hlen:a.kids.length<=9223372036854775807:=by simpa using hat.2.2.2.2.len
 have HS:=LH hat.2.2.2.2
 clear HE hat
 go_enter Tryz.func93,Tryz.ntmps93
 go_wp2_with fail
 go_loopw [5] (fun i wr=>∃ j:Nat,j<=a.kids.length/\i= .int .i64 j/\Hid ((a.kids.take j).all GNode.exp=true)/\Hid (Below w.heap.size w wr)/\Hid (Row wr w.heap.size 45 #[.int .i64 a.op,.int .i64 a.n,.string a.s,.string a.t,.slice A1 a.kids.length c1])) (fun i _=>a.kids.length - (intOf i).toNat)
 case atStart=>exact⟨0,by omega,by go_num,LH (by simp),LH ((Below.refl _ _).alloc (Nat.le_refl _) _),LH (Row.new _ _ _)⟩
 case round=>
  obtain⟨j,hj,rfl,Hall,hbl,R⟩:=hrel
  have hsz:=hbl.out.size
  have hc:=fun i=>R.out.cell i
  by_cases hlt:j<a.kids.length
  ·
   obtain⟨b,off,A2,c2,rfl,hSb,g0,g1,g2,g3,g4,hat⟩:=GNode.elem (HS.out.below hbl.out (Nat.le_refl _)) j hlt
   have hmem:a.kids[j]∈a.kids:=List.getElem_mem hlt
   have HX:=LH (HEH.out _ hmem A2 c2 wr (hat.keep fun x hx=>⟨Nat.lt_of_lt_of_le hx hsz,rfl⟩))
   go_wp2_with fail
   refine HX.out.mono ?_
   rintro e w1 ⟨rfl,hb1⟩
   cases he:(a.kids[j]).exp
   · have hn:=LH (show a.kids.all GNode.exp=false from by rw [<- Bool.not_eq_true];intro h;have:=List.all_eq_true.1 h _ hmem;rw [he] at this;cases this)
     clear he
     go_wp2_with fail
     go_ret
     exact⟨ret_bool (by rw [GNode.expL_all,hn.out]),hbl.out.trans (hb1.mono hsz)⟩
   · have he2:=LH he
     clear he
     go_wp2_with fail
     go_roundw
     case rel=>exact⟨j+1,by omega,by go_num,LH (by rw [take_snoc' _ j hlt,List.all_append,Hall.out];simp [he2.out]),LH (hbl.out.trans (hb1.mono hsz)),LH (R.out.below hb1 R.out.lt)⟩
     case measure=>simp [intOf];omega
  · have hko:=LH (show GNode.expL a.kids=true from by rw [GNode.expL_all];have:=Hall.out;rwa [show j=a.kids.length by omega,List.take_length] at this)
    go_wp2_with fail
    go_ret
    exact⟨ret_bool hko.out.symm,hbl.out⟩
def headE:List GNode->Bool | []=>false | x::_=>x.exp
def caseV (l:List GNode):Bool:=(l.drop 1).all GNode.alt&&(decide (2<=l.length)&&headE l)
theorem caseV_eq (l:List GNode):caseV l=(decide (2<=l.length)&&GNode.caseL l):=by
 match l with
 | []=>rfl
 | x::r=>
  unfold caseV headE
  rw [GNode.caseL_cons]
  simp only [List.drop_succ_cons,List.drop_zero]
  cases decide (2<=(x::r).length)<;>cases x.exp<;>cases r.all GNode.alt<;>rfl
theorem specCase (a:GNode) (A1:Option Addr) (c1:Nat) (w:World) (HE:∀ x∈a.kids,∀ (A2:Option Addr) (c2:Nat) (w2:World),GNode.At w2 (Lt w2.heap.size) A2 c2 x->Calls Tryz.prog 79 #[.agg #[.int .i64 x.op,.int .i64 x.n,.string x.s,.string x.t,.slice A2 x.kids.length c2]] w2 fun e w'=>e= .returned (.bool x.exp)/\Below w2.heap.size w2 w')
 (HEE:∀ y∈a.kids,∀ x∈y.kids,∀ (A2:Option Addr) (c2:Nat) (w2:World),GNode.At w2 (Lt w2.heap.size) A2 c2 x->Calls Tryz.prog 79 #[.agg #[.int .i64 x.op,.int .i64 x.n,.string x.s,.string x.t,.slice A2 x.kids.length c2]] w2 fun e w'=>e= .returned (.bool x.exp)/\Below w2.heap.size w2 w')
 (hat:GNode.At w (Lt w.heap.size) A1 c1 a):
 Calls Tryz.prog 94 #[.agg #[.int .i64 a.op,.int .i64 a.n,.string a.s,.string a.t,.slice A1 a.kids.length c1]] w fun e w'=>e= .returned (.bool (caseV a.kids))/\Below w.heap.size w w':=by
 have HEH:=LH HE
 have HE2:=LH HEE
 have hlen:a.kids.length<=9223372036854775807:=by simpa using hat.2.2.2.2.len
 have HS:=LH hat.2.2.2.2
 have HV:=LH (show caseV a.kids=((a.kids.drop 1).all GNode.alt&&(decide (2<=a.kids.length)&&headE a.kids)) from rfl)
 clear HE hat HEE
 go_enter Tryz.func94,Tryz.ntmps94
 go_wp2_with fail
 go_loopw [3] (fun i wr=>∃ j:Nat,j<=a.kids.length - 1/\i= .int .i64 ((j+1:Nat):Int)/\Hid (((a.kids.drop 1).take j).all GNode.alt=true)/\Hid (Below w.heap.size w wr)/\Hid (Row wr w.heap.size 45 #[.int .i64 a.op,.int .i64 a.n,.string a.s,.string a.t,.slice A1 a.kids.length c1])) (fun i _=>a.kids.length - (intOf i).toNat)
 case atStart=>exact⟨0,by omega,by go_num,LH (by simp),LH ((Below.refl _ _).alloc (Nat.le_refl _) _),LH (Row.new _ _ _)⟩
 case round=>
  obtain⟨j,hj,rfl,Hall,hbl,R⟩:=hrel
  have hsz:=hbl.out.size
  have hc:=fun i=>R.out.cell i
  by_cases hlt:j+1<a.kids.length
  ·
   obtain⟨b,off,A2,c2,rfl,hSb,g0,g1,g2,g3,g4,hat⟩:=GNode.elem (HS.out.below hbl.out (Nat.le_refl _)) (j+1) hlt
   have hmem:a.kids[j+1]∈a.kids:=List.getElem_mem hlt
   have hdl:j<(a.kids.drop 1).length:=by rw [List.length_drop];omega
   have hdg:(a.kids.drop 1)[j]=a.kids[j+1]:=by rw [List.getElem_drop];congr 1;omega
   have HNO:=LH (fun(h:(a.kids[j+1]).alt=false)=>show(a.kids.drop 1).all GNode.alt=false from by
     rw [<- Bool.not_eq_true];intro hh
     have:=List.all_eq_true.1 hh _ (List.getElem_mem hdl)
     rw [hdg,h] at this;cases this)
   have HYES:=LH (fun(h:(a.kids[j+1]).alt=true)=>show((a.kids.drop 1).take (j+1)).all GNode.alt=true from by
     rw [take_snoc' _ j hdl,List.all_append,Hall.out,hdg];simp [h])
   have HEA:=LH (HE2.out _ hmem)
   have HAT:=LH (hat.keep (w':=wr) (S':=Lt wr.heap.size) fun x hx=>⟨Nat.lt_of_lt_of_le hx hsz,rfl⟩)
   have hkl:(a.kids[j+1]).kids.length<=9223372036854775807:=by simpa using hat.2.2.2.2.len
   clear hat hmem hdg
   generalize a.kids[j+1]=al at*
   obtain⟨wb,eb⟩:∃ wb,wb=wr.alloc (.cells #[.int .i64 al.op,.int .i64 al.n,.string al.s,.string al.t,.slice A2 al.kids.length c2] 45):=⟨_,rfl⟩
   have EB:=LH (show Below wr.heap.size wr wb by rw [eb];exact(Below.refl _ _).alloc (Nat.le_refl _) _)
   have RB:=LH (show Row wb wr.heap.size 45 #[.int .i64 al.op,.int .i64 al.n,.string al.s,.string al.t,.slice A2 al.kids.length c2] by rw [eb];exact Row.new' _ _ _ rfl)
   have BB:=LH (hbl.out.trans (EB.out.mono hsz))
   have RA:=LH (R.out.below EB.out (Nat.lt_of_lt_of_le R.out.lt (Nat.le_refl _)))
   have HSA:=LH (HAT.out.2.2.2.2.below EB.out EB.out.size)
   have EQ:=LH eb
   clear eb
   by_cases o8:al.op=8
   ·
    skip
    cases a0:(al.n ==0)
    ·
     skip
     have hv:=LH (HNO.out (alt_false (a:=al) (by unfold alt1;simp [o8,a0])))
     have p8:(al.op ==8)=true:=by rw [o8];rfl
     have r8:(al.op != 8)=false:=by rw [o8];rfl
     clear o8
     have a0n:(al.n != 0)=true:=by simp only [bne,a0];rfl
     go_wp2_with fail
     go_ret
     exact⟨ret_bool (by rw [HV.out,hv.out];rfl),hbl.out.trans (((Below.refl _ _).alloc (Nat.le_refl _) _).mono hsz)⟩
    ·
     skip
     cases b:(al.s.toList.isEmpty)
     · skip
       have hv:=LH (HNO.out (alt_false (a:=al) (by unfold alt1;simp [o8,a0,b])))
       have p8:(al.op ==8)=true:=by rw [o8];rfl
       have r8:(al.op != 8)=false:=by rw [o8];rfl
       clear o8
       have a0n:(al.n != 0)=false:=by simp only [bne,a0];rfl
       go_wp2_with fail
       go_ret
       exact⟨ret_bool (by rw [HV.out,hv.out];rfl),hbl.out.trans (((Below.refl _ _).alloc (Nat.le_refl _) _).mono hsz)⟩
     ·
      skip
      cases te:(al.t.toList.isEmpty)
      · skip
        have hv:=LH (HNO.out (alt_false (a:=al) (by unfold alt1;simp [o8,a0,b,te])))
        have p8:(al.op ==8)=true:=by rw [o8];rfl
        have r8:(al.op != 8)=false:=by rw [o8];rfl
        clear o8
        have a0n:(al.n != 0)=false:=by simp only [bne,a0];rfl
        go_wp2_with fail
        go_ret
        exact⟨ret_bool (by rw [HV.out,hv.out];rfl),hbl.out.trans (((Below.refl _ _).alloc (Nat.le_refl _) _).mono hsz)⟩
      ·
       skip
       by_cases hk:al.kids.length=2
       ·
        skip
        obtain⟨p,x,hpx⟩:=two_of hk
        have hv:=LH (alt_two (a:=al) (by unfold alt1;simp [o8,a0,b,te,hk]) hpx)
        have HXE:=LH (HEA.out x (by rw [hpx];simp))
        have hs:=HSA.out
        rw [hpx] at hs
        obtain⟨b1,off1,A4,c4,eA,hS1,p0,p1,p2,p3,p4,hatp⟩:=GNode.elem hs 0 (by simp)
        obtain⟨b2,off2,A5,c5,eA2,hS2,x0,x1,x2,x3,x4,hatx⟩:=GNode.elem hs 1 (by simp)
        obtain⟨rfl,rfl⟩:b1=b2/\off1=off2:=by rw [eA] at eA2;simpa using eA2
        simp only [Nat.zero_mul,Nat.one_mul,Nat.add_zero,List.getElem_cons_zero,List.getElem_cons_succ] at p0 p1 p2 p3 p4 hatp x0 x1 x2 x3 x4 hatx
        have hn0:0<al.kids.length:=by omega
        have hn1:1<al.kids.length:=by omega
        have HPP:=LH (specPatTidy (p.bulk+1) p A4 c4 wb (by omega) hatp)
        have HAX:=LH hatx
        subst eA
        clear hpx hs hatp hatx eA2
        have p8:(al.op ==8)=true:=by rw [o8];rfl
        have r8:(al.op != 8)=false:=by rw [o8];rfl
        clear o8
        have a0n:(al.n != 0)=false:=by simp only [bne,a0];rfl
        have hk1:(al.kids.length ==2)=true:=by simp [hk]
        have hk2:((al.kids.length:Int) ==2)=true:=by rw [beq_iff_eq];omega
        have hk6:((al.kids.length:Int) != 2)=false:=by simp only [bne,hk2];rfl
        have hk7:(al.kids.length != 2)=false:=by simp only [bne,hk1];rfl
        have Hhk:=LH hk
        clear hk
        rw [EQ.out] at p0 p1 p2 p3 p4
        cases hp:p.pat
        ·
         have hv2:=LH (show al.alt=false by rw [hv.out,hp];rfl)
         rw [hp] at HPP
         clear hp
         go_wp2_with fail
         rw [<- EQ.out]
         refine HPP.out.mono ?_
         rintro e w1 ⟨rfl,hb1⟩
         have R1:=LH (RB.out.below hb1 RB.out.lt)
         have hc1:=fun i=>R1.out.cell i
         have RA1:=LH (RA.out.below hb1 RA.out.lt)
         have B1:=LH (BB.out.trans (hb1.mono BB.out.size))
         clear hb1 x0 x1 x2 x3 x4 p0 p1 p2 p3 p4
         have hvf:=LH (HNO.out hv2.out)
         go_wp2_with fail
         go_ret
         exact⟨ret_bool (by rw [HV.out,hvf.out];rfl),B1.out⟩
        ·
         have hv2:=LH (show al.alt=x.exp by rw [hv.out,hp];rfl)
         rw [hp] at HPP
         clear hp
         go_wp2_with fail
         rw [<- EQ.out]
         refine HPP.out.mono ?_
         rintro e w1 ⟨rfl,hb1⟩
         have R1:=LH (RB.out.below hb1 RB.out.lt)
         have hc1:=fun i=>R1.out.cell i
         have RA1:=LH (RA.out.below hb1 RA.out.lt)
         have B1:=LH (BB.out.trans (hb1.mono BB.out.size))
         have y0:=(hb1.cell (p:=⟨b1,off1+5,none⟩) hS1).trans x0
         have y1:=(hb1.cell (p:=⟨b1,off1+5+1,none⟩) hS1).trans x1
         have y2:=(hb1.cell (p:=⟨b1,off1+5+2,none⟩) hS1).trans x2
         have y3:=(hb1.cell (p:=⟨b1,off1+5+3,none⟩) hS1).trans x3
         have y4:=(hb1.cell (p:=⟨b1,off1+5+4,none⟩) hS1).trans x4
         have HX:=LH (HXE.out A5 c5 w1 (HAX.out.keep (keep_below hb1 hb1.size)))
         clear hb1 x0 x1 x2 x3 x4 p0 p1 p2 p3 p4
         cases hx:x.exp
         · have hvf:=LH (HNO.out (by rw [hv2.out,hx]))
           rw [hx] at HX
           clear hx
           go_wp2_with fail
           refine HX.out.mono ?_
           rintro e w2 ⟨rfl,hb2⟩
           have B2:=LH (B1.out.trans (hb2.mono B1.out.size))
           clear hb2
           go_wp2_with fail
           go_ret
           exact⟨ret_bool (by rw [HV.out,hvf.out];rfl),B2.out⟩
         · have hvt:=LH (HYES.out (by rw [hv2.out,hx]))
           rw [hx] at HX
           clear hx
           go_wp2_with fail
           refine HX.out.mono ?_
           rintro e w2 ⟨rfl,hb2⟩
           have B2:=LH (B1.out.trans (hb2.mono B1.out.size))
           have RA2:=LH (RA1.out.below hb2 RA1.out.lt)
           clear hb2
           go_wp2_with fail
           go_roundw
           case rel=>exact⟨j+1,by omega,by go_num,hvt,B2,RA2⟩
           case measure=>simp [intOf];omega
       ·
        skip
        have hv:=LH (HNO.out (alt_false (a:=al) (by unfold alt1;simp [o8,a0,b,te,hk])))
        have p8:(al.op ==8)=true:=by rw [o8];rfl
        have r8:(al.op != 8)=false:=by rw [o8];rfl
        clear o8
        have a0n:(al.n != 0)=false:=by simp only [bne,a0];rfl
        have hk1:(al.kids.length ==2)=false:=by simp [hk]
        have hk2:((al.kids.length:Int) ==2)=false:=by rw [beq_eq_false_iff_ne];omega
        have hk6:((al.kids.length:Int) != 2)=true:=by simp only [bne,hk2];rfl
        have hk7:(al.kids.length != 2)=true:=by simp only [bne,hk1];rfl
        have Hhk:=LH hk
        clear hk
        go_wp2_with fail
        go_ret
        exact⟨ret_bool (by rw [HV.out,hv.out];rfl),hbl.out.trans (((Below.refl _ _).alloc (Nat.le_refl _) _).mono hsz)⟩
   ·
    skip
    have hv:=LH (HNO.out (alt_false (a:=al) (by unfold alt1;simp [o8])))
    have p8:(al.op ==8)=false:=by simpa using o8
    have r8:(al.op != 8)=true:=by simp [bne,p8]
    clear o8
    go_wp2_with fail
    go_ret
    exact⟨ret_bool (by rw [HV.out,hv.out];rfl),hbl.out.trans (((Below.refl _ _).alloc (Nat.le_refl _) _).mono hsz)⟩
  ·
   have hall:=LH (show(a.kids.drop 1).all GNode.alt=true from by
     have h:=Hall.out
     rwa [List.take_of_length_le (by rw [List.length_drop];omega)] at h)
   by_cases h2:2<=a.kids.length
   ·
    obtain⟨x,r,hxr⟩:=List.exists_cons_of_length_pos (l:=a.kids) (by omega)
    have HVV:=LH (show caseV a.kids=x.exp by rw [HV.out,hall.out,decide_eq_true h2,hxr];rfl)
    have hs:=HS.out.below hbl.out (Nat.le_refl _)
    rw [hxr] at hs
    obtain⟨b1,off1,A4,c4,rfl,hS1,x0,x1,x2,x3,x4,hatx⟩:=GNode.elem hs 0 (by simp)
    simp only [Nat.zero_mul,Nat.add_zero,List.getElem_cons_zero] at x0 x1 x2 x3 x4 hatx
    have HX:=LH (HEH.out x (by rw [hxr];simp) A4 c4 wr (hatx.keep fun y hy=>⟨Nat.lt_of_lt_of_le hy hsz,rfl⟩))
    have hn0:0<a.kids.length:=by omega
    have hd2:decide (2<=a.kids.length)=true:=decide_eq_true h2
    clear hxr hs hatx
    go_wp2_with fail
    refine HX.out.mono ?_
    rintro e w2 ⟨rfl,hb2⟩
    have B2:=LH (hbl.out.trans (hb2.mono hsz))
    clear hb2
    go_wp2_with fail
    go_ret
    exact⟨ret_bool HVV.out.symm,B2.out⟩
   · have hd2:decide (2<=a.kids.length)=false:=decide_eq_false h2
     have HVV:=LH (show caseV a.kids=false by rw [HV.out,hd2];simp)
     go_wp2_with fail
     go_ret
     exact⟨ret_bool HVV.out.symm,hbl.out⟩
end Go.Proofs.YtgbjdhfaklmjcaaGreat
