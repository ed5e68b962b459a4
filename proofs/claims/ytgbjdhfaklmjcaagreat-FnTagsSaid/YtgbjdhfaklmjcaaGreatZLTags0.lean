/- Texts of the claim LTags in one: Mem GToken GNode GTy GCon GData Pw NumP. Conditions: none but bounds on sizes. -/
import Derived.WalkKit
namespace Go.Proofs.YtgbjdhfaklmjcaaGreat
set_option maxRecDepth 20000
set_option linter.unusedVariables false
set_option linter.unusedSimpArgs false
open Go.RowKit
inductive D where
 | num (k:IntKind) (n:Int)
 | str (s:ByteArray)
 | bool (b:Bool)
 | agg (fs:List D)
 | sl (size:Nat) (xs:List D)
mutual
def D.rd (w:World) (S:Nat->Prop):D->List Value->Prop
 | .num k n,cs=>cs= [.int k n]/\(Lit.int k n).wf=true
 | .str s,cs=>cs= [.string s]/\s.size<=maxLen
 | .bool b,cs=>cs= [.bool b]
 | .agg fs,cs=>D.rdF w S fs cs
 | .sl size xs,cs=>∃ A c,cs= [.slice A xs.length c]/\xs.length<=c/\c<=maxLen/\(xs= []\/∃ b off,A=some ⟨b,off,none⟩/\S b/\D.rdR w S size b xs off)
def D.rdF (w:World) (S:Nat->Prop):List D->List Value->Prop
 | [],cs=>cs= []
 | d::r,cs=>∃ c1 c2,cs=c1++c2/\D.rd w S d c1/\D.rdF w S r c2
def D.rdR (w:World) (S:Nat->Prop) (size b:Nat):List D->Nat->Prop
 | [],_=>True
 | d::r,off=>(∃ cs,cs.length=size/\(∀ j v,cs[j]? =some v->w.cell? ⟨b,off+j,none⟩=some v)/\D.rd w S d cs)/\D.rdR w S size b r (off+size)
end
mutual
def D.own (w:World):D->(Nat->Prop)->List Value->Prop
 | .num k n,_,cs=>cs= [.int k n]/\(Lit.int k n).wf=true
 | .str s,_,cs=>cs= [.string s]/\s.size<=maxLen
 | .bool b,_,cs=>cs= [.bool b]
 | .agg fs,S,cs=>D.ownF w fs S cs
 | .sl size xs,S,cs=>∃ A c,cs= [.slice A xs.length c]/\xs.length<=c/\c<=maxLen/\(xs= []\/∃ b,A=some ⟨b,0,none⟩/\S b/\(∀ o,w.frozen? ⟨b,o,none⟩=false)/\D.ownR w size b xs (fun x=>S x/\x≠b) 0)
def D.ownF (w:World):List D->(Nat->Prop)->List Value->Prop
 | [],_,cs=>cs= []
 | d::r,S,cs=>∃ (S1 S2:Nat->Prop) (c1 c2:List Value),(∀ x,S1 x->S x/\¬ S2 x)/\(∀ x,S2 x->S x)/\cs=c1++c2/\D.own w d S1 c1/\D.ownF w r S2 c2
def D.ownR (w:World) (size b:Nat):List D->(Nat->Prop)->Nat->Prop
 | [],_,_=>True
 | d::r,S,off=>∃ (S1 S2:Nat->Prop) (cs:List Value),(∀ x,S1 x->S x/\¬ S2 x)/\(∀ x,S2 x->S x)/\cs.length=size/\(∀ j v,cs[j]? =some v->w.cell? ⟨b,off+j,none⟩=some v)/\D.own w d S1 cs/\D.ownR w size b r S2 (off+size)
end
mutual
theorem D.rd_keep {w w':World} {S S':Nat->Prop} (h:∀ b,S b->S' b/\w'.heap[b]? =w.heap[b]?):∀ (d:D) (cs:List Value),d.rd w S cs->d.rd w' S' cs
 | .num _ _,_,hd=>by simpa only [D.rd] using hd
 | .str _,_,hd=>by simpa only [D.rd] using hd
 | .bool _,_,hd=>by simpa only [D.rd] using hd
 | .agg fs,cs,hd=>by
  simp only [D.rd] at hd ⊢
  exact D.rdF_keep h fs cs hd
 | .sl size xs,cs,hd=>by
  simp only [D.rd] at hd ⊢
  obtain⟨A,c,h1,h2,h3,h4⟩:=hd
  refine⟨A,c,h1,h2,h3,?_⟩
  rcases h4 with h4 | ⟨b,off,e,hS,hr⟩
  · exact .inl h4
  · exact .inr ⟨b,off,e,(h b hS).1,D.rdR_keep h size b hS xs off hr⟩
theorem D.rdF_keep {w w':World} {S S':Nat->Prop} (h:∀ b,S b->S' b/\w'.heap[b]? =w.heap[b]?):∀ (fs:List D) (cs:List Value),D.rdF w S fs cs->D.rdF w' S' fs cs
 | [],_,hd=>by simpa only [D.rdF] using hd
 | d::r,cs,hd=>by
  simp only [D.rdF] at hd ⊢
  obtain⟨c1,c2,e,h1,h2⟩:=hd
  exact⟨c1,c2,e,D.rd_keep h d c1 h1,D.rdF_keep h r c2 h2⟩
theorem D.rdR_keep {w w':World} {S S':Nat->Prop} (h:∀ b,S b->S' b/\w'.heap[b]? =w.heap[b]?) (size b:Nat) (hb:S b):∀ (xs:List D) (off:Nat),D.rdR w S size b xs off->D.rdR w' S' size b xs off
 | [],_,_=>by simp only [D.rdR]
 | d::r,off,hd=>by
  simp only [D.rdR] at hd ⊢
  obtain⟨⟨cs,h1,h2,h3⟩,h4⟩:=hd
  exact⟨⟨cs,h1,fun j v hj=>(World.cell?_of_block (h b hb).2).trans (h2 j v hj),D.rd_keep h d cs h3⟩,D.rdR_keep h size b hb r (off+size) h4⟩
end
theorem D.rdR_get {w:World} {S:Nat->Prop} {size b:Nat}:∀ {xs:List D} {off:Nat},D.rdR w S size b xs off->∀ (i:Nat) (h:i<xs.length),
 ∃ cs,cs.length=size/\(∀ j v,cs[j]? =some v->w.cell? ⟨b,off+i*size+j,none⟩=some v)/\(xs[i]).rd w S cs
 | [],_,_,i,h=>by simp at h
 | d::r,off,hr,i,h=>by
  simp only [D.rdR] at hr
  match i with
  | 0=>obtain⟨⟨cs,h1,h2,h3⟩,_⟩:=hr;exact⟨cs,h1,by simpa using h2,h3⟩
  | i+1=>
   obtain⟨cs,h1,h2,h3⟩:=D.rdR_get hr.2 i (by simpa using h)
   refine⟨cs,h1,fun j v hj=>?_,by simpa using h3⟩
   rw [<- h2 j v hj]
   congr 2
   rw [Nat.add_mul];omega
theorem D.rdR_mk {w:World} {S:Nat->Prop} {size b:Nat}:∀ {xs:List D} {off:Nat},(∀ (i:Nat) (h:i<xs.length),
    ∃ cs,cs.length=size/\(∀ j v,cs[j]? =some v->w.cell? ⟨b,off+i*size+j,none⟩=some v)/\(xs[i]).rd w S cs)->D.rdR w S size b xs off
 | [],_,_=>by simp only [D.rdR]
 | d::r,off,hr=>by
  simp only [D.rdR]
  refine⟨?_,D.rdR_mk fun i h=>?_⟩
  · obtain⟨cs,h1,h2,h3⟩:=hr 0 (by simp)
    exact⟨cs,h1,by simpa using h2,h3⟩
  · obtain⟨cs,h1,h2,h3⟩:=hr (i+1) (by simpa using h)
    refine⟨cs,h1,fun j v hj=>?_,by simpa using h3⟩
    rw [<- h2 j v hj]
    congr 2
    rw [Nat.add_mul];omega
def Sl (w:World) (S:Nat->Prop) (size:Nat) (A:Option Addr) (c:Nat) (xs:List D):Prop:=
 xs.length<=c/\c<=maxLen/\(xs= []\/∃ b off,A=some ⟨b,off,none⟩/\S b/\D.rdR w S size b xs off)
theorem Sl.keep {w w':World} {S S':Nat->Prop} {size:Nat} {A:Option Addr} {c:Nat} {xs:List D} (hs:Sl w S size A c xs) (h:∀ b,S b->S' b/\w'.heap[b]? =w.heap[b]?):Sl w' S' size A c xs:=by
 obtain⟨h1,h2,h3⟩:=hs
 refine⟨h1,h2,?_⟩
 rcases h3 with h3 | ⟨b,off,e,hS,hr⟩
 · exact .inl h3
 · exact .inr ⟨b,off,e,(h b hS).1,D.rdR_keep h size b hS xs off hr⟩
theorem D.rd_num {w:World} {S:Nat->Prop} {k:IntKind} {n:Int} {cs:List Value}:(D.num k n).rd w S cs ↔ cs= [.int k n]/\(Lit.int k n).wf=true:=by simp only [D.rd]
theorem D.rd_str {w:World} {S:Nat->Prop} {s:ByteArray} {cs:List Value}:(D.str s).rd w S cs ↔ cs= [.string s]/\s.size<=maxLen:=by simp only [D.rd]
theorem D.rd_bool {w:World} {S:Nat->Prop} {b:Bool} {cs:List Value}:(D.bool b).rd w S cs ↔ cs= [.bool b]:=by simp only [D.rd]
theorem D.rd_sl {w:World} {S:Nat->Prop} {size:Nat} {xs:List D} {cs:List Value}:(D.sl size xs).rd w S cs ↔ ∃ A c,cs= [.slice A xs.length c]/\Sl w S size A c xs:=by
 simp only [D.rd,Sl]
theorem D.rd_agg {w:World} {S:Nat->Prop} {fs:List D} {cs:List Value}:(D.agg fs).rd w S cs ↔ D.rdF w S fs cs:=by simp only [D.rd]
theorem D.rdF_nil {w:World} {S:Nat->Prop} {cs:List Value}:D.rdF w S [] cs ↔ cs= []:=by simp only [D.rdF]
theorem D.rdF_cons {w:World} {S:Nat->Prop} {d:D} {r:List D} {cs:List Value}:D.rdF w S (d::r) cs ↔ ∃ c1 c2,cs=c1++c2/\D.rd w S d c1/\D.rdF w S r c2:=by simp only [D.rdF]
theorem Sl.get {w:World} {S:Nat->Prop} {size:Nat} {A:Option Addr} {c:Nat} {xs:List D} (hs:Sl w S size A c xs) (i:Nat) (h:i<xs.length):
 ∃ b off cs,A=some ⟨b,off,none⟩/\S b/\cs.length=size/\(∀ j v,cs[j]? =some v->w.cell? ⟨b,off+i*size+j,none⟩=some v)/\(xs[i]).rd w S cs:=by
 obtain⟨_,_,h3 | ⟨b,off,e,hS,hr⟩⟩:=hs
 · rw [h3] at h;simp at h
 · obtain⟨cs,g1,g2,g3⟩:=D.rdR_get hr i h
   exact⟨b,off,cs,e,hS,g1,g2,g3⟩
theorem Sl.nil {w:World} {S:Nat->Prop} {size:Nat} {A:Option Addr} {c:Nat} (hc:c<=maxLen):Sl w S size A c []:=⟨by simp,hc,.inl rfl⟩
theorem Sl.len {w:World} {S:Nat->Prop} {size:Nat} {A:Option Addr} {c:Nat} {xs:List D} (hs:Sl w S size A c xs):xs.length<=9223372036854775807:=by
 have:=hs.1;have:=hs.2.1;unfold maxLen at*;omega
mutual
theorem D.own_keep {w w':World}:∀ (d:D) (S S':Nat->Prop) (cs:List Value),(∀ b,S b->S' b/\w'.heap[b]? =w.heap[b]?)->d.own w S cs->d.own w' S' cs
 | .num _ _,_,_,_,_,hd=>by simpa only [D.own] using hd
 | .str _,_,_,_,_,hd=>by simpa only [D.own] using hd
 | .bool _,_,_,_,_,hd=>by simpa only [D.own] using hd
 | .agg fs,S,S',cs,h,hd=>by
  simp only [D.own] at hd ⊢
  exact D.ownF_keep fs S S' cs h hd
 | .sl size xs,S,S',cs,h,hd=>by
  simp only [D.own] at hd ⊢
  obtain⟨A,c,h1,h2,h3,h4⟩:=hd
  refine⟨A,c,h1,h2,h3,?_⟩
  rcases h4 with h4 | ⟨b,e,hS,hf,hr⟩
  · exact .inl h4
  · exact .inr ⟨b,e,(h b hS).1,fun o=>(World.frozen?_of_block (h b hS).2).trans (hf o),D.ownR_keep size b xs _ _ 0 (fun x hx=>⟨⟨(h x hx.1).1,hx.2⟩,(h x hx.1).2⟩) (fun j _=>World.cell?_of_block (h b hS).2) hr⟩
theorem D.ownF_keep {w w':World}:∀ (fs:List D) (S S':Nat->Prop) (cs:List Value),(∀ b,S b->S' b/\w'.heap[b]? =w.heap[b]?)->D.ownF w fs S cs->D.ownF w' fs S' cs
 | [],_,_,_,_,hd=>by simpa only [D.ownF] using hd
 | d::r,S,S',cs,h,hd=>by
  simp only [D.ownF] at hd ⊢
  obtain⟨S1,S2,c1,c2,g1,g2,e,h1,h2⟩:=hd
  exact⟨S1,S2,c1,c2,fun x hx=>⟨(h x (g1 x hx).1).1,(g1 x hx).2⟩,fun x hx=>(h x (g2 x hx)).1,e,D.own_keep d S1 S1 c1 (fun b hb=>⟨hb,(h b (g1 b hb).1).2⟩) h1,D.ownF_keep r S2 S2 c2 (fun b hb=>⟨hb,(h b (g2 b hb)).2⟩) h2⟩
theorem D.ownR_keep {w w':World} (size b:Nat):∀ (xs:List D) (S S':Nat->Prop) (off:Nat),(∀ b,S b->S' b/\w'.heap[b]? =w.heap[b]?)->(∀ j,j<off+xs.length*size->w'.cell? ⟨b,j,none⟩=w.cell? ⟨b,j,none⟩)->
 D.ownR w size b xs S off->D.ownR w' size b xs S' off
 | [],_,_,_,_,_,_=>by simp only [D.ownR]
 | d::r,S,S',off,h,hc,hd=>by
  simp only [D.ownR] at hd ⊢
  obtain⟨S1,S2,cs,g1,g2,h1,h2,h3,h4⟩:=hd
  have hlen:(d::r).length*size=r.length*size+size:=by rw [List.length_cons,Nat.add_mul,Nat.one_mul]
  refine⟨S1,S2,cs,fun x hx=>⟨(h x (g1 x hx).1).1,(g1 x hx).2⟩,fun x hx=>(h x (g2 x hx)).1,h1,fun j v hj=>?_,D.own_keep d S1 S1 cs (fun b hb=>⟨hb,(h b (g1 b hb).1).2⟩) h3,
    D.ownR_keep size b r S2 S2 (off+size) (fun b hb=>⟨hb,(h b (g2 b hb)).2⟩) (fun j hj=>hc j (by rw [hlen];omega)) h4⟩
  have hjl:j<cs.length:=(List.getElem?_eq_some_iff.1 hj).1
  rw [hc (off+j) (by rw [hlen];omega)]
  exact h2 j v hj
end
mutual
theorem D.own_rd {w:World}:∀ (d:D) (S:Nat->Prop) (cs:List Value),d.own w S cs->d.rd w S cs
 | .num _ _,_,_,hd=>by simpa only [D.own,D.rd] using hd
 | .str _,_,_,hd=>by simpa only [D.own,D.rd] using hd
 | .bool _,_,_,hd=>by simpa only [D.own,D.rd] using hd
 | .agg fs,S,cs,hd=>by
  simp only [D.own,D.rd] at hd ⊢
  exact D.ownF_rd fs S cs hd
 | .sl size xs,S,cs,hd=>by
  simp only [D.own,D.rd] at hd ⊢
  obtain⟨A,c,h1,h2,h3,h4⟩:=hd
  refine⟨A,c,h1,h2,h3,?_⟩
  rcases h4 with h4 | ⟨b,e,hS,hf,hr⟩
  · exact .inl h4
  · exact .inr ⟨b,0,e,hS,D.rdR_keep (S:=fun x=>S x) (fun x hx=>⟨hx,rfl⟩) size b hS xs 0 (D.ownR_rd size b xs _ S 0 (fun x hx=>hx.1) hr)⟩
theorem D.ownF_rd {w:World}:∀ (fs:List D) (S:Nat->Prop) (cs:List Value),D.ownF w fs S cs->D.rdF w S fs cs
 | [],_,_,hd=>by simpa only [D.ownF,D.rdF] using hd
 | d::r,S,cs,hd=>by
  simp only [D.ownF,D.rdF] at hd ⊢
  obtain⟨S1,S2,c1,c2,g1,g2,e,h1,h2⟩:=hd
  exact⟨c1,c2,e,D.rd_keep (fun b hb=>⟨(g1 b hb).1,rfl⟩) d c1 (D.own_rd d S1 c1 h1),D.rdF_keep (fun b hb=>⟨g2 b hb,rfl⟩) r c2 (D.ownF_rd r S2 c2 h2)⟩
theorem D.ownR_rd {w:World} (size b:Nat):∀ (xs:List D) (S T:Nat->Prop) (off:Nat),(∀ x,S x->T x)->D.ownR w size b xs S off->D.rdR w T size b xs off
 | [],_,_,_,_,_=>by simp only [D.rdR]
 | d::r,S,T,off,hT,hd=>by
  simp only [D.ownR,D.rdR] at hd ⊢
  obtain⟨S1,S2,cs,g1,g2,h1,h2,h3,h4⟩:=hd
  exact⟨⟨cs,h1,h2,D.rd_keep (fun b hb=>⟨hT b (g1 b hb).1,rfl⟩) d cs (D.own_rd d S1 cs h3)⟩,D.ownR_rd size b r S2 T (off+size) (fun x hx=>hT x (g2 x hx)) h4⟩
end
def Osl (w:World) (S:Nat->Prop) (size:Nat) (A:Option Addr) (c:Nat) (xs:List D):Prop:=
 xs.length<=c/\c<=maxLen/\(xs= []\/∃ b,A=some ⟨b,0,none⟩/\S b/\(∀ o,w.frozen? ⟨b,o,none⟩=false)/\D.ownR w size b xs (fun x=>S x/\x≠b) 0)
theorem D.own_num {w:World} {S:Nat->Prop} {k:IntKind} {n:Int} {cs:List Value}:(D.num k n).own w S cs ↔ cs= [.int k n]/\(Lit.int k n).wf=true:=by simp only [D.own]
theorem D.own_str {w:World} {S:Nat->Prop} {s:ByteArray} {cs:List Value}:(D.str s).own w S cs ↔ cs= [.string s]/\s.size<=maxLen:=by simp only [D.own]
theorem D.own_sl {w:World} {S:Nat->Prop} {size:Nat} {xs:List D} {cs:List Value}:(D.sl size xs).own w S cs ↔ ∃ A c,cs= [.slice A xs.length c]/\Osl w S size A c xs:=by
 simp only [D.own,Osl]
theorem D.own_agg {w:World} {S:Nat->Prop} {fs:List D} {cs:List Value}:(D.agg fs).own w S cs ↔ D.ownF w fs S cs:=by simp only [D.own]
theorem D.ownF_nil {w:World} {S:Nat->Prop} {cs:List Value}:D.ownF w [] S cs ↔ cs= []:=by simp only [D.ownF]
theorem D.ownF_plain {w:World} {S:Nat->Prop} {d:D} {r:List D} {c1 c2:List Value} (h:d.own w (fun _=>False) c1) (h2:D.ownF w r S c2):D.ownF w (d::r) S (c1++c2):=by
 simp only [D.ownF]
 exact⟨fun _=>False,S,c1,c2,fun x hx=>hx.elim,fun x hx=>hx,rfl,h,h2⟩
theorem D.ownF_cons {w:World} {S S1 S2:Nat->Prop} {d:D} {r:List D} {c1 c2:List Value} (g1:∀ x,S1 x->S x/\¬ S2 x) (g2:∀ x,S2 x->S x) (h:d.own w S1 c1) (h2:D.ownF w r S2 c2):D.ownF w (d::r) S (c1++c2):=by
 simp only [D.ownF]
 exact⟨S1,S2,c1,c2,g1,g2,rfl,h,h2⟩
theorem D.ownF_last {w:World} {S:Nat->Prop} {d:D} {c1:List Value} (h:d.own w S c1):D.ownF w [d] S c1:=by
 simp only [D.ownF]
 exact⟨S,fun _=>False,c1,[],fun x hx=>⟨hx,fun h=>h⟩,fun x hx=>hx.elim,by simp,h,rfl⟩
theorem Osl.keep {w w':World} {S S':Nat->Prop} {size:Nat} {A:Option Addr} {c:Nat} {xs:List D} (hs:Osl w S size A c xs) (h:∀ b,S b->S' b/\w'.heap[b]? =w.heap[b]?):Osl w' S' size A c xs:=by
 obtain⟨h1,h2,h3⟩:=hs
 refine⟨h1,h2,?_⟩
 rcases h3 with h3 | ⟨b,e,hS,hf,hr⟩
 · exact .inl h3
 · exact .inr ⟨b,e,(h b hS).1,fun o=>(World.frozen?_of_block (h b hS).2).trans (hf o),D.ownR_keep size b xs _ _ 0 (fun x hx=>⟨⟨(h x hx.1).1,hx.2⟩,(h x hx.1).2⟩) (fun j _=>World.cell?_of_block (h b hS).2) hr⟩
theorem Osl.sl {w:World} {S:Nat->Prop} {size:Nat} {A:Option Addr} {c:Nat} {xs:List D} (hs:Osl w S size A c xs):Sl w S size A c xs:=by
 obtain⟨h1,h2,h3⟩:=hs
 refine⟨h1,h2,?_⟩
 rcases h3 with h3 | ⟨b,e,hS,hf,hr⟩
 · exact .inl h3
 · exact .inr ⟨b,0,e,hS,D.ownR_rd size b xs _ S 0 (fun x hx=>hx.1) hr⟩
theorem Osl.nil {w:World} {S:Nat->Prop} {size:Nat} {A:Option Addr} {c:Nat} (hc:c<=maxLen):Osl w S size A c []:=⟨by simp,hc,.inl rfl⟩
def Lt (B:Nat):Nat->Prop:=fun b=>b<B
def Btw (B B':Nat):Nat->Prop:=fun b=>B<=b/\b<B'
theorem keep_below {w w':World} {B B':Nat} (h:Below B w w') (hB:B<=B'):∀ b,Lt B b->Lt B' b/\w'.heap[b]? =w.heap[b]?:=
 fun b hb=>⟨Nat.lt_of_lt_of_le hb hB,h.block b hb⟩
theorem keep_btw {w w':World} {B B' C C':Nat} (h:Below B' w w') (hC:C<=B) (hC':B'<=C'):∀ b,Btw B B' b->Btw C C' b/\w'.heap[b]? =w.heap[b]?:=
 fun b hb=>⟨⟨Nat.le_trans hC hb.1,Nat.lt_of_lt_of_le hb.2 hC'⟩,h.block b hb.2⟩
theorem Sl.below {w w':World} {B B':Nat} {size:Nat} {A:Option Addr} {c:Nat} {xs:List D} (hs:Sl w (Lt B) size A c xs) (h:Below B w w') (hB:B<=B'):Sl w' (Lt B') size A c xs:=
 hs.keep (keep_below h hB)
theorem Osl.below {w w':World} {B B' C C':Nat} {size:Nat} {A:Option Addr} {c:Nat} {xs:List D} (hs:Osl w (Btw B B') size A c xs) (h:Below B' w w') (hC:C<=B) (hC':B'<=C'):Osl w' (Btw C C') size A c xs:=
 hs.keep (keep_btw h hC hC')
def Row (w:World) (g:Nat) (t:TypeId) (cs:Array Value):Prop:=w.heap[g]? =some (.cells cs t (0,0))
theorem Row.cell {w:World} {g:Nat} {t:TypeId} {cs:Array Value} (h:Row w g t cs) (i:Nat):w.cell? ⟨g,i,none⟩=cs[i]?:=cell_of_row w g i cs t (0,0) h
theorem Row.frozen {w:World} {g:Nat} {t:TypeId} {cs:Array Value} (h:Row w g t cs) (i:Nat):w.frozen? ⟨g,i,none⟩=false:=by
 unfold Row at h
 simp [World.frozen?,h]
theorem Row.new (w:World) (t:TypeId) (cs:Array Value):Row (w.alloc (.cells cs t)) w.heap.size t cs:=heap_alloc_new w _
theorem Row.new' (w:World) (t:TypeId) (cs:Array Value) {g:Nat} (hg:g=w.heap.size):Row (w.alloc (.cells cs t)) g t cs:=by subst hg;exact Row.new w t cs
theorem Row.lt {w:World} {g:Nat} {t:TypeId} {cs:Array Value} (h:Row w g t cs):g<w.heap.size:=by
 rcases Nat.lt_or_ge g w.heap.size with hlt | hge
 · exact hlt
 · unfold Row at h;rw [Array.getElem?_eq_none hge] at h;cases h
theorem Row.set {w:World} {g:Nat} {t:TypeId} {cs:Array Value} (h:Row w g t cs) (i:Nat) (u:Value):Row (w.setCell ⟨g,i,none⟩ u) g t (cs.setIfInBounds i u):=by
 unfold Row at h ⊢
 simp [World.setCell,Array.getElem?_modify,h]
theorem Row.alloc {w:World} {g:Nat} {t:TypeId} {cs:Array Value} (h:Row w g t cs) (o:Obj):Row (w.alloc o) g t cs:=(Below.heap_alloc w o g h.lt).trans h
theorem Row.far {w:World} {g:Nat} {t:TypeId} {cs:Array Value} (h:Row w g t cs) {p:Addr} (hp:g≠p.block) (u:Value):Row (w.setCell p u) g t cs:=(Below.heap_setCell w p u g hp).trans h
theorem Row.below {B:Nat} {w w':World} {g:Nat} {t:TypeId} {cs:Array Value} (h:Row w g t cs) (hb:Below B w w') (hg:g<B):Row w' g t cs:=(hb.block g hg).trans h
def setCells (w:World) (g k:Nat):List Value->World
 | []=>w
 | v::r=>setCells (w.setCell ⟨g,k,none⟩ v) g (k+1) r
theorem setCells_size (w:World) (g k:Nat) (vs:List Value):(setCells w g k vs).heap.size=w.heap.size:=by
 induction vs generalizing w k with
 | nil=>rfl
 | cons v r ih=>simp only [setCells];rw [ih];simp [World.setCell]
theorem setCells_block (w:World) (g k:Nat) (vs:List Value) (b:Nat) (hb:b≠g):(setCells w g k vs).heap[b]? =w.heap[b]?:=by
 induction vs generalizing w k with
 | nil=>rfl
 | cons v r ih=>simp only [setCells];rw [ih];exact Below.heap_setCell w ⟨g,k,none⟩ v b hb
theorem setCells_below {B:Nat} {a w:World} (h:Below B a w) (g k:Nat) (hg:B<=g) (vs:List Value):Below B a (setCells w g k vs):=by
 induction vs generalizing w k with
 | nil=>exact h
 | cons v r ih=>simp only [setCells];exact ih (h.setCell hg v) (k+1)
theorem take_snoc' {α:Type} (l:List α) (j:Nat) (h:j<l.length):l.take (j+1)=l.take j++[l[j]]:=by
 rw [List.take_succ_eq_append_getElem h]
theorem enters {P : Program} {K : FuncId} {fn : Func} (h : P.funcs[K]? = some fn) (h1 : (fn.name == "runtime.NumGoroutine") = false) (h2 : fn.body.isNone = false) (args : Array Value) (w : World) :
 (callFunc K args).run P w= .ok (.enter K args) w:=by
 have e1 : ¬ fn.name = "runtime.NumGoroutine" := by simpa using h1
 have e2:¬ fn.body=none:=by intro e;rw [e] at h2;cases h2
 simp [callFunc,h,e1,e2]
def bulkL {α:Type} (f:α->Nat):List α->Nat
 | []=>0
 | t::r=>1+f t+bulkL f r
theorem bulkL_take_ge {α:Type} (f:α->Nat) (l:List α) (i:Nat) (h:i<=l.length):i<=bulkL f (l.take i):=by
 induction l generalizing i with
 | nil=>simp at h;simp [h]
 | cons t r ih=>
  match i with
  | 0=>simp
  | i+1=>simp only [List.take_succ_cons,bulkL];have:=ih i (by simpa using h);omega
theorem bulkL_mem {α:Type} (f:α->Nat) (l:List α) (t:α) (h:t∈l):f t+1<=bulkL f l:=by
 induction l with
 | nil=>cases h
 | cons x r ih=>
  simp only [bulkL]
  cases h with
  | head=>omega
  | tail _ h=>have:=ih h;omega
theorem bulkL_len {α:Type} (f:α->Nat) (l:List α):l.length<=bulkL f l:=by
 have:=bulkL_take_ge f l l.length (Nat.le_refl _);rwa [List.take_length] at this
structure GToken where
 kind:Int
 text:ByteArray
 n:Int
 pos:Int
def GToken.toD (x:GToken):D:=.agg [.num .i64 x.kind,.str x.text,.num .i64 x.n,.num .i64 x.pos]
def GToken.bulk (x:GToken):Nat:=x.text.size
theorem GToken.bulk_eq (t:GToken):t.bulk=t.text.size:=rfl
def GToken.At (w:World) (S:Nat->Prop) (t:GToken):Prop:=
 (Lit.int .i64 t.kind).wf=true/\t.text.size<=maxLen/\(Lit.int .i64 t.n).wf=true/\(Lit.int .i64 t.pos).wf=true
theorem GToken.rd {w:World} {S:Nat->Prop} {t:GToken} {cs:List Value} (h:t.toD.rd w S cs):cs= [.int .i64 t.kind,.string t.text,.int .i64 t.n,.int .i64 t.pos]/\GToken.At w S t:=by
 unfold GToken.toD at h
 rw [D.rd_agg] at h
 rw [D.rdF_cons] at h
 obtain⟨x0,r0,rfl,k0,h⟩:=h
 obtain⟨rfl,h0⟩:=D.rd_num.1 k0
 rw [D.rdF_cons] at h
 obtain⟨x1,r1,rfl,k1,h⟩:=h
 obtain⟨rfl,h1⟩:=D.rd_str.1 k1
 rw [D.rdF_cons] at h
 obtain⟨x2,r2,rfl,k2,h⟩:=h
 obtain⟨rfl,h2⟩:=D.rd_num.1 k2
 rw [D.rdF_cons] at h
 obtain⟨x3,r3,rfl,k3,h⟩:=h
 obtain⟨rfl,h3⟩:=D.rd_num.1 k3
 obtain rfl:=D.rdF_nil.1 h
 exact⟨by simp [List.length_map],h0,h1,h2,h3⟩
theorem GToken.rd_mk {w:World} {S:Nat->Prop} {t:GToken} (h:GToken.At w S t):t.toD.rd w S [.int .i64 t.kind,.string t.text,.int .i64 t.n,.int .i64 t.pos]:=by
 unfold GToken.toD
 unfold GToken.At at h
 obtain⟨h0,h1,h2,h3⟩:=h
 rw [D.rd_agg]
 exact D.rdF_cons.2 ⟨[_],[_,_,_],rfl,D.rd_num.2 ⟨rfl,h0⟩,D.rdF_cons.2 ⟨[_],[_,_],rfl,D.rd_str.2 ⟨rfl,h1⟩,D.rdF_cons.2 ⟨[_],[_],rfl,D.rd_num.2 ⟨rfl,h2⟩,D.rdF_cons.2 ⟨[_],[],rfl,D.rd_num.2 ⟨rfl,h3⟩,D.rdF_nil.2 rfl⟩⟩⟩⟩
theorem GToken.elem {w:World} {S:Nat->Prop} {A:Option Addr} {c:Nat} {l:List GToken} (h:Sl w S 4 A c (l.map GToken.toD)) (i:Nat) (hi:i<l.length):
 ∃ b off,A=some ⟨b,off,none⟩/\S b/\w.cell? ⟨b,off+i*4,none⟩=some (.int .i64 l[i].kind)/\w.cell? ⟨b,off+i*4+1,none⟩=some (.string l[i].text)/\w.cell? ⟨b,off+i*4+2,none⟩=some (.int .i64 l[i].n)/\w.cell? ⟨b,off+i*4+3,none⟩=some (.int .i64 l[i].pos)/\GToken.At w S l[i]:=by
 obtain⟨b,off,cs,e,hb,hl,hc,hr⟩:=Sl.get h i (by simpa using hi)
 rw [List.getElem_map] at hr
 obtain⟨rfl,h1⟩:=GToken.rd hr
 exact⟨b,off,e,hb,hc 0 _ rfl,hc 1 _ rfl,hc 2 _ rfl,hc 3 _ rfl,h1⟩
theorem GToken.At.keep {w w':World} {S S':Nat->Prop} {t:GToken} (h:GToken.At w S t) (hk:∀ b,S b->S' b/\w'.heap[b]? =w.heap[b]?):GToken.At w' S' t:=by
 unfold GToken.At at h ⊢
 obtain⟨h0,h1,h2,h3⟩:=h
 exact⟨h0,h1,h2,h3⟩
theorem GToken.At.below {w w':World} {B B':Nat} {t:GToken} (h:GToken.At w (Lt B) t) (hb:Below B w w') (hB:B<=B'):GToken.At w' (Lt B') t:=
 h.keep (keep_below hb hB)
def GToken.Ow (w:World) (S:Nat->Prop) (t:GToken):Prop:=
 (Lit.int .i64 t.kind).wf=true/\t.text.size<=maxLen/\(Lit.int .i64 t.n).wf=true/\(Lit.int .i64 t.pos).wf=true
theorem GToken.own_mk {w:World} {S:Nat->Prop} {t:GToken} (h:GToken.Ow w S t):t.toD.own w S [.int .i64 t.kind,.string t.text,.int .i64 t.n,.int .i64 t.pos]:=by
 unfold GToken.toD
 unfold GToken.Ow at h
 obtain⟨h0,h1,h2,h3⟩:=h
 rw [D.own_agg]
 exact D.ownF_plain (c1:=[_]) (c2:=[_,_,_]) (D.own_num.2 ⟨rfl,h0⟩) (D.ownF_plain (c1:=[_]) (c2:=[_,_]) (D.own_str.2 ⟨rfl,h1⟩) (D.ownF_plain (c1:=[_]) (c2:=[_]) (D.own_num.2 ⟨rfl,h2⟩) (D.ownF_plain (S:=S) (c1:=[_]) (c2:=[]) (D.own_num.2 ⟨rfl,h3⟩) (D.ownF_nil.2 rfl))))
theorem GToken.Ow.keep {w w':World} {S S':Nat->Prop} {t:GToken} (h:GToken.Ow w S t) (hk:∀ b,S b->S' b/\w'.heap[b]? =w.heap[b]?):GToken.Ow w' S' t:=by
 unfold GToken.Ow at h ⊢
 obtain⟨h0,h1,h2,h3⟩:=h
 exact⟨h0,h1,h2,h3⟩
theorem GToken.Ow.at {w:World} {S:Nat->Prop} {t:GToken} (h:GToken.Ow w S t):GToken.At w S t:=by
 unfold GToken.Ow at h
 unfold GToken.At
 obtain⟨h0,h1,h2,h3⟩:=h
 exact⟨h0,h1,h2,h3⟩
inductive GNode where
 | mk (op:Int) (n:Int) (s:ByteArray) (t:ByteArray) (kids:List GNode)
def GNode.op:GNode->Int | .mk x _ _ _ _=>x
def GNode.n:GNode->Int | .mk _ x _ _ _=>x
def GNode.s:GNode->ByteArray | .mk _ _ x _ _=>x
def GNode.t:GNode->ByteArray | .mk _ _ _ x _=>x
def GNode.kids:GNode->List GNode | .mk _ _ _ _ x=>x
mutual
def GNode.toD:GNode->D | .mk op n s t kids=>.agg [.num .i64 op,.num .i64 n,.str s,.str t,.sl 5 (GNode.toDs kids)]
def GNode.toDs:List GNode->List D | []=>[] | t::r=>t.toD::GNode.toDs r
end
theorem GNode.toDs_map:∀ l:List GNode,GNode.toDs l=l.map GNode.toD
 | []=>rfl
 | t::r=>by simp only [GNode.toDs,List.map_cons,GNode.toDs_map r]
mutual
def GNode.bulk:GNode->Nat | .mk _ _ s t kids=>s.size+t.size+GNode.bulks kids
def GNode.bulks:List GNode->Nat | []=>0 | t::r=>1+t.bulk+GNode.bulks r
end
theorem GNode.bulks_eq:∀ l:List GNode,GNode.bulks l=bulkL GNode.bulk l
 | []=>rfl
 | t::r=>by simp only [GNode.bulks,bulkL,GNode.bulks_eq r]
theorem GNode.bulk_eq (t:GNode):t.bulk=t.s.size+t.t.size+bulkL GNode.bulk t.kids:=by
 cases t;simp only [GNode.bulk,GNode.bulks_eq,GNode.op,GNode.n,GNode.s,GNode.t,GNode.kids]
def GNode.At (w:World) (S:Nat->Prop) (A1:Option Addr) (c1:Nat) (t:GNode):Prop:=
 (Lit.int .i64 t.op).wf=true/\(Lit.int .i64 t.n).wf=true/\t.s.size<=maxLen/\t.t.size<=maxLen/\Sl w S 5 A1 c1 (t.kids.map GNode.toD)
theorem GNode.rd {w:World} {S:Nat->Prop} {t:GNode} {cs:List Value} (h:t.toD.rd w S cs):∃ A1 c1,cs= [.int .i64 t.op,.int .i64 t.n,.string t.s,.string t.t,.slice A1 t.kids.length c1]/\GNode.At w S A1 c1 t:=by
 cases t with
 | mk op n s t kids=>
 simp only [GNode.toD,GNode.toDs_map] at h
 rw [D.rd_agg] at h
 rw [D.rdF_cons] at h
 obtain⟨x0,r0,rfl,k0,h⟩:=h
 obtain⟨rfl,h0⟩:=D.rd_num.1 k0
 rw [D.rdF_cons] at h
 obtain⟨x1,r1,rfl,k1,h⟩:=h
 obtain⟨rfl,h1⟩:=D.rd_num.1 k1
 rw [D.rdF_cons] at h
 obtain⟨x2,r2,rfl,k2,h⟩:=h
 obtain⟨rfl,h2⟩:=D.rd_str.1 k2
 rw [D.rdF_cons] at h
 obtain⟨x3,r3,rfl,k3,h⟩:=h
 obtain⟨rfl,h3⟩:=D.rd_str.1 k3
 rw [D.rdF_cons] at h
 obtain⟨x4,r4,rfl,k4,h⟩:=h
 obtain⟨A1,c1,rfl,h4⟩:=D.rd_sl.1 k4
 obtain rfl:=D.rdF_nil.1 h
 exact⟨A1,c1,by simp [GNode.op,GNode.n,GNode.s,GNode.t,GNode.kids],h0,h1,h2,h3,h4⟩
theorem GNode.rd_mk {w:World} {S:Nat->Prop} {t:GNode} {A1:Option Addr} {c1:Nat} (h:GNode.At w S A1 c1 t):t.toD.rd w S [.int .i64 t.op,.int .i64 t.n,.string t.s,.string t.t,.slice A1 t.kids.length c1]:=by
 cases t with
 | mk op n s t kids=>
 simp only [GNode.toD,GNode.toDs_map]
 unfold GNode.At at h
 obtain⟨h0,h1,h2,h3,h4⟩:=h
 rw [D.rd_agg]
 exact D.rdF_cons.2 ⟨[_],[_,_,_,_],rfl,D.rd_num.2 ⟨rfl,h0⟩,D.rdF_cons.2 ⟨[_],[_,_,_],rfl,D.rd_num.2 ⟨rfl,h1⟩,D.rdF_cons.2 ⟨[_],[_,_],rfl,D.rd_str.2 ⟨rfl,h2⟩,D.rdF_cons.2 ⟨[_],[_],rfl,D.rd_str.2 ⟨rfl,h3⟩,D.rdF_cons.2 ⟨[_],[],rfl,D.rd_sl.2 ⟨A1,c1,by simp [GNode.kids],h4⟩,D.rdF_nil.2 rfl⟩⟩⟩⟩⟩
theorem GNode.elem {w:World} {S:Nat->Prop} {A:Option Addr} {c:Nat} {l:List GNode} (h:Sl w S 5 A c (l.map GNode.toD)) (i:Nat) (hi:i<l.length):
 ∃ b off A1 c1,A=some ⟨b,off,none⟩/\S b/\w.cell? ⟨b,off+i*5,none⟩=some (.int .i64 l[i].op)/\w.cell? ⟨b,off+i*5+1,none⟩=some (.int .i64 l[i].n)/\w.cell? ⟨b,off+i*5+2,none⟩=some (.string l[i].s)/\w.cell? ⟨b,off+i*5+3,none⟩=some (.string l[i].t)/\w.cell? ⟨b,off+i*5+4,none⟩=some (.slice A1 l[i].kids.length c1)/\GNode.At w S A1 c1 l[i]:=by
 obtain⟨b,off,cs,e,hb,hl,hc,hr⟩:=Sl.get h i (by simpa using hi)
 rw [List.getElem_map] at hr
 obtain⟨A1,c1,rfl,h1⟩:=GNode.rd hr
 exact⟨b,off,A1,c1,e,hb,hc 0 _ rfl,hc 1 _ rfl,hc 2 _ rfl,hc 3 _ rfl,hc 4 _ rfl,h1⟩
theorem GNode.At.keep {w w':World} {S S':Nat->Prop} {t:GNode} {A1:Option Addr} {c1:Nat} (h:GNode.At w S A1 c1 t) (hk:∀ b,S b->S' b/\w'.heap[b]? =w.heap[b]?):GNode.At w' S' A1 c1 t:=by
 unfold GNode.At at h ⊢
 obtain⟨h0,h1,h2,h3,h4⟩:=h
 exact⟨h0,h1,h2,h3,h4.keep hk⟩
theorem GNode.At.below {w w':World} {B B':Nat} {t:GNode} {A1:Option Addr} {c1:Nat} (h:GNode.At w (Lt B) A1 c1 t) (hb:Below B w w') (hB:B<=B'):GNode.At w' (Lt B') A1 c1 t:=
 h.keep (keep_below hb hB)
def GNode.Ow (w:World) (S:Nat->Prop) (A1:Option Addr) (c1:Nat) (t:GNode):Prop:=
 (Lit.int .i64 t.op).wf=true/\(Lit.int .i64 t.n).wf=true/\t.s.size<=maxLen/\t.t.size<=maxLen/\Osl w S 5 A1 c1 (t.kids.map GNode.toD)
theorem GNode.own_mk {w:World} {S:Nat->Prop} {t:GNode} {A1:Option Addr} {c1:Nat} (h:GNode.Ow w S A1 c1 t):t.toD.own w S [.int .i64 t.op,.int .i64 t.n,.string t.s,.string t.t,.slice A1 t.kids.length c1]:=by
 cases t with
 | mk op n s t kids=>
 simp only [GNode.toD,GNode.toDs_map]
 unfold GNode.Ow at h
 obtain⟨h0,h1,h2,h3,h4⟩:=h
 rw [D.own_agg]
 exact D.ownF_plain (c1:=[_]) (c2:=[_,_,_,_]) (D.own_num.2 ⟨rfl,h0⟩) (D.ownF_plain (c1:=[_]) (c2:=[_,_,_]) (D.own_num.2 ⟨rfl,h1⟩) (D.ownF_plain (c1:=[_]) (c2:=[_,_]) (D.own_str.2 ⟨rfl,h2⟩) (D.ownF_plain (c1:=[_]) (c2:=[_]) (D.own_str.2 ⟨rfl,h3⟩) (D.ownF_last (D.own_sl.2 ⟨A1,c1,by simp [GNode.kids],h4⟩)))))
theorem GNode.Ow.keep {w w':World} {S S':Nat->Prop} {t:GNode} {A1:Option Addr} {c1:Nat} (h:GNode.Ow w S A1 c1 t) (hk:∀ b,S b->S' b/\w'.heap[b]? =w.heap[b]?):GNode.Ow w' S' A1 c1 t:=by
 unfold GNode.Ow at h ⊢
 obtain⟨h0,h1,h2,h3,h4⟩:=h
 exact⟨h0,h1,h2,h3,h4.keep hk⟩
theorem GNode.Ow.at {w:World} {S:Nat->Prop} {t:GNode} {A1:Option Addr} {c1:Nat} (h:GNode.Ow w S A1 c1 t):GNode.At w S A1 c1 t:=by
 unfold GNode.Ow at h
 unfold GNode.At
 obtain⟨h0,h1,h2,h3,h4⟩:=h
 exact⟨h0,h1,h2,h3,h4.sl⟩
inductive GTy where
 | mk (op:Int) (n:Int) (s:ByteArray) (kids:List GTy)
def GTy.op:GTy->Int | .mk x _ _ _=>x
def GTy.n:GTy->Int | .mk _ x _ _=>x
def GTy.s:GTy->ByteArray | .mk _ _ x _=>x
def GTy.kids:GTy->List GTy | .mk _ _ _ x=>x
mutual
def GTy.toD:GTy->D | .mk op n s kids=>.agg [.num .i64 op,.num .i64 n,.str s,.sl 4 (GTy.toDs kids)]
def GTy.toDs:List GTy->List D | []=>[] | t::r=>t.toD::GTy.toDs r
end
theorem GTy.toDs_map:∀ l:List GTy,GTy.toDs l=l.map GTy.toD
 | []=>rfl
 | t::r=>by simp only [GTy.toDs,List.map_cons,GTy.toDs_map r]
mutual
def GTy.bulk:GTy->Nat | .mk _ _ s kids=>s.size+GTy.bulks kids
def GTy.bulks:List GTy->Nat | []=>0 | t::r=>1+t.bulk+GTy.bulks r
end
theorem GTy.bulks_eq:∀ l:List GTy,GTy.bulks l=bulkL GTy.bulk l
 | []=>rfl
 | t::r=>by simp only [GTy.bulks,bulkL,GTy.bulks_eq r]
theorem GTy.bulk_eq (t:GTy):t.bulk=t.s.size+bulkL GTy.bulk t.kids:=by
 cases t;simp only [GTy.bulk,GTy.bulks_eq,GTy.op,GTy.n,GTy.s,GTy.kids]
def GTy.At (w:World) (S:Nat->Prop) (A1:Option Addr) (c1:Nat) (t:GTy):Prop:=
 (Lit.int .i64 t.op).wf=true/\(Lit.int .i64 t.n).wf=true/\t.s.size<=maxLen/\Sl w S 4 A1 c1 (t.kids.map GTy.toD)
theorem GTy.rd {w:World} {S:Nat->Prop} {t:GTy} {cs:List Value} (h:t.toD.rd w S cs):∃ A1 c1,cs= [.int .i64 t.op,.int .i64 t.n,.string t.s,.slice A1 t.kids.length c1]/\GTy.At w S A1 c1 t:=by
 cases t with
 | mk op n s kids=>
 simp only [GTy.toD,GTy.toDs_map] at h
 rw [D.rd_agg] at h
 rw [D.rdF_cons] at h
 obtain⟨x0,r0,rfl,k0,h⟩:=h
 obtain⟨rfl,h0⟩:=D.rd_num.1 k0
 rw [D.rdF_cons] at h
 obtain⟨x1,r1,rfl,k1,h⟩:=h
 obtain⟨rfl,h1⟩:=D.rd_num.1 k1
 rw [D.rdF_cons] at h
 obtain⟨x2,r2,rfl,k2,h⟩:=h
 obtain⟨rfl,h2⟩:=D.rd_str.1 k2
 rw [D.rdF_cons] at h
 obtain⟨x3,r3,rfl,k3,h⟩:=h
 obtain⟨A1,c1,rfl,h3⟩:=D.rd_sl.1 k3
 obtain rfl:=D.rdF_nil.1 h
 exact⟨A1,c1,by simp [GTy.op,GTy.n,GTy.s,GTy.kids],h0,h1,h2,h3⟩
theorem GTy.rd_mk {w:World} {S:Nat->Prop} {t:GTy} {A1:Option Addr} {c1:Nat} (h:GTy.At w S A1 c1 t):t.toD.rd w S [.int .i64 t.op,.int .i64 t.n,.string t.s,.slice A1 t.kids.length c1]:=by
 cases t with
 | mk op n s kids=>
 simp only [GTy.toD,GTy.toDs_map]
 unfold GTy.At at h
 obtain⟨h0,h1,h2,h3⟩:=h
 rw [D.rd_agg]
 exact D.rdF_cons.2 ⟨[_],[_,_,_],rfl,D.rd_num.2 ⟨rfl,h0⟩,D.rdF_cons.2 ⟨[_],[_,_],rfl,D.rd_num.2 ⟨rfl,h1⟩,D.rdF_cons.2 ⟨[_],[_],rfl,D.rd_str.2 ⟨rfl,h2⟩,D.rdF_cons.2 ⟨[_],[],rfl,D.rd_sl.2 ⟨A1,c1,by simp [GTy.kids],h3⟩,D.rdF_nil.2 rfl⟩⟩⟩⟩
theorem GTy.elem {w:World} {S:Nat->Prop} {A:Option Addr} {c:Nat} {l:List GTy} (h:Sl w S 4 A c (l.map GTy.toD)) (i:Nat) (hi:i<l.length):
 ∃ b off A1 c1,A=some ⟨b,off,none⟩/\S b/\w.cell? ⟨b,off+i*4,none⟩=some (.int .i64 l[i].op)/\w.cell? ⟨b,off+i*4+1,none⟩=some (.int .i64 l[i].n)/\w.cell? ⟨b,off+i*4+2,none⟩=some (.string l[i].s)/\w.cell? ⟨b,off+i*4+3,none⟩=some (.slice A1 l[i].kids.length c1)/\GTy.At w S A1 c1 l[i]:=by
 obtain⟨b,off,cs,e,hb,hl,hc,hr⟩:=Sl.get h i (by simpa using hi)
 rw [List.getElem_map] at hr
 obtain⟨A1,c1,rfl,h1⟩:=GTy.rd hr
 exact⟨b,off,A1,c1,e,hb,hc 0 _ rfl,hc 1 _ rfl,hc 2 _ rfl,hc 3 _ rfl,h1⟩
theorem GTy.At.keep {w w':World} {S S':Nat->Prop} {t:GTy} {A1:Option Addr} {c1:Nat} (h:GTy.At w S A1 c1 t) (hk:∀ b,S b->S' b/\w'.heap[b]? =w.heap[b]?):GTy.At w' S' A1 c1 t:=by
 unfold GTy.At at h ⊢
 obtain⟨h0,h1,h2,h3⟩:=h
 exact⟨h0,h1,h2,h3.keep hk⟩
theorem GTy.At.below {w w':World} {B B':Nat} {t:GTy} {A1:Option Addr} {c1:Nat} (h:GTy.At w (Lt B) A1 c1 t) (hb:Below B w w') (hB:B<=B'):GTy.At w' (Lt B') A1 c1 t:=
 h.keep (keep_below hb hB)
def GTy.Ow (w:World) (S:Nat->Prop) (A1:Option Addr) (c1:Nat) (t:GTy):Prop:=
 (Lit.int .i64 t.op).wf=true/\(Lit.int .i64 t.n).wf=true/\t.s.size<=maxLen/\Osl w S 4 A1 c1 (t.kids.map GTy.toD)
theorem GTy.own_mk {w:World} {S:Nat->Prop} {t:GTy} {A1:Option Addr} {c1:Nat} (h:GTy.Ow w S A1 c1 t):t.toD.own w S [.int .i64 t.op,.int .i64 t.n,.string t.s,.slice A1 t.kids.length c1]:=by
 cases t with
 | mk op n s kids=>
 simp only [GTy.toD,GTy.toDs_map]
 unfold GTy.Ow at h
 obtain⟨h0,h1,h2,h3⟩:=h
 rw [D.own_agg]
 exact D.ownF_plain (c1:=[_]) (c2:=[_,_,_]) (D.own_num.2 ⟨rfl,h0⟩) (D.ownF_plain (c1:=[_]) (c2:=[_,_]) (D.own_num.2 ⟨rfl,h1⟩) (D.ownF_plain (c1:=[_]) (c2:=[_]) (D.own_str.2 ⟨rfl,h2⟩) (D.ownF_last (D.own_sl.2 ⟨A1,c1,by simp [GTy.kids],h3⟩))))
theorem GTy.Ow.keep {w w':World} {S S':Nat->Prop} {t:GTy} {A1:Option Addr} {c1:Nat} (h:GTy.Ow w S A1 c1 t) (hk:∀ b,S b->S' b/\w'.heap[b]? =w.heap[b]?):GTy.Ow w' S' A1 c1 t:=by
 unfold GTy.Ow at h ⊢
 obtain⟨h0,h1,h2,h3⟩:=h
 exact⟨h0,h1,h2,h3.keep hk⟩
theorem GTy.Ow.at {w:World} {S:Nat->Prop} {t:GTy} {A1:Option Addr} {c1:Nat} (h:GTy.Ow w S A1 c1 t):GTy.At w S A1 c1 t:=by
 unfold GTy.Ow at h
 unfold GTy.At
 obtain⟨h0,h1,h2,h3⟩:=h
 exact⟨h0,h1,h2,h3.sl⟩
structure GCon where
 name:ByteArray
 args:List GTy
def GCon.toD (x:GCon):D:=.agg [.str x.name,.sl 4 (x.args.map GTy.toD)]
def GCon.bulk (x:GCon):Nat:=x.name.size+bulkL GTy.bulk x.args
theorem GCon.bulk_eq (t:GCon):t.bulk=t.name.size+bulkL GTy.bulk t.args:=rfl
def GCon.At (w:World) (S:Nat->Prop) (A1:Option Addr) (c1:Nat) (t:GCon):Prop:=
 t.name.size<=maxLen/\Sl w S 4 A1 c1 (t.args.map GTy.toD)
theorem GCon.rd {w:World} {S:Nat->Prop} {t:GCon} {cs:List Value} (h:t.toD.rd w S cs):∃ A1 c1,cs= [.string t.name,.slice A1 t.args.length c1]/\GCon.At w S A1 c1 t:=by
 unfold GCon.toD at h
 rw [D.rd_agg] at h
 rw [D.rdF_cons] at h
 obtain⟨x0,r0,rfl,k0,h⟩:=h
 obtain⟨rfl,h0⟩:=D.rd_str.1 k0
 rw [D.rdF_cons] at h
 obtain⟨x1,r1,rfl,k1,h⟩:=h
 obtain⟨A1,c1,rfl,h1⟩:=D.rd_sl.1 k1
 obtain rfl:=D.rdF_nil.1 h
 exact⟨A1,c1,by simp [List.length_map],h0,h1⟩
theorem GCon.rd_mk {w:World} {S:Nat->Prop} {t:GCon} {A1:Option Addr} {c1:Nat} (h:GCon.At w S A1 c1 t):t.toD.rd w S [.string t.name,.slice A1 t.args.length c1]:=by
 unfold GCon.toD
 unfold GCon.At at h
 obtain⟨h0,h1⟩:=h
 rw [D.rd_agg]
 exact D.rdF_cons.2 ⟨[_],[_],rfl,D.rd_str.2 ⟨rfl,h0⟩,D.rdF_cons.2 ⟨[_],[],rfl,D.rd_sl.2 ⟨A1,c1,by simp [List.length_map],h1⟩,D.rdF_nil.2 rfl⟩⟩
theorem GCon.elem {w:World} {S:Nat->Prop} {A:Option Addr} {c:Nat} {l:List GCon} (h:Sl w S 2 A c (l.map GCon.toD)) (i:Nat) (hi:i<l.length):
 ∃ b off A1 c1,A=some ⟨b,off,none⟩/\S b/\w.cell? ⟨b,off+i*2,none⟩=some (.string l[i].name)/\w.cell? ⟨b,off+i*2+1,none⟩=some (.slice A1 l[i].args.length c1)/\GCon.At w S A1 c1 l[i]:=by
 obtain⟨b,off,cs,e,hb,hl,hc,hr⟩:=Sl.get h i (by simpa using hi)
 rw [List.getElem_map] at hr
 obtain⟨A1,c1,rfl,h1⟩:=GCon.rd hr
 exact⟨b,off,A1,c1,e,hb,hc 0 _ rfl,hc 1 _ rfl,h1⟩
theorem GCon.At.keep {w w':World} {S S':Nat->Prop} {t:GCon} {A1:Option Addr} {c1:Nat} (h:GCon.At w S A1 c1 t) (hk:∀ b,S b->S' b/\w'.heap[b]? =w.heap[b]?):GCon.At w' S' A1 c1 t:=by
 unfold GCon.At at h ⊢
 obtain⟨h0,h1⟩:=h
 exact⟨h0,h1.keep hk⟩
theorem GCon.At.below {w w':World} {B B':Nat} {t:GCon} {A1:Option Addr} {c1:Nat} (h:GCon.At w (Lt B) A1 c1 t) (hb:Below B w w') (hB:B<=B'):GCon.At w' (Lt B') A1 c1 t:=
 h.keep (keep_below hb hB)
def GCon.Ow (w:World) (S:Nat->Prop) (A1:Option Addr) (c1:Nat) (t:GCon):Prop:=
 t.name.size<=maxLen/\Osl w S 4 A1 c1 (t.args.map GTy.toD)
theorem GCon.own_mk {w:World} {S:Nat->Prop} {t:GCon} {A1:Option Addr} {c1:Nat} (h:GCon.Ow w S A1 c1 t):t.toD.own w S [.string t.name,.slice A1 t.args.length c1]:=by
 unfold GCon.toD
 unfold GCon.Ow at h
 obtain⟨h0,h1⟩:=h
 rw [D.own_agg]
 exact D.ownF_plain (c1:=[_]) (c2:=[_]) (D.own_str.2 ⟨rfl,h0⟩) (D.ownF_last (D.own_sl.2 ⟨A1,c1,by simp [List.length_map],h1⟩))
theorem GCon.Ow.keep {w w':World} {S S':Nat->Prop} {t:GCon} {A1:Option Addr} {c1:Nat} (h:GCon.Ow w S A1 c1 t) (hk:∀ b,S b->S' b/\w'.heap[b]? =w.heap[b]?):GCon.Ow w' S' A1 c1 t:=by
 unfold GCon.Ow at h ⊢
 obtain⟨h0,h1⟩:=h
 exact⟨h0,h1.keep hk⟩
theorem GCon.Ow.at {w:World} {S:Nat->Prop} {t:GCon} {A1:Option Addr} {c1:Nat} (h:GCon.Ow w S A1 c1 t):GCon.At w S A1 c1 t:=by
 unfold GCon.Ow at h
 unfold GCon.At
 obtain⟨h0,h1⟩:=h
 exact⟨h0,h1.sl⟩
structure GData where
 name:ByteArray
 vars:Int
 cons:List GCon
def GData.toD (x:GData):D:=.agg [.str x.name,.num .i64 x.vars,.sl 2 (x.cons.map GCon.toD)]
def GData.bulk (x:GData):Nat:=x.name.size+bulkL GCon.bulk x.cons
theorem GData.bulk_eq (t:GData):t.bulk=t.name.size+bulkL GCon.bulk t.cons:=rfl
def GData.At (w:World) (S:Nat->Prop) (A1:Option Addr) (c1:Nat) (t:GData):Prop:=
 t.name.size<=maxLen/\(Lit.int .i64 t.vars).wf=true/\Sl w S 2 A1 c1 (t.cons.map GCon.toD)
theorem GData.rd {w:World} {S:Nat->Prop} {t:GData} {cs:List Value} (h:t.toD.rd w S cs):∃ A1 c1,cs= [.string t.name,.int .i64 t.vars,.slice A1 t.cons.length c1]/\GData.At w S A1 c1 t:=by
 unfold GData.toD at h
 rw [D.rd_agg] at h
 rw [D.rdF_cons] at h
 obtain⟨x0,r0,rfl,k0,h⟩:=h
 obtain⟨rfl,h0⟩:=D.rd_str.1 k0
 rw [D.rdF_cons] at h
 obtain⟨x1,r1,rfl,k1,h⟩:=h
 obtain⟨rfl,h1⟩:=D.rd_num.1 k1
 rw [D.rdF_cons] at h
 obtain⟨x2,r2,rfl,k2,h⟩:=h
 obtain⟨A1,c1,rfl,h2⟩:=D.rd_sl.1 k2
 obtain rfl:=D.rdF_nil.1 h
 exact⟨A1,c1,by simp [List.length_map],h0,h1,h2⟩
theorem GData.rd_mk {w:World} {S:Nat->Prop} {t:GData} {A1:Option Addr} {c1:Nat} (h:GData.At w S A1 c1 t):t.toD.rd w S [.string t.name,.int .i64 t.vars,.slice A1 t.cons.length c1]:=by
 unfold GData.toD
 unfold GData.At at h
 obtain⟨h0,h1,h2⟩:=h
 rw [D.rd_agg]
 exact D.rdF_cons.2 ⟨[_],[_,_],rfl,D.rd_str.2 ⟨rfl,h0⟩,D.rdF_cons.2 ⟨[_],[_],rfl,D.rd_num.2 ⟨rfl,h1⟩,D.rdF_cons.2 ⟨[_],[],rfl,D.rd_sl.2 ⟨A1,c1,by simp [List.length_map],h2⟩,D.rdF_nil.2 rfl⟩⟩⟩
theorem GData.elem {w:World} {S:Nat->Prop} {A:Option Addr} {c:Nat} {l:List GData} (h:Sl w S 3 A c (l.map GData.toD)) (i:Nat) (hi:i<l.length):
 ∃ b off A1 c1,A=some ⟨b,off,none⟩/\S b/\w.cell? ⟨b,off+i*3,none⟩=some (.string l[i].name)/\w.cell? ⟨b,off+i*3+1,none⟩=some (.int .i64 l[i].vars)/\w.cell? ⟨b,off+i*3+2,none⟩=some (.slice A1 l[i].cons.length c1)/\GData.At w S A1 c1 l[i]:=by
 obtain⟨b,off,cs,e,hb,hl,hc,hr⟩:=Sl.get h i (by simpa using hi)
 rw [List.getElem_map] at hr
 obtain⟨A1,c1,rfl,h1⟩:=GData.rd hr
 exact⟨b,off,A1,c1,e,hb,hc 0 _ rfl,hc 1 _ rfl,hc 2 _ rfl,h1⟩
theorem GData.At.keep {w w':World} {S S':Nat->Prop} {t:GData} {A1:Option Addr} {c1:Nat} (h:GData.At w S A1 c1 t) (hk:∀ b,S b->S' b/\w'.heap[b]? =w.heap[b]?):GData.At w' S' A1 c1 t:=by
 unfold GData.At at h ⊢
 obtain⟨h0,h1,h2⟩:=h
 exact⟨h0,h1,h2.keep hk⟩
theorem GData.At.below {w w':World} {B B':Nat} {t:GData} {A1:Option Addr} {c1:Nat} (h:GData.At w (Lt B) A1 c1 t) (hb:Below B w w') (hB:B<=B'):GData.At w' (Lt B') A1 c1 t:=
 h.keep (keep_below hb hB)
def GData.Ow (w:World) (S:Nat->Prop) (A1:Option Addr) (c1:Nat) (t:GData):Prop:=
 t.name.size<=maxLen/\(Lit.int .i64 t.vars).wf=true/\Osl w S 2 A1 c1 (t.cons.map GCon.toD)
theorem GData.own_mk {w:World} {S:Nat->Prop} {t:GData} {A1:Option Addr} {c1:Nat} (h:GData.Ow w S A1 c1 t):t.toD.own w S [.string t.name,.int .i64 t.vars,.slice A1 t.cons.length c1]:=by
 unfold GData.toD
 unfold GData.Ow at h
 obtain⟨h0,h1,h2⟩:=h
 rw [D.own_agg]
 exact D.ownF_plain (c1:=[_]) (c2:=[_,_]) (D.own_str.2 ⟨rfl,h0⟩) (D.ownF_plain (c1:=[_]) (c2:=[_]) (D.own_num.2 ⟨rfl,h1⟩) (D.ownF_last (D.own_sl.2 ⟨A1,c1,by simp [List.length_map],h2⟩)))
theorem GData.Ow.keep {w w':World} {S S':Nat->Prop} {t:GData} {A1:Option Addr} {c1:Nat} (h:GData.Ow w S A1 c1 t) (hk:∀ b,S b->S' b/\w'.heap[b]? =w.heap[b]?):GData.Ow w' S' A1 c1 t:=by
 unfold GData.Ow at h ⊢
 obtain⟨h0,h1,h2⟩:=h
 exact⟨h0,h1,h2.keep hk⟩
theorem GData.Ow.at {w:World} {S:Nat->Prop} {t:GData} {A1:Option Addr} {c1:Nat} (h:GData.Ow w S A1 c1 t):GData.At w S A1 c1 t:=by
 unfold GData.Ow at h
 unfold GData.At
 obtain⟨h0,h1,h2⟩:=h
 exact⟨h0,h1,h2.sl⟩
theorem tmod10 (n:Int):(0<=n->n.tmod 10=n % 10)/\(n<0->n.tmod 10= - ((-n) % 10)):=by
 constructor
 · intro h;exact Int.tmod_eq_emod_of_nonneg h
 · intro h
   have e:n.tmod 10= -((-n).tmod 10):=by rw [Int.neg_tmod];omega
   rw [e,Int.tmod_eq_emod_of_nonneg (by omega)]
theorem tdiv10 (n:Int):(0<=n->n.tdiv 10=n / 10)/\(n<0->n.tdiv 10= - ((-n) / 10)):=by
 constructor
 · intro h;exact Int.tdiv_eq_ediv_of_nonneg h
 · intro h
   have e:n.tdiv 10= -((-n).tdiv 10):=by rw [Int.neg_tdiv];omega
   rw [e,Int.tdiv_eq_ediv_of_nonneg (by omega)]
def one (x:Int):ByteArray:=⟨#[UInt8.ofNat x.toNat]⟩
def digU (n:Nat):ByteArray:=if h:n<10 then one (48+n) else digU (n / 10)++one (48+(n % 10:Nat))
termination_by n
decreasing_by omega
theorem digU_lt {n:Nat} (h:n<10):digU n=one (48+n):=by rw [digU,dif_pos h]
theorem digU_ge {n:Nat} (h:10<=n):digU n=digU (n / 10)++one (48+(n % 10:Nat)):=by rw [digU,dif_neg (by omega)]
def digI (n:Int):ByteArray:=if n<0 then⟨#[45]⟩++digU (-n).toNat else digU n.toNat
@[go_sem] theorem one_size (x:Int):(one x).size=1:=rfl
theorem digU_size (k:Nat):∀ n:Nat,n<10 ^ (k+1)->(digU n).size<=k+1:=by
 induction k with
 | zero=>intro n h;rw [digU_lt (by omega)];simp [one_size]
 | succ k ih=>
  intro n h
  by_cases h10:n<10
  · rw [digU_lt h10];simp [one_size]
  · rw [digU_ge (by omega),ByteArray.size_append',one_size]
    have:=ih (n / 10) (by rw [Nat.pow_succ] at h;omega)
    omega
theorem digU_size19 (n:Nat) (h:n<=9223372036854775808):(digU n).size<=19:=digU_size 18 n (by omega)
def digR (a:Nat) (s:ByteArray):ByteArray:=if a=0 then s else digU a++s
theorem digR_zero (s:ByteArray):digR 0 s=s:=rfl
theorem digR_start {a:Nat} (h:a≠0):digR a ⟨#[]⟩=digU a:=by
 unfold digR;rw [if_neg h];apply ByteArray.ext;simp [ByteArray.data_append]
theorem ba_assoc (a b c:ByteArray):a++b++c=a++(b++c):=by
 apply ByteArray.ext;simp [ByteArray.data_append]
theorem digR_step {a:Nat} (h:a≠0) (s:ByteArray):digR (a / 10) (one (48+(a % 10:Nat))++s)=digR a s:=by
 unfold digR
 rw [if_neg h]
 by_cases h10:a<10
 · rw [if_pos (by omega),digU_lt h10,Nat.mod_eq_of_lt h10]
 · rw [if_neg (by omega),digU_ge (n:=a) (by omega),ba_assoc]
theorem digR_size (a:Nat) (s:ByteArray):s.size<=(digR a s).size:=by
 unfold digR
 split
 · exact Nat.le_refl _
 · rw [ByteArray.size_append'];omega
theorem run_string_one {P:Program} (w:World) (src dst e:TypeId) (x:Int) (hs:P.underlying src=some (.slice e)) (he:P.underlying e=some (.int .u8)) (hd:P.underlying dst=some .string):
 (convert src dst (.slice (some ⟨w.heap.size,0,none⟩) 1 1)).run P (w.alloc (.cells #[.int .u8 x] e))= .ok (.string (one x)) (w.alloc (.cells #[.int .u8 x] e)):=by
 rw [run_convert_bytes_string _ src dst e (some ⟨w.heap.size,0,none⟩) 1 1 hs he hd]
 have hl:=run_loadCells_list (P:=P) (w.alloc (.cells #[.int .u8 x] e)) ⟨w.heap.size,0,none⟩ [.int .u8 x] (fun j v hj=>by
   match j with
   | 0=>
     have hv:Value.int .u8 x=v:=by simpa using hj
     rw [<- hv]
     show(w.alloc _).cell? ⟨w.heap.size,0+0,none⟩=_
     rw [World.cell?_alloc_at _ _ _ _ rfl];rfl
   | j+1=>simp at hj)
 rw [run_bytesToString _ _ 1 1 [x] (by simpa using hl)]
 rfl
theorem ret_int {k:IntKind} {a b:Int} (h:a=b):Ending.returned (.int k a)= .returned (.int k b):=by rw [h]
theorem ret_str {a b:ByteArray} (h:a=b):Ending.returned (.string a)= .returned (.string b):=by rw [h]
theorem ret_bool {a b:Bool} (h:a=b):Ending.returned (.bool a)= .returned (.bool b):=by rw [h]
def nval (l:List UInt8):Nat:=l.foldl (fun n c=>10*n+(c.toNat - 48)) 0
def isDig (c:UInt8):Bool:=decide (48<=c.toNat/\c.toNat<=57)
theorem nval_snoc (l:List UInt8) (c:UInt8):nval (l++[c])=10*nval l+(c.toNat - 48):=by simp [nval]
theorem nval_lt (n:Nat):∀ l:List UInt8,l.length=n->l.all isDig=true->nval l<10 ^ n:=by
 induction n with
 | zero=>intro l h _;rw [List.eq_nil_of_length_eq_zero h];simp [nval]
 | succ n ih=>
  intro l h hd
  have hne:l≠[]:=by intro e;rw [e] at h;simp at h
  have e:=List.dropLast_concat_getLast hne
  rw [<- e] at hd ⊢
  rw [List.all_append,Bool.and_eq_true] at hd
  have h1:=ih l.dropLast (by simp [h]) hd.1
  have h2:isDig (l.getLast hne)=true:=by simpa using hd.2
  unfold isDig at h2
  have h3:=of_decide_eq_true h2
  rw [nval_snoc,Nat.pow_succ]
  omega
theorem one_dig (c:UInt8) (h:isDig c=true):one (48+((c.toNat - 48:Nat):Int))=⟨#[c]⟩:=by
 have h3:=of_decide_eq_true h
 unfold one
 have e:(48+((c.toNat - 48:Nat):Int)).toNat=c.toNat:=by omega
 rw [e]
 simp
theorem digU_nval (n:Nat):∀ l:List UInt8,l.length=n+1->l.all isDig=true->(l.head?≠some 48\/n=0)->digU (nval l)=⟨l.toArray⟩/\(l.head?≠some 48->0<nval l):=by
 induction n with
 | zero=>
  intro l h hd _
  match l,h with
  | [c],_=>
   have hc:isDig c=true:=by simpa using hd
   have h3:=of_decide_eq_true hc
   have e:nval [c]=c.toNat - 48:=by simp [nval]
   refine⟨?_,fun hh=>?_⟩
   · rw [e,digU_lt (by omega),one_dig c hc]
   · rw [e]
     rcases Nat.lt_or_ge 48 c.toNat with h4 | h4
     · omega
     · have:c.toNat=48:=by omega
       exact absurd (by simp;exact UInt8.toNat_inj.1 this) hh
 | succ n ih=>
  intro l h hd hz
  have hne:l≠[]:=by intro e;rw [e] at h;simp at h
  have e:=List.dropLast_concat_getLast hne
  have hhead:l.dropLast.head? =l.head?:=by
   match l,h with
   | a::b::r,_=>simp [List.dropLast]
  have hz':l.head?≠some 48:=by rcases hz with hz | hz;exact hz;omega
  rw [<- e] at hd
  rw [List.all_append,Bool.and_eq_true] at hd
  obtain⟨h1,h2⟩:=ih l.dropLast (by simp [h]) hd.1 (.inl (by rw [hhead];exact hz'))
  have h2:=h2 (by rw [hhead];exact hz')
  have h4:isDig (l.getLast hne)=true:=by simpa using hd.2
  have h3:=of_decide_eq_true h4
  have ev:nval l=10*nval l.dropLast+((l.getLast hne).toNat - 48):=by rw [<- nval_snoc,e]
  refine⟨?_,fun _=>by omega⟩
  rw [ev,digU_ge (by omega)]
  have e1:(10*nval l.dropLast+((l.getLast hne).toNat - 48)) / 10=nval l.dropLast:=by omega
  have e2:(10*nval l.dropLast+((l.getLast hne).toNat - 48)) % 10=(l.getLast hne).toNat - 48:=by omega
  rw [e1,e2,h1,one_dig _ h4]
  apply ByteArray.ext
  simp only [ByteArray.data_append]
  conv=>rhs;rw [<- e]
  simp
theorem digU_head (k:Nat):∀ n:Nat,n<k->0<n->(digU n).data.toList.head?≠some 48/\(digU n).data.toList≠[]:=by
 induction k with
 | zero=>intro n h;omega
 | succ k ih=>
  intro n h h0
  by_cases h10:n<10
  ·
   rw [digU_lt h10]
   have e:(one (48+(n:Int))).data.toList= [UInt8.ofNat (48+n)]:=by
    unfold one
    have:(48+(n:Int)).toNat=48+n:=by omega
    rw [this]
   rw [e]
   refine⟨fun hh=>?_,by simp⟩
   simp only [List.head?_cons,Option.some.injEq] at hh
   have:=congrArg UInt8.toNat hh
   simp at this
   omega
  ·
   rw [digU_ge (by omega)]
   obtain⟨h1,h2⟩:=ih (n / 10) (by omega) (by omega)
   simp only [ByteArray.data_append,Array.toList_append]
   refine⟨?_,by simp [h2]⟩
   obtain⟨c,r,e⟩:=List.exists_cons_of_ne_nil h2
   rw [e] at h1 ⊢
   simpa using h1
theorem digU_nval_iff (l:List UInt8) (hl:l≠[]) (hd:l.all isDig=true):digU (nval l)=⟨l.toArray⟩ ↔ ¬ (l.head? =some 48/\1<l.length):=by
 have hlen:0<l.length:=List.length_pos_iff.2 hl
 constructor
 ·
  intro h ⟨h1,h2⟩
  have hdata:(digU (nval l)).data.toList=l:=by rw [h]
  rcases Nat.eq_zero_or_pos (nval l) with h0 | h0
  · rw [h0,digU_lt (by omega)] at hdata
    have:(one (48+((0:Nat):Int))).data.toList.length=l.length:=by rw [hdata]
    have e1:(one (48+((0:Nat):Int))).data.toList.length=1:=rfl
    omega
  · have:=(digU_head (nval l+1) (nval l) (by omega) h0).1
    rw [hdata] at this
    exact this h1
 ·
  intro h
  refine(digU_nval (l.length - 1) l (by omega) hd ?_).1
  by_cases h1:l.head? =some 48
  · right
    rcases Nat.lt_or_ge 1 l.length with h2 | h2
    · exact absurd ⟨h1,h2⟩ h
    · omega
  · exact .inl h1
def numOk (l:List UInt8):Bool:=decide (1<=l.length/\l.length<=10)&&(!(l.head? ==some 48&&decide (1<l.length))&&(l.all isDig&&decide (nval l<=1073741823)))
def numI (s:ByteArray):Int × Bool:=if numOk s.data.toList then(((nval s.data.toList:Nat):Int),true) else(0,false)
theorem nval_lt10 (l:List UInt8) (h:l.length<=10) (hd:l.all isDig=true):nval l<10000000000:=by
 have h1:=nval_lt l.length l rfl hd
 have h2:10 ^ l.length<=10 ^ 10:=Nat.pow_le_pow_right (by omega) h
 omega
theorem take_snoc_b (s:ByteArray) (k:Nat) (h:k<s.size):s.data.toList.take (k+1)=s.data.toList.take k++[s[k]]:=by
 rw [List.take_succ_eq_append_getElem (by simpa using h)];rfl
theorem all_take_false {l:List UInt8} {k:Nat} (h:k<l.length) (hd:isDig l[k]=false):l.all isDig=false:=by
 rw [<- Bool.not_eq_true];intro hh
 have:=List.all_eq_true.1 hh _ (List.getElem_mem h)
 rw [hd] at this;cases this
end Go.Proofs.YtgbjdhfaklmjcaaGreat
