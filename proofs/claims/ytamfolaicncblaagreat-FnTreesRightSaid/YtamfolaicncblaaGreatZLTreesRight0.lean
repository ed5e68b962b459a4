/- Texts of the claim LTreesRight in one: Mem Pw. Conditions: none but bounds on sizes. -/
import Derived.WalkKit
namespace Go.Proofs.YtamfolaicncblaaGreat
set_option maxRecDepth 20000
set_option linter.unusedVariables false
set_option linter.unusedSimpArgs false
open Go.RowKit
inductive D where
 | num (k:IntKind) (n:Int)
 | str (s:ByteArray)
 | bool (b:Bool)
 | agg (fs:List D)
 | sl (size:Nat) (xs:List D)
mutual
def D.rd (w:World) (S:Nat->Prop):D->List Value->Prop
 | .num k n,cs=>cs= [.int k n]/\(Lit.int k n).wf=true
 | .str s,cs=>cs= [.string s]/\s.size<=maxLen
 | .bool b,cs=>cs= [.bool b]
 | .agg fs,cs=>D.rdF w S fs cs
 | .sl size xs,cs=>∃ A c,cs= [.slice A xs.length c]/\xs.length<=c/\c<=maxLen/\(xs= []\/∃ b off,A=some ⟨b,off,none⟩/\S b/\D.rdR w S size b xs off)
def D.rdF (w:World) (S:Nat->Prop):List D->List Value->Prop
 | [],cs=>cs= []
 | d::r,cs=>∃ c1 c2,cs=c1++c2/\D.rd w S d c1/\D.rdF w S r c2
def D.rdR (w:World) (S:Nat->Prop) (size b:Nat):List D->Nat->Prop
 | [],_=>True
 | d::r,off=>(∃ cs,cs.length=size/\(∀ j v,cs[j]? =some v->w.cell? ⟨b,off+j,none⟩=some v)/\D.rd w S d cs)/\D.rdR w S size b r (off+size)
end
mutual
def D.own (w:World):D->(Nat->Prop)->List Value->Prop
 | .num k n,_,cs=>cs= [.int k n]/\(Lit.int k n).wf=true
 | .str s,_,cs=>cs= [.string s]/\s.size<=maxLen
 | .bool b,_,cs=>cs= [.bool b]
 | .agg fs,S,cs=>D.ownF w fs S cs
 | .sl size xs,S,cs=>∃ A c,cs= [.slice A xs.length c]/\xs.length<=c/\c<=maxLen/\(xs= []\/∃ b,A=some ⟨b,0,none⟩/\S b/\(∀ o,w.frozen? ⟨b,o,none⟩=false)/\D.ownR w size b xs (fun x=>S x/\x≠b) 0)
def D.ownF (w:World):List D->(Nat->Prop)->List Value->Prop
 | [],_,cs=>cs= []
 | d::r,S,cs=>∃ (S1 S2:Nat->Prop) (c1 c2:List Value),(∀ x,S1 x->S x/\¬ S2 x)/\(∀ x,S2 x->S x)/\cs=c1++c2/\D.own w d S1 c1/\D.ownF w r S2 c2
def D.ownR (w:World) (size b:Nat):List D->(Nat->Prop)->Nat->Prop
 | [],_,_=>True
 | d::r,S,off=>∃ (S1 S2:Nat->Prop) (cs:List Value),(∀ x,S1 x->S x/\¬ S2 x)/\(∀ x,S2 x->S x)/\cs.length=size/\(∀ j v,cs[j]? =some v->w.cell? ⟨b,off+j,none⟩=some v)/\D.own w d S1 cs/\D.ownR w size b r S2 (off+size)
end
mutual
theorem D.rd_keep {w w':World} {S S':Nat->Prop} (h:∀ b,S b->S' b/\w'.heap[b]? =w.heap[b]?):∀ (d:D) (cs:List Value),d.rd w S cs->d.rd w' S' cs
 | .num _ _,_,hd=>by simpa only [D.rd] using hd
 | .str _,_,hd=>by simpa only [D.rd] using hd
 | .bool _,_,hd=>by simpa only [D.rd] using hd
 | .agg fs,cs,hd=>by
  simp only [D.rd] at hd ⊢
  exact D.rdF_keep h fs cs hd
 | .sl size xs,cs,hd=>by
  simp only [D.rd] at hd ⊢
  obtain⟨A,c,h1,h2,h3,h4⟩:=hd
  refine⟨A,c,h1,h2,h3,?_⟩
  rcases h4 with h4 | ⟨b,off,e,hS,hr⟩
  · exact .inl h4
  · exact .inr ⟨b,off,e,(h b hS).1,D.rdR_keep h size b hS xs off hr⟩
theorem D.rdF_keep {w w':World} {S S':Nat->Prop} (h:∀ b,S b->S' b/\w'.heap[b]? =w.heap[b]?):∀ (fs:List D) (cs:List Value),D.rdF w S fs cs->D.rdF w' S' fs cs
 | [],_,hd=>by simpa only [D.rdF] using hd
 | d::r,cs,hd=>by
  simp only [D.rdF] at hd ⊢
  obtain⟨c1,c2,e,h1,h2⟩:=hd
  exact⟨c1,c2,e,D.rd_keep h d c1 h1,D.rdF_keep h r c2 h2⟩
theorem D.rdR_keep {w w':World} {S S':Nat->Prop} (h:∀ b,S b->S' b/\w'.heap[b]? =w.heap[b]?) (size b:Nat) (hb:S b):∀ (xs:List D) (off:Nat),D.rdR w S size b xs off->D.rdR w' S' size b xs off
 | [],_,_=>by simp only [D.rdR]
 | d::r,off,hd=>by
  simp only [D.rdR] at hd ⊢
  obtain⟨⟨cs,h1,h2,h3⟩,h4⟩:=hd
  exact⟨⟨cs,h1,fun j v hj=>(World.cell?_of_block (h b hb).2).trans (h2 j v hj),D.rd_keep h d cs h3⟩,D.rdR_keep h size b hb r (off+size) h4⟩
end
theorem D.rdR_get {w:World} {S:Nat->Prop} {size b:Nat}:∀ {xs:List D} {off:Nat},D.rdR w S size b xs off->∀ (i:Nat) (h:i<xs.length),
 ∃ cs,cs.length=size/\(∀ j v,cs[j]? =some v->w.cell? ⟨b,off+i*size+j,none⟩=some v)/\(xs[i]).rd w S cs
 | [],_,_,i,h=>by simp at h
 | d::r,off,hr,i,h=>by
  simp only [D.rdR] at hr
  match i with
  | 0=>obtain⟨⟨cs,h1,h2,h3⟩,_⟩:=hr;exact⟨cs,h1,by simpa using h2,h3⟩
  | i+1=>
   obtain⟨cs,h1,h2,h3⟩:=D.rdR_get hr.2 i (by simpa using h)
   refine⟨cs,h1,fun j v hj=>?_,by simpa using h3⟩
   rw [<- h2 j v hj]
   congr 2
   rw [Nat.add_mul];omega
theorem D.rdR_mk {w:World} {S:Nat->Prop} {size b:Nat}:∀ {xs:List D} {off:Nat},(∀ (i:Nat) (h:i<xs.length),
    ∃ cs,cs.length=size/\(∀ j v,cs[j]? =some v->w.cell? ⟨b,off+i*size+j,none⟩=some v)/\(xs[i]).rd w S cs)->D.rdR w S size b xs off
 | [],_,_=>by simp only [D.rdR]
 | d::r,off,hr=>by
  simp only [D.rdR]
  refine⟨?_,D.rdR_mk fun i h=>?_⟩
  · obtain⟨cs,h1,h2,h3⟩:=hr 0 (by simp)
    exact⟨cs,h1,by simpa using h2,h3⟩
  · obtain⟨cs,h1,h2,h3⟩:=hr (i+1) (by simpa using h)
    refine⟨cs,h1,fun j v hj=>?_,by simpa using h3⟩
    rw [<- h2 j v hj]
    congr 2
    rw [Nat.add_mul];omega
def Sl (w:World) (S:Nat->Prop) (size:Nat) (A:Option Addr) (c:Nat) (xs:List D):Prop:=
 xs.length<=c/\c<=maxLen/\(xs= []\/∃ b off,A=some ⟨b,off,none⟩/\S b/\D.rdR w S size b xs off)
theorem Sl.keep {w w':World} {S S':Nat->Prop} {size:Nat} {A:Option Addr} {c:Nat} {xs:List D} (hs:Sl w S size A c xs) (h:∀ b,S b->S' b/\w'.heap[b]? =w.heap[b]?):Sl w' S' size A c xs:=by
 obtain⟨h1,h2,h3⟩:=hs
 refine⟨h1,h2,?_⟩
 rcases h3 with h3 | ⟨b,off,e,hS,hr⟩
 · exact .inl h3
 · exact .inr ⟨b,off,e,(h b hS).1,D.rdR_keep h size b hS xs off hr⟩
theorem D.rd_num {w:World} {S:Nat->Prop} {k:IntKind} {n:Int} {cs:List Value}:(D.num k n).rd w S cs ↔ cs= [.int k n]/\(Lit.int k n).wf=true:=by simp only [D.rd]
theorem D.rd_str {w:World} {S:Nat->Prop} {s:ByteArray} {cs:List Value}:(D.str s).rd w S cs ↔ cs= [.string s]/\s.size<=maxLen:=by simp only [D.rd]
theorem D.rd_bool {w:World} {S:Nat->Prop} {b:Bool} {cs:List Value}:(D.bool b).rd w S cs ↔ cs= [.bool b]:=by simp only [D.rd]
theorem D.rd_sl {w:World} {S:Nat->Prop} {size:Nat} {xs:List D} {cs:List Value}:(D.sl size xs).rd w S cs ↔ ∃ A c,cs= [.slice A xs.length c]/\Sl w S size A c xs:=by
 simp only [D.rd,Sl]
theorem D.rd_agg {w:World} {S:Nat->Prop} {fs:List D} {cs:List Value}:(D.agg fs).rd w S cs ↔ D.rdF w S fs cs:=by simp only [D.rd]
theorem D.rdF_nil {w:World} {S:Nat->Prop} {cs:List Value}:D.rdF w S [] cs ↔ cs= []:=by simp only [D.rdF]
theorem D.rdF_cons {w:World} {S:Nat->Prop} {d:D} {r:List D} {cs:List Value}:D.rdF w S (d::r) cs ↔ ∃ c1 c2,cs=c1++c2/\D.rd w S d c1/\D.rdF w S r c2:=by simp only [D.rdF]
theorem Sl.get {w:World} {S:Nat->Prop} {size:Nat} {A:Option Addr} {c:Nat} {xs:List D} (hs:Sl w S size A c xs) (i:Nat) (h:i<xs.length):
 ∃ b off cs,A=some ⟨b,off,none⟩/\S b/\cs.length=size/\(∀ j v,cs[j]? =some v->w.cell? ⟨b,off+i*size+j,none⟩=some v)/\(xs[i]).rd w S cs:=by
 obtain⟨_,_,h3 | ⟨b,off,e,hS,hr⟩⟩:=hs
 · rw [h3] at h;simp at h
 · obtain⟨cs,g1,g2,g3⟩:=D.rdR_get hr i h
   exact⟨b,off,cs,e,hS,g1,g2,g3⟩
theorem Sl.nil {w:World} {S:Nat->Prop} {size:Nat} {A:Option Addr} {c:Nat} (hc:c<=maxLen):Sl w S size A c []:=⟨by simp,hc,.inl rfl⟩
theorem Sl.len {w:World} {S:Nat->Prop} {size:Nat} {A:Option Addr} {c:Nat} {xs:List D} (hs:Sl w S size A c xs):xs.length<=9223372036854775807:=by
 have:=hs.1;have:=hs.2.1;unfold maxLen at*;omega
mutual
theorem D.own_keep {w w':World}:∀ (d:D) (S S':Nat->Prop) (cs:List Value),(∀ b,S b->S' b/\w'.heap[b]? =w.heap[b]?)->d.own w S cs->d.own w' S' cs
 | .num _ _,_,_,_,_,hd=>by simpa only [D.own] using hd
 | .str _,_,_,_,_,hd=>by simpa only [D.own] using hd
 | .bool _,_,_,_,_,hd=>by simpa only [D.own] using hd
 | .agg fs,S,S',cs,h,hd=>by
  simp only [D.own] at hd ⊢
  exact D.ownF_keep fs S S' cs h hd
 | .sl size xs,S,S',cs,h,hd=>by
  simp only [D.own] at hd ⊢
  obtain⟨A,c,h1,h2,h3,h4⟩:=hd
  refine⟨A,c,h1,h2,h3,?_⟩
  rcases h4 with h4 | ⟨b,e,hS,hf,hr⟩
  · exact .inl h4
  · exact .inr ⟨b,e,(h b hS).1,fun o=>(World.frozen?_of_block (h b hS).2).trans (hf o),D.ownR_keep size b xs _ _ 0 (fun x hx=>⟨⟨(h x hx.1).1,hx.2⟩,(h x hx.1).2⟩) (fun j _=>World.cell?_of_block (h b hS).2) hr⟩
theorem D.ownF_keep {w w':World}:∀ (fs:List D) (S S':Nat->Prop) (cs:List Value),(∀ b,S b->S' b/\w'.heap[b]? =w.heap[b]?)->D.ownF w fs S cs->D.ownF w' fs S' cs
 | [],_,_,_,_,hd=>by simpa only [D.ownF] using hd
 | d::r,S,S',cs,h,hd=>by
  simp only [D.ownF] at hd ⊢
  obtain⟨S1,S2,c1,c2,g1,g2,e,h1,h2⟩:=hd
  exact⟨S1,S2,c1,c2,fun x hx=>⟨(h x (g1 x hx).1).1,(g1 x hx).2⟩,fun x hx=>(h x (g2 x hx)).1,e,D.own_keep d S1 S1 c1 (fun b hb=>⟨hb,(h b (g1 b hb).1).2⟩) h1,D.ownF_keep r S2 S2 c2 (fun b hb=>⟨hb,(h b (g2 b hb)).2⟩) h2⟩
theorem D.ownR_keep {w w':World} (size b:Nat):∀ (xs:List D) (S S':Nat->Prop) (off:Nat),(∀ b,S b->S' b/\w'.heap[b]? =w.heap[b]?)->(∀ j,j<off+xs.length*size->w'.cell? ⟨b,j,none⟩=w.cell? ⟨b,j,none⟩)->
 D.ownR w size b xs S off->D.ownR w' size b xs S' off
 | [],_,_,_,_,_,_=>by simp only [D.ownR]
 | d::r,S,S',off,h,hc,hd=>by
  simp only [D.ownR] at hd ⊢
  obtain⟨S1,S2,cs,g1,g2,h1,h2,h3,h4⟩:=hd
  have hlen:(d::r).length*size=r.length*size+size:=by rw [List.length_cons,Nat.add_mul,Nat.one_mul]
  refine⟨S1,S2,cs,fun x hx=>⟨(h x (g1 x hx).1).1,(g1 x hx).2⟩,fun x hx=>(h x (g2 x hx)).1,h1,fun j v hj=>?_,D.own_keep d S1 S1 cs (fun b hb=>⟨hb,(h b (g1 b hb).1).2⟩) h3,
    D.ownR_keep size b r S2 S2 (off+size) (fun b hb=>⟨hb,(h b (g2 b hb)).2⟩) (fun j hj=>hc j (by rw [hlen];omega)) h4⟩
  have hjl:j<cs.length:=(List.getElem?_eq_some_iff.1 hj).1
  rw [hc (off+j) (by rw [hlen];omega)]
  exact h2 j v hj
end
mutual
theorem D.own_rd {w:World}:∀ (d:D) (S:Nat->Prop) (cs:List Value),d.own w S cs->d.rd w S cs
 | .num _ _,_,_,hd=>by simpa only [D.own,D.rd] using hd
 | .str _,_,_,hd=>by simpa only [D.own,D.rd] using hd
 | .bool _,_,_,hd=>by simpa only [D.own,D.rd] using hd
 | .agg fs,S,cs,hd=>by
  simp only [D.own,D.rd] at hd ⊢
  exact D.ownF_rd fs S cs hd
 | .sl size xs,S,cs,hd=>by
  simp only [D.own,D.rd] at hd ⊢
  obtain⟨A,c,h1,h2,h3,h4⟩:=hd
  refine⟨A,c,h1,h2,h3,?_⟩
  rcases h4 with h4 | ⟨b,e,hS,hf,hr⟩
  · exact .inl h4
  · exact .inr ⟨b,0,e,hS,D.rdR_keep (S:=fun x=>S x) (fun x hx=>⟨hx,rfl⟩) size b hS xs 0 (D.ownR_rd size b xs _ S 0 (fun x hx=>hx.1) hr)⟩
theorem D.ownF_rd {w:World}:∀ (fs:List D) (S:Nat->Prop) (cs:List Value),D.ownF w fs S cs->D.rdF w S fs cs
 | [],_,_,hd=>by simpa only [D.ownF,D.rdF] using hd
 | d::r,S,cs,hd=>by
  simp only [D.ownF,D.rdF] at hd ⊢
  obtain⟨S1,S2,c1,c2,g1,g2,e,h1,h2⟩:=hd
  exact⟨c1,c2,e,D.rd_keep (fun b hb=>⟨(g1 b hb).1,rfl⟩) d c1 (D.own_rd d S1 c1 h1),D.rdF_keep (fun b hb=>⟨g2 b hb,rfl⟩) r c2 (D.ownF_rd r S2 c2 h2)⟩
theorem D.ownR_rd {w:World} (size b:Nat):∀ (xs:List D) (S T:Nat->Prop) (off:Nat),(∀ x,S x->T x)->D.ownR w size b xs S off->D.rdR w T size b xs off
 | [],_,_,_,_,_=>by simp only [D.rdR]
 | d::r,S,T,off,hT,hd=>by
  simp only [D.ownR,D.rdR] at hd ⊢
  obtain⟨S1,S2,cs,g1,g2,h1,h2,h3,h4⟩:=hd
  exact⟨⟨cs,h1,h2,D.rd_keep (fun b hb=>⟨hT b (g1 b hb).1,rfl⟩) d cs (D.own_rd d S1 cs h3)⟩,D.ownR_rd size b r S2 T (off+size) (fun x hx=>hT x (g2 x hx)) h4⟩
end
def Osl (w:World) (S:Nat->Prop) (size:Nat) (A:Option Addr) (c:Nat) (xs:List D):Prop:=
 xs.length<=c/\c<=maxLen/\(xs= []\/∃ b,A=some ⟨b,0,none⟩/\S b/\(∀ o,w.frozen? ⟨b,o,none⟩=false)/\D.ownR w size b xs (fun x=>S x/\x≠b) 0)
theorem D.own_num {w:World} {S:Nat->Prop} {k:IntKind} {n:Int} {cs:List Value}:(D.num k n).own w S cs ↔ cs= [.int k n]/\(Lit.int k n).wf=true:=by simp only [D.own]
theorem D.own_str {w:World} {S:Nat->Prop} {s:ByteArray} {cs:List Value}:(D.str s).own w S cs ↔ cs= [.string s]/\s.size<=maxLen:=by simp only [D.own]
theorem D.own_sl {w:World} {S:Nat->Prop} {size:Nat} {xs:List D} {cs:List Value}:(D.sl size xs).own w S cs ↔ ∃ A c,cs= [.slice A xs.length c]/\Osl w S size A c xs:=by
 simp only [D.own,Osl]
theorem D.own_agg {w:World} {S:Nat->Prop} {fs:List D} {cs:List Value}:(D.agg fs).own w S cs ↔ D.ownF w fs S cs:=by simp only [D.own]
theorem D.ownF_plain {w:World} {S:Nat->Prop} {d:D} {r:List D} {c1 c2:List Value} (h:d.own w (fun _=>False) c1) (h2:D.ownF w r S c2):D.ownF w (d::r) S (c1++c2):=by
 simp only [D.ownF]
 exact⟨fun _=>False,S,c1,c2,fun x hx=>hx.elim,fun x hx=>hx,rfl,h,h2⟩
theorem D.ownF_cons {w:World} {S S1 S2:Nat->Prop} {d:D} {r:List D} {c1 c2:List Value} (g1:∀ x,S1 x->S x/\¬ S2 x) (g2:∀ x,S2 x->S x) (h:d.own w S1 c1) (h2:D.ownF w r S2 c2):D.ownF w (d::r) S (c1++c2):=by
 simp only [D.ownF]
 exact⟨S1,S2,c1,c2,g1,g2,rfl,h,h2⟩
theorem D.ownF_last {w:World} {S:Nat->Prop} {d:D} {c1:List Value} (h:d.own w S c1):D.ownF w [d] S c1:=by
 simp only [D.ownF]
 exact⟨S,fun _=>False,c1,[],fun x hx=>⟨hx,fun h=>h⟩,fun x hx=>hx.elim,by simp,h,rfl⟩
theorem Osl.keep {w w':World} {S S':Nat->Prop} {size:Nat} {A:Option Addr} {c:Nat} {xs:List D} (hs:Osl w S size A c xs) (h:∀ b,S b->S' b/\w'.heap[b]? =w.heap[b]?):Osl w' S' size A c xs:=by
 obtain⟨h1,h2,h3⟩:=hs
 refine⟨h1,h2,?_⟩
 rcases h3 with h3 | ⟨b,e,hS,hf,hr⟩
 · exact .inl h3
 · exact .inr ⟨b,e,(h b hS).1,fun o=>(World.frozen?_of_block (h b hS).2).trans (hf o),D.ownR_keep size b xs _ _ 0 (fun x hx=>⟨⟨(h x hx.1).1,hx.2⟩,(h x hx.1).2⟩) (fun j _=>World.cell?_of_block (h b hS).2) hr⟩
theorem Osl.sl {w:World} {S:Nat->Prop} {size:Nat} {A:Option Addr} {c:Nat} {xs:List D} (hs:Osl w S size A c xs):Sl w S size A c xs:=by
 obtain⟨h1,h2,h3⟩:=hs
 refine⟨h1,h2,?_⟩
 rcases h3 with h3 | ⟨b,e,hS,hf,hr⟩
 · exact .inl h3
 · exact .inr ⟨b,0,e,hS,D.ownR_rd size b xs _ S 0 (fun x hx=>hx.1) hr⟩
theorem Osl.nil {w:World} {S:Nat->Prop} {size:Nat} {A:Option Addr} {c:Nat} (hc:c<=maxLen):Osl w S size A c []:=⟨by simp,hc,.inl rfl⟩
def Lt (B:Nat):Nat->Prop:=fun b=>b<B
def Btw (B B':Nat):Nat->Prop:=fun b=>B<=b/\b<B'
theorem keep_below {w w':World} {B B':Nat} (h:Below B w w') (hB:B<=B'):∀ b,Lt B b->Lt B' b/\w'.heap[b]? =w.heap[b]?:=
 fun b hb=>⟨Nat.lt_of_lt_of_le hb hB,h.block b hb⟩
theorem Sl.below {w w':World} {B B':Nat} {size:Nat} {A:Option Addr} {c:Nat} {xs:List D} (hs:Sl w (Lt B) size A c xs) (h:Below B w w') (hB:B<=B'):Sl w' (Lt B') size A c xs:=
 hs.keep (keep_below h hB)
def Row (w:World) (g:Nat) (t:TypeId) (cs:Array Value):Prop:=w.heap[g]? =some (.cells cs t (0,0))
theorem Row.cell {w:World} {g:Nat} {t:TypeId} {cs:Array Value} (h:Row w g t cs) (i:Nat):w.cell? ⟨g,i,none⟩=cs[i]?:=cell_of_row w g i cs t (0,0) h
theorem Row.frozen {w:World} {g:Nat} {t:TypeId} {cs:Array Value} (h:Row w g t cs) (i:Nat):w.frozen? ⟨g,i,none⟩=false:=by
 unfold Row at h
 simp [World.frozen?,h]
theorem Row.new (w:World) (t:TypeId) (cs:Array Value):Row (w.alloc (.cells cs t)) w.heap.size t cs:=heap_alloc_new w _
theorem Row.new' (w:World) (t:TypeId) (cs:Array Value) {g:Nat} (hg:g=w.heap.size):Row (w.alloc (.cells cs t)) g t cs:=by subst hg;exact Row.new w t cs
theorem Row.lt {w:World} {g:Nat} {t:TypeId} {cs:Array Value} (h:Row w g t cs):g<w.heap.size:=by
 rcases Nat.lt_or_ge g w.heap.size with hlt | hge
 · exact hlt
 · unfold Row at h;rw [Array.getElem?_eq_none hge] at h;cases h
theorem Row.set {w:World} {g:Nat} {t:TypeId} {cs:Array Value} (h:Row w g t cs) (i:Nat) (u:Value):Row (w.setCell ⟨g,i,none⟩ u) g t (cs.setIfInBounds i u):=by
 unfold Row at h ⊢
 simp [World.setCell,Array.getElem?_modify,h]
theorem Row.alloc {w:World} {g:Nat} {t:TypeId} {cs:Array Value} (h:Row w g t cs) (o:Obj):Row (w.alloc o) g t cs:=(Below.heap_alloc w o g h.lt).trans h
theorem Row.far {w:World} {g:Nat} {t:TypeId} {cs:Array Value} (h:Row w g t cs) {p:Addr} (hp:g≠p.block) (u:Value):Row (w.setCell p u) g t cs:=(Below.heap_setCell w p u g hp).trans h
theorem Row.below {B:Nat} {w w':World} {g:Nat} {t:TypeId} {cs:Array Value} (h:Row w g t cs) (hb:Below B w w') (hg:g<B):Row w' g t cs:=(hb.block g hg).trans h
def setCells (w:World) (g k:Nat):List Value->World
 | []=>w
 | v::r=>setCells (w.setCell ⟨g,k,none⟩ v) g (k+1) r
theorem setCells_size (w:World) (g k:Nat) (vs:List Value):(setCells w g k vs).heap.size=w.heap.size:=by
 induction vs generalizing w k with
 | nil=>rfl
 | cons v r ih=>simp only [setCells];rw [ih];simp [World.setCell]
theorem setCells_block (w:World) (g k:Nat) (vs:List Value) (b:Nat) (hb:b≠g):(setCells w g k vs).heap[b]? =w.heap[b]?:=by
 induction vs generalizing w k with
 | nil=>rfl
 | cons v r ih=>simp only [setCells];rw [ih];exact Below.heap_setCell w ⟨g,k,none⟩ v b hb
theorem setCells_below {B:Nat} {a w:World} (h:Below B a w) (g k:Nat) (hg:B<=g) (vs:List Value):Below B a (setCells w g k vs):=by
 induction vs generalizing w k with
 | nil=>exact h
 | cons v r ih=>simp only [setCells];exact ih (h.setCell hg v) (k+1)
theorem setCells_row {w:World} {g:Nat} {t:TypeId} {row:Array Value} (h:Row w g t row) (k:Nat) (vs:List Value):
 ∃ row',Row (setCells w g k vs) g t row'/\row'.size=row.size/\(∀ i,i<k\/k+vs.length<=i->row'[i]? =row[i]?)/\(∀ i v,vs[i]? =some v->k+i<row.size->row'[k+i]? =some v):=by
 induction vs generalizing w k row with
 | nil=>exact⟨row,h,rfl,fun _ _=>rfl,fun i v hv=>by simp at hv⟩
 | cons v r ih=>
  obtain⟨row',h1,h2,h3,h4⟩:=ih (h.set k v) (k+1)
  refine⟨row',h1,by rw [h2];simp,fun i hi=>?_,fun i u hu hl=>?_⟩
  · rw [h3 i (by simp only [List.length_cons] at hi;omega)]
    rw [Array.getElem?_setIfInBounds]
    simp only [List.length_cons] at hi
    rw [if_neg (by omega)]
  ·
   match i with
   | 0=>
    have hv:v=u:=by simpa using hu
    subst hv
    rw [h3 (k+0) (by omega)]
    rw [Array.getElem?_setIfInBounds]
    have hk:k<row.size:=by omega
    simp [hk]
   | i+1=>
    have:=h4 i u (by simpa using hu) (by simp;omega)
    rwa [show k+1+i=k+(i+1) from by omega] at this
theorem take_snoc' {α:Type} (l:List α) (j:Nat) (h:j<l.length):l.take (j+1)=l.take j++[l[j]]:=by
 rw [List.take_succ_eq_append_getElem h]
theorem enters {P : Program} {K : FuncId} {fn : Func} (h : P.funcs[K]? = some fn) (h1 : (fn.name == "runtime.NumGoroutine") = false) (h2 : fn.body.isNone = false) (args : Array Value) (w : World) :
 (callFunc K args).run P w= .ok (.enter K args) w:=by
 have e1 : ¬ fn.name = "runtime.NumGoroutine" := by simpa using h1
 have e2:¬ fn.body=none:=by intro e;rw [e] at h2;cases h2
 simp [callFunc,h,e1,e2]
def bulkL {α:Type} (f:α->Nat):List α->Nat
 | []=>0
 | t::r=>1+f t+bulkL f r
theorem bulkL_take_le {α:Type} (f:α->Nat) (l:List α) (i:Nat) (h:i<=l.length):bulkL f (l.take i)+(l.length - i)<=bulkL f l:=by
 induction l generalizing i with
 | nil=>simp [bulkL]
 | cons t r ih=>
  match i with
  | 0=>simp only [List.take_zero,bulkL,List.length_cons];have:=ih 0 (by omega);simp only [List.take_zero,bulkL] at this;omega
  | i+1=>simp only [List.take_succ_cons,bulkL,List.length_cons];have:=ih i (by simpa using h);omega
theorem bulkL_take_ge {α:Type} (f:α->Nat) (l:List α) (i:Nat) (h:i<=l.length):i<=bulkL f (l.take i):=by
 induction l generalizing i with
 | nil=>simp at h;simp [h]
 | cons t r ih=>
  match i with
  | 0=>simp
  | i+1=>simp only [List.take_succ_cons,bulkL];have:=ih i (by simpa using h);omega
theorem bulkL_mem {α:Type} (f:α->Nat) (l:List α) (t:α) (h:t∈l):f t+1<=bulkL f l:=by
 induction l with
 | nil=>cases h
 | cons x r ih=>
  simp only [bulkL]
  cases h with
  | head=>omega
  | tail _ h=>have:=ih h;omega
theorem bulkL_len {α:Type} (f:α->Nat) (l:List α):l.length<=bulkL f l:=by
 have:=bulkL_take_ge f l l.length (Nat.le_refl _);rwa [List.take_length] at this
theorem tmod31 (n:Int):(0<=n->n.tmod 2147483648=n % 2147483648)/\(n<0->n.tmod 2147483648= - ((-n) % 2147483648)):=by
 constructor
 · intro h;exact Int.tmod_eq_emod_of_nonneg h
 · intro h
   have e:n.tmod 2147483648= -((-n).tmod 2147483648):=by rw [Int.neg_tmod];omega
   rw [e,Int.tmod_eq_emod_of_nonneg (by omega)]
theorem tmod10 (n:Int):(0<=n->n.tmod 10=n % 10)/\(n<0->n.tmod 10= - ((-n) % 10)):=by
 constructor
 · intro h;exact Int.tmod_eq_emod_of_nonneg h
 · intro h
   have e:n.tmod 10= -((-n).tmod 10):=by rw [Int.neg_tmod];omega
   rw [e,Int.tmod_eq_emod_of_nonneg (by omega)]
theorem tdiv10 (n:Int):(0<=n->n.tdiv 10=n / 10)/\(n<0->n.tdiv 10= - ((-n) / 10)):=by
 constructor
 · intro h;exact Int.tdiv_eq_ediv_of_nonneg h
 · intro h
   have e:n.tdiv 10= -((-n).tdiv 10):=by rw [Int.neg_tdiv];omega
   rw [e,Int.tdiv_eq_ediv_of_nonneg (by omega)]
def one (x:Int):ByteArray:=⟨#[UInt8.ofNat x.toNat]⟩
def digU (n:Nat):ByteArray:=if h:n<10 then one (48+n) else digU (n / 10)++one (48+(n % 10:Nat))
termination_by n
decreasing_by omega
theorem digU_lt {n:Nat} (h:n<10):digU n=one (48+n):=by rw [digU,dif_pos h]
theorem digU_ge {n:Nat} (h:10<=n):digU n=digU (n / 10)++one (48+(n % 10:Nat)):=by rw [digU,dif_neg (by omega)]
def digI (n:Int):ByteArray:=if n<0 then⟨#[45]⟩++digU (-n).toNat else digU n.toNat
@[go_sem] theorem one_size (x:Int):(one x).size=1:=rfl
theorem digU_size (k:Nat):∀ n:Nat,n<10 ^ (k+1)->(digU n).size<=k+1:=by
 induction k with
 | zero=>intro n h;rw [digU_lt (by omega)];simp [one_size]
 | succ k ih=>
  intro n h
  by_cases h10:n<10
  · rw [digU_lt h10];simp [one_size]
  · rw [digU_ge (by omega),ByteArray.size_append',one_size]
    have:=ih (n / 10) (by rw [Nat.pow_succ] at h;omega)
    omega
theorem digU_size19 (n:Nat) (h:n<=9223372036854775808):(digU n).size<=19:=digU_size 18 n (by omega)
def digR (a:Nat) (s:ByteArray):ByteArray:=if a=0 then s else digU a++s
theorem digR_zero (s:ByteArray):digR 0 s=s:=rfl
theorem digR_start {a:Nat} (h:a≠0):digR a ⟨#[]⟩=digU a:=by
 unfold digR;rw [if_neg h];apply ByteArray.ext;simp [ByteArray.data_append]
theorem ba_assoc (a b c:ByteArray):a++b++c=a++(b++c):=by
 apply ByteArray.ext;simp [ByteArray.data_append]
theorem digR_step {a:Nat} (h:a≠0) (s:ByteArray):digR (a / 10) (one (48+(a % 10:Nat))++s)=digR a s:=by
 unfold digR
 rw [if_neg h]
 by_cases h10:a<10
 · rw [if_pos (by omega),digU_lt h10,Nat.mod_eq_of_lt h10]
 · rw [if_neg (by omega),digU_ge (n:=a) (by omega),ba_assoc]
theorem digR_size (a:Nat) (s:ByteArray):s.size<=(digR a s).size:=by
 unfold digR
 split
 · exact Nat.le_refl _
 · rw [ByteArray.size_append'];omega
theorem encode_one {r:Int} (h0:0<=r) (h1:r<128):Utf8.encode r=one r:=by
 have hv:Utf8.valid r=true:=by simp [Utf8.valid];omega
 unfold Utf8.encode one
 simp only [hv,if_true]
 rw [if_pos (by omega)]
theorem run_string_one {P:Program} (w:World) (src dst e:TypeId) (x:Int) (hs:P.underlying src=some (.slice e)) (he:P.underlying e=some (.int .u8)) (hd:P.underlying dst=some .string):
 (convert src dst (.slice (some ⟨w.heap.size,0,none⟩) 1 1)).run P (w.alloc (.cells #[.int .u8 x] e))= .ok (.string (one x)) (w.alloc (.cells #[.int .u8 x] e)):=by
 rw [run_convert_bytes_string _ src dst e (some ⟨w.heap.size,0,none⟩) 1 1 hs he hd]
 have hl:=run_loadCells_list (P:=P) (w.alloc (.cells #[.int .u8 x] e)) ⟨w.heap.size,0,none⟩ [.int .u8 x] (fun j v hj=>by
   match j with
   | 0=>
     have hv:Value.int .u8 x=v:=by simpa using hj
     rw [<- hv]
     show(w.alloc _).cell? ⟨w.heap.size,0+0,none⟩=_
     rw [World.cell?_alloc_at _ _ _ _ rfl];rfl
   | j+1=>simp at hj)
 rw [run_bytesToString _ _ 1 1 [x] (by simpa using hl)]
 rfl
theorem ret_int {k:IntKind} {a b:Int} (h:a=b):Ending.returned (.int k a)= .returned (.int k b):=by rw [h]
theorem ret_str {a b:ByteArray} (h:a=b):Ending.returned (.string a)= .returned (.string b):=by rw [h]
theorem ret_bool {a b:Bool} (h:a=b):Ending.returned (.bool a)= .returned (.bool b):=by rw [h]
theorem wf64 {a:Int} (h:(Lit.int .i64 a).wf=true): -9223372036854775808<=a/\a<=9223372036854775807:=by
 simpa [Lit.wf,IntKind.min,IntKind.max,IntKind.signed,IntKind.bits] using h
end Go.Proofs.YtamfolaicncblaaGreat
