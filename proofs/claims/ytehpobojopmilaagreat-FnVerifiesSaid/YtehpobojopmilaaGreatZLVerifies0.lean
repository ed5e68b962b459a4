/- Texts of the claim LVerifies in one: Mem GTy GTyped EvJ EvJ2 EvJ3 Bx EwO GOp GFun EvF EvF2 EvLV. Conditions: none but bounds on sizes. -/
import Derived.WalkKit
import Derived.Test.YtehpobojopmilaaGreatZE6
import Derived.Deep.AppendSrc
import Derived.Laws.AppendOwn
namespace Go.Proofs.YtehpobojopmilaaGreat
set_option maxRecDepth 20000
set_option linter.unusedVariables false
set_option linter.unusedSimpArgs false
open Go.RowKit
inductive D where
 | num (k : IntKind) (n : Int)
 | str (s : ByteArray)
 | bool (b : Bool)
 | agg (fs : List D)
 | sl (size : Nat) (xs : List D)
mutual
def D.rd (w : World) (S : Nat → Prop) : D → List Value → Prop
 | .num k n, cs => cs = [.int k n] ∧ (Lit.int k n).wf = true
 | .str s, cs => cs = [.string s] ∧ s.size ≤ maxLen
 | .bool b, cs => cs = [.bool b]
 | .agg fs, cs => D.rdF w S fs cs
 | .sl size xs, cs => ∃ A c, cs = [.slice A xs.length c] ∧ xs.length ≤ c ∧ c ≤ maxLen ∧ (xs = [] ∨ ∃ b off, A = some ⟨b, off, none⟩ ∧ S b ∧ D.rdR w S size b xs off)
def D.rdF (w : World) (S : Nat → Prop) : List D → List Value → Prop
 | [], cs => cs = []
 | d :: r, cs => ∃ c1 c2, cs = c1 ++ c2 ∧ D.rd w S d c1 ∧ D.rdF w S r c2
def D.rdR (w : World) (S : Nat → Prop) (size b : Nat) : List D → Nat → Prop
 | [], _ => True
 | d :: r, off => (∃ cs, cs.length = size ∧ (∀ j v, cs[j]? = some v → w.cell? ⟨b, off + j, none⟩ = some v) ∧ D.rd w S d cs) ∧ D.rdR w S size b r (off + size)
end
mutual
def D.own (w : World) : D → (Nat → Prop) → List Value → Prop
 | .num k n, _, cs => cs = [.int k n] ∧ (Lit.int k n).wf = true
 | .str s, _, cs => cs = [.string s] ∧ s.size ≤ maxLen
 | .bool b, _, cs => cs = [.bool b]
 | .agg fs, S, cs => D.ownF w fs S cs
 | .sl size xs, S, cs => ∃ A c, cs = [.slice A xs.length c] ∧ xs.length ≤ c ∧ c ≤ maxLen ∧ (xs = [] ∨ ∃ b, A = some ⟨b, 0, none⟩ ∧ S b ∧ (∀ o, w.frozen? ⟨b, o, none⟩ = false) ∧ D.ownR w size b xs (fun x => S x ∧ x ≠ b) 0)
def D.ownF (w : World) : List D → (Nat → Prop) → List Value → Prop
 | [], _, cs => cs = []
 | d :: r, S, cs => ∃ (S1 S2 : Nat → Prop) (c1 c2 : List Value), (∀ x, S1 x → S x ∧ ¬ S2 x) ∧ (∀ x, S2 x → S x) ∧ cs = c1 ++ c2 ∧ D.own w d S1 c1 ∧ D.ownF w r S2 c2
def D.ownR (w : World) (size b : Nat) : List D → (Nat → Prop) → Nat → Prop
 | [], _, _ => True
 | d :: r, S, off => ∃ (S1 S2 : Nat → Prop) (cs : List Value), (∀ x, S1 x → S x ∧ ¬ S2 x) ∧ (∀ x, S2 x → S x) ∧ cs.length = size ∧ (∀ j v, cs[j]? = some v → w.cell? ⟨b, off + j, none⟩ = some v) ∧ D.own w d S1 cs ∧ D.ownR w size b r S2 (off + size)
end
mutual
theorem D.rd_keep {w w' : World} {S S' : Nat → Prop} (h : ∀ b, S b → S' b ∧ w'.heap[b]? = w.heap[b]?) : ∀ (d : D) (cs : List Value), d.rd w S cs → d.rd w' S' cs
 | .num _ _, _, hd => by simpa only [D.rd] using hd
 | .str _, _, hd => by simpa only [D.rd] using hd
 | .bool _, _, hd => by simpa only [D.rd] using hd
 | .agg fs, cs, hd => by
  simp only [D.rd] at hd ⊢
  exact D.rdF_keep h fs cs hd
 | .sl size xs, cs, hd => by
  simp only [D.rd] at hd ⊢
  obtain ⟨A, c, h1, h2, h3, h4⟩ := hd
  refine ⟨A, c, h1, h2, h3, ?_⟩
  rcases h4 with h4 | ⟨b, off, e, hS, hr⟩
  · exact .inl h4
  · exact .inr ⟨b, off, e, (h b hS).1, D.rdR_keep h size b hS xs off hr⟩
theorem D.rdF_keep {w w' : World} {S S' : Nat → Prop} (h : ∀ b, S b → S' b ∧ w'.heap[b]? = w.heap[b]?) : ∀ (fs : List D) (cs : List Value), D.rdF w S fs cs → D.rdF w' S' fs cs
 | [], _, hd => by simpa only [D.rdF] using hd
 | d :: r, cs, hd => by
  simp only [D.rdF] at hd ⊢
  obtain ⟨c1, c2, e, h1, h2⟩ := hd
  exact ⟨c1, c2, e, D.rd_keep h d c1 h1, D.rdF_keep h r c2 h2⟩
theorem D.rdR_keep {w w' : World} {S S' : Nat → Prop} (h : ∀ b, S b → S' b ∧ w'.heap[b]? = w.heap[b]?) (size b : Nat) (hb : S b) : ∀ (xs : List D) (off : Nat), D.rdR w S size b xs off → D.rdR w' S' size b xs off
 | [], _, _ => by simp only [D.rdR]
 | d :: r, off, hd => by
  simp only [D.rdR] at hd ⊢
  obtain ⟨⟨cs, h1, h2, h3⟩, h4⟩ := hd
  exact ⟨⟨cs, h1, fun j v hj => (World.cell?_of_block (h b hb).2).trans (h2 j v hj), D.rd_keep h d cs h3⟩, D.rdR_keep h size b hb r (off + size) h4⟩
end
theorem D.rdR_get {w : World} {S : Nat → Prop} {size b : Nat} : ∀ {xs : List D} {off : Nat}, D.rdR w S size b xs off → ∀ (i : Nat) (h : i < xs.length),
 ∃ cs, cs.length = size ∧ (∀ j v, cs[j]? = some v → w.cell? ⟨b, off + i * size + j, none⟩ = some v) ∧ (xs[i]).rd w S cs
 | [], _, _, i, h => by simp at h
 | d :: r, off, hr, i, h => by
  simp only [D.rdR] at hr
  match i with
  | 0 => obtain ⟨⟨cs, h1, h2, h3⟩, _⟩ := hr; exact ⟨cs, h1, by simpa using h2, h3⟩
  | i + 1 =>
   obtain ⟨cs, h1, h2, h3⟩ := D.rdR_get hr.2 i (by simpa using h)
   refine ⟨cs, h1, fun j v hj => ?_, by simpa using h3⟩
   rw [← h2 j v hj]
   congr 2
   rw [Nat.add_mul]; omega
theorem D.rdR_mk {w : World} {S : Nat → Prop} {size b : Nat} : ∀ {xs : List D} {off : Nat}, (∀ (i : Nat) (h : i < xs.length),
    ∃ cs, cs.length = size ∧ (∀ j v, cs[j]? = some v → w.cell? ⟨b, off + i * size + j, none⟩ = some v) ∧ (xs[i]).rd w S cs) → D.rdR w S size b xs off
 | [], _, _ => by simp only [D.rdR]
 | d :: r, off, hr => by
  simp only [D.rdR]
  refine ⟨?_, D.rdR_mk fun i h => ?_⟩
  · obtain ⟨cs, h1, h2, h3⟩ := hr 0 (by simp)
    exact ⟨cs, h1, by simpa using h2, h3⟩
  · obtain ⟨cs, h1, h2, h3⟩ := hr (i + 1) (by simpa using h)
    refine ⟨cs, h1, fun j v hj => ?_, by simpa using h3⟩
    rw [← h2 j v hj]
    congr 2
    rw [Nat.add_mul]; omega
def Sl (w : World) (S : Nat → Prop) (size : Nat) (A : Option Addr) (c : Nat) (xs : List D) : Prop :=
 xs.length ≤ c ∧ c ≤ maxLen ∧ (xs = [] ∨ ∃ b off, A = some ⟨b, off, none⟩ ∧ S b ∧ D.rdR w S size b xs off)
theorem Sl.keep {w w' : World} {S S' : Nat → Prop} {size : Nat} {A : Option Addr} {c : Nat} {xs : List D} (hs : Sl w S size A c xs) (h : ∀ b, S b → S' b ∧ w'.heap[b]? = w.heap[b]?) : Sl w' S' size A c xs := by
 obtain ⟨h1, h2, h3⟩ := hs
 refine ⟨h1, h2, ?_⟩
 rcases h3 with h3 | ⟨b, off, e, hS, hr⟩
 · exact .inl h3
 · exact .inr ⟨b, off, e, (h b hS).1, D.rdR_keep h size b hS xs off hr⟩
theorem D.rd_num {w : World} {S : Nat → Prop} {k : IntKind} {n : Int} {cs : List Value} : (D.num k n).rd w S cs ↔ cs = [.int k n] ∧ (Lit.int k n).wf = true := by simp only [D.rd]
theorem D.rd_str {w : World} {S : Nat → Prop} {s : ByteArray} {cs : List Value} : (D.str s).rd w S cs ↔ cs = [.string s] ∧ s.size ≤ maxLen := by simp only [D.rd]
theorem D.rd_bool {w : World} {S : Nat → Prop} {b : Bool} {cs : List Value} : (D.bool b).rd w S cs ↔ cs = [.bool b] := by simp only [D.rd]
theorem D.rd_sl {w : World} {S : Nat → Prop} {size : Nat} {xs : List D} {cs : List Value} : (D.sl size xs).rd w S cs ↔ ∃ A c, cs = [.slice A xs.length c] ∧ Sl w S size A c xs := by
 simp only [D.rd, Sl]
theorem D.rd_agg {w : World} {S : Nat → Prop} {fs : List D} {cs : List Value} : (D.agg fs).rd w S cs ↔ D.rdF w S fs cs := by simp only [D.rd]
theorem D.rdF_nil {w : World} {S : Nat → Prop} {cs : List Value} : D.rdF w S [] cs ↔ cs = [] := by simp only [D.rdF]
theorem D.rdF_cons {w : World} {S : Nat → Prop} {d : D} {r : List D} {cs : List Value} : D.rdF w S (d :: r) cs ↔ ∃ c1 c2, cs = c1 ++ c2 ∧ D.rd w S d c1 ∧ D.rdF w S r c2 := by simp only [D.rdF]
theorem Sl.get {w : World} {S : Nat → Prop} {size : Nat} {A : Option Addr} {c : Nat} {xs : List D} (hs : Sl w S size A c xs) (i : Nat) (h : i < xs.length) :
 ∃ b off cs, A = some ⟨b, off, none⟩ ∧ S b ∧ cs.length = size ∧ (∀ j v, cs[j]? = some v → w.cell? ⟨b, off + i * size + j, none⟩ = some v) ∧ (xs[i]).rd w S cs := by
 obtain ⟨_, _, h3 | ⟨b, off, e, hS, hr⟩⟩ := hs
 · rw [h3] at h; simp at h
 · obtain ⟨cs, g1, g2, g3⟩ := D.rdR_get hr i h
   exact ⟨b, off, cs, e, hS, g1, g2, g3⟩
theorem Sl.nil {w : World} {S : Nat → Prop} {size : Nat} {A : Option Addr} {c : Nat} (hc : c ≤ maxLen) : Sl w S size A c [] := ⟨by simp, hc, .inl rfl⟩
theorem Sl.len {w : World} {S : Nat → Prop} {size : Nat} {A : Option Addr} {c : Nat} {xs : List D} (hs : Sl w S size A c xs) : xs.length ≤ 9223372036854775807 := by
 have := hs.1; have := hs.2.1; unfold maxLen at *; omega
mutual
theorem D.own_keep {w w' : World} : ∀ (d : D) (S S' : Nat → Prop) (cs : List Value), (∀ b, S b → S' b ∧ w'.heap[b]? = w.heap[b]?) → d.own w S cs → d.own w' S' cs
 | .num _ _, _, _, _, _, hd => by simpa only [D.own] using hd
 | .str _, _, _, _, _, hd => by simpa only [D.own] using hd
 | .bool _, _, _, _, _, hd => by simpa only [D.own] using hd
 | .agg fs, S, S', cs, h, hd => by
  simp only [D.own] at hd ⊢
  exact D.ownF_keep fs S S' cs h hd
 | .sl size xs, S, S', cs, h, hd => by
  simp only [D.own] at hd ⊢
  obtain ⟨A, c, h1, h2, h3, h4⟩ := hd
  refine ⟨A, c, h1, h2, h3, ?_⟩
  rcases h4 with h4 | ⟨b, e, hS, hf, hr⟩
  · exact .inl h4
  · exact .inr ⟨b, e, (h b hS).1, fun o => (World.frozen?_of_block (h b hS).2).trans (hf o), D.ownR_keep size b xs _ _ 0 (fun x hx => ⟨⟨(h x hx.1).1, hx.2⟩, (h x hx.1).2⟩) (fun j _ => World.cell?_of_block (h b hS).2) hr⟩
theorem D.ownF_keep {w w' : World} : ∀ (fs : List D) (S S' : Nat → Prop) (cs : List Value), (∀ b, S b → S' b ∧ w'.heap[b]? = w.heap[b]?) → D.ownF w fs S cs → D.ownF w' fs S' cs
 | [], _, _, _, _, hd => by simpa only [D.ownF] using hd
 | d :: r, S, S', cs, h, hd => by
  simp only [D.ownF] at hd ⊢
  obtain ⟨S1, S2, c1, c2, g1, g2, e, h1, h2⟩ := hd
  exact ⟨S1, S2, c1, c2, fun x hx => ⟨(h x (g1 x hx).1).1, (g1 x hx).2⟩, fun x hx => (h x (g2 x hx)).1, e, D.own_keep d S1 S1 c1 (fun b hb => ⟨hb, (h b (g1 b hb).1).2⟩) h1, D.ownF_keep r S2 S2 c2 (fun b hb => ⟨hb, (h b (g2 b hb)).2⟩) h2⟩
theorem D.ownR_keep {w w' : World} (size b : Nat) : ∀ (xs : List D) (S S' : Nat → Prop) (off : Nat), (∀ b, S b → S' b ∧ w'.heap[b]? = w.heap[b]?) → (∀ j, j < off + xs.length * size → w'.cell? ⟨b, j, none⟩ = w.cell? ⟨b, j, none⟩) →
 D.ownR w size b xs S off → D.ownR w' size b xs S' off
 | [], _, _, _, _, _, _ => by simp only [D.ownR]
 | d :: r, S, S', off, h, hc, hd => by
  simp only [D.ownR] at hd ⊢
  obtain ⟨S1, S2, cs, g1, g2, h1, h2, h3, h4⟩ := hd
  have hlen : (d :: r).length * size = r.length * size + size := by rw [List.length_cons, Nat.add_mul, Nat.one_mul]
  refine ⟨S1, S2, cs, fun x hx => ⟨(h x (g1 x hx).1).1, (g1 x hx).2⟩, fun x hx => (h x (g2 x hx)).1, h1, fun j v hj => ?_, D.own_keep d S1 S1 cs (fun b hb => ⟨hb, (h b (g1 b hb).1).2⟩) h3,
    D.ownR_keep size b r S2 S2 (off + size) (fun b hb => ⟨hb, (h b (g2 b hb)).2⟩) (fun j hj => hc j (by rw [hlen]; omega)) h4⟩
  have hjl : j < cs.length := (List.getElem?_eq_some_iff.1 hj).1
  rw [hc (off + j) (by rw [hlen]; omega)]
  exact h2 j v hj
end
mutual
theorem D.own_rd {w : World} : ∀ (d : D) (S : Nat → Prop) (cs : List Value), d.own w S cs → d.rd w S cs
 | .num _ _, _, _, hd => by simpa only [D.own, D.rd] using hd
 | .str _, _, _, hd => by simpa only [D.own, D.rd] using hd
 | .bool _, _, _, hd => by simpa only [D.own, D.rd] using hd
 | .agg fs, S, cs, hd => by
  simp only [D.own, D.rd] at hd ⊢
  exact D.ownF_rd fs S cs hd
 | .sl size xs, S, cs, hd => by
  simp only [D.own, D.rd] at hd ⊢
  obtain ⟨A, c, h1, h2, h3, h4⟩ := hd
  refine ⟨A, c, h1, h2, h3, ?_⟩
  rcases h4 with h4 | ⟨b, e, hS, hf, hr⟩
  · exact .inl h4
  · exact .inr ⟨b, 0, e, hS, D.rdR_keep (S := fun x => S x) (fun x hx => ⟨hx, rfl⟩) size b hS xs 0 (D.ownR_rd size b xs _ S 0 (fun x hx => hx.1) hr)⟩
theorem D.ownF_rd {w : World} : ∀ (fs : List D) (S : Nat → Prop) (cs : List Value), D.ownF w fs S cs → D.rdF w S fs cs
 | [], _, _, hd => by simpa only [D.ownF, D.rdF] using hd
 | d :: r, S, cs, hd => by
  simp only [D.ownF, D.rdF] at hd ⊢
  obtain ⟨S1, S2, c1, c2, g1, g2, e, h1, h2⟩ := hd
  exact ⟨c1, c2, e, D.rd_keep (fun b hb => ⟨(g1 b hb).1, rfl⟩) d c1 (D.own_rd d S1 c1 h1), D.rdF_keep (fun b hb => ⟨g2 b hb, rfl⟩) r c2 (D.ownF_rd r S2 c2 h2)⟩
theorem D.ownR_rd {w : World} (size b : Nat) : ∀ (xs : List D) (S T : Nat → Prop) (off : Nat), (∀ x, S x → T x) → D.ownR w size b xs S off → D.rdR w T size b xs off
 | [], _, _, _, _, _ => by simp only [D.rdR]
 | d :: r, S, T, off, hT, hd => by
  simp only [D.ownR, D.rdR] at hd ⊢
  obtain ⟨S1, S2, cs, g1, g2, h1, h2, h3, h4⟩ := hd
  exact ⟨⟨cs, h1, h2, D.rd_keep (fun b hb => ⟨hT b (g1 b hb).1, rfl⟩) d cs (D.own_rd d S1 cs h3)⟩, D.ownR_rd size b r S2 T (off + size) (fun x hx => hT x (g2 x hx)) h4⟩
end
def Osl (w : World) (S : Nat → Prop) (size : Nat) (A : Option Addr) (c : Nat) (xs : List D) : Prop :=
 xs.length ≤ c ∧ c ≤ maxLen ∧ (xs = [] ∨ ∃ b, A = some ⟨b, 0, none⟩ ∧ S b ∧ (∀ o, w.frozen? ⟨b, o, none⟩ = false) ∧ D.ownR w size b xs (fun x => S x ∧ x ≠ b) 0)
theorem D.own_num {w : World} {S : Nat → Prop} {k : IntKind} {n : Int} {cs : List Value} : (D.num k n).own w S cs ↔ cs = [.int k n] ∧ (Lit.int k n).wf = true := by simp only [D.own]
theorem Osl.keep {w w' : World} {S S' : Nat → Prop} {size : Nat} {A : Option Addr} {c : Nat} {xs : List D} (hs : Osl w S size A c xs) (h : ∀ b, S b → S' b ∧ w'.heap[b]? = w.heap[b]?) : Osl w' S' size A c xs := by
 obtain ⟨h1, h2, h3⟩ := hs
 refine ⟨h1, h2, ?_⟩
 rcases h3 with h3 | ⟨b, e, hS, hf, hr⟩
 · exact .inl h3
 · exact .inr ⟨b, e, (h b hS).1, fun o => (World.frozen?_of_block (h b hS).2).trans (hf o), D.ownR_keep size b xs _ _ 0 (fun x hx => ⟨⟨(h x hx.1).1, hx.2⟩, (h x hx.1).2⟩) (fun j _ => World.cell?_of_block (h b hS).2) hr⟩
theorem Osl.sl {w : World} {S : Nat → Prop} {size : Nat} {A : Option Addr} {c : Nat} {xs : List D} (hs : Osl w S size A c xs) : Sl w S size A c xs := by
 obtain ⟨h1, h2, h3⟩ := hs
 refine ⟨h1, h2, ?_⟩
 rcases h3 with h3 | ⟨b, e, hS, hf, hr⟩
 · exact .inl h3
 · exact .inr ⟨b, 0, e, hS, D.ownR_rd size b xs _ S 0 (fun x hx => hx.1) hr⟩
theorem Osl.nil {w : World} {S : Nat → Prop} {size : Nat} {A : Option Addr} {c : Nat} (hc : c ≤ maxLen) : Osl w S size A c [] := ⟨by simp, hc, .inl rfl⟩
def Lt (B : Nat) : Nat → Prop := fun b => b < B
def Btw (B B' : Nat) : Nat → Prop := fun b => B ≤ b ∧ b < B'
theorem keep_below {w w' : World} {B B' : Nat} (h : Below B w w') (hB : B ≤ B') : ∀ b, Lt B b → Lt B' b ∧ w'.heap[b]? = w.heap[b]? :=
 fun b hb => ⟨Nat.lt_of_lt_of_le hb hB, h.block b hb⟩
theorem Sl.below {w w' : World} {B B' : Nat} {size : Nat} {A : Option Addr} {c : Nat} {xs : List D} (hs : Sl w (Lt B) size A c xs) (h : Below B w w') (hB : B ≤ B') : Sl w' (Lt B') size A c xs :=
 hs.keep (keep_below h hB)
def Row (w : World) (g : Nat) (t : TypeId) (cs : Array Value) : Prop := w.heap[g]? = some (.cells cs t (0, 0))
theorem Row.cell {w : World} {g : Nat} {t : TypeId} {cs : Array Value} (h : Row w g t cs) (i : Nat) : w.cell? ⟨g, i, none⟩ = cs[i]? := cell_of_row w g i cs t (0, 0) h
theorem Row.frozen {w : World} {g : Nat} {t : TypeId} {cs : Array Value} (h : Row w g t cs) (i : Nat) : w.frozen? ⟨g, i, none⟩ = false := by
 unfold Row at h
 simp [World.frozen?, h]
theorem Row.new (w : World) (t : TypeId) (cs : Array Value) : Row (w.alloc (.cells cs t)) w.heap.size t cs := heap_alloc_new w _
theorem Row.new' (w : World) (t : TypeId) (cs : Array Value) {g : Nat} (hg : g = w.heap.size) : Row (w.alloc (.cells cs t)) g t cs := by subst hg; exact Row.new w t cs
theorem Row.lt {w : World} {g : Nat} {t : TypeId} {cs : Array Value} (h : Row w g t cs) : g < w.heap.size := by
 rcases Nat.lt_or_ge g w.heap.size with hlt | hge
 · exact hlt
 · unfold Row at h; rw [Array.getElem?_eq_none hge] at h; cases h
theorem Row.set {w : World} {g : Nat} {t : TypeId} {cs : Array Value} (h : Row w g t cs) (i : Nat) (u : Value) : Row (w.setCell ⟨g, i, none⟩ u) g t (cs.setIfInBounds i u) := by
 unfold Row at h ⊢
 simp [World.setCell, Array.getElem?_modify, h]
theorem Row.alloc {w : World} {g : Nat} {t : TypeId} {cs : Array Value} (h : Row w g t cs) (o : Obj) : Row (w.alloc o) g t cs := (Below.heap_alloc w o g h.lt).trans h
theorem Row.far {w : World} {g : Nat} {t : TypeId} {cs : Array Value} (h : Row w g t cs) {p : Addr} (hp : g ≠ p.block) (u : Value) : Row (w.setCell p u) g t cs := (Below.heap_setCell w p u g hp).trans h
theorem Row.below {B : Nat} {w w' : World} {g : Nat} {t : TypeId} {cs : Array Value} (h : Row w g t cs) (hb : Below B w w') (hg : g < B) : Row w' g t cs := (hb.block g hg).trans h
theorem take_snoc' {α : Type} (l : List α) (j : Nat) (h : j < l.length) : l.take (j + 1) = l.take j ++ [l[j]] := by
 rw [List.take_succ_eq_append_getElem h]
def zr (z : Value) (size n : Nat) : Array Value := madeCells z.cells (n * size)
theorem run_mk {P : Program} (t e : TypeId) (z : Value) (size bytes : Nat) (ht : P.underlying t = some (.slice e)) (hi : (P.info? e).map (fun i => (i.zero, i.size, i.bytes)) = some (some z, size, bytes))
 (n : Nat) (hn : n ≤ 1048576) (hb : bytes ≤ 1048576) (w : World) :
 (Instr.makeSlice t (.int .i64 (n : Int)) (.int .i64 (n : Int))).run P w = .ok (.slice (some ⟨w.heap.size, 0, none⟩) n n) (w.alloc (.cells (zr z size n) e)) := by
 obtain ⟨i, h1, h2, h3, h4⟩ := info_parts hi
 have hnat : i.bytes * n ≤ 1048576 * 1048576 := Nat.mul_le_mul (by omega) hn
 have hint : (i.bytes : Int) * (n : Int) ≤ 281474976710656 := by
  have h : ((i.bytes * n : Nat) : Int) ≤ 281474976710656 := by omega
  rwa [Int.natCast_mul] at h
 have hr := run_make (P := P) w t e i z ht h1 h2 .i64 .i64 n n (by omega) (by omega) hint (by omega)
 simp only [Int.toNat_natCast, h3] at hr
 exact hr
end Go.Proofs.YtehpobojopmilaaGreat
namespace Go.Proofs.YtehpobojopmilaaGreat
set_option maxRecDepth 20000
set_option linter.unusedVariables false
set_option linter.unusedSimpArgs false
open Go.RowKit
open Go.RowKit
end Go.Proofs.YtehpobojopmilaaGreat
namespace Go.Proofs.YtehpobojopmilaaGreat
set_option maxRecDepth 20000
set_option linter.unusedVariables false
set_option linter.unusedSimpArgs false
open Go.RowKit
set_option maxRecDepth 4000
noncomputable def evC (c i : Nat) : Nat := Ev.spn c (Nat.mul 72 i) (Ev.mk 1)
theorem evC_eq (c i : Nat) : evC c i = Ev.cel c i := by
 unfold evC
 rw [Ev.spn_eq]
 rfl
noncomputable def evSt (c : Nat) : Option Nat := Ev.iff' (Nat.beq (Nat.land c 7) 4) (some (Nat.land (Nat.shiftRight c 3) 15)) (Ev.iff' (Nat.beq (Nat.land c 7) 5) (some (Nat.shiftRight c 15)) none)
noncomputable def evI (c : Nat) : Option Nat := Ev.iff' (Nat.beq (Nat.land c 7) 1) (some 0) none
noncomputable def evSl (c : Nat) (f : Nat → Nat → Nat → Nat → Option Nat) : Option Nat := Ev.iff' (Nat.beq (Nat.land c 7) 7) (Ev.iff' (Nat.beq c 15) none (f (Nat.pred (Nat.land (Nat.shiftRight c 3) 1048575)) (Nat.land (Nat.shiftRight c 23) 4095) (Nat.land (Nat.shiftRight c 35) 4095) (Nat.shiftRight c 47))) none
noncomputable def evTy (D : Nat) (g : Nat → Option Nat) (c i : Nat) : Option Nat := Ev.bnd (evI (evC c i)) fun _ => Ev.bnd (evI (evC c (i + 1))) fun _ => Ev.bnd (evSt (evC c (i + 2))) fun a => Ev.bnd (g (evC c (i + 3))) fun b => some (D + a + b)
noncomputable def evTyR (D : Nat) (g : Nat → Option Nat) (c o : Nat) : Nat → Option Nat
 | 0 => some 0
 | n + 1 => Ev.bnd (evTyR D g c o n) fun r => Ev.bnd (evTy D g c (o + n * 4)) fun a => some (r + (1 + a))
noncomputable def evInR (c o : Nat) : Nat → Option Nat
 | 0 => some 0
 | n + 1 => Ev.bnd (evInR c o n) fun r => Ev.bnd (evI (evC c (o + n))) fun _ => some (r + 1)
section
variable {tx : Ev.Tx} {m : Ev.Me} {s : Ev.Sg} {X : Ev.Loc → Ev.Vl} {w : World}
theorem evI_ok {c r : Nat} (h : evI c = some r) {v : Value} (hv : Ev.RC tx s c v) : ∃ n : Int, v = .int .i64 n ∧ (Lit.int .i64 n).wf = true := by
 unfold evI at h
 obtain ⟨h1, _⟩ := Ev.iff_some h
 have h1 := Ev.beq_t h1
 rw [Ev.land7] at h1
 obtain ⟨n, q, rfl, _, e, h2⟩ := hv.t1 h1
 refine ⟨n, rfl, ?_⟩
 simp only [Lit.wf, Bool.and_eq_true, decide_eq_true_eq]
 constructor
 · show (-9223372036854775808 : Int) ≤ n
   omega
 · show n ≤ (9223372036854775807 : Int)
   omega
theorem evSl_ok {c r : Nat} {f : Nat → Nat → Nat → Nat → Option Nat} (h0 : c ≠ 7) (h : evSl c f = some r) {v : Value} (hv : Ev.RC tx s c v) : ∃ id eo n es b k, f id eo n es = some r ∧ v = .slice (some ⟨b, eo * es, none⟩) n (k - eo) ∧ s id = some (b, k) ∧ eo + n ≤ k ∧ k ≤ maxLen := by
 unfold evSl at h
 obtain ⟨h1, h⟩ := Ev.iff_some h
 have h1 := Ev.beq_t h1
 rw [Ev.land7] at h1
 obtain ⟨h15, h⟩ := Ev.iff_none h
 have h15 := Ev.beq_f h15
 rcases hv.t7 h1 with ⟨_, e⟩ | ⟨id, eo, n, es, b, k, rfl, e, h3, h4, h5, h6, h7, h8, h9⟩ | ⟨_, _, _, e, _⟩
 · exact absurd e h0
 rotate_left
 · exact absurd e h15
 have e1 : Nat.pred (Nat.land (Nat.shiftRight c 3) 1048575) = id := by
  rw [show (1048575 : Nat) = 2 ^ 20 - 1 from rfl, Ev.land_mod, Ev.shr, Ev.npred]; omega
 have e2 : Nat.land (Nat.shiftRight c 23) 4095 = eo := by
  rw [show (4095 : Nat) = 2 ^ 12 - 1 from rfl, Ev.land_mod, Ev.shr]; omega
 have e3 : Nat.land (Nat.shiftRight c 35) 4095 = n := by
  rw [show (4095 : Nat) = 2 ^ 12 - 1 from rfl, Ev.land_mod, Ev.shr]; omega
 have e4 : Nat.shiftRight c 47 = es := by rw [Ev.shr]; omega
 rw [e1, e2, e3, e4] at h
 exact ⟨id, eo, n, es, b, k, h, rfl, h3, h8, h9⟩
end
def RwL (lo : Nat) (w : World) (b : Nat) (t : TypeId) (cs : Array Value) : Prop := lo ≤ b ∧ Row w b t cs
theorem RwL.cell {lo : Nat} {w : World} {b : Nat} {t : TypeId} {cs : Array Value} (h : RwL lo w b t cs) (i : Nat) : w.cell? ⟨b, i, none⟩ = cs[i]? := h.2.cell i
def InL (lo : Nat) (w : World) (b : Nat) : Prop := lo ≤ b ∧ b < w.heap.size
theorem RwL.lt {lo : Nat} {w : World} {b : Nat} {t : TypeId} {cs : Array Value} (h : RwL lo w b t cs) : InL lo w b := ⟨h.1, h.2.lt⟩
section
variable {lo : Nat} {w w' : World} {Fr Fr' : Nat → Prop} {dk fT B B' : Nat}
theorem list_of {α : Type} {P : Nat → α → Prop} : ∀ (n : Nat), (∀ j, j < n → ∃ x, P j x) → ∃ l : List α, l.length = n ∧ ∀ j (h : j < l.length), P j l[j]
 | 0, _ => ⟨[], rfl, fun j h => absurd h (Nat.not_lt_zero _)⟩
 | n + 1, h => by
  obtain ⟨l, h1, h2⟩ := list_of n fun j hj => h j (by omega)
  obtain ⟨x, hx⟩ := h n (by omega)
  refine ⟨l ++ [x], by simp [h1], fun j hj => ?_⟩
  by_cases hjn : j < l.length
  · rw [List.getElem_append_left hjn]; exact h2 j hjn
  · have : j = n := by simp at hj; omega
    subst this
    rw [List.getElem_append_right (by omega)]
    simpa [h1] using hx
end
section
variable {lo : Nat} {tx : Ev.Tx} {m : Ev.Me} {s : Ev.Sg} {X : Ev.Loc → Ev.Vl} {w : World} {Fr : Nat → Prop} {dk : Nat}
theorem evBlk (hst : Ev.EvSt tx m s X w) (hlo : ∀ i b k, s i = some (b, k) → lo ≤ b) {id : Nat} {bk : Ev.Blk} (hb : Ev.T.get m.h id = some bk) {b k : Nat} (hs : s id = some (b, k)) : ∃ cs, RwL lo w b bk.ty cs ∧ (1 ≤ bk.es → cs.size = k * bk.es) ∧ bk.n ≤ cs.size ∧ ∀ i, i < bk.n → ∃ v, cs[i]? = some v ∧ Ev.RC tx s (Ev.cel bk.c i) v := by
 obtain ⟨h1, h2⟩ := hst.heap.at_ id bk hb
 obtain ⟨b', k', cs, g⟩ := hst.rel.bl id _ _ _ _ h2.mt
 have := g.at_
 rw [hs] at this
 cases this
 exact ⟨cs, ⟨hlo _ _ _ hs, g.blk⟩, g.cap, g.le, fun i hi => g.cl i _ hi (h2.cl i hi)⟩
theorem evInR_ok {cs : Array Value} {c N o : Nat} (hc : ∀ i, i < N → ∃ v, cs[i]? = some v ∧ Ev.RC tx s (Ev.cel c i) v) : ∀ (k r : Nat), o + k ≤ N → evInR c o k = some r → r = k ∧ ∀ i, i < k → ∃ z : Int, cs[o + i]? = some (.int .i64 z) ∧ (Lit.int .i64 z).wf = true
 | 0, r, _, h => by
  rw [evInR] at h; cases h
  exact ⟨rfl, fun i hi => absurd hi (Nat.not_lt_zero _)⟩
 | k + 1, r, hn, h => by
  rw [evInR] at h
  obtain ⟨r1, h1, h⟩ := Ev.bnd_some h
  obtain ⟨r2, h2, h⟩ := Ev.bnd_some h
  cases h
  obtain ⟨rfl, h4⟩ := evInR_ok hc k r1 (by omega) h1
  rw [evC_eq] at h2
  obtain ⟨v, a1, b1⟩ := hc (o + r1) (by omega)
  obtain ⟨x, rfl, w0⟩ := evI_ok h2 b1
  refine ⟨rfl, fun i hi => ?_⟩
  by_cases hik : i < r1
  · exact h4 i hik
  · have : i = r1 := by omega
    subst this
    exact ⟨x, a1, w0⟩
end
structure Bx (g : Nat) (w w' : World) : Prop where
 os : w'.os = w.os
 tape : w'.tape = w.tape
 output : w'.output = w.output
 size : w.heap.size ≤ w'.heap.size
 block : ∀ b, b < w.heap.size → b ≠ g → w'.heap[b]? = w.heap[b]?
theorem Bx.refl (g : Nat) (w : World) : Bx g w w := ⟨rfl, rfl, rfl, Nat.le_refl _, fun _ _ _ => rfl⟩
theorem Bx.trans {g : Nat} {a b c : World} (h : Bx g a b) (k : Bx g b c) : Bx g a c :=
 ⟨k.os.trans h.os, k.tape.trans h.tape, k.output.trans h.output, Nat.le_trans h.size k.size, fun i hi hg => (k.block i (Nat.lt_of_lt_of_le hi h.size) hg).trans (h.block i hi hg)⟩
theorem Bx.of_below {g B : Nat} {w w' : World} (h : Below B w w') (hB : w.heap.size ≤ B) : Bx g w w' := ⟨h.os, h.tape, h.output, h.size, fun b hb _ => h.block b (Nat.lt_of_lt_of_le hb hB)⟩
theorem Bx.alloc {g : Nat} {w w' : World} (h : Bx g w w') (o : Obj) : Bx g w (w'.alloc o) := h.trans (Bx.of_below ((Below.refl w'.heap.size w').alloc (Nat.le_refl _) o) (Nat.le_refl _))
theorem Bx.set {g : Nat} {w w' : World} (h : Bx g w w') {p : Addr} (hp : p.block = g ∨ w.heap.size ≤ p.block) (u : Value) : Bx g w (w'.setCell p u) :=
 ⟨h.os, h.tape, h.output, by simp [World.setCell]; exact h.size, fun b hb hg => (Below.heap_setCell w' p u b (by rcases hp with hp | hp <;> omega)).trans (h.block b hb hg)⟩
theorem Bx.below {g B : Nat} {w w' : World} (h : Bx g w w') (hB : B ≤ w.heap.size) (hg : B ≤ g) : Below B w w' := ⟨h.os, h.tape, h.output, h.size, fun b hb => h.block b (by omega) (by omega)⟩
theorem Bx.row {g b : Nat} {w w' : World} {T : TypeId} {cs : Array Value} (h : Bx g w w') (hr : Row w b T cs) (hne : b ≠ g) : Row w' b T cs := (h.block b hr.lt hne).trans hr
end Go.Proofs.YtehpobojopmilaaGreat
namespace Go.Proofs.YtehpobojopmilaaGreat
set_option maxRecDepth 20000
set_option linter.unusedVariables false
set_option linter.unusedSimpArgs false
open Go.RowKit
end Go.Proofs.YtehpobojopmilaaGreat
namespace Go.Proofs.YtehpobojopmilaaGreat
set_option maxRecDepth 20000
set_option linter.unusedVariables false
set_option linter.unusedSimpArgs false
open Go.RowKit
structure GOp where
 code : Int
 n : Int
 m : Int
def GOp.toD (x : GOp) : D := .agg [.num .i64 x.code, .num .i64 x.n, .num .i64 x.m]
def GOp.At (w : World) (S : Nat → Prop)  (t : GOp) : Prop :=
 (Lit.int .i64 t.code).wf = true ∧ (Lit.int .i64 t.n).wf = true ∧ (Lit.int .i64 t.m).wf = true
theorem GOp.rd {w : World} {S : Nat → Prop} {t : GOp} {cs : List Value} (h : t.toD.rd w S cs) : cs = [.int .i64 t.code, .int .i64 t.n, .int .i64 t.m] ∧ GOp.At w S  t := by
 unfold GOp.toD at h
 rw [D.rd_agg] at h
 rw [D.rdF_cons] at h
 obtain ⟨x0, r0, rfl, k0, h⟩ := h
 obtain ⟨rfl, h0⟩ := D.rd_num.1 k0
 rw [D.rdF_cons] at h
 obtain ⟨x1, r1, rfl, k1, h⟩ := h
 obtain ⟨rfl, h1⟩ := D.rd_num.1 k1
 rw [D.rdF_cons] at h
 obtain ⟨x2, r2, rfl, k2, h⟩ := h
 obtain ⟨rfl, h2⟩ := D.rd_num.1 k2
 obtain rfl := D.rdF_nil.1 h
 exact ⟨by simp [List.length_map], h0, h1, h2⟩
theorem GOp.rd_mk {w : World} {S : Nat → Prop} {t : GOp}  (h : GOp.At w S  t) : t.toD.rd w S [.int .i64 t.code, .int .i64 t.n, .int .i64 t.m] := by
 unfold GOp.toD
 unfold GOp.At at h
 obtain ⟨h0, h1, h2⟩ := h
 rw [D.rd_agg]
 exact D.rdF_cons.2 ⟨[_], [_, _], rfl, D.rd_num.2 ⟨rfl, h0⟩, D.rdF_cons.2 ⟨[_], [_], rfl, D.rd_num.2 ⟨rfl, h1⟩, D.rdF_cons.2 ⟨[_], [], rfl, D.rd_num.2 ⟨rfl, h2⟩, D.rdF_nil.2 rfl⟩⟩⟩
theorem GOp.elem {w : World} {S : Nat → Prop} {A : Option Addr} {c : Nat} {l : List GOp} (h : Sl w S 3 A c (l.map GOp.toD)) (i : Nat) (hi : i < l.length) :
 ∃ b off , A = some ⟨b, off, none⟩ ∧ S b ∧ w.cell? ⟨b, off + i * 3, none⟩ = some (.int .i64 l[i].code) ∧ w.cell? ⟨b, off + i * 3 + 1, none⟩ = some (.int .i64 l[i].n) ∧ w.cell? ⟨b, off + i * 3 + 2, none⟩ = some (.int .i64 l[i].m) ∧ GOp.At w S  l[i] := by
 obtain ⟨b, off, cs, e, hb, hl, hc, hr⟩ := Sl.get h i (by simpa using hi)
 rw [List.getElem_map] at hr
 obtain ⟨rfl, h1⟩ := GOp.rd hr
 exact ⟨b, off, e, hb, hc 0 _ rfl, hc 1 _ rfl, hc 2 _ rfl, h1⟩
structure GFun where
 free : Int
 list : List GOp
def GFun.toD (x : GFun) : D := .agg [.num .i64 x.free, .sl 3 (x.list.map GOp.toD)]
def GFun.At (w : World) (S : Nat → Prop) (A1 : Option Addr) (c1 : Nat) (t : GFun) : Prop :=
 (Lit.int .i64 t.free).wf = true ∧ Sl w S 3 A1 c1 (t.list.map GOp.toD)
theorem GFun.rd {w : World} {S : Nat → Prop} {t : GFun} {cs : List Value} (h : t.toD.rd w S cs) : ∃ A1 c1, cs = [.int .i64 t.free, .slice A1 t.list.length c1] ∧ GFun.At w S A1 c1 t := by
 unfold GFun.toD at h
 rw [D.rd_agg] at h
 rw [D.rdF_cons] at h
 obtain ⟨x0, r0, rfl, k0, h⟩ := h
 obtain ⟨rfl, h0⟩ := D.rd_num.1 k0
 rw [D.rdF_cons] at h
 obtain ⟨x1, r1, rfl, k1, h⟩ := h
 obtain ⟨A1, c1, rfl, h1⟩ := D.rd_sl.1 k1
 obtain rfl := D.rdF_nil.1 h
 exact ⟨A1, c1, by simp [List.length_map], h0, h1⟩
theorem GFun.rd_mk {w : World} {S : Nat → Prop} {t : GFun} {A1 : Option Addr} {c1 : Nat} (h : GFun.At w S A1 c1 t) : t.toD.rd w S [.int .i64 t.free, .slice A1 t.list.length c1] := by
 unfold GFun.toD
 unfold GFun.At at h
 obtain ⟨h0, h1⟩ := h
 rw [D.rd_agg]
 exact D.rdF_cons.2 ⟨[_], [_], rfl, D.rd_num.2 ⟨rfl, h0⟩, D.rdF_cons.2 ⟨[_], [], rfl, D.rd_sl.2 ⟨A1, c1, by simp [List.length_map], h1⟩, D.rdF_nil.2 rfl⟩⟩
theorem GFun.elem {w : World} {S : Nat → Prop} {A : Option Addr} {c : Nat} {l : List GFun} (h : Sl w S 2 A c (l.map GFun.toD)) (i : Nat) (hi : i < l.length) :
 ∃ b off A1 c1, A = some ⟨b, off, none⟩ ∧ S b ∧ w.cell? ⟨b, off + i * 2, none⟩ = some (.int .i64 l[i].free) ∧ w.cell? ⟨b, off + i * 2 + 1, none⟩ = some (.slice A1 l[i].list.length c1) ∧ GFun.At w S A1 c1 l[i] := by
 obtain ⟨b, off, cs, e, hb, hl, hc, hr⟩ := Sl.get h i (by simpa using hi)
 rw [List.getElem_map] at hr
 obtain ⟨A1, c1, rfl, h1⟩ := GFun.rd hr
 exact ⟨b, off, A1, c1, e, hb, hc 0 _ rfl, hc 1 _ rfl, h1⟩
set_option maxRecDepth 4000
noncomputable def evOps (h : Ev.HT) (c : Nat) : Option Nat := Ev.iff' (Nat.beq c 7) (some 0) (evSl c fun id eo n es => Ev.iff' (Nat.beq es 3) (Ev.bnd (Ev.T.get h id) fun bk => Ev.iff' (Nat.beq bk.ty 32) (Ev.iff' (Nat.beq bk.es 3) (Ev.iff' (Nat.ble ((eo + n) * 3) bk.n) (Ev.iff' (Nat.ble n 256) (Ev.bnd (evInR bk.c (eo * 3) (n * 3)) fun _ => some n) none) none) none) none) none)
noncomputable def evFnR (h : Ev.HT) (c o : Nat) : Nat → Option Nat
 | 0 => some 0
 | n + 1 => Ev.bnd (evFnR h c o n) fun r => Ev.bnd (evI (evC c (o + n * 2))) fun _ => Ev.bnd (evOps h (evC c (o + n * 2 + 1))) fun k => some (r + 1)
noncomputable def evFns (h : Ev.HT) (c : Nat) : Option Nat := Ev.iff' (Nat.beq c 7) (some 0) (evSl c fun id eo n es => Ev.iff' (Nat.beq es 2) (Ev.bnd (Ev.T.get h id) fun bk => Ev.iff' (Nat.beq bk.ty 41) (Ev.iff' (Nat.beq bk.es 2) (Ev.iff' (Nat.ble ((eo + n) * 2) bk.n) (evFnR h bk.c (eo * 2) n) none) none) none) none)
def IntAt (cs : Array Value) (i : Nat) : Prop := ∃ z : Int, cs[i]? = some (.int .i64 z) ∧ (Lit.int .i64 z).wf = true
def OpsOk (lo : Nat) (w : World) (v : Value) (n : Nat) : Prop := (v = .slice none 0 0 ∧ n = 0) ∨ ∃ b o c cs, v = .slice (some ⟨b, o, none⟩) n c ∧ RwL lo w b 32 cs ∧ o % 3 = 0 ∧ o + c * 3 ≤ cs.size ∧ n ≤ c ∧ c ≤ maxLen ∧ n ≤ 256 ∧ ∀ i, i < n * 3 → IntAt cs (o + i)
def FnsOk (lo : Nat) (w : World) (v : Value) (n : Nat) : Prop := (v = .slice none 0 0 ∧ n = 0) ∨ ∃ b o c cs, v = .slice (some ⟨b, o, none⟩) n c ∧ RwL lo w b 41 cs ∧ o % 2 = 0 ∧ o + c * 2 ≤ cs.size ∧ n ≤ c ∧ c ≤ maxLen ∧ ∀ j, j < n → IntAt cs (o + j * 2) ∧ ∃ u k, cs[o + j * 2 + 1]? = some u ∧ OpsOk lo w u k
structure FTurn (lo : Nat) (w w' : World) : Prop where
 os : ∀ b cs, RwL lo w b 32 cs → ∃ cs', RwL lo w' b 32 cs' ∧ cs'.size = cs.size ∧ ∀ i, cs'[i]? = cs[i]? ∨ IntAt cs' i
 fs : ∀ b cs, RwL lo w b 41 cs → ∃ cs', RwL lo w' b 41 cs' ∧ cs'.size = cs.size ∧ ∀ i, cs'[i]? = cs[i]? ∨ (i % 2 = 0 ∧ IntAt cs' i) ∨ (i % 2 = 1 ∧ ∃ u k, cs'[i]? = some u ∧ OpsOk lo w' u k)
section
variable {lo : Nat} {w w' : World}
theorem OpsOk.turn (h : FTurn lo w w') {v : Value} {n : Nat} (hv : OpsOk lo w v n) : OpsOk lo w' v n := by
 rcases hv with hv | ⟨b, o, c, cs, rfl, h2, h3, h4, h5, h6, h7, h8⟩
 · exact .inl hv
 ·
  obtain ⟨cs', g1, g2, g3⟩ := h.os b cs h2
  refine .inr ⟨b, o, c, cs', rfl, g1, h3, by omega, h5, h6, h7, fun i hi => ?_⟩
  rcases g3 (o + i) with e | e
  · obtain ⟨z, h9, h10⟩ := h8 i hi
    exact ⟨z, e.trans h9, h10⟩
  · exact e
theorem FnsOk.turn (h : FTurn lo w w') {v : Value} {n : Nat} (hv : FnsOk lo w v n) : FnsOk lo w' v n := by
 rcases hv with hv | ⟨b, o, c, cs, rfl, h2, h3, h4, h5, h6, h7⟩
 · exact .inl hv
 ·
  obtain ⟨cs', g1, g2, g3⟩ := h.fs b cs h2
  refine .inr ⟨b, o, c, cs', rfl, g1, h3, by omega, h5, h6, fun j hj => ?_⟩
  obtain ⟨⟨z, k1, k2⟩, u, k, k3, k4⟩ := h7 j hj
  refine ⟨?_, ?_⟩
  · rcases g3 (o + j * 2) with e | ⟨_, e⟩ | ⟨e, _⟩
    · exact ⟨z, e.trans k1, k2⟩
    · exact e
    · omega
  · rcases g3 (o + j * 2 + 1) with e | ⟨e, _⟩ | ⟨_, u', k', e1, e2⟩
    · exact ⟨u, k, e.trans k3, k4.turn h⟩
    · omega
    · exact ⟨u', k', e1, e2⟩
theorem FTurn.of_same (hk : ∀ b t cs, t = 32 ∨ t = 41 → RwL lo w b t cs → w'.heap[b]? = w.heap[b]?) : FTurn lo w w' :=
 ⟨fun b cs h => ⟨cs, ⟨h.1, (hk b _ cs (.inl rfl) h).trans h.2⟩, rfl, fun _ => .inl rfl⟩, fun b cs h => ⟨cs, ⟨h.1, (hk b _ cs (.inr rfl) h).trans h.2⟩, rfl, fun _ => .inl rfl⟩⟩
theorem rowOne {w : World} {b : Nat} {t t' : TypeId} {cs cs' : Array Value} (h : Row w b t cs) (h' : Row w b t' cs') : t = t' ∧ cs = cs' := by
 have := h.symm.trans h'
 cases this
 exact ⟨rfl, rfl⟩
theorem FTurn.op {b i : Nat} {cs : Array Value} (hr : RwL lo w b 32 cs) (hi : i < cs.size) {z : Int} (hz : (Lit.int .i64 z).wf = true) (hw : w' = w.setCell ⟨b, i, none⟩ (.int .i64 z)) : FTurn lo w w' := by
 have hb : ∀ x, x ≠ b → w'.heap[x]? = w.heap[x]? := fun x hx => by rw [hw]; exact Below.heap_setCell w ⟨b, i, none⟩ _ x hx
 have hr' : Row w' b 32 (cs.setIfInBounds i (.int .i64 z)) := by rw [hw]; exact hr.2.set i _
 refine ⟨fun x cs2 h => ?_, fun x cs2 h => ⟨cs2, ⟨h.1, (hb x ?_).trans h.2⟩, rfl, fun _ => .inl rfl⟩⟩
 ·
  by_cases e : x = b
  ·
   subst e
   obtain ⟨-, rfl⟩ := rowOne h.2 hr.2
   refine ⟨_, ⟨h.1, hr'⟩, by simp, fun j => ?_⟩
   by_cases ej : i = j
   · subst ej
     exact .inr ⟨z, by simp [hi], hz⟩
   · exact .inl (by rw [Array.getElem?_setIfInBounds, if_neg ej])
  · exact ⟨cs2, ⟨h.1, (hb x e).trans h.2⟩, rfl, fun _ => .inl rfl⟩
 · rintro rfl
   have := (rowOne h.2 hr.2).1
   revert this; decide
theorem FTurn.fn {b i : Nat} {cs : Array Value} (hr : RwL lo w b 41 cs) (hi : i < cs.size) {v : Value} (hw : w' = w.setCell ⟨b, i, none⟩ v) (hv : (i % 2 = 0 ∧ ∃ z : Int, v = .int .i64 z ∧ (Lit.int .i64 z).wf = true) ∨ (i % 2 = 1 ∧ ∃ k, OpsOk lo w v k)) : FTurn lo w w' := by
 have hb : ∀ x, x ≠ b → w'.heap[x]? = w.heap[x]? := fun x hx => by rw [hw]; exact Below.heap_setCell w ⟨b, i, none⟩ _ x hx
 have hr' : Row w' b 41 (cs.setIfInBounds i v) := by rw [hw]; exact hr.2.set i _
 have hop : ∀ x cs2, RwL lo w x 32 cs2 → RwL lo w' x 32 cs2 := fun x cs2 h => ⟨h.1, (hb x (by
   rintro rfl
   have := (rowOne h.2 hr.2).1
   revert this; decide)).trans h.2⟩
 refine ⟨fun x cs2 h => ⟨cs2, hop x cs2 h, rfl, fun _ => .inl rfl⟩, fun x cs2 h => ?_⟩
 by_cases e : x = b
 ·
  subst e
  obtain ⟨-, rfl⟩ := rowOne h.2 hr.2
  refine ⟨_, ⟨h.1, hr'⟩, by simp, fun j => ?_⟩
  by_cases ej : i = j
  ·
   subst ej
   rcases hv with ⟨h1, z, rfl, h2⟩ | ⟨h1, k, h2⟩
   · exact .inr (.inl ⟨h1, z, by simp [hi], h2⟩)
   · refine .inr (.inr ⟨h1, v, k, by simp [hi], ?_⟩)
     rcases h2 with h2 | ⟨b', o, c, cs', e1, e2, e3⟩
     · exact .inl h2
     · exact .inr ⟨b', o, c, cs', e1, hop b' cs' e2, e3⟩
  · exact .inl (by rw [Array.getElem?_setIfInBounds, if_neg ej])
 · exact ⟨cs2, ⟨h.1, (hb x e).trans h.2⟩, rfl, fun _ => .inl rfl⟩
theorem OpsOk.read {v : Value} {n : Nat} (h : OpsOk lo w v n) : ∃ (A : Option Addr) (c : Nat) (l : List GOp), v = .slice A l.length c ∧ l.length = n ∧ Sl w (InL lo w) 3 A c (l.map GOp.toD) := by
 rcases h with ⟨rfl, rfl⟩ | ⟨b, o, c, cs, rfl, h2, h3, h4, h5, h6, h7, h8⟩
 · exact ⟨none, 0, [], rfl, rfl, Sl.nil (Nat.zero_le _)⟩
 ·
  obtain ⟨l, h1, hl⟩ := list_of (P := fun j (x : GOp) => cs[o + j * 3]? = some (.int .i64 x.code) ∧ cs[o + j * 3 + 1]? = some (.int .i64 x.n) ∧ cs[o + j * 3 + 2]? = some (.int .i64 x.m) ∧ (Lit.int .i64 x.code).wf = true ∧ (Lit.int .i64 x.n).wf = true ∧ (Lit.int .i64 x.m).wf = true) n fun j hj => by
   obtain ⟨z0, a0, b0⟩ := h8 (j * 3) (by omega)
   obtain ⟨z1, a1, b1⟩ := h8 (j * 3 + 1) (by omega)
   obtain ⟨z2, a2, b2⟩ := h8 (j * 3 + 2) (by omega)
   exact ⟨⟨z0, z1, z2⟩, a0, by rw [Nat.add_assoc]; exact a1, by rw [Nat.add_assoc]; exact a2, b0, b1, b2⟩
  refine ⟨some ⟨b, o, none⟩, c, l, by rw [h1], h1, ⟨by rw [List.length_map, h1]; exact h5, h6, .inr ⟨b, o, rfl, h2.lt, D.rdR_mk fun i hi => ?_⟩⟩⟩
  rw [List.length_map] at hi
  obtain ⟨k0, k1, k2, k3, k4, k5⟩ := hl i hi
  refine ⟨[.int .i64 l[i].code, .int .i64 l[i].n, .int .i64 l[i].m], rfl, fun j v hj => ?_, by rw [List.getElem_map]; exact GOp.rd_mk ⟨k3, k4, k5⟩⟩
  rw [h2.cell]
  match j, hj with
  | 0, hj => cases hj; exact k0
  | 1, hj => cases hj; exact k1
  | 2, hj => cases hj; exact k2
  | j + 3, hj => cases hj
theorem FnsOk.read {v : Value} {n : Nat} (h : FnsOk lo w v n) : ∃ (A : Option Addr) (c : Nat) (l : List GFun), v = .slice A l.length c ∧ l.length = n ∧ Sl w (InL lo w) 2 A c (l.map GFun.toD) := by
 rcases h with ⟨rfl, rfl⟩ | ⟨b, o, c, cs, rfl, h2, h3, h4, h5, h6, h7⟩
 · exact ⟨none, 0, [], rfl, rfl, Sl.nil (Nat.zero_le _)⟩
 ·
  obtain ⟨l, h1, hl⟩ := list_of (P := fun j (x : GFun) => ∃ (A : Option Addr) (c : Nat), cs[o + j * 2]? = some (.int .i64 x.free) ∧ cs[o + j * 2 + 1]? = some (.slice A x.list.length c) ∧ GFun.At w (InL lo w) A c x) n fun j hj => by
   obtain ⟨⟨z0, a0, b0⟩, u, k, a1, b1⟩ := h7 j hj
   obtain ⟨A, c, l, rfl, q1, q2⟩ := b1.read
   exact ⟨⟨z0, l⟩, A, c, a0, a1, b0, q2⟩
  refine ⟨some ⟨b, o, none⟩, c, l, by rw [h1], h1, ⟨by rw [List.length_map, h1]; exact h5, h6, .inr ⟨b, o, rfl, h2.lt, D.rdR_mk fun i hi => ?_⟩⟩⟩
  rw [List.length_map] at hi
  obtain ⟨A1, c1, k0, k1, k2⟩ := hl i hi
  refine ⟨[.int .i64 l[i].free, .slice A1 l[i].list.length c1], rfl, fun j v hj => ?_, by rw [List.getElem_map]; exact GFun.rd_mk k2⟩
  rw [h2.cell]
  match j, hj with
  | 0, hj => cases hj; exact k0
  | 1, hj => cases hj; exact k1
  | j + 2, hj => cases hj
end
section
variable {lo : Nat} {tx : Ev.Tx} {m : Ev.Me} {s : Ev.Sg} {X : Ev.Loc → Ev.Vl} {w : World}
theorem evOps_ok (hst : Ev.EvSt tx m s X w) (hlo : ∀ i b k, s i = some (b, k) → lo ≤ b) {c β : Nat} {v : Value} (h : evOps m.h c = some β) (hv : Ev.RC tx s c v) : OpsOk lo w v β := by
 unfold evOps at h
 cases h7 : Nat.beq c 7 with
 | true =>
  rw [h7] at h
  have h : some 0 = some β := h
  cases h
  have h7 := Ev.beq_t h7
  subst h7
  rcases hv.t7 rfl with ⟨rfl, _⟩ | ⟨id, eo, n, es, b, k, _, e, _⟩ | ⟨_, _, _, e, _⟩
  · exact .inl ⟨rfl, rfl⟩
  · omega
  · omega
 | false =>
  rw [h7] at h
  have hne : c ≠ 7 := fun e => by rw [e] at h7; cases h7
  obtain ⟨id, eo, n, es, b, k, h1, rfl, h2, h3, h4⟩ := evSl_ok (f := fun id eo n es => Ev.iff' (Nat.beq es 3) (Ev.bnd (Ev.T.get m.h id) fun bk => Ev.iff' (Nat.beq bk.ty 32) (Ev.iff' (Nat.beq bk.es 3) (Ev.iff' (Nat.ble ((eo + n) * 3) bk.n) (Ev.iff' (Nat.ble n 256) (Ev.bnd (evInR bk.c (eo * 3) (n * 3)) fun _ => some n) none) none) none) none) none) hne h hv
  obtain ⟨h5, h1⟩ := Ev.iff_some h1
  have h5 := Ev.beq_t h5
  subst h5
  obtain ⟨bk, h6, h1⟩ := Ev.bnd_some h1
  obtain ⟨h8, h1⟩ := Ev.iff_some h1
  obtain ⟨h9, h1⟩ := Ev.iff_some h1
  obtain ⟨h10, h1⟩ := Ev.iff_some h1
  obtain ⟨h11, h1⟩ := Ev.iff_some h1
  have h8 := Ev.beq_t h8
  have h9 := Ev.beq_t h9
  have h10 : (eo + n) * 3 ≤ bk.n := Ev.ble_t h10
  have h11 : n ≤ 256 := Ev.ble_t h11
  obtain ⟨cs, p1, p2, p3, p4⟩ := evBlk hst hlo h6 h2
  have p2 := p2 (by omega)
  rw [h9] at p2
  rw [h8] at p1
  obtain ⟨r, h12, h1⟩ := Ev.bnd_some h1
  have e : n = β := Option.some.inj h1
  subst e
  obtain ⟨q0, q1⟩ := evInR_ok p4 (n * 3) r (by omega) h12
  exact .inr ⟨b, eo * 3, k - eo, cs, rfl, p1, by omega, by omega, by omega, by omega, h11, q1⟩
theorem evFnR_ok (hst : Ev.EvSt tx m s X w) (hlo : ∀ i b k, s i = some (b, k) → lo ≤ b) {c N o : Nat} {cs : Array Value} (hc : ∀ i, i < N → ∃ v, cs[i]? = some v ∧ Ev.RC tx s (Ev.cel c i) v) :
 ∀ (n r : Nat), o + n * 2 ≤ N → evFnR m.h c o n = some r → r = n ∧ ∀ j, j < n → IntAt cs (o + j * 2) ∧ ∃ u k, cs[o + j * 2 + 1]? = some u ∧ OpsOk lo w u k
 | 0, r, _, h => by
  rw [evFnR] at h; cases h
  exact ⟨rfl, fun j hj => absurd hj (Nat.not_lt_zero _)⟩
 | n + 1, r, hn, h => by
  rw [evFnR] at h
  obtain ⟨r1, h1, h⟩ := Ev.bnd_some h
  obtain ⟨r2, h2, h⟩ := Ev.bnd_some h
  obtain ⟨r3, h3, h⟩ := Ev.bnd_some h
  cases h
  obtain ⟨rfl, q2⟩ := evFnR_ok hst hlo hc n r1 (by omega) h1
  rw [evC_eq] at h2 h3
  obtain ⟨u0, a0, b0⟩ := hc (o + r1 * 2) (by omega)
  obtain ⟨u1, a1, b1⟩ := hc (o + r1 * 2 + 1) (by omega)
  obtain ⟨z, rfl, hz⟩ := evI_ok h2 b0
  refine ⟨rfl, fun j hj => ?_⟩
  by_cases e : j = r1
  · subst e
    exact ⟨⟨z, a0, hz⟩, u1, r3, a1, evOps_ok hst hlo h3 b1⟩
  · exact q2 j (by omega)
theorem evFns_ok (hst : Ev.EvSt tx m s X w) (hlo : ∀ i b k, s i = some (b, k) → lo ≤ b) {c β : Nat} {v : Value} (h : evFns m.h c = some β) (hv : Ev.RC tx s c v) : FnsOk lo w v β := by
 unfold evFns at h
 cases h7 : Nat.beq c 7 with
 | true =>
  rw [h7] at h
  have h : some 0 = some β := h
  cases h
  have h7 := Ev.beq_t h7
  subst h7
  rcases hv.t7 rfl with ⟨rfl, _⟩ | ⟨id, eo, n, es, b, k, _, e, _⟩ | ⟨_, _, _, e, _⟩
  · exact .inl ⟨rfl, rfl⟩
  · omega
  · omega
 | false =>
  rw [h7] at h
  have hne : c ≠ 7 := fun e => by rw [e] at h7; cases h7
  obtain ⟨id, eo, n, es, b, k, h1, rfl, h2, h3, h4⟩ := evSl_ok (f := fun id eo n es => Ev.iff' (Nat.beq es 2) (Ev.bnd (Ev.T.get m.h id) fun bk => Ev.iff' (Nat.beq bk.ty 41) (Ev.iff' (Nat.beq bk.es 2) (Ev.iff' (Nat.ble ((eo + n) * 2) bk.n) (evFnR m.h bk.c (eo * 2) n) none) none) none) none) hne h hv
  obtain ⟨h5, h1⟩ := Ev.iff_some h1
  have h5 := Ev.beq_t h5
  subst h5
  obtain ⟨bk, h6, h1⟩ := Ev.bnd_some h1
  obtain ⟨h8, h1⟩ := Ev.iff_some h1
  obtain ⟨h9, h1⟩ := Ev.iff_some h1
  obtain ⟨h10, h1⟩ := Ev.iff_some h1
  have h8 := Ev.beq_t h8
  have h9 := Ev.beq_t h9
  have h10 : (eo + n) * 2 ≤ bk.n := Ev.ble_t h10
  obtain ⟨cs, p1, p2, p3, p4⟩ := evBlk hst hlo h6 h2
  have p2 := p2 (by omega)
  rw [h9] at p2
  rw [h8] at p1
  obtain ⟨rfl, q1⟩ := evFnR_ok hst hlo p4 n β (by omega) h1
  exact .inr ⟨b, eo * 2, k - eo, cs, rfl, p1, by omega, by omega, by omega, by omega, q1⟩
end
set_option maxRecDepth 1000000
noncomputable def evE (tx : Ev.Tx) : Ev.En := ⟨Ev.P, Ev.TY, Ev.O, tx⟩
noncomputable def evYes (v : Nat) : Bool := true
noncomputable def evOkV (v : Nat) (m : Ev.Me) : Bool := Option.rec false (fun n => Nat.ble n 200) (evFns m.h v)
theorem evOkV_t {v : Nat} {m : Ev.Me} (h : evOkV v m = true) : ∃ n, evFns m.h v = some n ∧ n ≤ 200 := by
 unfold evOkV at h
 cases h1 : evFns m.h v with
 | none => rw [h1] at h; cases h
 | some n =>
  rw [h1] at h
  exact ⟨n, rfl, Ev.ble_t h⟩
structure Txt4 (tx : Ev.Tx) : Prop where
 n1 : 8 < tx.n
 n2 : tx.n < 4096
 ok : ∃ v1 m1 v2 m2 v3 m3 v4 m4, evOkV v4 m4 = true ∧ m1.lg = [] ∧ m2.lg = [] ∧ m3.lg = [] ∧ m4.lg = [] ∧ Ev.CallOk Ev.P tx Ev.TY 49 (Ev.arg0 tx) ⟨.e, 0, []⟩ v1 m1 ∧ Ev.CallOk Ev.P tx Ev.TY 45 (Ev.arg2 6 v1) ⟨m1.h, m1.nx, []⟩ v2 m2 ∧ Ev.CallOk Ev.P tx Ev.TY 43 (Ev.arg2 1 v2) ⟨m2.h, m2.nx, []⟩ v3 m3 ∧ Ev.CallOk Ev.P tx Ev.TY 36 (Ev.arg2 1 v3) ⟨m3.h, m3.nx, []⟩ v4 m4
noncomputable def tiAt (k : Nat) : Ev.TI := (Ev.T.get Ev.TY k).getD ⟨0, 0, .str⟩
theorem ty_ok : Ev.chkT Ev.P Ev.TY (fun k => k) = true := by decide +kernel
theorem nm_ok : Ev.chkN Ev.P.funcs.toList = true := by decide +kernel
theorem mx_ok : Ev.P.follows .mixedOrders = true := by decide +kernel
theorem tyT : ∀ t ti, Ev.TY.get t = some ti → Ev.tiOf Ev.P t = some ti := Ev.chkT_t ty_ok
theorem nmT : ∀ (f : FuncId) (fn : Func), Ev.P.funcs[f]? = some fn → (fn.name == "runtime.NumGoroutine") = false := fun f fn h => Ev.chkN_t nm_ok fn (by
  obtain ⟨hl, rfl⟩ := Array.getElem?_eq_some_iff.1 h
  exact Array.getElem_mem_toList hl)
theorem sigP (tx : Ev.Tx) : Ev.Sig (evE tx) 49 Tryz.f49 [tiAt 9] [tiAt 66, tiAt 3] := ⟨Tryz.func49, by kernel_rfl, by kernel_rfl⟩
theorem sigC (tx : Ev.Tx) : Ev.Sig (evE tx) 45 Tryz.f45 [tiAt 66] [tiAt 75, tiAt 4] := ⟨Tryz.func45, by kernel_rfl, by kernel_rfl⟩
theorem sigG (tx : Ev.Tx) : Ev.Sig (evE tx) 43 Tryz.f43 [tiAt 75] [tiAt 24, tiAt 4] := ⟨Tryz.func43, by kernel_rfl, by kernel_rfl⟩
theorem sigY (tx : Ev.Tx) : Ev.Sig (evE tx) 36 Tryz.f36 [tiAt 24] [tiAt 24] := ⟨Tryz.func36, by kernel_rfl, by kernel_rfl⟩
theorem tiS : (tiAt 9).k = .str ∧ (tiAt 9).sz = 1 := ⟨by kernel_rfl, by kernel_rfl⟩
theorem tiP : Ev.shOf (tiAt 66) = .g 6 ∧ (tiAt 66).sz = 6 := ⟨by kernel_rfl, by kernel_rfl⟩
theorem tiK : Ev.shOf (tiAt 75) = .c ∧ (tiAt 75).sz = 1 := ⟨by kernel_rfl, by kernel_rfl⟩
theorem tiF : Ev.shOf (tiAt 24) = .c ∧ (tiAt 24).sz = 1 := ⟨by kernel_rfl, by kernel_rfl⟩
theorem shP1 : Ev.retSh [tiAt 66, tiAt 3] = .t [(6, true), (1, false)] := by kernel_rfl
theorem shC1 : Ev.retSh [tiAt 75, tiAt 4] = .t [(1, false), (1, false)] := by kernel_rfl
theorem shG1 : Ev.retSh [tiAt 24, tiAt 4] = .t [(1, false), (1, false)] := by kernel_rfl
theorem shY1 : Ev.retSh [tiAt 24] = .c := tiF.1
theorem txt4_of {tx : Ev.Tx} (n1 : 8 < tx.n) (n2 : tx.n < 4096) (h : Ev.chainV (evE tx) 3000 49 45 43 36 6 evYes evYes evYes evOkV = true) : Txt4 tx := by
 obtain ⟨v1, m1, v2, m2, v3, m3, v4, m4, _, _, _, h3, g1, g2, g3, g4, k1, k2, k3, k4⟩ := Ev.chainV_t (E := evE tx) tyT nmT mx_ok h (sigP tx) (sigC tx) (sigG tx) (sigY tx) tiS.1 tiS.2 n1 n2 shP1 rfl tiP.1 tiP.2 shC1 rfl tiK.1 tiK.2 shG1 rfl tiF.1 tiF.2
 exact ⟨n1, n2, v1, m1, v2, m2, v3, m3, v4, m4, h3, g1, g2, g3, g4, k1, k2, k3, k4⟩
end Go.Proofs.YtehpobojopmilaaGreat
