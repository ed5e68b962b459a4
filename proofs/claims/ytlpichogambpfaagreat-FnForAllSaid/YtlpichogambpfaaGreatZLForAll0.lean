/- Texts of the claim LForAll in one: Mem GTy GTyped EvJ EvJ2 EvJ3 Bx EwO EwP EvL. Conditions: none but bounds on sizes. -/
import Derived.WalkKit
import Derived.Test.YtlpichogambpfaaGreatZE6
import Derived.Deep.AppendSrc
import Derived.Laws.AppendOwn
namespace Go.Proofs.YtlpichogambpfaaGreat
set_option maxRecDepth 20000
set_option linter.unusedVariables false
set_option linter.unusedSimpArgs false
open Go.RowKit
inductive D where
 | num (k : IntKind) (n : Int)
 | str (s : ByteArray)
 | bool (b : Bool)
 | agg (fs : List D)
 | sl (size : Nat) (xs : List D)
mutual
def D.rd (w : World) (S : Nat → Prop) : D → List Value → Prop
 | .num k n, cs => cs = [.int k n] ∧ (Lit.int k n).wf = true
 | .str s, cs => cs = [.string s] ∧ s.size ≤ maxLen
 | .bool b, cs => cs = [.bool b]
 | .agg fs, cs => D.rdF w S fs cs
 | .sl size xs, cs => ∃ A c, cs = [.slice A xs.length c] ∧ xs.length ≤ c ∧ c ≤ maxLen ∧ (xs = [] ∨ ∃ b off, A = some ⟨b, off, none⟩ ∧ S b ∧ D.rdR w S size b xs off)
def D.rdF (w : World) (S : Nat → Prop) : List D → List Value → Prop
 | [], cs => cs = []
 | d :: r, cs => ∃ c1 c2, cs = c1 ++ c2 ∧ D.rd w S d c1 ∧ D.rdF w S r c2
def D.rdR (w : World) (S : Nat → Prop) (size b : Nat) : List D → Nat → Prop
 | [], _ => True
 | d :: r, off => (∃ cs, cs.length = size ∧ (∀ j v, cs[j]? = some v → w.cell? ⟨b, off + j, none⟩ = some v) ∧ D.rd w S d cs) ∧ D.rdR w S size b r (off + size)
end
mutual
def D.own (w : World) : D → (Nat → Prop) → List Value → Prop
 | .num k n, _, cs => cs = [.int k n] ∧ (Lit.int k n).wf = true
 | .str s, _, cs => cs = [.string s] ∧ s.size ≤ maxLen
 | .bool b, _, cs => cs = [.bool b]
 | .agg fs, S, cs => D.ownF w fs S cs
 | .sl size xs, S, cs => ∃ A c, cs = [.slice A xs.length c] ∧ xs.length ≤ c ∧ c ≤ maxLen ∧ (xs = [] ∨ ∃ b, A = some ⟨b, 0, none⟩ ∧ S b ∧ (∀ o, w.frozen? ⟨b, o, none⟩ = false) ∧ D.ownR w size b xs (fun x => S x ∧ x ≠ b) 0)
def D.ownF (w : World) : List D → (Nat → Prop) → List Value → Prop
 | [], _, cs => cs = []
 | d :: r, S, cs => ∃ (S1 S2 : Nat → Prop) (c1 c2 : List Value), (∀ x, S1 x → S x ∧ ¬ S2 x) ∧ (∀ x, S2 x → S x) ∧ cs = c1 ++ c2 ∧ D.own w d S1 c1 ∧ D.ownF w r S2 c2
def D.ownR (w : World) (size b : Nat) : List D → (Nat → Prop) → Nat → Prop
 | [], _, _ => True
 | d :: r, S, off => ∃ (S1 S2 : Nat → Prop) (cs : List Value), (∀ x, S1 x → S x ∧ ¬ S2 x) ∧ (∀ x, S2 x → S x) ∧ cs.length = size ∧ (∀ j v, cs[j]? = some v → w.cell? ⟨b, off + j, none⟩ = some v) ∧ D.own w d S1 cs ∧ D.ownR w size b r S2 (off + size)
end
mutual
theorem D.rd_keep {w w' : World} {S S' : Nat → Prop} (h : ∀ b, S b → S' b ∧ w'.heap[b]? = w.heap[b]?) : ∀ (d : D) (cs : List Value), d.rd w S cs → d.rd w' S' cs
 | .num _ _, _, hd => by simpa only [D.rd] using hd
 | .str _, _, hd => by simpa only [D.rd] using hd
 | .bool _, _, hd => by simpa only [D.rd] using hd
 | .agg fs, cs, hd => by
  simp only [D.rd] at hd ⊢
  exact D.rdF_keep h fs cs hd
 | .sl size xs, cs, hd => by
  simp only [D.rd] at hd ⊢
  obtain ⟨A, c, h1, h2, h3, h4⟩ := hd
  refine ⟨A, c, h1, h2, h3, ?_⟩
  rcases h4 with h4 | ⟨b, off, e, hS, hr⟩
  · exact .inl h4
  · exact .inr ⟨b, off, e, (h b hS).1, D.rdR_keep h size b hS xs off hr⟩
theorem D.rdF_keep {w w' : World} {S S' : Nat → Prop} (h : ∀ b, S b → S' b ∧ w'.heap[b]? = w.heap[b]?) : ∀ (fs : List D) (cs : List Value), D.rdF w S fs cs → D.rdF w' S' fs cs
 | [], _, hd => by simpa only [D.rdF] using hd
 | d :: r, cs, hd => by
  simp only [D.rdF] at hd ⊢
  obtain ⟨c1, c2, e, h1, h2⟩ := hd
  exact ⟨c1, c2, e, D.rd_keep h d c1 h1, D.rdF_keep h r c2 h2⟩
theorem D.rdR_keep {w w' : World} {S S' : Nat → Prop} (h : ∀ b, S b → S' b ∧ w'.heap[b]? = w.heap[b]?) (size b : Nat) (hb : S b) : ∀ (xs : List D) (off : Nat), D.rdR w S size b xs off → D.rdR w' S' size b xs off
 | [], _, _ => by simp only [D.rdR]
 | d :: r, off, hd => by
  simp only [D.rdR] at hd ⊢
  obtain ⟨⟨cs, h1, h2, h3⟩, h4⟩ := hd
  exact ⟨⟨cs, h1, fun j v hj => (World.cell?_of_block (h b hb).2).trans (h2 j v hj), D.rd_keep h d cs h3⟩, D.rdR_keep h size b hb r (off + size) h4⟩
end
theorem D.rdR_get {w : World} {S : Nat → Prop} {size b : Nat} : ∀ {xs : List D} {off : Nat}, D.rdR w S size b xs off → ∀ (i : Nat) (h : i < xs.length),
 ∃ cs, cs.length = size ∧ (∀ j v, cs[j]? = some v → w.cell? ⟨b, off + i * size + j, none⟩ = some v) ∧ (xs[i]).rd w S cs
 | [], _, _, i, h => by simp at h
 | d :: r, off, hr, i, h => by
  simp only [D.rdR] at hr
  match i with
  | 0 => obtain ⟨⟨cs, h1, h2, h3⟩, _⟩ := hr; exact ⟨cs, h1, by simpa using h2, h3⟩
  | i + 1 =>
   obtain ⟨cs, h1, h2, h3⟩ := D.rdR_get hr.2 i (by simpa using h)
   refine ⟨cs, h1, fun j v hj => ?_, by simpa using h3⟩
   rw [← h2 j v hj]
   congr 2
   rw [Nat.add_mul]; omega
theorem D.rdR_mk {w : World} {S : Nat → Prop} {size b : Nat} : ∀ {xs : List D} {off : Nat}, (∀ (i : Nat) (h : i < xs.length),
    ∃ cs, cs.length = size ∧ (∀ j v, cs[j]? = some v → w.cell? ⟨b, off + i * size + j, none⟩ = some v) ∧ (xs[i]).rd w S cs) → D.rdR w S size b xs off
 | [], _, _ => by simp only [D.rdR]
 | d :: r, off, hr => by
  simp only [D.rdR]
  refine ⟨?_, D.rdR_mk fun i h => ?_⟩
  · obtain ⟨cs, h1, h2, h3⟩ := hr 0 (by simp)
    exact ⟨cs, h1, by simpa using h2, h3⟩
  · obtain ⟨cs, h1, h2, h3⟩ := hr (i + 1) (by simpa using h)
    refine ⟨cs, h1, fun j v hj => ?_, by simpa using h3⟩
    rw [← h2 j v hj]
    congr 2
    rw [Nat.add_mul]; omega
def Sl (w : World) (S : Nat → Prop) (size : Nat) (A : Option Addr) (c : Nat) (xs : List D) : Prop :=
 xs.length ≤ c ∧ c ≤ maxLen ∧ (xs = [] ∨ ∃ b off, A = some ⟨b, off, none⟩ ∧ S b ∧ D.rdR w S size b xs off)
theorem Sl.keep {w w' : World} {S S' : Nat → Prop} {size : Nat} {A : Option Addr} {c : Nat} {xs : List D} (hs : Sl w S size A c xs) (h : ∀ b, S b → S' b ∧ w'.heap[b]? = w.heap[b]?) : Sl w' S' size A c xs := by
 obtain ⟨h1, h2, h3⟩ := hs
 refine ⟨h1, h2, ?_⟩
 rcases h3 with h3 | ⟨b, off, e, hS, hr⟩
 · exact .inl h3
 · exact .inr ⟨b, off, e, (h b hS).1, D.rdR_keep h size b hS xs off hr⟩
theorem D.rd_num {w : World} {S : Nat → Prop} {k : IntKind} {n : Int} {cs : List Value} : (D.num k n).rd w S cs ↔ cs = [.int k n] ∧ (Lit.int k n).wf = true := by simp only [D.rd]
theorem D.rd_str {w : World} {S : Nat → Prop} {s : ByteArray} {cs : List Value} : (D.str s).rd w S cs ↔ cs = [.string s] ∧ s.size ≤ maxLen := by simp only [D.rd]
theorem D.rd_bool {w : World} {S : Nat → Prop} {b : Bool} {cs : List Value} : (D.bool b).rd w S cs ↔ cs = [.bool b] := by simp only [D.rd]
theorem D.rd_sl {w : World} {S : Nat → Prop} {size : Nat} {xs : List D} {cs : List Value} : (D.sl size xs).rd w S cs ↔ ∃ A c, cs = [.slice A xs.length c] ∧ Sl w S size A c xs := by
 simp only [D.rd, Sl]
theorem D.rd_agg {w : World} {S : Nat → Prop} {fs : List D} {cs : List Value} : (D.agg fs).rd w S cs ↔ D.rdF w S fs cs := by simp only [D.rd]
theorem D.rdF_nil {w : World} {S : Nat → Prop} {cs : List Value} : D.rdF w S [] cs ↔ cs = [] := by simp only [D.rdF]
theorem D.rdF_cons {w : World} {S : Nat → Prop} {d : D} {r : List D} {cs : List Value} : D.rdF w S (d :: r) cs ↔ ∃ c1 c2, cs = c1 ++ c2 ∧ D.rd w S d c1 ∧ D.rdF w S r c2 := by simp only [D.rdF]
theorem Sl.get {w : World} {S : Nat → Prop} {size : Nat} {A : Option Addr} {c : Nat} {xs : List D} (hs : Sl w S size A c xs) (i : Nat) (h : i < xs.length) :
 ∃ b off cs, A = some ⟨b, off, none⟩ ∧ S b ∧ cs.length = size ∧ (∀ j v, cs[j]? = some v → w.cell? ⟨b, off + i * size + j, none⟩ = some v) ∧ (xs[i]).rd w S cs := by
 obtain ⟨_, _, h3 | ⟨b, off, e, hS, hr⟩⟩ := hs
 · rw [h3] at h; simp at h
 · obtain ⟨cs, g1, g2, g3⟩ := D.rdR_get hr i h
   exact ⟨b, off, cs, e, hS, g1, g2, g3⟩
theorem Sl.nil {w : World} {S : Nat → Prop} {size : Nat} {A : Option Addr} {c : Nat} (hc : c ≤ maxLen) : Sl w S size A c [] := ⟨by simp, hc, .inl rfl⟩
theorem Sl.len {w : World} {S : Nat → Prop} {size : Nat} {A : Option Addr} {c : Nat} {xs : List D} (hs : Sl w S size A c xs) : xs.length ≤ 9223372036854775807 := by
 have := hs.1; have := hs.2.1; unfold maxLen at *; omega
mutual
theorem D.own_keep {w w' : World} : ∀ (d : D) (S S' : Nat → Prop) (cs : List Value), (∀ b, S b → S' b ∧ w'.heap[b]? = w.heap[b]?) → d.own w S cs → d.own w' S' cs
 | .num _ _, _, _, _, _, hd => by simpa only [D.own] using hd
 | .str _, _, _, _, _, hd => by simpa only [D.own] using hd
 | .bool _, _, _, _, _, hd => by simpa only [D.own] using hd
 | .agg fs, S, S', cs, h, hd => by
  simp only [D.own] at hd ⊢
  exact D.ownF_keep fs S S' cs h hd
 | .sl size xs, S, S', cs, h, hd => by
  simp only [D.own] at hd ⊢
  obtain ⟨A, c, h1, h2, h3, h4⟩ := hd
  refine ⟨A, c, h1, h2, h3, ?_⟩
  rcases h4 with h4 | ⟨b, e, hS, hf, hr⟩
  · exact .inl h4
  · exact .inr ⟨b, e, (h b hS).1, fun o => (World.frozen?_of_block (h b hS).2).trans (hf o), D.ownR_keep size b xs _ _ 0 (fun x hx => ⟨⟨(h x hx.1).1, hx.2⟩, (h x hx.1).2⟩) (fun j _ => World.cell?_of_block (h b hS).2) hr⟩
theorem D.ownF_keep {w w' : World} : ∀ (fs : List D) (S S' : Nat → Prop) (cs : List Value), (∀ b, S b → S' b ∧ w'.heap[b]? = w.heap[b]?) → D.ownF w fs S cs → D.ownF w' fs S' cs
 | [], _, _, _, _, hd => by simpa only [D.ownF] using hd
 | d :: r, S, S', cs, h, hd => by
  simp only [D.ownF] at hd ⊢
  obtain ⟨S1, S2, c1, c2, g1, g2, e, h1, h2⟩ := hd
  exact ⟨S1, S2, c1, c2, fun x hx => ⟨(h x (g1 x hx).1).1, (g1 x hx).2⟩, fun x hx => (h x (g2 x hx)).1, e, D.own_keep d S1 S1 c1 (fun b hb => ⟨hb, (h b (g1 b hb).1).2⟩) h1, D.ownF_keep r S2 S2 c2 (fun b hb => ⟨hb, (h b (g2 b hb)).2⟩) h2⟩
theorem D.ownR_keep {w w' : World} (size b : Nat) : ∀ (xs : List D) (S S' : Nat → Prop) (off : Nat), (∀ b, S b → S' b ∧ w'.heap[b]? = w.heap[b]?) → (∀ j, j < off + xs.length * size → w'.cell? ⟨b, j, none⟩ = w.cell? ⟨b, j, none⟩) →
 D.ownR w size b xs S off → D.ownR w' size b xs S' off
 | [], _, _, _, _, _, _ => by simp only [D.ownR]
 | d :: r, S, S', off, h, hc, hd => by
  simp only [D.ownR] at hd ⊢
  obtain ⟨S1, S2, cs, g1, g2, h1, h2, h3, h4⟩ := hd
  have hlen : (d :: r).length * size = r.length * size + size := by rw [List.length_cons, Nat.add_mul, Nat.one_mul]
  refine ⟨S1, S2, cs, fun x hx => ⟨(h x (g1 x hx).1).1, (g1 x hx).2⟩, fun x hx => (h x (g2 x hx)).1, h1, fun j v hj => ?_, D.own_keep d S1 S1 cs (fun b hb => ⟨hb, (h b (g1 b hb).1).2⟩) h3,
    D.ownR_keep size b r S2 S2 (off + size) (fun b hb => ⟨hb, (h b (g2 b hb)).2⟩) (fun j hj => hc j (by rw [hlen]; omega)) h4⟩
  have hjl : j < cs.length := (List.getElem?_eq_some_iff.1 hj).1
  rw [hc (off + j) (by rw [hlen]; omega)]
  exact h2 j v hj
end
mutual
theorem D.own_rd {w : World} : ∀ (d : D) (S : Nat → Prop) (cs : List Value), d.own w S cs → d.rd w S cs
 | .num _ _, _, _, hd => by simpa only [D.own, D.rd] using hd
 | .str _, _, _, hd => by simpa only [D.own, D.rd] using hd
 | .bool _, _, _, hd => by simpa only [D.own, D.rd] using hd
 | .agg fs, S, cs, hd => by
  simp only [D.own, D.rd] at hd ⊢
  exact D.ownF_rd fs S cs hd
 | .sl size xs, S, cs, hd => by
  simp only [D.own, D.rd] at hd ⊢
  obtain ⟨A, c, h1, h2, h3, h4⟩ := hd
  refine ⟨A, c, h1, h2, h3, ?_⟩
  rcases h4 with h4 | ⟨b, e, hS, hf, hr⟩
  · exact .inl h4
  · exact .inr ⟨b, 0, e, hS, D.rdR_keep (S := fun x => S x) (fun x hx => ⟨hx, rfl⟩) size b hS xs 0 (D.ownR_rd size b xs _ S 0 (fun x hx => hx.1) hr)⟩
theorem D.ownF_rd {w : World} : ∀ (fs : List D) (S : Nat → Prop) (cs : List Value), D.ownF w fs S cs → D.rdF w S fs cs
 | [], _, _, hd => by simpa only [D.ownF, D.rdF] using hd
 | d :: r, S, cs, hd => by
  simp only [D.ownF, D.rdF] at hd ⊢
  obtain ⟨S1, S2, c1, c2, g1, g2, e, h1, h2⟩ := hd
  exact ⟨c1, c2, e, D.rd_keep (fun b hb => ⟨(g1 b hb).1, rfl⟩) d c1 (D.own_rd d S1 c1 h1), D.rdF_keep (fun b hb => ⟨g2 b hb, rfl⟩) r c2 (D.ownF_rd r S2 c2 h2)⟩
theorem D.ownR_rd {w : World} (size b : Nat) : ∀ (xs : List D) (S T : Nat → Prop) (off : Nat), (∀ x, S x → T x) → D.ownR w size b xs S off → D.rdR w T size b xs off
 | [], _, _, _, _, _ => by simp only [D.rdR]
 | d :: r, S, T, off, hT, hd => by
  simp only [D.ownR, D.rdR] at hd ⊢
  obtain ⟨S1, S2, cs, g1, g2, h1, h2, h3, h4⟩ := hd
  exact ⟨⟨cs, h1, h2, D.rd_keep (fun b hb => ⟨hT b (g1 b hb).1, rfl⟩) d cs (D.own_rd d S1 cs h3)⟩, D.ownR_rd size b r S2 T (off + size) (fun x hx => hT x (g2 x hx)) h4⟩
end
def Osl (w : World) (S : Nat → Prop) (size : Nat) (A : Option Addr) (c : Nat) (xs : List D) : Prop :=
 xs.length ≤ c ∧ c ≤ maxLen ∧ (xs = [] ∨ ∃ b, A = some ⟨b, 0, none⟩ ∧ S b ∧ (∀ o, w.frozen? ⟨b, o, none⟩ = false) ∧ D.ownR w size b xs (fun x => S x ∧ x ≠ b) 0)
theorem D.own_num {w : World} {S : Nat → Prop} {k : IntKind} {n : Int} {cs : List Value} : (D.num k n).own w S cs ↔ cs = [.int k n] ∧ (Lit.int k n).wf = true := by simp only [D.own]
theorem D.own_str {w : World} {S : Nat → Prop} {s : ByteArray} {cs : List Value} : (D.str s).own w S cs ↔ cs = [.string s] ∧ s.size ≤ maxLen := by simp only [D.own]
theorem D.own_sl {w : World} {S : Nat → Prop} {size : Nat} {xs : List D} {cs : List Value} : (D.sl size xs).own w S cs ↔ ∃ A c, cs = [.slice A xs.length c] ∧ Osl w S size A c xs := by
 simp only [D.own, Osl]
theorem D.own_agg {w : World} {S : Nat → Prop} {fs : List D} {cs : List Value} : (D.agg fs).own w S cs ↔ D.ownF w fs S cs := by simp only [D.own]
theorem D.ownF_plain {w : World} {S : Nat → Prop} {d : D} {r : List D} {c1 c2 : List Value} (h : d.own w (fun _ => False) c1) (h2 : D.ownF w r S c2) : D.ownF w (d :: r) S (c1 ++ c2) := by
 simp only [D.ownF]
 exact ⟨fun _ => False, S, c1, c2, fun x hx => hx.elim, fun x hx => hx, rfl, h, h2⟩
theorem D.ownF_last {w : World} {S : Nat → Prop} {d : D} {c1 : List Value} (h : d.own w S c1) : D.ownF w [d] S c1 := by
 simp only [D.ownF]
 exact ⟨S, fun _ => False, c1, [], fun x hx => ⟨hx, fun h => h⟩, fun x hx => hx.elim, by simp, h, rfl⟩
theorem Osl.keep {w w' : World} {S S' : Nat → Prop} {size : Nat} {A : Option Addr} {c : Nat} {xs : List D} (hs : Osl w S size A c xs) (h : ∀ b, S b → S' b ∧ w'.heap[b]? = w.heap[b]?) : Osl w' S' size A c xs := by
 obtain ⟨h1, h2, h3⟩ := hs
 refine ⟨h1, h2, ?_⟩
 rcases h3 with h3 | ⟨b, e, hS, hf, hr⟩
 · exact .inl h3
 · exact .inr ⟨b, e, (h b hS).1, fun o => (World.frozen?_of_block (h b hS).2).trans (hf o), D.ownR_keep size b xs _ _ 0 (fun x hx => ⟨⟨(h x hx.1).1, hx.2⟩, (h x hx.1).2⟩) (fun j _ => World.cell?_of_block (h b hS).2) hr⟩
theorem Osl.sl {w : World} {S : Nat → Prop} {size : Nat} {A : Option Addr} {c : Nat} {xs : List D} (hs : Osl w S size A c xs) : Sl w S size A c xs := by
 obtain ⟨h1, h2, h3⟩ := hs
 refine ⟨h1, h2, ?_⟩
 rcases h3 with h3 | ⟨b, e, hS, hf, hr⟩
 · exact .inl h3
 · exact .inr ⟨b, 0, e, hS, D.ownR_rd size b xs _ S 0 (fun x hx => hx.1) hr⟩
theorem Osl.nil {w : World} {S : Nat → Prop} {size : Nat} {A : Option Addr} {c : Nat} (hc : c ≤ maxLen) : Osl w S size A c [] := ⟨by simp, hc, .inl rfl⟩
def Lt (B : Nat) : Nat → Prop := fun b => b < B
def Btw (B B' : Nat) : Nat → Prop := fun b => B ≤ b ∧ b < B'
theorem keep_below {w w' : World} {B B' : Nat} (h : Below B w w') (hB : B ≤ B') : ∀ b, Lt B b → Lt B' b ∧ w'.heap[b]? = w.heap[b]? :=
 fun b hb => ⟨Nat.lt_of_lt_of_le hb hB, h.block b hb⟩
theorem Sl.below {w w' : World} {B B' : Nat} {size : Nat} {A : Option Addr} {c : Nat} {xs : List D} (hs : Sl w (Lt B) size A c xs) (h : Below B w w') (hB : B ≤ B') : Sl w' (Lt B') size A c xs :=
 hs.keep (keep_below h hB)
theorem Osl.slLt {w : World} {B B' : Nat} {size : Nat} {A : Option Addr} {c : Nat} {xs : List D} (hs : Osl w (Btw B B') size A c xs) : Sl w (Lt B') size A c xs :=
 hs.sl.keep fun b hb => ⟨hb.2, rfl⟩
def Row (w : World) (g : Nat) (t : TypeId) (cs : Array Value) : Prop := w.heap[g]? = some (.cells cs t (0, 0))
theorem Row.cell {w : World} {g : Nat} {t : TypeId} {cs : Array Value} (h : Row w g t cs) (i : Nat) : w.cell? ⟨g, i, none⟩ = cs[i]? := cell_of_row w g i cs t (0, 0) h
theorem Row.frozen {w : World} {g : Nat} {t : TypeId} {cs : Array Value} (h : Row w g t cs) (i : Nat) : w.frozen? ⟨g, i, none⟩ = false := by
 unfold Row at h
 simp [World.frozen?, h]
theorem Row.new (w : World) (t : TypeId) (cs : Array Value) : Row (w.alloc (.cells cs t)) w.heap.size t cs := heap_alloc_new w _
theorem Row.new' (w : World) (t : TypeId) (cs : Array Value) {g : Nat} (hg : g = w.heap.size) : Row (w.alloc (.cells cs t)) g t cs := by subst hg; exact Row.new w t cs
theorem Row.lt {w : World} {g : Nat} {t : TypeId} {cs : Array Value} (h : Row w g t cs) : g < w.heap.size := by
 rcases Nat.lt_or_ge g w.heap.size with hlt | hge
 · exact hlt
 · unfold Row at h; rw [Array.getElem?_eq_none hge] at h; cases h
theorem Row.set {w : World} {g : Nat} {t : TypeId} {cs : Array Value} (h : Row w g t cs) (i : Nat) (u : Value) : Row (w.setCell ⟨g, i, none⟩ u) g t (cs.setIfInBounds i u) := by
 unfold Row at h ⊢
 simp [World.setCell, Array.getElem?_modify, h]
theorem Row.alloc {w : World} {g : Nat} {t : TypeId} {cs : Array Value} (h : Row w g t cs) (o : Obj) : Row (w.alloc o) g t cs := (Below.heap_alloc w o g h.lt).trans h
theorem Row.far {w : World} {g : Nat} {t : TypeId} {cs : Array Value} (h : Row w g t cs) {p : Addr} (hp : g ≠ p.block) (u : Value) : Row (w.setCell p u) g t cs := (Below.heap_setCell w p u g hp).trans h
theorem Row.below {B : Nat} {w w' : World} {g : Nat} {t : TypeId} {cs : Array Value} (h : Row w g t cs) (hb : Below B w w') (hg : g < B) : Row w' g t cs := (hb.block g hg).trans h
def setCells (w : World) (g k : Nat) : List Value → World
 | [] => w
 | v :: r => setCells (w.setCell ⟨g, k, none⟩ v) g (k + 1) r
theorem setCells_size (w : World) (g k : Nat) (vs : List Value) : (setCells w g k vs).heap.size = w.heap.size := by
 induction vs generalizing w k with
 | nil => rfl
 | cons v r ih => simp only [setCells]; rw [ih]; simp [World.setCell]
theorem setCells_block (w : World) (g k : Nat) (vs : List Value) (b : Nat) (hb : b ≠ g) : (setCells w g k vs).heap[b]? = w.heap[b]? := by
 induction vs generalizing w k with
 | nil => rfl
 | cons v r ih => simp only [setCells]; rw [ih]; exact Below.heap_setCell w ⟨g, k, none⟩ v b hb
theorem setCells_below {B : Nat} {a w : World} (h : Below B a w) (g k : Nat) (hg : B ≤ g) (vs : List Value) : Below B a (setCells w g k vs) := by
 induction vs generalizing w k with
 | nil => exact h
 | cons v r ih => simp only [setCells]; exact ih (h.setCell hg v) (k + 1)
theorem setCells_row {w : World} {g : Nat} {t : TypeId} {row : Array Value} (h : Row w g t row) (k : Nat) (vs : List Value) :
 ∃ row', Row (setCells w g k vs) g t row' ∧ row'.size = row.size ∧ (∀ i, i < k ∨ k + vs.length ≤ i → row'[i]? = row[i]?) ∧ (∀ i v, vs[i]? = some v → k + i < row.size → row'[k + i]? = some v) := by
 induction vs generalizing w k row with
 | nil => exact ⟨row, h, rfl, fun _ _ => rfl, fun i v hv => by simp at hv⟩
 | cons v r ih =>
  obtain ⟨row', h1, h2, h3, h4⟩ := ih (h.set k v) (k + 1)
  refine ⟨row', h1, by rw [h2]; simp, fun i hi => ?_, fun i u hu hl => ?_⟩
  · rw [h3 i (by simp only [List.length_cons] at hi; omega)]
    rw [Array.getElem?_setIfInBounds]
    simp only [List.length_cons] at hi
    rw [if_neg (by omega)]
  ·
   match i with
   | 0 =>
    have hv : v = u := by simpa using hu
    subst hv
    rw [h3 (k + 0) (by omega)]
    rw [Array.getElem?_setIfInBounds]
    have hk : k < row.size := by omega
    simp [hk]
   | i + 1 =>
    have := h4 i u (by simpa using hu) (by simp; omega)
    rwa [show k + 1 + i = k + (i + 1) from by omega] at this
theorem take_snoc' {α : Type} (l : List α) (j : Nat) (h : j < l.length) : l.take (j + 1) = l.take j ++ [l[j]] := by
 rw [List.take_succ_eq_append_getElem h]
theorem enters {P : Program} {K : FuncId} {fn : Func} (h : P.funcs[K]? = some fn) (h1 : (fn.name == "runtime.NumGoroutine") = false) (h2 : fn.body.isNone = false) (args : Array Value) (w : World) :
 (callFunc K args).run P w = .ok (.enter K args) w := by
 have e1 : ¬ fn.name = "runtime.NumGoroutine" := by simpa using h1
 have e2 : ¬ fn.body = none := by intro e; rw [e] at h2; cases h2
 simp [callFunc, h, e1, e2]
def bulkL {α : Type} (f : α → Nat) : List α → Nat
 | [] => 0
 | t :: r => 1 + f t + bulkL f r
theorem bulkL_take_le {α : Type} (f : α → Nat) (l : List α) (i : Nat) (h : i ≤ l.length) : bulkL f (l.take i) + (l.length - i) ≤ bulkL f l := by
 induction l generalizing i with
 | nil => simp [bulkL]
 | cons t r ih =>
  match i with
  | 0 => simp only [List.take_zero, bulkL, List.length_cons]; have := ih 0 (by omega); simp only [List.take_zero, bulkL] at this; omega
  | i + 1 => simp only [List.take_succ_cons, bulkL, List.length_cons]; have := ih i (by simpa using h); omega
theorem bulkL_take_ge {α : Type} (f : α → Nat) (l : List α) (i : Nat) (h : i ≤ l.length) : i ≤ bulkL f (l.take i) := by
 induction l generalizing i with
 | nil => simp at h; simp [h]
 | cons t r ih =>
  match i with
  | 0 => simp
  | i + 1 => simp only [List.take_succ_cons, bulkL]; have := ih i (by simpa using h); omega
theorem bulkL_mem {α : Type} (f : α → Nat) (l : List α) (t : α) (h : t ∈ l) : f t + 1 ≤ bulkL f l := by
 induction l with
 | nil => cases h
 | cons x r ih =>
  simp only [bulkL]
  cases h with
  | head => omega
  | tail _ h => have := ih h; omega
theorem bulkL_len {α : Type} (f : α → Nat) (l : List α) : l.length ≤ bulkL f l := by
 have := bulkL_take_ge f l l.length (Nat.le_refl _); rwa [List.take_length] at this
inductive GTy where
 | mk (op : Int) (n : Int) (s : ByteArray) (kids : List GTy)
def GTy.op : GTy → Int | .mk x _ _ _ => x
def GTy.n : GTy → Int | .mk _ x _ _ => x
def GTy.s : GTy → ByteArray | .mk _ _ x _ => x
def GTy.kids : GTy → List GTy | .mk _ _ _ x => x
mutual
def GTy.toD : GTy → D | .mk op n s kids => .agg [.num .i64 op, .num .i64 n, .str s, .sl 4 (GTy.toDs kids)]
def GTy.toDs : List GTy → List D | [] => [] | t :: r => t.toD :: GTy.toDs r
end
theorem GTy.toDs_map : ∀ l : List GTy, GTy.toDs l = l.map GTy.toD
 | [] => rfl
 | t :: r => by simp only [GTy.toDs, List.map_cons, GTy.toDs_map r]
mutual
def GTy.bulk : GTy → Nat | .mk _ _ s kids => s.size + GTy.bulks kids
def GTy.bulks : List GTy → Nat | [] => 0 | t :: r => 1 + t.bulk + GTy.bulks r
end
theorem GTy.bulks_eq : ∀ l : List GTy, GTy.bulks l = bulkL GTy.bulk l
 | [] => rfl
 | t :: r => by simp only [GTy.bulks, bulkL, GTy.bulks_eq r]
theorem GTy.bulk_eq (t : GTy) : t.bulk = t.s.size + bulkL GTy.bulk t.kids := by
 cases t; simp only [GTy.bulk, GTy.bulks_eq, GTy.op, GTy.n, GTy.s, GTy.kids]
def GTy.At (w : World) (S : Nat → Prop) (A1 : Option Addr) (c1 : Nat) (t : GTy) : Prop :=
 (Lit.int .i64 t.op).wf = true ∧ (Lit.int .i64 t.n).wf = true ∧ t.s.size ≤ maxLen ∧ Sl w S 4 A1 c1 (t.kids.map GTy.toD)
theorem GTy.rd {w : World} {S : Nat → Prop} {t : GTy} {cs : List Value} (h : t.toD.rd w S cs) : ∃ A1 c1, cs = [.int .i64 t.op, .int .i64 t.n, .string t.s, .slice A1 t.kids.length c1] ∧ GTy.At w S A1 c1 t := by
 cases t with
 | mk op n s kids =>
 simp only [GTy.toD, GTy.toDs_map] at h
 rw [D.rd_agg] at h
 rw [D.rdF_cons] at h
 obtain ⟨x0, r0, rfl, k0, h⟩ := h
 obtain ⟨rfl, h0⟩ := D.rd_num.1 k0
 rw [D.rdF_cons] at h
 obtain ⟨x1, r1, rfl, k1, h⟩ := h
 obtain ⟨rfl, h1⟩ := D.rd_num.1 k1
 rw [D.rdF_cons] at h
 obtain ⟨x2, r2, rfl, k2, h⟩ := h
 obtain ⟨rfl, h2⟩ := D.rd_str.1 k2
 rw [D.rdF_cons] at h
 obtain ⟨x3, r3, rfl, k3, h⟩ := h
 obtain ⟨A1, c1, rfl, h3⟩ := D.rd_sl.1 k3
 obtain rfl := D.rdF_nil.1 h
 exact ⟨A1, c1, by simp [GTy.op, GTy.n, GTy.s, GTy.kids], h0, h1, h2, h3⟩
theorem GTy.rd_mk {w : World} {S : Nat → Prop} {t : GTy} {A1 : Option Addr} {c1 : Nat} (h : GTy.At w S A1 c1 t) : t.toD.rd w S [.int .i64 t.op, .int .i64 t.n, .string t.s, .slice A1 t.kids.length c1] := by
 cases t with
 | mk op n s kids =>
 simp only [GTy.toD, GTy.toDs_map]
 unfold GTy.At at h
 obtain ⟨h0, h1, h2, h3⟩ := h
 rw [D.rd_agg]
 exact D.rdF_cons.2 ⟨[_], [_, _, _], rfl, D.rd_num.2 ⟨rfl, h0⟩, D.rdF_cons.2 ⟨[_], [_, _], rfl, D.rd_num.2 ⟨rfl, h1⟩, D.rdF_cons.2 ⟨[_], [_], rfl, D.rd_str.2 ⟨rfl, h2⟩, D.rdF_cons.2 ⟨[_], [], rfl, D.rd_sl.2 ⟨A1, c1, by simp [GTy.kids], h3⟩, D.rdF_nil.2 rfl⟩⟩⟩⟩
theorem GTy.elem {w : World} {S : Nat → Prop} {A : Option Addr} {c : Nat} {l : List GTy} (h : Sl w S 4 A c (l.map GTy.toD)) (i : Nat) (hi : i < l.length) :
 ∃ b off A1 c1, A = some ⟨b, off, none⟩ ∧ S b ∧ w.cell? ⟨b, off + i * 4, none⟩ = some (.int .i64 l[i].op) ∧ w.cell? ⟨b, off + i * 4 + 1, none⟩ = some (.int .i64 l[i].n) ∧ w.cell? ⟨b, off + i * 4 + 2, none⟩ = some (.string l[i].s) ∧ w.cell? ⟨b, off + i * 4 + 3, none⟩ = some (.slice A1 l[i].kids.length c1) ∧ GTy.At w S A1 c1 l[i] := by
 obtain ⟨b, off, cs, e, hb, hl, hc, hr⟩ := Sl.get h i (by simpa using hi)
 rw [List.getElem_map] at hr
 obtain ⟨A1, c1, rfl, h1⟩ := GTy.rd hr
 exact ⟨b, off, A1, c1, e, hb, hc 0 _ rfl, hc 1 _ rfl, hc 2 _ rfl, hc 3 _ rfl, h1⟩
theorem GTy.At.keep {w w' : World} {S S' : Nat → Prop} {t : GTy} {A1 : Option Addr} {c1 : Nat} (h : GTy.At w S A1 c1 t) (hk : ∀ b, S b → S' b ∧ w'.heap[b]? = w.heap[b]?) : GTy.At w' S' A1 c1 t := by
 unfold GTy.At at h ⊢
 obtain ⟨h0, h1, h2, h3⟩ := h
 exact ⟨h0, h1, h2, h3.keep hk⟩
theorem GTy.At.below {w w' : World} {B B' : Nat} {t : GTy} {A1 : Option Addr} {c1 : Nat} (h : GTy.At w (Lt B) A1 c1 t) (hb : Below B w w') (hB : B ≤ B') : GTy.At w' (Lt B') A1 c1 t :=
 h.keep (keep_below hb hB)
def GTy.Ow (w : World) (S : Nat → Prop) (A1 : Option Addr) (c1 : Nat) (t : GTy) : Prop :=
 (Lit.int .i64 t.op).wf = true ∧ (Lit.int .i64 t.n).wf = true ∧ t.s.size ≤ maxLen ∧ Osl w S 4 A1 c1 (t.kids.map GTy.toD)
theorem GTy.own_mk {w : World} {S : Nat → Prop} {t : GTy} {A1 : Option Addr} {c1 : Nat} (h : GTy.Ow w S A1 c1 t) : t.toD.own w S [.int .i64 t.op, .int .i64 t.n, .string t.s, .slice A1 t.kids.length c1] := by
 cases t with
 | mk op n s kids =>
 simp only [GTy.toD, GTy.toDs_map]
 unfold GTy.Ow at h
 obtain ⟨h0, h1, h2, h3⟩ := h
 rw [D.own_agg]
 exact D.ownF_plain (c1 := [_]) (c2 := [_, _, _]) (D.own_num.2 ⟨rfl, h0⟩) (D.ownF_plain (c1 := [_]) (c2 := [_, _]) (D.own_num.2 ⟨rfl, h1⟩) (D.ownF_plain (c1 := [_]) (c2 := [_]) (D.own_str.2 ⟨rfl, h2⟩) (D.ownF_last (D.own_sl.2 ⟨A1, c1, by simp [GTy.kids], h3⟩))))
theorem GTy.Ow.keep {w w' : World} {S S' : Nat → Prop} {t : GTy} {A1 : Option Addr} {c1 : Nat} (h : GTy.Ow w S A1 c1 t) (hk : ∀ b, S b → S' b ∧ w'.heap[b]? = w.heap[b]?) : GTy.Ow w' S' A1 c1 t := by
 unfold GTy.Ow at h ⊢
 obtain ⟨h0, h1, h2, h3⟩ := h
 exact ⟨h0, h1, h2, h3.keep hk⟩
theorem GTy.Ow.at {w : World} {S : Nat → Prop} {t : GTy} {A1 : Option Addr} {c1 : Nat} (h : GTy.Ow w S A1 c1 t) : GTy.At w S A1 c1 t := by
 unfold GTy.Ow at h
 unfold GTy.At
 obtain ⟨h0, h1, h2, h3⟩ := h
 exact ⟨h0, h1, h2, h3.sl⟩
inductive GTyped where
 | mk (op : Int) (n : Int) (s : ByteArray) (t : ByteArray) (ty : GTy) (inst : List GTy) (vars : List Int) (kids : List GTyped)
def GTyped.op : GTyped → Int | .mk x _ _ _ _ _ _ _ => x
def GTyped.n : GTyped → Int | .mk _ x _ _ _ _ _ _ => x
def GTyped.s : GTyped → ByteArray | .mk _ _ x _ _ _ _ _ => x
def GTyped.t : GTyped → ByteArray | .mk _ _ _ x _ _ _ _ => x
def GTyped.ty : GTyped → GTy | .mk _ _ _ _ x _ _ _ => x
def GTyped.inst : GTyped → List GTy | .mk _ _ _ _ _ x _ _ => x
def GTyped.vars : GTyped → List Int | .mk _ _ _ _ _ _ x _ => x
def GTyped.kids : GTyped → List GTyped | .mk _ _ _ _ _ _ _ x => x
mutual
def GTyped.toD : GTyped → D | .mk op n s t ty inst vars kids => .agg [.num .i64 op, .num .i64 n, .str s, .str t, ty.toD, .sl 4 (inst.map GTy.toD), .sl 1 (vars.map (D.num .i64)), .sl 11 (GTyped.toDs kids)]
def GTyped.toDs : List GTyped → List D | [] => [] | t :: r => t.toD :: GTyped.toDs r
end
theorem GTyped.toDs_map : ∀ l : List GTyped, GTyped.toDs l = l.map GTyped.toD
 | [] => rfl
 | t :: r => by simp only [GTyped.toDs, List.map_cons, GTyped.toDs_map r]
mutual
def GTyped.bulk : GTyped → Nat | .mk _ _ s t ty inst vars kids => s.size + t.size + ty.bulk + bulkL GTy.bulk inst + vars.length + GTyped.bulks kids
def GTyped.bulks : List GTyped → Nat | [] => 0 | t :: r => 1 + t.bulk + GTyped.bulks r
end
theorem GTyped.bulks_eq : ∀ l : List GTyped, GTyped.bulks l = bulkL GTyped.bulk l
 | [] => rfl
 | t :: r => by simp only [GTyped.bulks, bulkL, GTyped.bulks_eq r]
theorem GTyped.bulk_eq (t : GTyped) : t.bulk = t.s.size + t.t.size + t.ty.bulk + bulkL GTy.bulk t.inst + t.vars.length + bulkL GTyped.bulk t.kids := by
 cases t; simp only [GTyped.bulk, GTyped.bulks_eq, GTyped.op, GTyped.n, GTyped.s, GTyped.t, GTyped.ty, GTyped.inst, GTyped.vars, GTyped.kids]
def GTyped.At (w : World) (S : Nat → Prop) (A1 : Option Addr) (c1 : Nat) (A2 : Option Addr) (c2 : Nat) (A3 : Option Addr) (c3 : Nat) (A4 : Option Addr) (c4 : Nat) (t : GTyped) : Prop :=
 (Lit.int .i64 t.op).wf = true ∧ (Lit.int .i64 t.n).wf = true ∧ t.s.size ≤ maxLen ∧ t.t.size ≤ maxLen ∧ GTy.At w S A1 c1 t.ty ∧ Sl w S 4 A2 c2 (t.inst.map GTy.toD) ∧ Sl w S 1 A3 c3 (t.vars.map (D.num .i64)) ∧ Sl w S 11 A4 c4 (t.kids.map GTyped.toD)
theorem GTyped.rd {w : World} {S : Nat → Prop} {t : GTyped} {cs : List Value} (h : t.toD.rd w S cs) : ∃ A1 c1 A2 c2 A3 c3 A4 c4, cs = [.int .i64 t.op, .int .i64 t.n, .string t.s, .string t.t, .int .i64 t.ty.op, .int .i64 t.ty.n, .string t.ty.s, .slice A1 t.ty.kids.length c1, .slice A2 t.inst.length c2, .slice A3 t.vars.length c3, .slice A4 t.kids.length c4] ∧ GTyped.At w S A1 c1 A2 c2 A3 c3 A4 c4 t := by
 cases t with
 | mk op n s t ty inst vars kids =>
 simp only [GTyped.toD, GTyped.toDs_map] at h
 rw [D.rd_agg] at h
 rw [D.rdF_cons] at h
 obtain ⟨x0, r0, rfl, k0, h⟩ := h
 obtain ⟨rfl, h0⟩ := D.rd_num.1 k0
 rw [D.rdF_cons] at h
 obtain ⟨x1, r1, rfl, k1, h⟩ := h
 obtain ⟨rfl, h1⟩ := D.rd_num.1 k1
 rw [D.rdF_cons] at h
 obtain ⟨x2, r2, rfl, k2, h⟩ := h
 obtain ⟨rfl, h2⟩ := D.rd_str.1 k2
 rw [D.rdF_cons] at h
 obtain ⟨x3, r3, rfl, k3, h⟩ := h
 obtain ⟨rfl, h3⟩ := D.rd_str.1 k3
 rw [D.rdF_cons] at h
 obtain ⟨x4, r4, rfl, k4, h⟩ := h
 obtain ⟨A1, c1, rfl, h4⟩ := GTy.rd k4
 rw [D.rdF_cons] at h
 obtain ⟨x5, r5, rfl, k5, h⟩ := h
 obtain ⟨A2, c2, rfl, h5⟩ := D.rd_sl.1 k5
 rw [D.rdF_cons] at h
 obtain ⟨x6, r6, rfl, k6, h⟩ := h
 obtain ⟨A3, c3, rfl, h6⟩ := D.rd_sl.1 k6
 rw [D.rdF_cons] at h
 obtain ⟨x7, r7, rfl, k7, h⟩ := h
 obtain ⟨A4, c4, rfl, h7⟩ := D.rd_sl.1 k7
 obtain rfl := D.rdF_nil.1 h
 exact ⟨A1, c1, A2, c2, A3, c3, A4, c4, by simp [GTyped.op, GTyped.n, GTyped.s, GTyped.t, GTyped.ty, GTyped.inst, GTyped.vars, GTyped.kids], h0, h1, h2, h3, h4, h5, h6, h7⟩
theorem GTyped.rd_mk {w : World} {S : Nat → Prop} {t : GTyped} {A1 : Option Addr} {c1 : Nat} {A2 : Option Addr} {c2 : Nat} {A3 : Option Addr} {c3 : Nat} {A4 : Option Addr} {c4 : Nat} (h : GTyped.At w S A1 c1 A2 c2 A3 c3 A4 c4 t) : t.toD.rd w S [.int .i64 t.op, .int .i64 t.n, .string t.s, .string t.t, .int .i64 t.ty.op, .int .i64 t.ty.n, .string t.ty.s, .slice A1 t.ty.kids.length c1, .slice A2 t.inst.length c2, .slice A3 t.vars.length c3, .slice A4 t.kids.length c4] := by
 cases t with
 | mk op n s t ty inst vars kids =>
 simp only [GTyped.toD, GTyped.toDs_map]
 unfold GTyped.At at h
 obtain ⟨h0, h1, h2, h3, h4, h5, h6, h7⟩ := h
 rw [D.rd_agg]
 exact D.rdF_cons.2 ⟨[_], [_, _, _, _, _, _, _, _, _, _], rfl, D.rd_num.2 ⟨rfl, h0⟩, D.rdF_cons.2 ⟨[_], [_, _, _, _, _, _, _, _, _], rfl, D.rd_num.2 ⟨rfl, h1⟩, D.rdF_cons.2 ⟨[_], [_, _, _, _, _, _, _, _], rfl, D.rd_str.2 ⟨rfl, h2⟩, D.rdF_cons.2 ⟨[_], [_, _, _, _, _, _, _], rfl, D.rd_str.2 ⟨rfl, h3⟩, D.rdF_cons.2 ⟨[_, _, _, _], [_, _, _], rfl, GTy.rd_mk h4, D.rdF_cons.2 ⟨[_], [_, _], rfl, D.rd_sl.2 ⟨A2, c2, by simp [GTyped.inst], h5⟩, D.rdF_cons.2 ⟨[_], [_], rfl, D.rd_sl.2 ⟨A3, c3, by simp [GTyped.vars], h6⟩, D.rdF_cons.2 ⟨[_], [], rfl, D.rd_sl.2 ⟨A4, c4, by simp [GTyped.kids], h7⟩, D.rdF_nil.2 rfl⟩⟩⟩⟩⟩⟩⟩⟩
theorem GTyped.elem {w : World} {S : Nat → Prop} {A : Option Addr} {c : Nat} {l : List GTyped} (h : Sl w S 11 A c (l.map GTyped.toD)) (i : Nat) (hi : i < l.length) :
 ∃ b off A1 c1 A2 c2 A3 c3 A4 c4, A = some ⟨b, off, none⟩ ∧ S b ∧ w.cell? ⟨b, off + i * 11, none⟩ = some (.int .i64 l[i].op) ∧ w.cell? ⟨b, off + i * 11 + 1, none⟩ = some (.int .i64 l[i].n) ∧ w.cell? ⟨b, off + i * 11 + 2, none⟩ = some (.string l[i].s) ∧ w.cell? ⟨b, off + i * 11 + 3, none⟩ = some (.string l[i].t) ∧ w.cell? ⟨b, off + i * 11 + 4, none⟩ = some (.int .i64 l[i].ty.op) ∧ w.cell? ⟨b, off + i * 11 + 5, none⟩ = some (.int .i64 l[i].ty.n) ∧ w.cell? ⟨b, off + i * 11 + 6, none⟩ = some (.string l[i].ty.s) ∧ w.cell? ⟨b, off + i * 11 + 7, none⟩ = some (.slice A1 l[i].ty.kids.length c1) ∧ w.cell? ⟨b, off + i * 11 + 8, none⟩ = some (.slice A2 l[i].inst.length c2) ∧ w.cell? ⟨b, off + i * 11 + 9, none⟩ = some (.slice A3 l[i].vars.length c3) ∧ w.cell? ⟨b, off + i * 11 + 10, none⟩ = some (.slice A4 l[i].kids.length c4) ∧ GTyped.At w S A1 c1 A2 c2 A3 c3 A4 c4 l[i] := by
 obtain ⟨b, off, cs, e, hb, hl, hc, hr⟩ := Sl.get h i (by simpa using hi)
 rw [List.getElem_map] at hr
 obtain ⟨A1, c1, A2, c2, A3, c3, A4, c4, rfl, h1⟩ := GTyped.rd hr
 exact ⟨b, off, A1, c1, A2, c2, A3, c3, A4, c4, e, hb, hc 0 _ rfl, hc 1 _ rfl, hc 2 _ rfl, hc 3 _ rfl, hc 4 _ rfl, hc 5 _ rfl, hc 6 _ rfl, hc 7 _ rfl, hc 8 _ rfl, hc 9 _ rfl, hc 10 _ rfl, h1⟩
theorem GTyped.At.keep {w w' : World} {S S' : Nat → Prop} {t : GTyped} {A1 : Option Addr} {c1 : Nat} {A2 : Option Addr} {c2 : Nat} {A3 : Option Addr} {c3 : Nat} {A4 : Option Addr} {c4 : Nat} (h : GTyped.At w S A1 c1 A2 c2 A3 c3 A4 c4 t) (hk : ∀ b, S b → S' b ∧ w'.heap[b]? = w.heap[b]?) : GTyped.At w' S' A1 c1 A2 c2 A3 c3 A4 c4 t := by
 unfold GTyped.At at h ⊢
 obtain ⟨h0, h1, h2, h3, h4, h5, h6, h7⟩ := h
 exact ⟨h0, h1, h2, h3, h4.keep hk, h5.keep hk, h6.keep hk, h7.keep hk⟩
theorem GTyped.At.below {w w' : World} {B B' : Nat} {t : GTyped} {A1 : Option Addr} {c1 : Nat} {A2 : Option Addr} {c2 : Nat} {A3 : Option Addr} {c3 : Nat} {A4 : Option Addr} {c4 : Nat} (h : GTyped.At w (Lt B) A1 c1 A2 c2 A3 c3 A4 c4 t) (hb : Below B w w') (hB : B ≤ B') : GTyped.At w' (Lt B') A1 c1 A2 c2 A3 c3 A4 c4 t :=
 h.keep (keep_below hb hB)
set_option maxRecDepth 4000
noncomputable def evC (c i : Nat) : Nat := Ev.spn c (Nat.mul 72 i) (Ev.mk 1)
theorem evC_eq (c i : Nat) : evC c i = Ev.cel c i := by
 unfold evC
 rw [Ev.spn_eq]
 rfl
noncomputable def evSt (c : Nat) : Option Nat := Ev.iff' (Nat.beq (Nat.land c 7) 4) (some (Nat.land (Nat.shiftRight c 3) 15)) (Ev.iff' (Nat.beq (Nat.land c 7) 5) (some (Nat.shiftRight c 15)) none)
noncomputable def evI (c : Nat) : Option Nat := Ev.iff' (Nat.beq (Nat.land c 7) 1) (some 0) none
noncomputable def evSl (c : Nat) (f : Nat → Nat → Nat → Nat → Option Nat) : Option Nat := Ev.iff' (Nat.beq (Nat.land c 7) 7) (Ev.iff' (Nat.beq c 15) none (f (Nat.pred (Nat.land (Nat.shiftRight c 3) 1048575)) (Nat.land (Nat.shiftRight c 23) 4095) (Nat.land (Nat.shiftRight c 35) 4095) (Nat.shiftRight c 47))) none
noncomputable def evTy (D : Nat) (g : Nat → Option Nat) (c i : Nat) : Option Nat := Ev.bnd (evI (evC c i)) fun _ => Ev.bnd (evI (evC c (i + 1))) fun _ => Ev.bnd (evSt (evC c (i + 2))) fun a => Ev.bnd (g (evC c (i + 3))) fun b => some (D + a + b)
noncomputable def evTyR (D : Nat) (g : Nat → Option Nat) (c o : Nat) : Nat → Option Nat
 | 0 => some 0
 | n + 1 => Ev.bnd (evTyR D g c o n) fun r => Ev.bnd (evTy D g c (o + n * 4)) fun a => some (r + (1 + a))
noncomputable def evTyK (h : Ev.HT) (D : Nat) : Nat → Nat → Option Nat
 | 0, _ => none
 | f + 1, c => Ev.iff' (Nat.beq c 7) (some 0) (evSl c fun id eo n es => Ev.iff' (Nat.beq es 4) (Ev.bnd (Ev.T.get h id) fun bk => Ev.iff' (Nat.beq bk.ty 27) (Ev.iff' (Nat.beq bk.es 4) (Ev.iff' (Nat.ble ((eo + n) * 4) bk.n) (evTyR D (evTyK h D f) bk.c (eo * 4) n) none) none) none) none)
noncomputable def evInR (c o : Nat) : Nat → Option Nat
 | 0 => some 0
 | n + 1 => Ev.bnd (evInR c o n) fun r => Ev.bnd (evI (evC c (o + n))) fun _ => some (r + 1)
noncomputable def evInK (h : Ev.HT) (c : Nat) : Option Nat := Ev.iff' (Nat.beq c 7) (some 0) (evSl c fun id eo n es => Ev.iff' (Nat.beq es 1) (Ev.bnd (Ev.T.get h id) fun bk => Ev.iff' (Nat.beq bk.ty 3) (Ev.iff' (Nat.beq bk.es 1) (Ev.iff' (Nat.ble (eo + n) bk.n) (evInR bk.c eo n) none) none) none) none)
noncomputable def evNd (h : Ev.HT) (D fT B c i : Nat) : Option Nat := Ev.bnd (evI (evC c i)) fun _ => Ev.bnd (evI (evC c (i + 1))) fun _ => Ev.bnd (evSt (evC c (i + 2))) fun a => Ev.bnd (evSt (evC c (i + 3))) fun b => Ev.bnd (evTy D (evTyK h D fT) c (i + 4)) fun t => Ev.bnd (evTyK h D fT (evC c (i + 8))) fun d => Ev.bnd (evInK h (evC c (i + 9))) fun e => Ev.iff' (Nat.ble (a + b + t + d + e) B) (some 0) none
noncomputable def nuR (g : Nat → Option Nat) (h : Ev.HT) (D fT B c : Nat) : Nat → Option Nat
 | 0 => some 0
 | n + 1 => Ev.bnd (nuR g h D fT B c n) fun r => Ev.bnd (evNd h D fT B c (n * 11)) fun _ => Ev.bnd (g (evC c (n * 11 + 10))) fun k => some (r + (1 + k))
noncomputable def nuK (h : Ev.HT) (D fT B : Nat) : Nat → Nat → Option Nat
 | 0, _ => none
 | f + 1, c => Ev.iff' (Nat.beq c 7) (some 0) (evSl c fun id eo n es => Ev.iff' (Nat.beq es 11) (Ev.iff' (Nat.beq eo 0) (Ev.bnd (Ev.T.get h id) fun bk => Ev.iff' (Nat.beq bk.ty 40) (Ev.iff' (Nat.ble (n * 11) bk.n) (nuR (nuK h D fT B f) h D fT B bk.c n) none) none) none) none)
section
variable {tx : Ev.Tx} {m : Ev.Me} {s : Ev.Sg} {X : Ev.Loc → Ev.Vl} {w : World}
theorem evI_ok {c r : Nat} (h : evI c = some r) {v : Value} (hv : Ev.RC tx s c v) : ∃ n : Int, v = .int .i64 n ∧ (Lit.int .i64 n).wf = true := by
 unfold evI at h
 obtain ⟨h1, _⟩ := Ev.iff_some h
 have h1 := Ev.beq_t h1
 rw [Ev.land7] at h1
 obtain ⟨n, q, rfl, _, e, h2⟩ := hv.t1 h1
 refine ⟨n, rfl, ?_⟩
 simp only [Lit.wf, Bool.and_eq_true, decide_eq_true_eq]
 constructor
 · show (-9223372036854775808 : Int) ≤ n
   omega
 · show n ≤ (9223372036854775807 : Int)
   omega
theorem evSt_ok {c r : Nat} (h : evSt c = some r) {v : Value} (hv : Ev.RC tx s c v) : ∃ t : ByteArray, v = .string t ∧ t.size = r ∧ t.size ≤ maxLen := by
 unfold evSt at h
 cases h1 : Nat.beq (Nat.land c 7) 4 with
 | true =>
  rw [h1] at h
  have h : some (Nat.land (Nat.shiftRight c 3) 15) = some r := h
  have h := Option.some.inj h
  have h1 := Ev.beq_t h1
  rw [Ev.land7] at h1
  obtain ⟨l, rfl, e, hl⟩ := hv.t4 h1
  refine ⟨_, rfl, ?_, ?_⟩
  · show l.length = r
    rw [← h, show (15 : Nat) = 2 ^ 4 - 1 from rfl, Ev.land_mod, Ev.shr]
    omega
  · show l.length ≤ maxLen
    simp only [maxLen]; omega
 | false =>
  rw [h1] at h
  obtain ⟨h2, h⟩ := Ev.iff_some (show Ev.iff' (Nat.beq (Nat.land c 7) 5) (some (Nat.shiftRight c 15)) none = some r from h)
  have h := Option.some.inj h
  have h2 := Ev.beq_t h2
  rw [Ev.land7] at h2
  obtain ⟨off, len, rfl, e, h3, h4, h5⟩ := hv.t5 h2
  have hsz : (⟨⟨Ev.txL tx off len⟩⟩ : ByteArray).size = len := by
   show (Ev.txL tx off len).length = len
   simp [Ev.txL]
  refine ⟨_, rfl, ?_, ?_⟩
  · rw [hsz, ← h, Ev.shr]; omega
  · rw [hsz]; simp only [maxLen]; omega
theorem evSl_ok {c r : Nat} {f : Nat → Nat → Nat → Nat → Option Nat} (h0 : c ≠ 7) (h : evSl c f = some r) {v : Value} (hv : Ev.RC tx s c v) : ∃ id eo n es b k, f id eo n es = some r ∧ v = .slice (some ⟨b, eo * es, none⟩) n (k - eo) ∧ s id = some (b, k) ∧ eo + n ≤ k ∧ k ≤ maxLen := by
 unfold evSl at h
 obtain ⟨h1, h⟩ := Ev.iff_some h
 have h1 := Ev.beq_t h1
 rw [Ev.land7] at h1
 obtain ⟨h15, h⟩ := Ev.iff_none h
 have h15 := Ev.beq_f h15
 rcases hv.t7 h1 with ⟨_, e⟩ | ⟨id, eo, n, es, b, k, rfl, e, h3, h4, h5, h6, h7, h8, h9⟩ | ⟨_, _, _, e, _⟩
 · exact absurd e h0
 rotate_left
 · exact absurd e h15
 have e1 : Nat.pred (Nat.land (Nat.shiftRight c 3) 1048575) = id := by
  rw [show (1048575 : Nat) = 2 ^ 20 - 1 from rfl, Ev.land_mod, Ev.shr, Ev.npred]; omega
 have e2 : Nat.land (Nat.shiftRight c 23) 4095 = eo := by
  rw [show (4095 : Nat) = 2 ^ 12 - 1 from rfl, Ev.land_mod, Ev.shr]; omega
 have e3 : Nat.land (Nat.shiftRight c 35) 4095 = n := by
  rw [show (4095 : Nat) = 2 ^ 12 - 1 from rfl, Ev.land_mod, Ev.shr]; omega
 have e4 : Nat.shiftRight c 47 = es := by rw [Ev.shr]; omega
 rw [e1, e2, e3, e4] at h
 exact ⟨id, eo, n, es, b, k, h, rfl, h3, h8, h9⟩
theorem evBulkL_snoc {α : Type} (f : α → Nat) (l : List α) (x : α) : bulkL f (l ++ [x]) = bulkL f l + (1 + f x) := by
 induction l with
 | nil => simp [bulkL]
 | cons y l ih => simp only [List.cons_append, bulkL, ih]; omega
end
def sumTo (f : Nat → Nat) : Nat → Nat
 | 0 => 0
 | n + 1 => sumTo f n + f n
def RwL (lo : Nat) (w : World) (b : Nat) (t : TypeId) (cs : Array Value) : Prop := lo ≤ b ∧ Row w b t cs
theorem RwL.cell {lo : Nat} {w : World} {b : Nat} {t : TypeId} {cs : Array Value} (h : RwL lo w b t cs) (i : Nat) : w.cell? ⟨b, i, none⟩ = cs[i]? := h.2.cell i
def InL (lo : Nat) (w : World) (b : Nat) : Prop := lo ≤ b ∧ b < w.heap.size
theorem RwL.lt {lo : Nat} {w : World} {b : Nat} {t : TypeId} {cs : Array Value} (h : RwL lo w b t cs) : InL lo w b := ⟨h.1, h.2.lt⟩
def VOk (lo : Nat) (w : World) (v : Value) (β : Nat) : Prop := v = .slice none 0 0 ∨ ∃ b o n c cs, v = .slice (some ⟨b, o, none⟩) n c ∧ RwL lo w b 3 cs ∧ o + c ≤ cs.size ∧ n ≤ c ∧ c ≤ maxLen ∧ (∀ i, i < n → ∃ z : Int, cs[o + i]? = some (.int .i64 z) ∧ (Lit.int .i64 z).wf = true) ∧ n ≤ β
def NewTy (w : World) (Fr : Nat → Prop) (dk : Nat) (get : Nat → Option Value) : Prop :=
 ∃ (t : GTy) (A : Option Addr) (c : Nat), (get 0 = some (.int .i64 t.op) ∧ get 1 = some (.int .i64 t.n) ∧ get 2 = some (.string t.s) ∧ get 3 = some (.slice A t.kids.length c)) ∧ GTy.At w Fr A c t ∧ t.bulk ≤ dk
def TyOk (w : World) (Fr : Nat → Prop) (dk : Nat) (K : Value → Nat → Prop) (get : Nat → Option Value) (β : Nat) : Prop :=
 dk ≤ β ∧ (NewTy w Fr dk get ∨ ∃ (op n : Int) (s : ByteArray) (u : Value) (β' : Nat), (get 0 = some (.int .i64 op) ∧ get 1 = some (.int .i64 n) ∧ get 2 = some (.string s) ∧ get 3 = some u) ∧ (Lit.int .i64 op).wf = true ∧ (Lit.int .i64 n).wf = true ∧ s.size ≤ maxLen ∧ K u β' ∧ s.size + β' ≤ β)
def TOk (lo : Nat) (w : World) (Fr : Nat → Prop) (dk : Nat) : Nat → Value → Nat → Prop
 | 0, _, _ => False
 | f + 1, v, β => v = .slice none 0 0 ∨ ∃ b o n c cs, v = .slice (some ⟨b, o, none⟩) n c ∧ RwL lo w b 27 cs ∧ o % 4 = 0 ∧ o + c * 4 ≤ cs.size ∧ n ≤ c ∧ c ≤ maxLen ∧ ∃ βs : Nat → Nat, (∀ j, j < n → TyOk w Fr dk (TOk lo w Fr dk f) (fun i => cs[o + j * 4 + i]?) (βs j)) ∧ sumTo (fun j => 1 + βs j) n ≤ β
def NdOk (lo : Nat) (w : World) (Fr : Nat → Prop) (dk fT B : Nat) (get : Nat → Option Value) : Prop :=
 ∃ (op n : Int) (s t : ByteArray) (βt : Nat) (u8 : Value) (β8 : Nat) (u9 : Value) (β9 : Nat), (get 0 = some (.int .i64 op) ∧ get 1 = some (.int .i64 n) ∧ get 2 = some (.string s) ∧ get 3 = some (.string t) ∧ get 8 = some u8 ∧ get 9 = some u9) ∧
  (Lit.int .i64 op).wf = true ∧ (Lit.int .i64 n).wf = true ∧ s.size ≤ maxLen ∧ t.size ≤ maxLen ∧ TyOk w Fr dk (TOk lo w Fr dk fT) (fun i => get (4 + i)) βt ∧ TOk lo w Fr dk fT u8 β8 ∧ VOk lo w u9 β9 ∧ s.size + t.size + βt + β8 + β9 ≤ B
def KOk (lo : Nat) (w : World) (Fr : Nat → Prop) (dk fT B : Nat) : Nat → Value → Nat → Prop
 | 0, _, _ => False
 | f + 1, v, ν => v = .slice none 0 0 ∨ ∃ b n c cs, v = .slice (some ⟨b, 0, none⟩) n c ∧ RwL lo w b 40 cs ∧ n * 11 ≤ cs.size ∧ n ≤ c ∧ c ≤ maxLen ∧ ∃ ks : Nat → Nat, (∀ j, j < n → NdOk lo w Fr dk fT B (fun i => cs[j * 11 + i]?) ∧ ∃ u, cs[j * 11 + 10]? = some u ∧ KOk lo w Fr dk fT B f u (ks j)) ∧ sumTo (fun j => 1 + ks j) n ≤ ν
def PtOk (lo : Nat) (w : World) (Fr : Nat → Prop) (dk fT B f b off ν : Nat) : Prop := ∃ cs, RwL lo w b 40 cs ∧ off % 11 = 0 ∧ NdOk lo w Fr dk fT B (fun i => cs[off + i]?) ∧ ∃ u, cs[off + 10]? = some u ∧ KOk lo w Fr dk fT B f u ν
structure Turn0 (lo : Nat) (w w' : World) (Fr Fr' : Nat → Prop) (dk : Nat) : Prop where
 fr : ∀ b, Fr b → Fr' b ∧ w'.heap[b]? = w.heap[b]?
 vs : ∀ b cs, RwL lo w b 3 cs → ∃ cs', RwL lo w' b 3 cs' ∧ cs'.size = cs.size ∧ ∀ i, i < cs.size → cs'[i]? = cs[i]? ∨ ∃ z : Int, cs'[i]? = some (.int .i64 z) ∧ (Lit.int .i64 z).wf = true
 ts : ∀ b cs, RwL lo w b 27 cs → ∃ cs', RwL lo w' b 27 cs' ∧ cs'.size = cs.size ∧ ∀ o, o % 4 = 0 → o + 4 ≤ cs.size → (∀ i, i < 4 → cs'[o + i]? = cs[o + i]?) ∨ NewTy w' Fr' dk (fun i => cs'[o + i]?)
structure Turn (lo : Nat) (w w' : World) (Fr Fr' : Nat → Prop) (dk fT B B' : Nat) : Prop extends Turn0 lo w w' Fr Fr' dk where
 le : B ≤ B'
 ks : ∀ b cs, RwL lo w b 40 cs → ∃ cs', RwL lo w' b 40 cs' ∧ cs'.size = cs.size ∧ ∀ o, o % 11 = 0 → (∀ i, i < 11 → cs'[o + i]? = cs[o + i]?) ∨ (NdOk lo w' Fr' dk fT B' (fun i => cs'[o + i]?) ∧ (cs'[o + 10]? = cs[o + 10]? ∨ cs'[o + 10]? = some (.slice none 0 0)))
section
variable {lo : Nat} {w w' : World} {Fr Fr' : Nat → Prop} {dk fT B B' : Nat}
theorem VOk.turn (h : Turn0 lo w w' Fr Fr' dk) {v : Value} {β : Nat} (hv : VOk lo w v β) : VOk lo w' v β := by
 rcases hv with hv | ⟨b, o, n, c, cs, rfl, h2, h3, h4, h5, h6, h7⟩
 · exact .inl hv
 · obtain ⟨cs', g1, g2, g3⟩ := h.vs b cs h2
   refine .inr ⟨b, o, n, c, cs', rfl, g1, by omega, h4, h5, fun i hi => ?_, h7⟩
   rcases g3 (o + i) (by omega) with e | e
   · rw [e]; exact h6 i hi
   · exact e
theorem NewTy.keep {get : Nat → Option Value} (hk : ∀ b, Fr b → Fr' b ∧ w'.heap[b]? = w.heap[b]?) (hv : NewTy w Fr dk get) : NewTy w' Fr' dk get := by
 obtain ⟨t, A, c, h1, h2, h3⟩ := hv
 exact ⟨t, A, c, h1, ⟨h2.1, h2.2.1, h2.2.2.1, h2.2.2.2.keep hk⟩, h3⟩
theorem TyOk.imp {K K' : Value → Nat → Prop} {get : Nat → Option Value} {β : Nat} (hk : ∀ b, Fr b → Fr' b ∧ w'.heap[b]? = w.heap[b]?) (hK : ∀ u β, K u β → K' u β) (hv : TyOk w Fr dk K get β) : TyOk w' Fr' dk K' get β := by
 obtain ⟨h0, h1 | ⟨op, n, s, u, β', h1, h2, h3, h4, h5, h6⟩⟩ := hv
 · exact ⟨h0, .inl (h1.keep hk)⟩
 · exact ⟨h0, .inr ⟨op, n, s, u, β', h1, h2, h3, h4, hK u β' h5, h6⟩⟩
theorem NewTy.congr {get get' : Nat → Option Value} (hg : ∀ i, i < 4 → get' i = get i) (hv : NewTy w Fr dk get) : NewTy w Fr dk get' := by
 obtain ⟨t, A, c, ⟨g0, g1, g2, g3⟩, h2, h3⟩ := hv
 exact ⟨t, A, c, ⟨(hg 0 (by omega)).trans g0, (hg 1 (by omega)).trans g1, (hg 2 (by omega)).trans g2, (hg 3 (by omega)).trans g3⟩, h2, h3⟩
theorem TyOk.congr {K : Value → Nat → Prop} {get get' : Nat → Option Value} {β : Nat} (hg : ∀ i, i < 4 → get' i = get i) (hv : TyOk w Fr dk K get β) : TyOk w Fr dk K get' β := by
 obtain ⟨h0, h1 | ⟨op, n, s, u, β', ⟨g0, g1, g2, g3⟩, h2, h3, h4, h5, h6⟩⟩ := hv
 · exact ⟨h0, .inl (h1.congr hg)⟩
 · exact ⟨h0, .inr ⟨op, n, s, u, β', ⟨(hg 0 (by omega)).trans g0, (hg 1 (by omega)).trans g1, (hg 2 (by omega)).trans g2, (hg 3 (by omega)).trans g3⟩, h2, h3, h4, h5, h6⟩⟩
theorem TOk.turn (h : Turn0 lo w w' Fr Fr' dk) : ∀ (f : Nat) (v : Value) (β : Nat), TOk lo w Fr dk f v β → TOk lo w' Fr' dk f v β
 | 0, v, β, hv => hv
 | f + 1, v, β, hv => by
  rcases hv with hv | ⟨b, o, n, c, cs, rfl, h2, h3, h4, h5, h6, βs, h7, h8⟩
  · exact .inl hv
  ·
   obtain ⟨cs', g1, g2, g3⟩ := h.ts b cs h2
   refine .inr ⟨b, o, n, c, cs', rfl, g1, h3, by omega, h5, h6, βs, fun j hj => ?_, h8⟩
   have hj4 : o + j * 4 + 4 ≤ cs.size := by
    have := Nat.mul_le_mul_right 4 (show j + 1 ≤ c by omega)
    omega
   rcases g3 (o + j * 4) (by omega) hj4 with e | e
   · exact ((h7 j hj).imp h.fr fun u β hu => TOk.turn h f u β hu).congr e
   · exact ⟨(h7 j hj).1, .inl e⟩
theorem NdOk.turn (h : Turn lo w w' Fr Fr' dk fT B B') {get get' : Nat → Option Value} (hg : ∀ i, i < 10 → get' i = get i) (hv : NdOk lo w Fr dk fT B get) : NdOk lo w' Fr' dk fT B' get' := by
 obtain ⟨op, n, s, t, βt, u8, β8, u9, β9, ⟨g0, g1, g2, g3, g8, g9⟩, h1, h2, h3, h4, h5, h6, h7, h8⟩ := hv
 refine ⟨op, n, s, t, βt, u8, β8, u9, β9, ⟨(hg 0 (by omega)).trans g0, (hg 1 (by omega)).trans g1, (hg 2 (by omega)).trans g2, (hg 3 (by omega)).trans g3, (hg 8 (by omega)).trans g8, (hg 9 (by omega)).trans g9⟩, h1, h2, h3, h4, ?_, TOk.turn h.toTurn0 fT _ _ h6, h7.turn h.toTurn0, Nat.le_trans h8 h.le⟩
 exact (h5.imp h.fr fun u β hu => TOk.turn h.toTurn0 fT u β hu).congr fun i hi => hg (4 + i) (by omega)
theorem KOk.turn (h : Turn lo w w' Fr Fr' dk fT B B') : ∀ (f : Nat) (v : Value) (ν : Nat), KOk lo w Fr dk fT B f v ν → KOk lo w' Fr' dk fT B' f v ν
 | 0, v, ν, hv => hv
 | f + 1, v, ν, hv => by
  rcases hv with hv | ⟨b, n, c, cs, rfl, e2, e4, e5, e6, ks, e7, e8⟩
  · exact .inl hv
  ·
   obtain ⟨cs', g1, g2, g3⟩ := h.ks b cs e2
   refine .inr ⟨b, n, c, cs', rfl, g1, by omega, e5, e6, ks, fun j hj => ?_, e8⟩
   obtain ⟨k1, u, k2, k3⟩ := e7 j hj
   rcases g3 (j * 11) (by omega) with e | ⟨e, e' | e'⟩
   · exact ⟨k1.turn h fun i hi => e i (by omega), u, (e 10 (by omega)).trans k2, KOk.turn h f u _ k3⟩
   · exact ⟨e, u, e'.trans k2, KOk.turn h f u _ k3⟩
   · refine ⟨e, _, e', ?_⟩
     cases f with
     | zero => exact k3
     | succ f => exact .inl rfl
theorem PtOk.turn (h : Turn lo w w' Fr Fr' dk fT B B') {f b off ν : Nat} (hv : PtOk lo w Fr dk fT B f b off ν) : PtOk lo w' Fr' dk fT B' f b off ν := by
 obtain ⟨cs, e2, e3, k1, u, k2, k3⟩ := hv
 obtain ⟨cs', g1, g2, g3⟩ := h.ks b cs e2
 refine ⟨cs', g1, e3, ?_⟩
 rcases g3 off e3 with e | ⟨e, e' | e'⟩
 · exact ⟨k1.turn h fun i hi => e i (by omega), u, (e 10 (by omega)).trans k2, KOk.turn h f u _ k3⟩
 · exact ⟨e, u, e'.trans k2, KOk.turn h f u _ k3⟩
 · refine ⟨e, _, e', ?_⟩
   cases f with
   | zero => exact k3
   | succ f => exact .inl rfl
theorem Turn0.of_same (hfr : ∀ b, Fr b → Fr' b ∧ w'.heap[b]? = w.heap[b]?) (hk : ∀ b t cs, t = 3 ∨ t = 27 → RwL lo w b t cs → w'.heap[b]? = w.heap[b]?) : Turn0 lo w w' Fr Fr' dk :=
 ⟨hfr, fun b cs h => ⟨cs, ⟨h.1, (hk b _ cs (.inl rfl) h).trans h.2⟩, rfl, fun i _ => .inl rfl⟩, fun b cs h => ⟨cs, ⟨h.1, (hk b _ cs (.inr rfl) h).trans h.2⟩, rfl, fun o _ _ => .inl fun i _ => rfl⟩⟩
theorem Turn0.same (h : Turn0 lo w w' Fr Fr' dk) (hB : B ≤ B') (hk : ∀ b cs, RwL lo w b 40 cs → w'.heap[b]? = w.heap[b]?) : Turn lo w w' Fr Fr' dk fT B B' :=
 ⟨h, hB, fun b cs h => ⟨cs, ⟨h.1, (hk b cs h).trans h.2⟩, rfl, fun o _ => .inl fun i _ => rfl⟩⟩
theorem Turn0.node (h : Turn0 lo w w' Fr Fr' dk) (hB : B ≤ B') {nb off : Nat} {cs cs' : Array Value} (hk : ∀ b cs, b ≠ nb → RwL lo w b 40 cs → w'.heap[b]? = w.heap[b]?) (hr : RwL lo w nb 40 cs) (hr' : RwL lo w' nb 40 cs') (hsz : cs'.size = cs.size) (ho : off % 11 = 0)
 (hsame : ∀ i, i < off ∨ off + 11 ≤ i → cs'[i]? = cs[i]?) (hn : NdOk lo w' Fr' dk fT B' (fun i => cs'[off + i]?)) (hkid : cs'[off + 10]? = cs[off + 10]? ∨ cs'[off + 10]? = some (.slice none 0 0)) : Turn lo w w' Fr Fr' dk fT B B' :=
 ⟨h, hB, fun b cs2 h2 => by
   by_cases e : b = nb
   · subst e
     have e2 : cs2 = cs := by
       have := hr.2.symm.trans h2.2
       cases this; rfl
     subst e2
     refine ⟨cs', hr', hsz, fun o ho' => ?_⟩
     by_cases eo : o = off
     · subst eo; exact .inr ⟨hn, hkid⟩
     · exact .inl fun i hi => hsame _ (by omega)
   · exact ⟨cs2, ⟨h2.1, (hk b cs2 e h2).trans h2.2⟩, rfl, fun o _ => .inl fun i _ => rfl⟩⟩
theorem list_of {α : Type} {P : Nat → α → Prop} : ∀ (n : Nat), (∀ j, j < n → ∃ x, P j x) → ∃ l : List α, l.length = n ∧ ∀ j (h : j < l.length), P j l[j]
 | 0, _ => ⟨[], rfl, fun j h => absurd h (Nat.not_lt_zero _)⟩
 | n + 1, h => by
  obtain ⟨l, h1, h2⟩ := list_of n fun j hj => h j (by omega)
  obtain ⟨x, hx⟩ := h n (by omega)
  refine ⟨l ++ [x], by simp [h1], fun j hj => ?_⟩
  by_cases hjn : j < l.length
  · rw [List.getElem_append_left hjn]; exact h2 j hjn
  · have : j = n := by simp at hj; omega
    subst this
    rw [List.getElem_append_right (by omega)]
    simpa [h1] using hx
theorem bulkL_sum {α : Type} {f : α → Nat} {g : Nat → Nat} : ∀ (n : Nat) (l : List α), l.length = n → (∀ j (h : j < l.length), 1 + f l[j] ≤ g j) → bulkL f l ≤ sumTo g n
 | 0, l, hl, h => by
  have : l = [] := List.eq_nil_of_length_eq_zero hl
  subst this; exact Nat.zero_le _
 | n + 1, l, hl, h => by
  have e : l.take n ++ [l[n]] = l := by
   rw [List.take_append_getElem]
   exact List.take_of_length_le (by omega)
  have h1 := bulkL_sum n (l.take n) (by simp; omega) fun j hj => by
   rw [List.getElem_take]
   exact h j (by simp at hj; omega)
  have h2 := h n (by omega)
  rw [← e, evBulkL_snoc]
  show _ ≤ sumTo g n + g n
  omega
theorem sumTo_mul {f : Nat → Nat} {c : Nat} : ∀ n, sumTo (fun j => f j * c) n = sumTo f n * c
 | 0 => by simp [sumTo]
 | n + 1 => by simp only [sumTo, sumTo_mul n, Nat.add_mul]
theorem VOk.read {v : Value} {β : Nat} (hv : VOk lo w v β) : ∃ (A : Option Addr) (c : Nat) (l : List Int), v = .slice A l.length c ∧ Sl w (InL lo w) 1 A c (l.map (D.num .i64)) ∧ l.length ≤ β := by
 rcases hv with rfl | ⟨b, o, n, c, cs, rfl, h2, h3, h4, h5, h6, h7⟩
 · exact ⟨none, 0, [], rfl, Sl.nil (Nat.zero_le _), Nat.zero_le _⟩
 ·
  obtain ⟨l, h1, h8⟩ := list_of (P := fun i (z : Int) => cs[o + i]? = some (.int .i64 z) ∧ (Lit.int .i64 z).wf = true) n h6
  refine ⟨some ⟨b, o, none⟩, c, l, by rw [h1], ⟨by rw [List.length_map, h1]; exact h4, h5, .inr ⟨b, o, rfl, h2.lt, D.rdR_mk fun i hi => ?_⟩⟩, by omega⟩
  rw [List.length_map] at hi
  obtain ⟨p1, p2⟩ := h8 i hi
  refine ⟨[.int .i64 l[i]], rfl, fun j v hj => ?_, by rw [List.getElem_map]; exact D.rd_num.2 ⟨rfl, p2⟩⟩
  match j, hj with
  | 0, hj =>
   cases hj
   rw [Nat.mul_one, Nat.add_zero, h2.cell]; exact p1
  | j + 1, hj => cases hj
theorem TyOk.read {K : Value → Nat → Prop} {get : Nat → Option Value} {β : Nat} (hFr : ∀ b, Fr b → InL lo w b) (hK : ∀ u β, K u β → ∃ (A : Option Addr) (c : Nat) (l : List GTy), u = .slice A l.length c ∧ Sl w (InL lo w) 4 A c (l.map GTy.toD) ∧ bulkL GTy.bulk l ≤ β) (hv : TyOk w Fr dk K get β) : NewTy w (InL lo w) β get := by
 obtain ⟨h0, ⟨t, A, c, h1, h2, h3⟩ | ⟨op, n, s, u, β', ⟨g0, g1, g2, g3⟩, h2, h3, h4, h5, h6⟩⟩ := hv
 · exact ⟨t, A, c, h1, ⟨h2.1, h2.2.1, h2.2.2.1, h2.2.2.2.keep fun b hb => ⟨hFr b hb, rfl⟩⟩, by omega⟩
 · obtain ⟨A, c, l, rfl, q1, q2⟩ := hK u β' h5
   exact ⟨.mk op n s l, A, c, ⟨g0, g1, g2, g3⟩, ⟨h2, h3, h4, q1⟩, by rw [GTy.bulk_eq]; show s.size + bulkL GTy.bulk l ≤ _; omega⟩
theorem NewTy.cells {get : Nat → Option Value} (hv : NewTy w Fr dk get) : ∃ (t : GTy), (∃ vs : List Value, vs.length = 4 ∧ (∀ i u, vs[i]? = some u → get i = some u) ∧ t.toD.rd w Fr vs) ∧ t.bulk ≤ dk := by
 obtain ⟨t, A, c, ⟨g0, g1, g2, g3⟩, h2, h3⟩ := hv
 refine ⟨t, ⟨_, rfl, fun i u hi => ?_, GTy.rd_mk h2⟩, h3⟩
 match i, hi with
 | 0, hi => cases hi; exact g0
 | 1, hi => cases hi; exact g1
 | 2, hi => cases hi; exact g2
 | 3, hi => cases hi; exact g3
 | i + 4, hi => cases hi
theorem TOk.read (hFr : ∀ b, Fr b → InL lo w b) : ∀ (f : Nat) (v : Value) (β : Nat), TOk lo w Fr dk f v β → ∃ (A : Option Addr) (c : Nat) (l : List GTy), v = .slice A l.length c ∧ Sl w (InL lo w) 4 A c (l.map GTy.toD) ∧ bulkL GTy.bulk l ≤ β
 | 0, v, β, h => h.elim
 | f + 1, v, β, h => by
  rcases h with rfl | ⟨b, o, n, c, cs, rfl, h2, h3, h4, h5, h6, βs, h7, h8⟩
  · exact ⟨none, 0, [], rfl, Sl.nil (Nat.zero_le _), Nat.zero_le _⟩
  ·
   obtain ⟨l, q1, q2⟩ := list_of n fun j hj => ((h7 j hj).read hFr fun u β hu => TOk.read hFr f u β hu).cells
   refine ⟨some ⟨b, o, none⟩, c, l, by rw [q1], ⟨by rw [List.length_map, q1]; exact h5, h6, .inr ⟨b, o, rfl, h2.lt, D.rdR_mk fun i hi => ?_⟩⟩, ?_⟩
   · rw [List.length_map] at hi
     obtain ⟨⟨vs, k1, k2, k3⟩, _⟩ := q2 i hi
     refine ⟨vs, k1, fun j u hj => ?_, by rw [List.getElem_map]; exact k3⟩
     rw [h2.cell]
     exact k2 j u hj
   · exact Nat.le_trans (bulkL_sum (g := fun j => 1 + βs j) n l q1 fun j hj => by have := (q2 j hj).2; omega) h8
theorem NdOk.read {ν : Nat} {get : Nat → Option Value} (hFr : ∀ b, Fr b → InL lo w b) (h : NdOk lo w Fr dk fT B get) {A : Option Addr} {c : Nat} {l : List GTyped} (h10 : get 10 = some (.slice A l.length c)) (hl : Sl w (InL lo w) 11 A c (l.map GTyped.toD)) (hb : bulkL GTyped.bulk l ≤ ν * (B + 1)) :
 ∃ (t : GTyped) (A1 : Option Addr) (c1 : Nat) (A2 : Option Addr) (c2 : Nat) (A3 : Option Addr) (c3 : Nat) (A4 : Option Addr) (c4 : Nat), (∀ j u, ([.int .i64 t.op, .int .i64 t.n, .string t.s, .string t.t, .int .i64 t.ty.op, .int .i64 t.ty.n, .string t.ty.s, .slice A1 t.ty.kids.length c1, .slice A2 t.inst.length c2, .slice A3 t.vars.length c3, .slice A4 t.kids.length c4] : List Value)[j]? = some u → get j = some u) ∧ GTyped.At w (InL lo w) A1 c1 A2 c2 A3 c3 A4 c4 t ∧ t.bulk ≤ ν * (B + 1) + B := by
 obtain ⟨op, n, s, t, βt, u8, β8, u9, β9, ⟨g0, g1, g2, g3, g8, g9⟩, h1, h2, h3, h4, h5, h6, h7, h8⟩ := h
 obtain ⟨ty, A1, c1, ⟨y0, y1, y2, y3⟩, y4, y5⟩ := h5.read hFr fun u β hu => TOk.read hFr fT u β hu
 obtain ⟨A2, c2, inst, rfl, x1, x2⟩ := TOk.read hFr fT _ _ h6
 obtain ⟨A3, c3, vars, rfl, z1, z2⟩ := h7.read
 refine ⟨.mk op n s t ty inst vars l, A1, c1, A2, c2, A3, c3, A, c, fun j u hj => ?_, ⟨h1, h2, h3, h4, y4, x1, z1, hl⟩, ?_⟩
 ·
  match j, hj with
  | 0, hj => cases hj; exact g0
  | 1, hj => cases hj; exact g1
  | 2, hj => cases hj; exact g2
  | 3, hj => cases hj; exact g3
  | 4, hj => cases hj; exact y0
  | 5, hj => cases hj; exact y1
  | 6, hj => cases hj; exact y2
  | 7, hj => cases hj; exact y3
  | 8, hj => cases hj; exact g8
  | 9, hj => cases hj; exact g9
  | 10, hj => cases hj; exact h10
  | j + 11, hj => cases hj
 · rw [GTyped.bulk_eq]
   show s.size + t.size + ty.bulk + bulkL GTy.bulk inst + vars.length + bulkL GTyped.bulk l ≤ _
   omega
theorem KOk.read (hFr : ∀ b, Fr b → InL lo w b) : ∀ (f : Nat) (v : Value) (ν : Nat), KOk lo w Fr dk fT B f v ν → ∃ (A : Option Addr) (c : Nat) (l : List GTyped), v = .slice A l.length c ∧ Sl w (InL lo w) 11 A c (l.map GTyped.toD) ∧ bulkL GTyped.bulk l ≤ ν * (B + 1)
 | 0, v, ν, h => h.elim
 | f + 1, v, ν, h => by
  rcases h with rfl | ⟨b, n, c, cs, rfl, e2, e4, e5, e6, ks, e7, e8⟩
  · exact ⟨none, 0, [], rfl, Sl.nil (Nat.zero_le _), Nat.zero_le _⟩
  ·
   have hnode : ∀ j, j < n → ∃ t : GTyped, (∃ vs : List Value, vs.length = 11 ∧ (∀ i u, vs[i]? = some u → w.cell? ⟨b, 0 + j * 11 + i, none⟩ = some u) ∧ t.toD.rd w (InL lo w) vs) ∧ 1 + t.bulk ≤ (1 + ks j) * (B + 1) := fun j hj => by
    obtain ⟨k1, u, k2, k3⟩ := e7 j hj
    obtain ⟨A, c', l, rfl, q1, q2⟩ := KOk.read hFr f u _ k3
    obtain ⟨t, A1, c1, A2, c2, A3, c3, A4, c4, p1, p2, p3⟩ := k1.read hFr (ν := ks j) k2 q1 q2
    refine ⟨t, ⟨_, rfl, fun i u hi => ?_, GTyped.rd_mk p2⟩, ?_⟩
    · rw [Nat.zero_add, e2.cell]
      exact p1 i u hi
    · rw [Nat.add_mul, Nat.one_mul]; omega
   obtain ⟨l, h1, h2⟩ := list_of n hnode
   refine ⟨some ⟨b, 0, none⟩, c, l, by rw [h1], ⟨by rw [List.length_map, h1]; exact e5, e6, .inr ⟨b, 0, rfl, e2.lt, D.rdR_mk fun i hi => ?_⟩⟩, ?_⟩
   · rw [List.length_map] at hi
     obtain ⟨⟨vs, k1, k2, k3⟩, _⟩ := h2 i hi
     exact ⟨vs, k1, k2, by rw [List.getElem_map]; exact k3⟩
   · have := bulkL_sum (g := fun j => (1 + ks j) * (B + 1)) n l h1 fun j hj => (h2 j hj).2
     rw [sumTo_mul] at this
     exact Nat.le_trans this (Nat.mul_le_mul_right _ e8)
end
section
variable {lo : Nat} {tx : Ev.Tx} {m : Ev.Me} {s : Ev.Sg} {X : Ev.Loc → Ev.Vl} {w : World} {Fr : Nat → Prop} {dk : Nat}
theorem evBlk (hst : Ev.EvSt tx m s X w) (hlo : ∀ i b k, s i = some (b, k) → lo ≤ b) {id : Nat} {bk : Ev.Blk} (hb : Ev.T.get m.h id = some bk) {b k : Nat} (hs : s id = some (b, k)) : ∃ cs, RwL lo w b bk.ty cs ∧ (1 ≤ bk.es → cs.size = k * bk.es) ∧ bk.n ≤ cs.size ∧ ∀ i, i < bk.n → ∃ v, cs[i]? = some v ∧ Ev.RC tx s (Ev.cel bk.c i) v := by
 obtain ⟨h1, h2⟩ := hst.heap.at_ id bk hb
 obtain ⟨b', k', cs, g⟩ := hst.rel.bl id _ _ _ _ h2.mt
 have := g.at_
 rw [hs] at this
 cases this
 exact ⟨cs, ⟨hlo _ _ _ hs, g.blk⟩, g.cap, g.le, fun i hi => g.cl i _ hi (h2.cl i hi)⟩
theorem evTy_get {g : Nat → Option Nat} {K : Value → Nat → Prop} {c i r : Nat} {get : Nat → Option Value} (hc : ∀ j, j < 4 → ∃ v, get j = some v ∧ Ev.RC tx s (Ev.cel c (i + j)) v) (hg : ∀ q β v, g q = some β → Ev.RC tx s q v → K v β) (h : evTy dk g c i = some r) : TyOk w Fr dk K get r := by
 unfold evTy at h
 obtain ⟨r0, h0, h⟩ := Ev.bnd_some h
 obtain ⟨r1, h1, h⟩ := Ev.bnd_some h
 obtain ⟨r2, h2, h⟩ := Ev.bnd_some h
 obtain ⟨r3, h3, h⟩ := Ev.bnd_some h
 cases h
 rw [evC_eq] at h0 h1 h2 h3
 obtain ⟨v0, a0, b0⟩ := hc 0 (by omega)
 obtain ⟨v1, a1, b1⟩ := hc 1 (by omega)
 obtain ⟨v2, a2, b2⟩ := hc 2 (by omega)
 obtain ⟨v3, a3, b3⟩ := hc 3 (by omega)
 obtain ⟨n0, rfl, w0⟩ := evI_ok h0 b0
 obtain ⟨n1, rfl, w1⟩ := evI_ok h1 b1
 obtain ⟨t2, rfl, w2, w2'⟩ := evSt_ok h2 b2
 exact ⟨by omega, .inr ⟨n0, n1, t2, v3, r3, ⟨a0, a1, a2, a3⟩, w0, w1, w2', hg _ _ _ h3 b3, by omega⟩⟩
theorem sumTo_congr {f g : Nat → Nat} : ∀ n, (∀ j, j < n → f j = g j) → sumTo f n = sumTo g n
 | 0, _ => rfl
 | n + 1, h => by
  simp only [sumTo]
  rw [sumTo_congr n fun j hj => h j (by omega), h n (by omega)]
theorem evTyR_ok {g : Nat → Option Nat} {K : Value → Nat → Prop} {cs : Array Value} {c N o : Nat} (hc : ∀ i, i < N → ∃ v, cs[i]? = some v ∧ Ev.RC tx s (Ev.cel c i) v) (hg : ∀ q β v, g q = some β → Ev.RC tx s q v → K v β) :
 ∀ (n r : Nat), o + n * 4 ≤ N → evTyR dk g c o n = some r → ∃ βs : Nat → Nat, (∀ j, j < n → TyOk w Fr dk K (fun i => cs[o + j * 4 + i]?) (βs j)) ∧ sumTo (fun j => 1 + βs j) n ≤ r
 | 0, r, _, h => ⟨fun _ => 0, fun j hj => absurd hj (Nat.not_lt_zero _), Nat.zero_le _⟩
 | n + 1, r, hn, h => by
  rw [evTyR] at h
  obtain ⟨r1, h1, h⟩ := Ev.bnd_some h
  obtain ⟨r2, h2, h⟩ := Ev.bnd_some h
  cases h
  obtain ⟨βs, q1, q2⟩ := evTyR_ok hc hg n r1 (by omega) h1
  refine ⟨fun j => if j = n then r2 else βs j, fun j hj => ?_, ?_⟩
  · by_cases e : j = n
    · subst e
      simp only [if_true]
      exact evTy_get (fun i hi => hc (o + j * 4 + i) (by omega)) hg h2
    · simp only [if_neg e]
      exact q1 j (by omega)
  · simp only [sumTo, if_true]
    rw [sumTo_congr (g := fun j => 1 + βs j) n fun j hj => by rw [if_neg (by omega)]]
    omega
theorem evTyK_ok (hst : Ev.EvSt tx m s X w) (hlo : ∀ i b k, s i = some (b, k) → lo ≤ b) : ∀ (f c β : Nat) (v : Value), evTyK m.h dk f c = some β → Ev.RC tx s c v → TOk lo w Fr dk f v β
 | 0, c, β, v, h, hv => by cases h
 | f + 1, c, β, v, h, hv => by
  rw [evTyK] at h
  cases h7 : Nat.beq c 7 with
  | true =>
   have h7 := Ev.beq_t h7
   subst h7
   rcases hv.t7 rfl with ⟨rfl, _⟩ | ⟨id, eo, n, es, b, k, _, e, _⟩ | ⟨_, _, _, e, _⟩
   · exact .inl rfl
   · omega
   · omega
  | false =>
   rw [h7] at h
   have hne : c ≠ 7 := fun e => by rw [e] at h7; cases h7
   obtain ⟨id, eo, n, es, b, k, h1, rfl, h2, h3, h4⟩ := evSl_ok (f := fun id eo n es => Ev.iff' (Nat.beq es 4) (Ev.bnd (Ev.T.get m.h id) fun bk => Ev.iff' (Nat.beq bk.ty 27) (Ev.iff' (Nat.beq bk.es 4) (Ev.iff' (Nat.ble ((eo + n) * 4) bk.n) (evTyR dk (evTyK m.h dk f) bk.c (eo * 4) n) none) none) none) none) hne h hv
   obtain ⟨h5, h1⟩ := Ev.iff_some h1
   have h5 := Ev.beq_t h5
   subst h5
   obtain ⟨bk, h6, h1⟩ := Ev.bnd_some h1
   obtain ⟨h8, h1⟩ := Ev.iff_some h1
   obtain ⟨h9, h1⟩ := Ev.iff_some h1
   obtain ⟨h10, h1⟩ := Ev.iff_some h1
   have h8 := Ev.beq_t h8
   have h9 := Ev.beq_t h9
   have h10 : (eo + n) * 4 ≤ bk.n := Ev.ble_t h10
   obtain ⟨cs, p1, p2, p3, p4⟩ := evBlk hst hlo h6 h2
   have p2 := p2 (by omega)
   rw [h9] at p2
   rw [h8] at p1
   obtain ⟨βs, q1, q2⟩ := evTyR_ok (w := w) (Fr := Fr) p4 (fun q β v hq hv => evTyK_ok hst hlo f q β v hq hv) n β (by omega) h1
   exact .inr ⟨b, eo * 4, n, k - eo, cs, rfl, p1, by omega, by omega, by omega, by omega, βs, q1, q2⟩
theorem evInR_ok {cs : Array Value} {c N o : Nat} (hc : ∀ i, i < N → ∃ v, cs[i]? = some v ∧ Ev.RC tx s (Ev.cel c i) v) : ∀ (k r : Nat), o + k ≤ N → evInR c o k = some r → r = k ∧ ∀ i, i < k → ∃ z : Int, cs[o + i]? = some (.int .i64 z) ∧ (Lit.int .i64 z).wf = true
 | 0, r, _, h => by
  rw [evInR] at h; cases h
  exact ⟨rfl, fun i hi => absurd hi (Nat.not_lt_zero _)⟩
 | k + 1, r, hn, h => by
  rw [evInR] at h
  obtain ⟨r1, h1, h⟩ := Ev.bnd_some h
  obtain ⟨r2, h2, h⟩ := Ev.bnd_some h
  cases h
  obtain ⟨rfl, h4⟩ := evInR_ok hc k r1 (by omega) h1
  rw [evC_eq] at h2
  obtain ⟨v, a1, b1⟩ := hc (o + r1) (by omega)
  obtain ⟨x, rfl, w0⟩ := evI_ok h2 b1
  refine ⟨rfl, fun i hi => ?_⟩
  by_cases hik : i < r1
  · exact h4 i hik
  · have : i = r1 := by omega
    subst this
    exact ⟨x, a1, w0⟩
theorem evInK_ok (hst : Ev.EvSt tx m s X w) (hlo : ∀ i b k, s i = some (b, k) → lo ≤ b) {c β : Nat} {v : Value} (h : evInK m.h c = some β) (hv : Ev.RC tx s c v) : VOk lo w v β := by
 unfold evInK at h
 cases h7 : Nat.beq c 7 with
 | true =>
  have h7 := Ev.beq_t h7
  subst h7
  rcases hv.t7 rfl with ⟨rfl, _⟩ | ⟨id, eo, n, es, b, k, _, e, _⟩ | ⟨_, _, _, e, _⟩
  · exact .inl rfl
  · omega
  · omega
 | false =>
  rw [h7] at h
  have hne : c ≠ 7 := fun e => by rw [e] at h7; cases h7
  obtain ⟨id, eo, n, es, b, k, h1, rfl, h2, h3, h4⟩ := evSl_ok (f := fun id eo n es => Ev.iff' (Nat.beq es 1) (Ev.bnd (Ev.T.get m.h id) fun bk => Ev.iff' (Nat.beq bk.ty 3) (Ev.iff' (Nat.beq bk.es 1) (Ev.iff' (Nat.ble (eo + n) bk.n) (evInR bk.c eo n) none) none) none) none) hne h hv
  obtain ⟨h5, h1⟩ := Ev.iff_some h1
  have h5 := Ev.beq_t h5
  subst h5
  obtain ⟨bk, h6, h1⟩ := Ev.bnd_some h1
  obtain ⟨h8, h1⟩ := Ev.iff_some h1
  obtain ⟨h9, h1⟩ := Ev.iff_some h1
  obtain ⟨h10, h1⟩ := Ev.iff_some h1
  have h8 := Ev.beq_t h8
  have h9 := Ev.beq_t h9
  have h10 : eo + n ≤ bk.n := Ev.ble_t h10
  obtain ⟨cs, p1, p2, p3, p4⟩ := evBlk hst hlo h6 h2
  have p2 := p2 (by omega)
  rw [h9] at p2
  rw [h8] at p1
  obtain ⟨q0, q1⟩ := evInR_ok p4 n β h10 h1
  exact .inr ⟨b, eo * 1, n, k - eo, cs, rfl, p1, by omega, by omega, by omega, fun i hi => by rw [Nat.mul_one]; exact q1 i hi, by omega⟩
theorem evNd_ok (hst : Ev.EvSt tx m s X w) (hlo : ∀ i b k, s i = some (b, k) → lo ≤ b) {fT B c i r : Nat} {get : Nat → Option Value} (hc : ∀ j, j < 11 → ∃ v, get j = some v ∧ Ev.RC tx s (Ev.cel c (i + j)) v) (h : evNd m.h dk fT B c i = some r) : NdOk lo w Fr dk fT B get := by
 unfold evNd at h
 obtain ⟨r0, h0, h⟩ := Ev.bnd_some h
 obtain ⟨r1, h1, h⟩ := Ev.bnd_some h
 obtain ⟨r2, h2, h⟩ := Ev.bnd_some h
 obtain ⟨r3, h3, h⟩ := Ev.bnd_some h
 obtain ⟨r4, h4, h⟩ := Ev.bnd_some h
 obtain ⟨r8, h8, h⟩ := Ev.bnd_some h
 obtain ⟨r9, h9, h⟩ := Ev.bnd_some h
 obtain ⟨hB, h⟩ := Ev.iff_some h
 have hB : r2 + r3 + r4 + r8 + r9 ≤ B := Ev.ble_t hB
 rw [evC_eq] at h0 h1 h2 h3 h8 h9
 obtain ⟨v0, a0, b0⟩ := hc 0 (by omega)
 obtain ⟨v1, a1, b1⟩ := hc 1 (by omega)
 obtain ⟨v2, a2, b2⟩ := hc 2 (by omega)
 obtain ⟨v3, a3, b3⟩ := hc 3 (by omega)
 obtain ⟨v8, a8, b8⟩ := hc 8 (by omega)
 obtain ⟨v9, a9, b9⟩ := hc 9 (by omega)
 obtain ⟨n0, rfl, w0⟩ := evI_ok h0 b0
 obtain ⟨n1, rfl, w1⟩ := evI_ok h1 b1
 obtain ⟨t2, rfl, w2, w2'⟩ := evSt_ok h2 b2
 obtain ⟨t3, rfl, w3, w3'⟩ := evSt_ok h3 b3
 have ht := evTy_get (w := w) (Fr := Fr) (get := fun j => get (4 + j)) (fun j hj => by rw [Nat.add_assoc]; exact hc (4 + j) (by omega)) (fun q β v hq hv => evTyK_ok (Fr := Fr) hst hlo fT q β v hq hv) h4
 exact ⟨n0, n1, t2, t3, r4, v8, r8, v9, r9, ⟨a0, a1, a2, a3, a8, a9⟩, w0, w1, w2', w3', ht, evTyK_ok hst hlo fT _ _ _ h8 b8, evInK_ok hst hlo h9 b9, by omega⟩
theorem nuR_ok (hst : Ev.EvSt tx m s X w) (hlo : ∀ i b k, s i = some (b, k) → lo ≤ b) {fT B f c N : Nat} {cs : Array Value} (hc : ∀ i, i < N → ∃ v, cs[i]? = some v ∧ Ev.RC tx s (Ev.cel c i) v) {g : Nat → Option Nat} (hg : ∀ q k v, g q = some k → Ev.RC tx s q v → KOk lo w Fr dk fT B f v k) :
 ∀ (n ν : Nat), n * 11 ≤ N → nuR g m.h dk fT B c n = some ν → ∃ ks : Nat → Nat, (∀ j, j < n → NdOk lo w Fr dk fT B (fun i => cs[j * 11 + i]?) ∧ ∃ u, cs[j * 11 + 10]? = some u ∧ KOk lo w Fr dk fT B f u (ks j)) ∧ sumTo (fun j => 1 + ks j) n ≤ ν
 | 0, ν, _, h => ⟨fun _ => 0, fun j hj => absurd hj (Nat.not_lt_zero _), Nat.zero_le _⟩
 | n + 1, ν, hn, h => by
  rw [nuR] at h
  obtain ⟨r, h1, h⟩ := Ev.bnd_some h
  obtain ⟨r2, h2, h⟩ := Ev.bnd_some h
  obtain ⟨k, h3, h⟩ := Ev.bnd_some h
  cases h
  obtain ⟨ks, q1, q2⟩ := nuR_ok hst hlo hc hg n r (by omega) h1
  rw [evC_eq] at h3
  obtain ⟨u, a1, b1⟩ := hc (n * 11 + 10) (by omega)
  refine ⟨fun j => if j = n then k else ks j, fun j hj => ?_, ?_⟩
  · by_cases e : j = n
    · subst e
      simp only [if_true]
      exact ⟨evNd_ok hst hlo (fun i hi => hc (j * 11 + i) (by omega)) h2, u, a1, hg _ _ _ h3 b1⟩
    · simp only [if_neg e]
      exact q1 j (by omega)
  · simp only [sumTo, if_true]
    rw [sumTo_congr (g := fun j => 1 + ks j) n fun j hj => by rw [if_neg (by omega)]]
    omega
theorem nuK_ok (hst : Ev.EvSt tx m s X w) (hlo : ∀ i b k, s i = some (b, k) → lo ≤ b) {fT B : Nat} : ∀ (f c ν : Nat) (v : Value), nuK m.h dk fT B f c = some ν → Ev.RC tx s c v → KOk lo w Fr dk fT B f v ν
 | 0, c, ν, v, h, hv => by cases h
 | f + 1, c, ν, v, h, hv => by
  rw [nuK] at h
  cases h7 : Nat.beq c 7 with
  | true =>
   have h7 := Ev.beq_t h7
   subst h7
   rcases hv.t7 rfl with ⟨rfl, _⟩ | ⟨id, eo, n, es, b, k, _, e, _⟩ | ⟨_, _, _, e, _⟩
   · exact .inl rfl
   · omega
   · omega
  | false =>
   rw [h7] at h
   have hne : c ≠ 7 := fun e => by rw [e] at h7; cases h7
   obtain ⟨id, eo, n, es, b, k, h1, rfl, h2, h3, h4⟩ := evSl_ok (f := fun id eo n es => Ev.iff' (Nat.beq es 11) (Ev.iff' (Nat.beq eo 0) (Ev.bnd (Ev.T.get m.h id) fun bk => Ev.iff' (Nat.beq bk.ty 40) (Ev.iff' (Nat.ble (n * 11) bk.n) (nuR (nuK m.h dk fT B f) m.h dk fT B bk.c n) none) none) none) none) hne h hv
   obtain ⟨h5, h1⟩ := Ev.iff_some h1
   obtain ⟨h5', h1⟩ := Ev.iff_some h1
   have h5 := Ev.beq_t h5
   have h5' := Ev.beq_t h5'
   subst h5
   subst h5'
   obtain ⟨bk, h6, h1⟩ := Ev.bnd_some h1
   obtain ⟨h8, h1⟩ := Ev.iff_some h1
   obtain ⟨h9, h1⟩ := Ev.iff_some h1
   have h8 := Ev.beq_t h8
   have h9 : n * 11 ≤ bk.n := Ev.ble_t h9
   obtain ⟨cs, p1, p2, p3, p4⟩ := evBlk hst hlo h6 h2
   rw [h8] at p1
   obtain ⟨ks, q1, q2⟩ := nuR_ok hst hlo p4 (fun q k v hq hv => nuK_ok hst hlo f q k v hq hv) n ν h9 h1
   exact .inr ⟨b, n, k - 0, cs, by rw [Nat.zero_mul], p1, by omega, by omega, by omega, ks, q1, q2⟩
end
structure Bx (g : Nat) (w w' : World) : Prop where
 os : w'.os = w.os
 tape : w'.tape = w.tape
 output : w'.output = w.output
 size : w.heap.size ≤ w'.heap.size
 block : ∀ b, b < w.heap.size → b ≠ g → w'.heap[b]? = w.heap[b]?
theorem Bx.refl (g : Nat) (w : World) : Bx g w w := ⟨rfl, rfl, rfl, Nat.le_refl _, fun _ _ _ => rfl⟩
theorem Bx.trans {g : Nat} {a b c : World} (h : Bx g a b) (k : Bx g b c) : Bx g a c :=
 ⟨k.os.trans h.os, k.tape.trans h.tape, k.output.trans h.output, Nat.le_trans h.size k.size, fun i hi hg => (k.block i (Nat.lt_of_lt_of_le hi h.size) hg).trans (h.block i hi hg)⟩
theorem Bx.of_below {g B : Nat} {w w' : World} (h : Below B w w') (hB : w.heap.size ≤ B) : Bx g w w' := ⟨h.os, h.tape, h.output, h.size, fun b hb _ => h.block b (Nat.lt_of_lt_of_le hb hB)⟩
theorem Bx.alloc {g : Nat} {w w' : World} (h : Bx g w w') (o : Obj) : Bx g w (w'.alloc o) := h.trans (Bx.of_below ((Below.refl w'.heap.size w').alloc (Nat.le_refl _) o) (Nat.le_refl _))
theorem Bx.set {g : Nat} {w w' : World} (h : Bx g w w') {p : Addr} (hp : p.block = g ∨ w.heap.size ≤ p.block) (u : Value) : Bx g w (w'.setCell p u) :=
 ⟨h.os, h.tape, h.output, by simp [World.setCell]; exact h.size, fun b hb hg => (Below.heap_setCell w' p u b (by rcases hp with hp | hp <;> omega)).trans (h.block b hb hg)⟩
theorem Bx.below {g B : Nat} {w w' : World} (h : Bx g w w') (hB : B ≤ w.heap.size) (hg : B ≤ g) : Below B w w' := ⟨h.os, h.tape, h.output, h.size, fun b hb => h.block b (by omega) (by omega)⟩
theorem Bx.row {g b : Nat} {w w' : World} {T : TypeId} {cs : Array Value} (h : Bx g w w') (hr : Row w b T cs) (hne : b ≠ g) : Row w' b T cs := (h.block b hr.lt hne).trans hr
theorem setCells_kitE (w : World) (g k : Nat) (vs : List Value) : w.setCells g k vs = setCells w g k vs := by
 induction vs generalizing w k with
 | nil => rfl
 | cons v r ih => simp only [World.setCells, setCells, ih]
theorem bxCells (g k : Nat) (vs : List Value) : ∀ w : World, Bx g w (setCells w g k vs) := by
 induction vs generalizing k with
 | nil => exact fun w => Bx.refl _ _
 | cons v r ih => exact fun w => ((Bx.refl g w).set (p := ⟨g, k, none⟩) (.inl rfl) v).trans (ih (k + 1) _)
structure App (w w' : World) (e : TypeId) (size : Nat) (v : Value) (n b o c : Nat) (cs' : Array Value) : Prop where
 row : Row w' b e cs'
 al : o % size = 0
 cap : o + c * size ≤ cs'.size
 le : n + 1 ≤ c
 max : c ≤ maxLen
 bx : Bx b w w'
 frm : w.heap.size ≤ b ∨ ∃ cs, (∃ c0, v = .slice (some ⟨b, o, none⟩) n c0) ∧ Row w b e cs ∧ cs'.size = cs.size ∧ ∀ i, i < o + n * size ∨ o + n * size + size ≤ i → cs'[i]? = cs[i]?
 olds : (v = .slice none 0 0 ∧ n = 0) ∨ ∃ b0 o0 c0 cs0, v = .slice (some ⟨b0, o0, none⟩) n c0 ∧ Row w b0 e cs0 ∧ ∀ i, i < n * size → cs'[o + i]? = cs0[o0 + i]?
def InRow (w : World) (e : TypeId) (size : Nat) (v : Value) (n : Nat) : Prop := (v = .slice none 0 0 ∧ n = 0) ∨ ∃ b o c cs, v = .slice (some ⟨b, o, none⟩) n c ∧ Row w b e cs ∧ o % size = 0 ∧ o + c * size ≤ cs.size ∧ n ≤ c ∧ c ≤ maxLen
theorem App.write {w w' w'' : World} {e : TypeId} {size : Nat} {v : Value} {n b o c : Nat} {cs' cs'' : Array Value} (h : App w w' e size v n b o c cs') (hr : Row w'' b e cs'') (hz : cs''.size = cs'.size) (k : Bx b w' w'') (hsame : ∀ i, i < o + n * size ∨ o + n * size + size ≤ i → cs''[i]? = cs'[i]?) : App w w'' e size v n b o c cs'' := by
 refine ⟨hr, h.al, by rw [hz]; exact h.cap, h.le, h.max, h.bx.trans k, ?_, ?_⟩
 · rcases h.frm with h1 | ⟨cs, h0, h1, h2, h3⟩
   · exact .inl h1
   · exact .inr ⟨cs, h0, h1, hz.trans h2, fun i hi => (hsame i hi).trans (h3 i hi)⟩
 · rcases h.olds with h1 | ⟨b0, o0, c0, cs0, h1, h2, h3⟩
   · exact .inl h1
   · exact .inr ⟨b0, o0, c0, cs0, h1, h2, fun i hi => (hsame _ (.inl (by omega))).trans (h3 i hi)⟩
theorem app_one {P : Program} (w : World) (t ty e : TypeId) (z : Value) (size bytes : Nat) (ht : P.underlying t = some (.slice e)) (hi : (P.info? e).map (fun i => (i.zero, i.size, i.bytes)) = some (some z, size, bytes)) (hzs : z.cells.size = size) (hsz : 0 < size)
 {v : Value} {n : Nat} (hv : InRow w e size v n) (hn : n ≤ 4094) (hby : bytes ≤ 1048576) {g : Nat} {e' : TypeId} {news : Array Value} (hr : Row w g e' news) (hnl : news.size = size) (h1 : ∀ u ∈ news.toList, u.oneCell' = true) :
 ∃ b o c cs' w', (Builtin.append_ #[t, t] ty #[v, .slice (some ⟨g, 0, none⟩) 1 1]).run P w = .ok (.slice (some ⟨b, o, none⟩) (n + 1) c) w' ∧ App w w' e size v n b o c cs' ∧ ∀ i, i < size → cs'[o + n * size + i]? = news[i]? := by
 obtain ⟨i, i1, i2, i3, i4⟩ : ∃ i, P.info? e = some i ∧ i.zero = some z ∧ i.size = size ∧ i.bytes = bytes := by
  cases h : P.info? e with
  | none => rw [h] at hi; cases hi
  | some i =>
   rw [h] at hi
   simp only [Option.map_some, Option.some.injEq, Prod.mk.injEq] at hi
   exact ⟨i, rfl, hi.1, hi.2.1, hi.2.2⟩
 subst i3
 subst i4
 have hsrc : Src P i.size t (.slice (some ⟨g, 0, none⟩) 1 1) 1 news.toList w := Src.ofSlice w ht _ 1 1 _ (by simpa using hnl) (fun j u hu => by
   rw [Addr.add_lit, Nat.zero_add, hr.cell]; simpa using hu) h1
 have hfits : ∀ c, c < n + 1 → Builtin.nextslicecap (n + 1) c * i.bytes ≤ 281474976710656 := fun c hc => growslice_fits hc (by
   have : (n + 1) * i.bytes ≤ 4095 * 1048576 := Nat.mul_le_mul (by omega) hby
   omega)
 have hnew : ∀ (ao : Option Addr) (c : Nat) (olds : List Value), olds.length = n * i.size → c < n + 1 → (Builtin.firstCells i.size n (.slice ao n c)).run P w.drew = .ok olds.toArray w.drew → v = .slice ao n c →
  ((v = .slice none 0 0 ∧ n = 0) ∨ ∃ b0 o0 c0 cs0, v = .slice (some ⟨b0, o0, none⟩) n c0 ∧ Row w b0 e cs0 ∧ ∀ j, j < n * i.size → olds[j]? = cs0[o0 + j]?) →
  ∃ b o c cs' w', (Builtin.append_ #[t, t] ty #[v, .slice (some ⟨g, 0, none⟩) 1 1]).run P w = .ok (.slice (some ⟨b, o, none⟩) (n + 1) c) w' ∧ App w w' e i.size v n b o c cs' ∧ ∀ j, j < i.size → cs'[o + n * i.size + j]? = news[j]? := fun ao c olds hol hc hold hveq hov => by
  have hrun := run_append_grow_src (P := P) w t t ty e i z ht i1 i2 ao n c olds hold (.slice (some ⟨g, 0, none⟩) 1 1) 1 news.toList hsrc hc (by omega) (hfits c hc)
  have hk1 := grownCap_ge w (n + 1) c e
  have hk2 := grownCap_le_maxLen w (n + 1) c e (by simp only [maxLen]; omega)
  have hget : ∀ j, j < n * i.size → ((olds ++ news.toList).toArray ++ Builtin.zeroCells z.cells (grownCap w (n + 1) c e - (n + 1)))[0 + j]? = olds[j]? := fun j hj => by
   rw [Nat.zero_add, Array.getElem?_append_left (by simp; omega), List.getElem?_toArray, List.getElem?_append_left (by omega)]
  refine ⟨w.heap.size, 0, _, _, _, by rw [hveq]; exact hrun, ⟨Row.new w.drew e _, Nat.zero_mod _, ?_, hk1, hk2, Bx.of_below (show Below w.heap.size w (w.drew.alloc _) from ((Below.refl _ _).drew).alloc (Nat.le_refl _) _) (Nat.le_refl _), .inl (Nat.le_refl _), ?_⟩, fun j hj => ?_⟩
  · rw [Array.size_append, List.size_toArray, List.length_append, hol, size_zeroCells, hzs, Array.length_toList, hnl]
    have : n * i.size + i.size = (n + 1) * i.size := (Nat.succ_mul n i.size).symm
    rw [this, ← Nat.add_mul, Nat.zero_add]
    exact Nat.mul_le_mul_right _ (by omega)
  · rcases hov with h | ⟨b0, o0, c0, cs0, h2, h3, h4⟩
    · exact .inl h
    · exact .inr ⟨b0, o0, c0, cs0, h2, h3, fun j hj => (hget j hj).trans (h4 j hj)⟩
  · rw [Nat.zero_add, Array.getElem?_append_left (by simp; omega), List.getElem?_toArray, List.getElem?_append_right (by omega), hol, Nat.add_sub_cancel_left, Array.getElem?_toList]
 rcases hv with ⟨hv0, hn0⟩ | ⟨b, o, c, cs, hv0, hb, hal, hcap, hnc, hcm⟩
 · subst hn0
   exact hnew none 0 [] (by simp) (by omega) (run_firstCells_none _ _ _ _ _) hv0 (.inl ⟨hv0, rfl⟩)
 ·
  have hncs : o + n * i.size ≤ cs.size := Nat.le_trans (Nat.add_le_add_left (Nat.mul_le_mul_right _ hnc) _) hcap
  by_cases hf : n + 1 ≤ c
  ·
   have hfull : o + n * i.size + i.size ≤ cs.size := by
    have := Nat.mul_le_mul_right i.size hf
    rw [Nat.succ_mul] at this
    omega
   have hrun := run_append_room_src (P := P) w t t ty e i ht i1 b o n c (.slice (some ⟨g, 0, none⟩) 1 1) 1 news.toList hsrc hf (fun j hj => by
     rw [hb.cell, Array.getElem?_eq_getElem (by simp at hj; omega)]; rfl) (fun j hj => hb.frozen _)
   rw [setCells_kitE] at hrun
   obtain ⟨cs', q1, q2, q3, q4⟩ := setCells_row hb (o + n * i.size) news.toList
   have q3' : ∀ j, j < o + n * i.size ∨ o + n * i.size + i.size ≤ j → cs'[j]? = cs[j]? := fun j hj => q3 j (by rw [Array.length_toList, hnl]; exact hj)
   refine ⟨b, o, c, cs', _, by rw [hv0]; exact hrun, ⟨q1, hal, by rw [q2]; exact hcap, hf, hcm, bxCells _ _ _ _, .inr ⟨cs, ⟨c, hv0⟩, hb, q2, q3'⟩, .inr ⟨b, o, c, cs, hv0, hb, fun j hj => q3' _ (.inl (by omega))⟩⟩, fun j hj => ?_⟩
   have e2 : news[j]? = some news[j] := Array.getElem?_eq_getElem (by omega)
   rw [e2]
   exact q4 j _ (by rw [Array.getElem?_toList]; exact e2) (by omega)
  ·
   have hsl : ∀ j, j < n * i.size → ((cs.extract o (o + n * i.size)).toList)[j]? = cs[o + j]? := fun j hj => by
    rw [Array.getElem?_toList, Array.getElem?_extract, if_pos (by rw [Nat.min_eq_left hncs]; omega)]
   have hlen : ((cs.extract o (o + n * i.size)).toList).length = n * i.size := by rw [Array.length_toList, Array.size_extract]; omega
   refine hnew (some ⟨b, o, none⟩) c _ hlen (by omega) (run_firstCells_some _ _ _ _ _ _ _ hlen fun j u hu => ?_) hv0 (.inr ⟨b, o, c, cs, hv0, hb, hsl⟩)
   have hj : j < n * i.size := by
    have := (List.getElem?_eq_some_iff.1 hu).1
    omega
   rw [Addr.add_lit]
   show w.cell? ⟨b, o + j, none⟩ = _
   rw [hb.cell, ← hsl j hj]; exact hu
theorem wp_append_row {P : Program} (w : World) {o : Oper} {a : Act} {K : Act → World → Prop} {Q : Exit → Act → World → Prop} (s x : Operand) (t : TypeId) (ho : o.op = .call { callee := .builtin .append, args := #[s, x], argTypes := #[t, t] })
 (e : TypeId) (z : Value) (size bytes : Nat) (ht : P.underlying t = some (.slice e)) (hi : (P.info? e).map (fun i => (i.zero, i.size, i.bytes)) = some (some z, size, bytes)) (hzs : z.cells.size = size) (hsz : 0 < size)
 {v : Value} {n : Nat} (hv : InRow w e size v n) (hn : n ≤ 4094) (hby : bytes ≤ 1048576) {g : Nat} {e' : TypeId} {news : Array Value} (hr : Row w g e' news) (hnl : news.size = size) (h1 : ∀ u ∈ news.toList, u.oneCell' = true)
 (hs : a.eval s = v) (hx : a.eval x = .slice (some ⟨g, 0, none⟩) 1 1)
 (h : ∀ b o' c cs' w', App w w' e size v n b o' c cs' → (∀ i, i < size → cs'[o' + n * size + i]? = news[i]?) → K (a.put o.dst (.slice (some ⟨b, o', none⟩) (n + 1) c)) w') : Oper.wp P o a w K Q := by
 obtain ⟨b, o', c, cs', w', hrun, h2, h3⟩ := app_one (P := P) w t o.type e z size bytes ht hi hzs hsz hv hn hby hr hnl h1
 have := h b o' c cs' w' h2 h3
 unfold Oper.wp
 simp [execOp, ho, resolve, invoke, builtin, hs, hx, hrun, Result.andThen]
 exact this
theorem rowSame {w : World} {b : Nat} {t t' : TypeId} {cs cs' : Array Value} (h : Row w b t cs) (h' : Row w b t' cs') : t = t' ∧ cs = cs' := by
 have := h.symm.trans h'
 cases this
 exact ⟨rfl, rfl⟩
section
variable {lo : Nat} {w w' : World} {Fr Fr' : Nat → Prop} {dk fT B : Nat}
theorem sumTo_len (βs : Nat → Nat) : ∀ n, n ≤ sumTo (fun j => 1 + βs j) n
 | 0 => Nat.le_refl _
 | n + 1 => by have := sumTo_len βs n; show n + 1 ≤ sumTo _ n + (1 + βs n); omega
theorem TOk.inRow {f : Nat} {v : Value} {β : Nat} (h : TOk lo w Fr dk f v β) : ∃ A n c, v = .slice A n c ∧ n ≤ β ∧ InRow w 27 4 v n ∧ ∀ b o c, v = .slice (some ⟨b, o, none⟩) n c → lo ≤ b ∧ b < w.heap.size := by
 cases f with
 | zero => exact h.elim
 | succ f =>
  rcases h with h | ⟨b, o, n, c, cs, h1, h2, h3, h4, h5, h6, βs, h7, h8⟩
  · exact ⟨_, _, _, h, Nat.zero_le _, .inl ⟨h, rfl⟩, fun b o c e => by rw [h] at e; cases e⟩
  · exact ⟨_, _, _, h1, Nat.le_trans (sumTo_len βs n) h8, .inr ⟨b, o, c, cs, h1, h2.2, h3, h4, h5, h6⟩, fun b' o' c' e => by rw [h1] at e; cases e; exact h2.lt⟩
theorem VOk.inRow {v : Value} {β : Nat} (h : VOk lo w v β) : ∃ A n c, v = .slice A n c ∧ n ≤ β ∧ InRow w 3 1 v n ∧ ∀ b o c, v = .slice (some ⟨b, o, none⟩) n c → lo ≤ b ∧ b < w.heap.size := by
 rcases h with h | ⟨b, o, n, c, cs, h1, h2, h3, h4, h5, h6, h7⟩
 · exact ⟨_, _, _, h, Nat.zero_le _, .inl ⟨h, rfl⟩, fun b o c e => by rw [h] at e; cases e⟩
 · exact ⟨_, _, _, h1, h7, .inr ⟨b, o, c, cs, h1, h2.2, Nat.mod_one _, by omega, h4, h5⟩, fun b' o' c' e => by rw [h1] at e; cases e; exact h2.lt⟩
theorem App.rwl {e : TypeId} {size : Nat} {v : Value} {n b o c : Nat} {cs' : Array Value} (ha : App w w' e size v n b o c cs') (hl : lo ≤ w.heap.size) (hv : ∀ b o c, v = .slice (some ⟨b, o, none⟩) n c → lo ≤ b ∧ b < w.heap.size) : RwL lo w' b e cs' := by
 refine ⟨?_, ha.row⟩
 rcases ha.frm with h | ⟨_, ⟨c0, h⟩, _⟩
 · omega
 · exact (hv _ _ _ h).1
theorem TOk.push (ht : Turn0 lo w w' Fr Fr' dk) (hl : lo ≤ w.heap.size) {f n β : Nat} {v : Value} (h : TOk lo w Fr dk f v β) {b o c' : Nat} {cs' : Array Value} (ha : App w w' 27 4 v n b o c' cs') (hn : NewTy w' Fr' dk (fun i => cs'[o + n * 4 + i]?)) : TOk lo w' Fr' dk f (.slice (some ⟨b, o, none⟩) (n + 1) c') (β + (1 + dk)) := by
 cases f with
 | zero => exact h.elim
 | succ f =>
  have hrow : RwL lo w' b 27 cs' := by
   obtain ⟨A', n', c'', e', -, -, hb⟩ := h.inRow
   refine ha.rwl hl fun b o c e => ?_
   have : n' = n := by rw [e'] at e; cases e; rfl
   subst this
   exact hb b o c e
  rcases ha.olds with ⟨e, rfl⟩ | ⟨b1, o1, c1, cs1, rfl, e2, e3⟩
  · refine .inr ⟨b, o, 0 + 1, c', cs', rfl, hrow, ha.al, ha.cap, ha.le, ha.max, fun _ => dk, fun j hj => ?_, by simp only [sumTo]; omega⟩
    have : j = 0 := by omega
    subst this
    exact ⟨Nat.le_refl _, .inl hn⟩
  ·
   rcases h with h | ⟨b0, o0, n0, c0, cs0, h1, h2, h3, h4, h5, h6, βs, h7, h8⟩
   · cases h
   ·
    cases h1
    obtain ⟨-, rfl⟩ := rowSame h2.2 e2
    refine .inr ⟨b, o, n + 1, c', cs', rfl, hrow, ha.al, ha.cap, ha.le, ha.max, fun j => if j = n then dk else βs j, fun j hj => ?_, ?_⟩
    ·
     by_cases e : j = n
     · subst e
       simp only [if_true]
       exact ⟨Nat.le_refl _, .inl hn⟩
     · simp only [if_neg e]
       refine ((h7 j (by omega)).imp ht.fr fun u β hu => TOk.turn ht f u β hu).congr fun i hi => ?_
       have := e3 (j * 4 + i) (by omega)
       rw [← Nat.add_assoc, ← Nat.add_assoc] at this
       exact this
    · simp only [sumTo, if_true]
      rw [sumTo_congr (g := fun j => 1 + βs j) n fun j hj => by rw [if_neg (by omega)]]
      omega
theorem VOk.push (hl : lo ≤ w.heap.size) {n β : Nat} {v : Value} (h : VOk lo w v β) {b o c' : Nat} {cs' : Array Value} (ha : App w w' 3 1 v n b o c' cs') (hn : ∃ z : Int, cs'[o + n * 1]? = some (.int .i64 z) ∧ (Lit.int .i64 z).wf = true) : VOk lo w' (.slice (some ⟨b, o, none⟩) (n + 1) c') (β + 1) := by
 have hcap := ha.cap
 have hrow : RwL lo w' b 3 cs' := by
  obtain ⟨A', n', c'', e', -, -, hb⟩ := h.inRow
  refine ha.rwl hl fun b o c e => ?_
  have : n' = n := by rw [e'] at e; cases e; rfl
  subst this
  exact hb b o c e
 rcases ha.olds with ⟨e, rfl⟩ | ⟨b1, o1, c1, cs1, rfl, e2, e3⟩
 · refine .inr ⟨b, o, 0 + 1, c', cs', rfl, hrow, by omega, ha.le, ha.max, fun i hi => ?_, by omega⟩
   have : i = 0 := by omega
   subst this
   exact hn
 ·
  rcases h with h | ⟨b0, o0, n0, c0, cs0, h1, h2, h3, h4, h5, h6, h7⟩
  · cases h
  · cases h1
    obtain ⟨-, rfl⟩ := rowSame h2.2 e2
    refine .inr ⟨b, o, n + 1, c', cs', rfl, hrow, by omega, ha.le, ha.max, fun i hi => ?_, by omega⟩
    by_cases e : i = n
    · subst e; rw [Nat.mul_one] at hn; exact hn
    · rw [e3 i (by omega)]; exact h6 i (by omega)
theorem App.turnT {v : Value} {n b o c : Nat} {cs' : Array Value} (ha : App w w' 27 4 v n b o c cs') (hn : NewTy w' Fr' dk (fun i => cs'[o + n * 4 + i]?)) : Turn0 lo w w' (fun _ => False) Fr' dk := by
 refine ⟨fun _ h => h.elim, fun x cs hx => ⟨cs, ?_, rfl, fun i _ => .inl rfl⟩, fun x cs hx => ?_⟩
 ·
  refine ⟨hx.1, (ha.bx.block x hx.lt.2 ?_).trans hx.2⟩
  rintro rfl
  rcases ha.frm with h | ⟨cs2, -, h, -⟩
  · have := hx.lt.2; omega
  · have := (rowSame hx.2 h).1
    revert this; decide
 ·
  by_cases e : x = b
  ·
   subst e
   rcases ha.frm with h | ⟨cs2, -, h, h2, h3⟩
   · have := hx.lt.2; omega
   · obtain ⟨-, rfl⟩ := rowSame hx.2 h
     refine ⟨cs', ⟨hx.1, ha.row⟩, h2, fun p hp hp4 => ?_⟩
     have hal := ha.al
     by_cases ep : p = o + n * 4
     · subst ep; exact .inr hn
     · exact .inl fun i hi => h3 (p + i) (by omega)
  · exact ⟨cs, ⟨hx.1, (ha.bx.block x hx.lt.2 e).trans hx.2⟩, rfl, fun _ _ _ => .inl fun _ _ => rfl⟩
theorem App.turnV {v : Value} {n b o c : Nat} {cs' : Array Value} (ha : App w w' 3 1 v n b o c cs') (hn : ∃ z : Int, cs'[o + n * 1]? = some (.int .i64 z) ∧ (Lit.int .i64 z).wf = true) : Turn0 lo w w' (fun _ => False) Fr' dk := by
 refine ⟨fun _ h => h.elim, fun x cs hx => ?_, fun x cs hx => ⟨cs, ?_, rfl, fun _ _ _ => .inl fun _ _ => rfl⟩⟩
 ·
  by_cases e : x = b
  ·
   subst e
   rcases ha.frm with h | ⟨cs2, -, h, h2, h3⟩
   · have := hx.lt.2; omega
   · obtain ⟨-, rfl⟩ := rowSame hx.2 h
     refine ⟨cs', ⟨hx.1, ha.row⟩, h2, fun i hi => ?_⟩
     by_cases ep : i = o + n * 1
     · subst ep; exact .inr hn
     · exact .inl (h3 i (by omega))
  · exact ⟨cs, ⟨hx.1, (ha.bx.block x hx.lt.2 e).trans hx.2⟩, rfl, fun i _ => .inl rfl⟩
 ·
  refine ⟨hx.1, (ha.bx.block x hx.lt.2 ?_).trans hx.2⟩
  rintro rfl
  rcases ha.frm with h | ⟨cs2, -, h, -⟩
  · have := hx.lt.2; omega
  · have := (rowSame hx.2 h).1
    revert this; decide
theorem NdOk.anew (ht : Turn0 lo w w' Fr Fr' dk) {get get' : Nat → Option Value} (h : NdOk lo w Fr dk fT B get)
 (h0 : get' 0 = get 0 ∨ ∃ z : Int, get' 0 = some (.int .i64 z) ∧ (Lit.int .i64 z).wf = true) (h1 : get' 1 = get 1) (h2 : get' 2 = get 2 ∨ ∃ s : ByteArray, get' 2 = some (.string s) ∧ s.size ≤ 3) (h3 : get' 3 = get 3)
 (h4 : (∀ i, i < 4 → get' (4 + i) = get (4 + i)) ∨ NewTy w' Fr' dk (fun i => get' (4 + i)))
 (h8 : get' 8 = get 8 ∨ ∀ u β, get 8 = some u → TOk lo w Fr dk fT u β → ∃ u', get' 8 = some u' ∧ TOk lo w' Fr' dk fT u' (β + (1 + dk)))
 (h9 : get' 9 = get 9 ∨ ∀ u β, get 9 = some u → VOk lo w u β → ∃ u', get' 9 = some u' ∧ VOk lo w' u' (β + 1)) : NdOk lo w' Fr' dk fT (B + dk + 5) get' := by
 obtain ⟨op, n, s, t, βt, u8, β8, u9, β9, ⟨g0, g1, g2, g3, g8, g9⟩, k1, k2, k3, k4, k5, k6, k7, k8⟩ := h
 obtain ⟨op', e0, f0⟩ : ∃ z : Int, get' 0 = some (.int .i64 z) ∧ (Lit.int .i64 z).wf = true := by
  rcases h0 with h | h
  · exact ⟨op, h.trans g0, k1⟩
  · exact h
 obtain ⟨s', e2, f2, f2'⟩ : ∃ s' : ByteArray, get' 2 = some (.string s') ∧ s'.size ≤ maxLen ∧ s'.size ≤ s.size + 3 := by
  rcases h2 with h | ⟨s', h, h'⟩
  · exact ⟨s, h.trans g2, k3, by omega⟩
  · exact ⟨s', h, by unfold maxLen; omega, by omega⟩
 have f4 : TyOk w' Fr' dk (TOk lo w' Fr' dk fT) (fun i => get' (4 + i)) βt := by
  rcases h4 with h | h
  · exact (k5.imp ht.fr fun u β hu => TOk.turn ht fT u β hu).congr h
  · exact ⟨k5.1, .inl h⟩
 obtain ⟨u8', β8', e8, f8, f8'⟩ : ∃ u' β', get' 8 = some u' ∧ TOk lo w' Fr' dk fT u' β' ∧ β' ≤ β8 + (1 + dk) := by
  rcases h8 with h | h
  · exact ⟨u8, β8, h.trans g8, TOk.turn ht fT _ _ k6, by omega⟩
  · obtain ⟨u', q1, q2⟩ := h _ _ g8 k6
    exact ⟨u', _, q1, q2, Nat.le_refl _⟩
 obtain ⟨u9', β9', e9, f9, f9'⟩ : ∃ u' β', get' 9 = some u' ∧ VOk lo w' u' β' ∧ β' ≤ β9 + 1 := by
  rcases h9 with h | h
  · exact ⟨u9, β9, h.trans g9, k7.turn ht, by omega⟩
  · obtain ⟨u', q1, q2⟩ := h _ _ g9 k7
    exact ⟨u', _, q1, q2, Nat.le_refl _⟩
 exact ⟨op', n, s', t, βt, u8', β8', u9', β9', ⟨e0, h1.trans g1, e2, h3.trans g3, e8, e9⟩, f0, k2, f2, k4, f4, f8, f9, by omega⟩
theorem newTy_of {t : GTy} {A : Option Addr} {c : Nat} {w1 : World} {S : Nat → Prop} {get : Nat → Option Value} (h : GTy.At w1 S A c t) (hk : ∀ b, S b → Fr' b ∧ w'.heap[b]? = w1.heap[b]?) (hb : t.bulk ≤ dk) (g0 : get 0 = some (.int .i64 t.op)) (g1 : get 1 = some (.int .i64 t.n)) (g2 : get 2 = some (.string t.s)) (g3 : get 3 = some (.slice A t.kids.length c)) : NewTy w' Fr' dk get :=
 ⟨t, A, c, ⟨g0, g1, g2, g3⟩, ⟨h.1, h.2.1, h.2.2.1, h.2.2.2.keep hk⟩, hb⟩
end
set_option maxRecDepth 1000000
noncomputable def evE (tx : Ev.Tx) : Ev.En := ⟨Ev.P, Ev.TY, Ev.O, tx⟩
noncomputable def evOkP (v : Nat) : Bool := Nat.beq (evC v 6) 9223372036854775801
noncomputable def evOkI (v : Nat) : Bool := Nat.beq (evC v 11) 9223372036854775809
noncomputable def evOkF (v : Nat) (m : Ev.Me) : Bool := Option.rec false (fun _ => Option.rec false (fun n => Nat.ble n 250) (nuK m.h 100 8 2400 64 (evC v 10))) (evNd m.h 100 8 2400 v 0)
theorem evOkF_t {v : Nat} {m : Ev.Me} (h : evOkF v m = true) : ∃ r n, evNd m.h 100 8 2400 v 0 = some r ∧ nuK m.h 100 8 2400 64 (evC v 10) = some n ∧ n ≤ 250 := by
 unfold evOkF at h
 cases h1 : evNd m.h 100 8 2400 v 0 with
 | none => rw [h1] at h; cases h
 | some r =>
  rw [h1] at h
  cases h2 : nuK m.h 100 8 2400 64 (evC v 10) with
  | none => rw [h2] at h; cases h
  | some n =>
   rw [h2] at h
   exact ⟨r, n, rfl, rfl, Ev.ble_t h⟩
structure Txt3 (tx : Ev.Tx) : Prop where
 n1 : 8 < tx.n
 n2 : tx.n < 4096
 ok : ∃ v1 m1 v2 m2 v3 m3, evOkF v3 m3 = true ∧ m1.lg = [] ∧ m2.lg = [] ∧ m3.lg = [] ∧ Ev.CallOk Ev.P tx Ev.TY 67 (Ev.arg0 tx) ⟨.e, 0, []⟩ v1 m1 ∧ Ev.CallOk Ev.P tx Ev.TY 54 (Ev.arg2 6 v1) ⟨m1.h, m1.nx, []⟩ v2 m2 ∧ Ev.CallOk Ev.P tx Ev.TY 47 (Ev.arg3 11 v2) ⟨m2.h, m2.nx, []⟩ v3 m3
noncomputable def tiAt (k : Nat) : Ev.TI := (Ev.T.get Ev.TY k).getD ⟨0, 0, .str⟩
theorem ty_ok : Ev.chkT Ev.P Ev.TY (fun k => k) = true := by decide +kernel
theorem nm_ok : Ev.chkN Ev.P.funcs.toList = true := by decide +kernel
theorem mx_ok : Ev.P.follows .mixedOrders = true := by decide +kernel
theorem tyT : ∀ t ti, Ev.TY.get t = some ti → Ev.tiOf Ev.P t = some ti := Ev.chkT_t ty_ok
theorem nmT : ∀ (f : FuncId) (fn : Func), Ev.P.funcs[f]? = some fn → (fn.name == "runtime.NumGoroutine") = false := fun f fn h => Ev.chkN_t nm_ok fn (by
  obtain ⟨hl, rfl⟩ := Array.getElem?_eq_some_iff.1 h
  exact Array.getElem_mem_toList hl)
theorem sigP (tx : Ev.Tx) : Ev.Sig (evE tx) 67 Tryz.f67 [tiAt 9] [tiAt 64, tiAt 3] := ⟨Tryz.func67, by kernel_rfl, by kernel_rfl⟩
theorem sigI (tx : Ev.Tx) : Ev.Sig (evE tx) 54 Tryz.f54 [tiAt 64] [tiAt 40, tiAt 3] := ⟨Tryz.func54, by kernel_rfl, by kernel_rfl⟩
theorem sigF (tx : Ev.Tx) : Ev.Sig (evE tx) 47 Tryz.f47 [tiAt 80, tiAt 40] [tiAt 40] := ⟨Tryz.func47, by kernel_rfl, by kernel_rfl⟩
theorem tiS : (tiAt 9).k = .str ∧ (tiAt 9).sz = 1 := ⟨by kernel_rfl, by kernel_rfl⟩
theorem tiP : Ev.shOf (tiAt 64) = .g 6 ∧ (tiAt 64).sz = 6 := ⟨by kernel_rfl, by kernel_rfl⟩
theorem tiT : Ev.shOf (tiAt 40) = .g 11 ∧ (tiAt 40).sz = 11 := ⟨by kernel_rfl, by kernel_rfl⟩
theorem tiB : Ev.shOf (tiAt 80) = .c ∧ (tiAt 80).sz = 1 := ⟨by kernel_rfl, by kernel_rfl⟩
theorem shP1 : Ev.retSh [tiAt 64, tiAt 3] = .t [(6, true), (1, false)] := by kernel_rfl
theorem shI1 : Ev.retSh [tiAt 40, tiAt 3] = .t [(11, true), (1, false)] := by kernel_rfl
theorem shF1 : Ev.retSh [tiAt 40] = .g 11 := tiT.1
theorem txt3_of {tx : Ev.Tx} (n1 : 8 < tx.n) (n2 : tx.n < 4096) (h : Ev.chain (evE tx) 3000 67 54 47 6 11 evOkP evOkI evOkF = true) : Txt3 tx := by
 obtain ⟨v1, m1, v2, m2, v3, m3, _, _, h3, g1, g2, g3, k1, k2, k3⟩ := Ev.chain_t (E := evE tx) tyT nmT mx_ok h (sigP tx) (sigI tx) (sigF tx) tiS.1 tiS.2 n1 n2 shP1 rfl tiP.1 tiP.2 shI1 rfl tiB.1 tiB.2 tiT.1 tiT.2
 exact ⟨n1, n2, v1, m1, v2, m2, v3, m3, h3, g1, g2, g3, k1, k2, k3⟩
end Go.Proofs.YtlpichogambpfaaGreat
