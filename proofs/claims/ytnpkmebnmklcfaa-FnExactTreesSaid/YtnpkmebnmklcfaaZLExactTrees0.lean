/- Texts of the claim LExactTrees in one: Mem GNode GAsk GTrow GTree App AppS Grow AppM Grx. Conditions: none but bounds on sizes. -/
import Derived.WalkKit
import Derived.Deep.AppendLies
import Derived.Maps.Range
import Derived.Maps.AppendAt
import Derived.Deep.AppendSrc
/- How trees lie in memory: a reading of cells as data, and that it is kept where its blocks are kept (no program in sight). Conditions: none. -/
namespace Go.Proofs.Ytnpkmebnmklcfaa
open Go.RowKit
set_option linter.unusedVariables false

/-- data: numbers, strings, bools, structs (their fields' cells one behind the other), slices (with the number of cells of an element) -/
inductive D where
  | num (k : IntKind) (n : Int)
  | str (s : ByteArray)
  | bool (b : Bool)
  | agg (fs : List D)
  | sl (size : Nat) (xs : List D)

mutual
/-- the cells cs read as the data; each block that is gone to is one of S -/
def D.rd (w : World) (S : Nat → Prop) : D → List Value → Prop
  | .num k n, cs => cs = [.int k n] ∧ (Lit.int k n).wf = true
  | .str s, cs => cs = [.string s] ∧ s.size ≤ maxLen
  | .bool b, cs => cs = [.bool b]
  | .agg fs, cs => D.rdF w S fs cs
  | .sl size xs, cs => ∃ A c, cs = [.slice A xs.length c] ∧ xs.length ≤ c ∧ c ≤ maxLen ∧ (xs = [] ∨ ∃ b off, A = some ⟨b, off, none⟩ ∧ S b ∧ D.rdR w S size b xs off)
def D.rdF (w : World) (S : Nat → Prop) : List D → List Value → Prop
  | [], cs => cs = []
  | d :: r, cs => ∃ c1 c2, cs = c1 ++ c2 ∧ D.rd w S d c1 ∧ D.rdF w S r c2
def D.rdR (w : World) (S : Nat → Prop) (size b : Nat) : List D → Nat → Prop
  | [], _ => True
  | d :: r, off => (∃ cs, cs.length = size ∧ (∀ j v, cs[j]? = some v → w.cell? ⟨b, off + j, none⟩ = some v) ∧ D.rd w S d cs) ∧ D.rdR w S size b r (off + size)
end

mutual
/-- the same, where each slice lies in a block of its own that may be written; all of them are of S -/
def D.own (w : World) : D → (Nat → Prop) → List Value → Prop
  | .num k n, _, cs => cs = [.int k n] ∧ (Lit.int k n).wf = true
  | .str s, _, cs => cs = [.string s] ∧ s.size ≤ maxLen
  | .bool b, _, cs => cs = [.bool b]
  | .agg fs, S, cs => D.ownF w fs S cs
  | .sl size xs, S, cs => ∃ A c, cs = [.slice A xs.length c] ∧ xs.length ≤ c ∧ c ≤ maxLen ∧ (xs = [] ∨ ∃ b, A = some ⟨b, 0, none⟩ ∧ S b ∧ (∀ o, w.frozen? ⟨b, o, none⟩ = false) ∧ D.ownR w size b xs (fun x => S x ∧ x ≠ b) 0)
def D.ownF (w : World) : List D → (Nat → Prop) → List Value → Prop
  | [], _, cs => cs = []
  | d :: r, S, cs => ∃ (S1 S2 : Nat → Prop) (c1 c2 : List Value), (∀ x, S1 x → S x ∧ ¬ S2 x) ∧ (∀ x, S2 x → S x) ∧ cs = c1 ++ c2 ∧ D.own w d S1 c1 ∧ D.ownF w r S2 c2
def D.ownR (w : World) (size b : Nat) : List D → (Nat → Prop) → Nat → Prop
  | [], _, _ => True
  | d :: r, S, off => ∃ (S1 S2 : Nat → Prop) (cs : List Value), (∀ x, S1 x → S x ∧ ¬ S2 x) ∧ (∀ x, S2 x → S x) ∧ cs.length = size ∧ (∀ j v, cs[j]? = some v → w.cell? ⟨b, off + j, none⟩ = some v) ∧ D.own w d S1 cs ∧ D.ownR w size b r S2 (off + size)
end

/-! ### the reading, kept -/
mutual
theorem D.rd_keep {w w' : World} {S S' : Nat → Prop} (h : ∀ b, S b → S' b ∧ w'.heap[b]? = w.heap[b]?) : ∀ (d : D) (cs : List Value), d.rd w S cs → d.rd w' S' cs
  | .num _ _, _, hd => by simpa only [D.rd] using hd
  | .str _, _, hd => by simpa only [D.rd] using hd
  | .bool _, _, hd => by simpa only [D.rd] using hd
  | .agg fs, cs, hd => by
    simp only [D.rd] at hd ⊢
    exact D.rdF_keep h fs cs hd
  | .sl size xs, cs, hd => by
    simp only [D.rd] at hd ⊢
    obtain ⟨A, c, h1, h2, h3, h4⟩ := hd
    refine ⟨A, c, h1, h2, h3, ?_⟩
    rcases h4 with h4 | ⟨b, off, e, hS, hr⟩
    · exact .inl h4
    · exact .inr ⟨b, off, e, (h b hS).1, D.rdR_keep h size b hS xs off hr⟩
theorem D.rdF_keep {w w' : World} {S S' : Nat → Prop} (h : ∀ b, S b → S' b ∧ w'.heap[b]? = w.heap[b]?) : ∀ (fs : List D) (cs : List Value), D.rdF w S fs cs → D.rdF w' S' fs cs
  | [], _, hd => by simpa only [D.rdF] using hd
  | d :: r, cs, hd => by
    simp only [D.rdF] at hd ⊢
    obtain ⟨c1, c2, e, h1, h2⟩ := hd
    exact ⟨c1, c2, e, D.rd_keep h d c1 h1, D.rdF_keep h r c2 h2⟩
theorem D.rdR_keep {w w' : World} {S S' : Nat → Prop} (h : ∀ b, S b → S' b ∧ w'.heap[b]? = w.heap[b]?) (size b : Nat) (hb : S b) : ∀ (xs : List D) (off : Nat), D.rdR w S size b xs off → D.rdR w' S' size b xs off
  | [], _, _ => by simp only [D.rdR]
  | d :: r, off, hd => by
    simp only [D.rdR] at hd ⊢
    obtain ⟨⟨cs, h1, h2, h3⟩, h4⟩ := hd
    exact ⟨⟨cs, h1, fun j v hj => (World.cell?_of_block (h b hb).2).trans (h2 j v hj), D.rd_keep h d cs h3⟩, D.rdR_keep h size b hb r (off + size) h4⟩
end

theorem D.rdR_get {w : World} {S : Nat → Prop} {size b : Nat} : ∀ {xs : List D} {off : Nat}, D.rdR w S size b xs off → ∀ (i : Nat) (h : i < xs.length),
    ∃ cs, cs.length = size ∧ (∀ j v, cs[j]? = some v → w.cell? ⟨b, off + i * size + j, none⟩ = some v) ∧ (xs[i]).rd w S cs
  | [], _, _, i, h => by simp at h
  | d :: r, off, hr, i, h => by
    simp only [D.rdR] at hr
    match i with
    | 0 => obtain ⟨⟨cs, h1, h2, h3⟩, _⟩ := hr; exact ⟨cs, h1, by simpa using h2, h3⟩
    | i + 1 =>
      obtain ⟨cs, h1, h2, h3⟩ := D.rdR_get hr.2 i (by simpa using h)
      refine ⟨cs, h1, fun j v hj => ?_, by simpa using h3⟩
      rw [← h2 j v hj]
      congr 2
      rw [Nat.add_mul]; omega

theorem D.rdR_mk {w : World} {S : Nat → Prop} {size b : Nat} : ∀ {xs : List D} {off : Nat}, (∀ (i : Nat) (h : i < xs.length),
    ∃ cs, cs.length = size ∧ (∀ j v, cs[j]? = some v → w.cell? ⟨b, off + i * size + j, none⟩ = some v) ∧ (xs[i]).rd w S cs) → D.rdR w S size b xs off
  | [], _, _ => by simp only [D.rdR]
  | d :: r, off, hr => by
    simp only [D.rdR]
    refine ⟨?_, D.rdR_mk fun i h => ?_⟩
    · obtain ⟨cs, h1, h2, h3⟩ := hr 0 (by simp)
      exact ⟨cs, h1, by simpa using h2, h3⟩
    · obtain ⟨cs, h1, h2, h3⟩ := hr (i + 1) (by simpa using h)
      refine ⟨cs, h1, fun j v hj => ?_, by simpa using h3⟩
      rw [← h2 j v hj]
      congr 2
      rw [Nat.add_mul]; omega

/-- the slice value '.slice A n c' reads as the list xs of data, size cells each -/
def Sl (w : World) (S : Nat → Prop) (size : Nat) (A : Option Addr) (c : Nat) (xs : List D) : Prop :=
  xs.length ≤ c ∧ c ≤ maxLen ∧ (xs = [] ∨ ∃ b off, A = some ⟨b, off, none⟩ ∧ S b ∧ D.rdR w S size b xs off)

theorem Sl.keep {w w' : World} {S S' : Nat → Prop} {size : Nat} {A : Option Addr} {c : Nat} {xs : List D} (hs : Sl w S size A c xs) (h : ∀ b, S b → S' b ∧ w'.heap[b]? = w.heap[b]?) : Sl w' S' size A c xs := by
  obtain ⟨h1, h2, h3⟩ := hs
  refine ⟨h1, h2, ?_⟩
  rcases h3 with h3 | ⟨b, off, e, hS, hr⟩
  · exact .inl h3
  · exact .inr ⟨b, off, e, (h b hS).1, D.rdR_keep h size b hS xs off hr⟩

theorem D.rd_num {w : World} {S : Nat → Prop} {k : IntKind} {n : Int} {cs : List Value} : (D.num k n).rd w S cs ↔ cs = [.int k n] ∧ (Lit.int k n).wf = true := by simp only [D.rd]
theorem D.rd_str {w : World} {S : Nat → Prop} {s : ByteArray} {cs : List Value} : (D.str s).rd w S cs ↔ cs = [.string s] ∧ s.size ≤ maxLen := by simp only [D.rd]
theorem D.rd_bool {w : World} {S : Nat → Prop} {b : Bool} {cs : List Value} : (D.bool b).rd w S cs ↔ cs = [.bool b] := by simp only [D.rd]
theorem D.rd_sl {w : World} {S : Nat → Prop} {size : Nat} {xs : List D} {cs : List Value} : (D.sl size xs).rd w S cs ↔ ∃ A c, cs = [.slice A xs.length c] ∧ Sl w S size A c xs := by
  simp only [D.rd, Sl]
theorem D.rd_agg {w : World} {S : Nat → Prop} {fs : List D} {cs : List Value} : (D.agg fs).rd w S cs ↔ D.rdF w S fs cs := by simp only [D.rd]
theorem D.rdF_nil {w : World} {S : Nat → Prop} {cs : List Value} : D.rdF w S [] cs ↔ cs = [] := by simp only [D.rdF]
theorem D.rdF_cons {w : World} {S : Nat → Prop} {d : D} {r : List D} {cs : List Value} : D.rdF w S (d :: r) cs ↔ ∃ c1 c2, cs = c1 ++ c2 ∧ D.rd w S d c1 ∧ D.rdF w S r c2 := by simp only [D.rdF]

theorem Sl.get {w : World} {S : Nat → Prop} {size : Nat} {A : Option Addr} {c : Nat} {xs : List D} (hs : Sl w S size A c xs) (i : Nat) (h : i < xs.length) :
    ∃ b off cs, A = some ⟨b, off, none⟩ ∧ S b ∧ cs.length = size ∧ (∀ j v, cs[j]? = some v → w.cell? ⟨b, off + i * size + j, none⟩ = some v) ∧ (xs[i]).rd w S cs := by
  obtain ⟨_, _, h3 | ⟨b, off, e, hS, hr⟩⟩ := hs
  · rw [h3] at h; simp at h
  · obtain ⟨cs, g1, g2, g3⟩ := D.rdR_get hr i h
    exact ⟨b, off, cs, e, hS, g1, g2, g3⟩

theorem Sl.nil {w : World} {S : Nat → Prop} {size : Nat} {A : Option Addr} {c : Nat} (hc : c ≤ maxLen) : Sl w S size A c [] := ⟨by simp, hc, .inl rfl⟩

theorem Sl.len {w : World} {S : Nat → Prop} {size : Nat} {A : Option Addr} {c : Nat} {xs : List D} (hs : Sl w S size A c xs) : xs.length ≤ 9223372036854775807 := by
  have := hs.1; have := hs.2.1; unfold maxLen at *; omega

/-! ### what is owned, kept -/
mutual
theorem D.own_keep {w w' : World} : ∀ (d : D) (S S' : Nat → Prop) (cs : List Value), (∀ b, S b → S' b ∧ w'.heap[b]? = w.heap[b]?) → d.own w S cs → d.own w' S' cs
  | .num _ _, _, _, _, _, hd => by simpa only [D.own] using hd
  | .str _, _, _, _, _, hd => by simpa only [D.own] using hd
  | .bool _, _, _, _, _, hd => by simpa only [D.own] using hd
  | .agg fs, S, S', cs, h, hd => by
    simp only [D.own] at hd ⊢
    exact D.ownF_keep fs S S' cs h hd
  | .sl size xs, S, S', cs, h, hd => by
    simp only [D.own] at hd ⊢
    obtain ⟨A, c, h1, h2, h3, h4⟩ := hd
    refine ⟨A, c, h1, h2, h3, ?_⟩
    rcases h4 with h4 | ⟨b, e, hS, hf, hr⟩
    · exact .inl h4
    · exact .inr ⟨b, e, (h b hS).1, fun o => (World.frozen?_of_block (h b hS).2).trans (hf o), D.ownR_keep size b xs _ _ 0 (fun x hx => ⟨⟨(h x hx.1).1, hx.2⟩, (h x hx.1).2⟩) (fun j _ => World.cell?_of_block (h b hS).2) hr⟩
theorem D.ownF_keep {w w' : World} : ∀ (fs : List D) (S S' : Nat → Prop) (cs : List Value), (∀ b, S b → S' b ∧ w'.heap[b]? = w.heap[b]?) → D.ownF w fs S cs → D.ownF w' fs S' cs
  | [], _, _, _, _, hd => by simpa only [D.ownF] using hd
  | d :: r, S, S', cs, h, hd => by
    simp only [D.ownF] at hd ⊢
    obtain ⟨S1, S2, c1, c2, g1, g2, e, h1, h2⟩ := hd
    exact ⟨S1, S2, c1, c2, fun x hx => ⟨(h x (g1 x hx).1).1, (g1 x hx).2⟩, fun x hx => (h x (g2 x hx)).1, e, D.own_keep d S1 S1 c1 (fun b hb => ⟨hb, (h b (g1 b hb).1).2⟩) h1, D.ownF_keep r S2 S2 c2 (fun b hb => ⟨hb, (h b (g2 b hb)).2⟩) h2⟩
theorem D.ownR_keep {w w' : World} (size b : Nat) : ∀ (xs : List D) (S S' : Nat → Prop) (off : Nat), (∀ b, S b → S' b ∧ w'.heap[b]? = w.heap[b]?) → (∀ j, j < off + xs.length * size → w'.cell? ⟨b, j, none⟩ = w.cell? ⟨b, j, none⟩) →
    D.ownR w size b xs S off → D.ownR w' size b xs S' off
  | [], _, _, _, _, _, _ => by simp only [D.ownR]
  | d :: r, S, S', off, h, hc, hd => by
    simp only [D.ownR] at hd ⊢
    obtain ⟨S1, S2, cs, g1, g2, h1, h2, h3, h4⟩ := hd
    have hlen : (d :: r).length * size = r.length * size + size := by rw [List.length_cons, Nat.add_mul, Nat.one_mul]
    refine ⟨S1, S2, cs, fun x hx => ⟨(h x (g1 x hx).1).1, (g1 x hx).2⟩, fun x hx => (h x (g2 x hx)).1, h1, fun j v hj => ?_, D.own_keep d S1 S1 cs (fun b hb => ⟨hb, (h b (g1 b hb).1).2⟩) h3,
      D.ownR_keep size b r S2 S2 (off + size) (fun b hb => ⟨hb, (h b (g2 b hb)).2⟩) (fun j hj => hc j (by rw [hlen]; omega)) h4⟩
    have hjl : j < cs.length := (List.getElem?_eq_some_iff.1 hj).1
    rw [hc (off + j) (by rw [hlen]; omega)]
    exact h2 j v hj
end

mutual
theorem D.own_rd {w : World} : ∀ (d : D) (S : Nat → Prop) (cs : List Value), d.own w S cs → d.rd w S cs
  | .num _ _, _, _, hd => by simpa only [D.own, D.rd] using hd
  | .str _, _, _, hd => by simpa only [D.own, D.rd] using hd
  | .bool _, _, _, hd => by simpa only [D.own, D.rd] using hd
  | .agg fs, S, cs, hd => by
    simp only [D.own, D.rd] at hd ⊢
    exact D.ownF_rd fs S cs hd
  | .sl size xs, S, cs, hd => by
    simp only [D.own, D.rd] at hd ⊢
    obtain ⟨A, c, h1, h2, h3, h4⟩ := hd
    refine ⟨A, c, h1, h2, h3, ?_⟩
    rcases h4 with h4 | ⟨b, e, hS, hf, hr⟩
    · exact .inl h4
    · exact .inr ⟨b, 0, e, hS, D.rdR_keep (S := fun x => S x) (fun x hx => ⟨hx, rfl⟩) size b hS xs 0 (D.ownR_rd size b xs _ S 0 (fun x hx => hx.1) hr)⟩
theorem D.ownF_rd {w : World} : ∀ (fs : List D) (S : Nat → Prop) (cs : List Value), D.ownF w fs S cs → D.rdF w S fs cs
  | [], _, _, hd => by simpa only [D.ownF, D.rdF] using hd
  | d :: r, S, cs, hd => by
    simp only [D.ownF, D.rdF] at hd ⊢
    obtain ⟨S1, S2, c1, c2, g1, g2, e, h1, h2⟩ := hd
    exact ⟨c1, c2, e, D.rd_keep (fun b hb => ⟨(g1 b hb).1, rfl⟩) d c1 (D.own_rd d S1 c1 h1), D.rdF_keep (fun b hb => ⟨g2 b hb, rfl⟩) r c2 (D.ownF_rd r S2 c2 h2)⟩
theorem D.ownR_rd {w : World} (size b : Nat) : ∀ (xs : List D) (S T : Nat → Prop) (off : Nat), (∀ x, S x → T x) → D.ownR w size b xs S off → D.rdR w T size b xs off
  | [], _, _, _, _, _ => by simp only [D.rdR]
  | d :: r, S, T, off, hT, hd => by
    simp only [D.ownR, D.rdR] at hd ⊢
    obtain ⟨S1, S2, cs, g1, g2, h1, h2, h3, h4⟩ := hd
    exact ⟨⟨cs, h1, h2, D.rd_keep (fun b hb => ⟨hT b (g1 b hb).1, rfl⟩) d cs (D.own_rd d S1 cs h3)⟩, D.ownR_rd size b r S2 T (off + size) (fun x hx => hT x (g2 x hx)) h4⟩
end

/-- an owned row, one element longer -/
theorem D.ownR_snoc {w : World} {size b : Nat} {d : D} {S1 S2 S : Nat → Prop} (h2 : ∀ x, S2 x → S x ∧ ¬ S1 x) (cs : List Value) (hl : cs.length = size) (hd : d.own w S2 cs) :
    ∀ (xs : List D) (T : Nat → Prop) (off : Nat), (∀ x, T x → S1 x) → (∀ x, S1 x → S x) → (∀ j v, cs[j]? = some v → w.cell? ⟨b, off + xs.length * size + j, none⟩ = some v) →
    D.ownR w size b xs T off → D.ownR w size b (xs ++ [d]) (fun x => T x ∨ S2 x) off
  | [], T, off, hT, h1, hc, _ => by
    simp only [List.nil_append, D.ownR]
    exact ⟨S2, fun _ => False, cs, fun x hx => ⟨.inr hx, fun h => h⟩, fun x hx => hx.elim, hl, by simpa using hc, hd, trivial⟩
  | e :: r, T, off, hT, h1, hc, hr => by
    simp only [List.cons_append, D.ownR] at hr ⊢
    obtain ⟨T1, T2, c1, g1, g2, k1, k2, k3, k4⟩ := hr
    have ih := D.ownR_snoc h2 cs hl hd r T2 (off + size) (fun x hx => hT x (g2 x hx)) h1 (fun j v hj => by
      rw [← hc j v hj]
      congr 2
      rw [List.length_cons, Nat.add_mul]; omega) k4
    refine ⟨T1, fun x => T2 x ∨ S2 x, c1, fun x hx => ⟨.inl (g1 x hx).1, fun h => ?_⟩, fun x hx => hx.elim (fun h => .inl (g2 x h)) .inr, k1, k2, k3, ih⟩
    rcases h with h | h
    · exact (g1 x hx).2 h
    · exact (h2 x h).2 (hT x (g1 x hx).1)

/-- the owned slice value -/
def Osl (w : World) (S : Nat → Prop) (size : Nat) (A : Option Addr) (c : Nat) (xs : List D) : Prop :=
  xs.length ≤ c ∧ c ≤ maxLen ∧ (xs = [] ∨ ∃ b, A = some ⟨b, 0, none⟩ ∧ S b ∧ (∀ o, w.frozen? ⟨b, o, none⟩ = false) ∧ D.ownR w size b xs (fun x => S x ∧ x ≠ b) 0)

theorem D.own_num {w : World} {S : Nat → Prop} {k : IntKind} {n : Int} {cs : List Value} : (D.num k n).own w S cs ↔ cs = [.int k n] ∧ (Lit.int k n).wf = true := by simp only [D.own]
theorem D.own_str {w : World} {S : Nat → Prop} {s : ByteArray} {cs : List Value} : (D.str s).own w S cs ↔ cs = [.string s] ∧ s.size ≤ maxLen := by simp only [D.own]
theorem D.own_bool {w : World} {S : Nat → Prop} {b : Bool} {cs : List Value} : (D.bool b).own w S cs ↔ cs = [.bool b] := by simp only [D.own]
theorem D.own_sl {w : World} {S : Nat → Prop} {size : Nat} {xs : List D} {cs : List Value} : (D.sl size xs).own w S cs ↔ ∃ A c, cs = [.slice A xs.length c] ∧ Osl w S size A c xs := by
  simp only [D.own, Osl]
theorem D.own_agg {w : World} {S : Nat → Prop} {fs : List D} {cs : List Value} : (D.agg fs).own w S cs ↔ D.ownF w fs S cs := by simp only [D.own]
theorem D.ownF_nil {w : World} {S : Nat → Prop} {cs : List Value} : D.ownF w [] S cs ↔ cs = [] := by simp only [D.ownF]

/-- a field that goes to no block -/
theorem D.ownF_plain {w : World} {S : Nat → Prop} {d : D} {r : List D} {c1 c2 : List Value} (h : d.own w (fun _ => False) c1) (h2 : D.ownF w r S c2) : D.ownF w (d :: r) S (c1 ++ c2) := by
  simp only [D.ownF]
  exact ⟨fun _ => False, S, c1, c2, fun x hx => hx.elim, fun x hx => hx, rfl, h, h2⟩

theorem D.ownF_cons {w : World} {S S1 S2 : Nat → Prop} {d : D} {r : List D} {c1 c2 : List Value} (g1 : ∀ x, S1 x → S x ∧ ¬ S2 x) (g2 : ∀ x, S2 x → S x) (h : d.own w S1 c1) (h2 : D.ownF w r S2 c2) : D.ownF w (d :: r) S (c1 ++ c2) := by
  simp only [D.ownF]
  exact ⟨S1, S2, c1, c2, g1, g2, rfl, h, h2⟩

/-- the last field -/
theorem D.ownF_last {w : World} {S : Nat → Prop} {d : D} {c1 : List Value} (h : d.own w S c1) : D.ownF w [d] S c1 := by
  simp only [D.ownF]
  exact ⟨S, fun _ => False, c1, [], fun x hx => ⟨hx, fun h => h⟩, fun x hx => hx.elim, by simp, h, rfl⟩

theorem Osl.keep {w w' : World} {S S' : Nat → Prop} {size : Nat} {A : Option Addr} {c : Nat} {xs : List D} (hs : Osl w S size A c xs) (h : ∀ b, S b → S' b ∧ w'.heap[b]? = w.heap[b]?) : Osl w' S' size A c xs := by
  obtain ⟨h1, h2, h3⟩ := hs
  refine ⟨h1, h2, ?_⟩
  rcases h3 with h3 | ⟨b, e, hS, hf, hr⟩
  · exact .inl h3
  · exact .inr ⟨b, e, (h b hS).1, fun o => (World.frozen?_of_block (h b hS).2).trans (hf o), D.ownR_keep size b xs _ _ 0 (fun x hx => ⟨⟨(h x hx.1).1, hx.2⟩, (h x hx.1).2⟩) (fun j _ => World.cell?_of_block (h b hS).2) hr⟩

theorem Osl.sl {w : World} {S : Nat → Prop} {size : Nat} {A : Option Addr} {c : Nat} {xs : List D} (hs : Osl w S size A c xs) : Sl w S size A c xs := by
  obtain ⟨h1, h2, h3⟩ := hs
  refine ⟨h1, h2, ?_⟩
  rcases h3 with h3 | ⟨b, e, hS, hf, hr⟩
  · exact .inl h3
  · exact .inr ⟨b, 0, e, hS, D.ownR_rd size b xs _ S 0 (fun x hx => hx.1) hr⟩

theorem Osl.nil {w : World} {S : Nat → Prop} {size : Nat} {A : Option Addr} {c : Nat} (hc : c ≤ maxLen) : Osl w S size A c [] := ⟨by simp, hc, .inl rfl⟩

/-! ### sets of blocks -/
/-- blocks below a number -/
def Lt (B : Nat) : Nat → Prop := fun b => b < B
/-- blocks from a number on, below another -/
def Btw (B B' : Nat) : Nat → Prop := fun b => B ≤ b ∧ b < B'

theorem keep_below {w w' : World} {B B' : Nat} (h : Below B w w') (hB : B ≤ B') : ∀ b, Lt B b → Lt B' b ∧ w'.heap[b]? = w.heap[b]? :=
  fun b hb => ⟨Nat.lt_of_lt_of_le hb hB, h.block b hb⟩
theorem keep_btw {w w' : World} {B B' C C' : Nat} (h : Below B' w w') (hC : C ≤ B) (hC' : B' ≤ C') : ∀ b, Btw B B' b → Btw C C' b ∧ w'.heap[b]? = w.heap[b]? :=
  fun b hb => ⟨⟨Nat.le_trans hC hb.1, Nat.lt_of_lt_of_le hb.2 hC'⟩, h.block b hb.2⟩

/-- the same data in the world to come -/
theorem Sl.below {w w' : World} {B B' : Nat} {size : Nat} {A : Option Addr} {c : Nat} {xs : List D} (hs : Sl w (Lt B) size A c xs) (h : Below B w w') (hB : B ≤ B') : Sl w' (Lt B') size A c xs :=
  hs.keep (keep_below h hB)
theorem Osl.below {w w' : World} {B B' C C' : Nat} {size : Nat} {A : Option Addr} {c : Nat} {xs : List D} (hs : Osl w (Btw B B') size A c xs) (h : Below B' w w') (hC : C ≤ B) (hC' : B' ≤ C') : Osl w' (Btw C C') size A c xs :=
  hs.keep (keep_btw h hC hC')
theorem Osl.slLt {w : World} {B B' : Nat} {size : Nat} {A : Option Addr} {c : Nat} {xs : List D} (hs : Osl w (Btw B B') size A c xs) : Sl w (Lt B') size A c xs :=
  hs.sl.keep fun b hb => ⟨hb.2, rfl⟩

/-- a block of one's own, known whole -/
def Row (w : World) (g : Nat) (t : TypeId) (cs : Array Value) : Prop := w.heap[g]? = some (.cells cs t (0, 0))
theorem Row.cell {w : World} {g : Nat} {t : TypeId} {cs : Array Value} (h : Row w g t cs) (i : Nat) : w.cell? ⟨g, i, none⟩ = cs[i]? := cell_of_row w g i cs t (0, 0) h
theorem Row.frozen {w : World} {g : Nat} {t : TypeId} {cs : Array Value} (h : Row w g t cs) (i : Nat) : w.frozen? ⟨g, i, none⟩ = false := by
  unfold Row at h
  simp [World.frozen?, h]
theorem Row.new (w : World) (t : TypeId) (cs : Array Value) : Row (w.alloc (.cells cs t)) w.heap.size t cs := heap_alloc_new w _
theorem Row.new' (w : World) (t : TypeId) (cs : Array Value) {g : Nat} (hg : g = w.heap.size) : Row (w.alloc (.cells cs t)) g t cs := by subst hg; exact Row.new w t cs
theorem Row.lt {w : World} {g : Nat} {t : TypeId} {cs : Array Value} (h : Row w g t cs) : g < w.heap.size := by
  rcases Nat.lt_or_ge g w.heap.size with hlt | hge
  · exact hlt
  · unfold Row at h; rw [Array.getElem?_eq_none hge] at h; cases h
theorem Row.set {w : World} {g : Nat} {t : TypeId} {cs : Array Value} (h : Row w g t cs) (i : Nat) (u : Value) : Row (w.setCell ⟨g, i, none⟩ u) g t (cs.setIfInBounds i u) := by
  unfold Row at h ⊢
  simp [World.setCell, Array.getElem?_modify, h]
theorem Row.alloc {w : World} {g : Nat} {t : TypeId} {cs : Array Value} (h : Row w g t cs) (o : Obj) : Row (w.alloc o) g t cs := (Below.heap_alloc w o g h.lt).trans h
theorem Row.far {w : World} {g : Nat} {t : TypeId} {cs : Array Value} (h : Row w g t cs) {p : Addr} (hp : g ≠ p.block) (u : Value) : Row (w.setCell p u) g t cs := (Below.heap_setCell w p u g hp).trans h
theorem Row.below {B : Nat} {w w' : World} {g : Nat} {t : TypeId} {cs : Array Value} (h : Row w g t cs) (hb : Below B w w') (hg : g < B) : Row w' g t cs := (hb.block g hg).trans h

/-- some cells of block g written, one behind the other, from place k on -/
def setCells (w : World) (g k : Nat) : List Value → World
  | [] => w
  | v :: r => setCells (w.setCell ⟨g, k, none⟩ v) g (k + 1) r

theorem setCells_size (w : World) (g k : Nat) (vs : List Value) : (setCells w g k vs).heap.size = w.heap.size := by
  induction vs generalizing w k with
  | nil => rfl
  | cons v r ih => simp only [setCells]; rw [ih]; simp [World.setCell]

theorem setCells_block (w : World) (g k : Nat) (vs : List Value) (b : Nat) (hb : b ≠ g) : (setCells w g k vs).heap[b]? = w.heap[b]? := by
  induction vs generalizing w k with
  | nil => rfl
  | cons v r ih => simp only [setCells]; rw [ih]; exact Below.heap_setCell w ⟨g, k, none⟩ v b hb

theorem setCells_below {B : Nat} {a w : World} (h : Below B a w) (g k : Nat) (hg : B ≤ g) (vs : List Value) : Below B a (setCells w g k vs) := by
  induction vs generalizing w k with
  | nil => exact h
  | cons v r ih => simp only [setCells]; exact ih (h.setCell hg v) (k + 1)

theorem setCells_row {w : World} {g : Nat} {t : TypeId} {row : Array Value} (h : Row w g t row) (k : Nat) (vs : List Value) :
    ∃ row', Row (setCells w g k vs) g t row' ∧ row'.size = row.size ∧ (∀ i, i < k ∨ k + vs.length ≤ i → row'[i]? = row[i]?) ∧ (∀ i v, vs[i]? = some v → k + i < row.size → row'[k + i]? = some v) := by
  induction vs generalizing w k row with
  | nil => exact ⟨row, h, rfl, fun _ _ => rfl, fun i v hv => by simp at hv⟩
  | cons v r ih =>
    obtain ⟨row', h1, h2, h3, h4⟩ := ih (h.set k v) (k + 1)
    refine ⟨row', h1, by rw [h2]; simp, fun i hi => ?_, fun i u hu hl => ?_⟩
    · rw [h3 i (by simp only [List.length_cons] at hi; omega)]
      rw [Array.getElem?_setIfInBounds]
      simp only [List.length_cons] at hi
      rw [if_neg (by omega)]
    · match i with
      | 0 =>
        have hv : v = u := by simpa using hu
        subst hv
        rw [h3 (k + 0) (by omega)]
        rw [Array.getElem?_setIfInBounds]
        have hk : k < row.size := by omega
        simp [hk]
      | i + 1 =>
        have := h4 i u (by simpa using hu) (by simp; omega)
        rwa [show k + 1 + i = k + (i + 1) from by omega] at this

/-- an element behind the others of a row that is being filled -/
theorem fill_step {w : World} {g m size j : Nat} {t : TypeId} {row : Array Value} {xs : List D} {x : D} {cs : List Value} (hrow : Row w g t row) (hj : xs.length = j) (hrs : (j + 1) * size ≤ row.size) (hgm : g < m) (hm : m ≤ w.heap.size)
    (hown : D.ownR w size g xs (fun b => g < b ∧ b < m) 0) (hx : x.own w (Btw m w.heap.size) cs) (hcs : cs.length = size) :
    ∃ row', Row (setCells w g (j * size) cs) g t row' ∧ row'.size = row.size ∧ D.ownR (setCells w g (j * size) cs) size g (xs ++ [x]) (fun b => g < b ∧ b < (setCells w g (j * size) cs).heap.size) 0 := by
  obtain ⟨row', h1, h2, h3, h4⟩ := setCells_row hrow (j * size) cs
  refine ⟨row', h1, h2, ?_⟩
  have hsz := setCells_size w g (j * size) cs
  have e1 : (j + 1) * size = j * size + size := by rw [Nat.add_mul, Nat.one_mul]
  have k1 : D.ownR (setCells w g (j * size) cs) size g xs (fun b => g < b ∧ b < m) 0 := D.ownR_keep size g xs _ _ 0 (fun b hb => ⟨hb, setCells_block _ _ _ _ _ (by omega)⟩) (fun i hi => by
    rw [h1.cell, hrow.cell]; exact h3 i (.inl (by rw [hj] at hi; omega))) hown
  have k2 : x.own (setCells w g (j * size) cs) (Btw m w.heap.size) cs := D.own_keep x _ _ cs (fun b hb => ⟨hb, setCells_block _ _ _ _ _ (by have := hb.1; omega)⟩) hx
  have k3 := D.ownR_snoc (w := setCells w g (j * size) cs) (size := size) (b := g) (d := x) (S1 := fun b => g < b ∧ b < m) (S2 := Btw m w.heap.size) (S := fun b => g < b ∧ b < w.heap.size)
    (fun b hb => ⟨⟨by have := hb.1; omega, hb.2⟩, fun h => by have := hb.1; omega⟩) cs hcs k2 xs (fun b => g < b ∧ b < m) 0 (fun _ h => h) (fun b hb => ⟨hb.1, by omega⟩) (fun i v hv => by
      have hi : i < cs.length := (List.getElem?_eq_some_iff.1 hv).1
      rw [h1.cell, hj, Nat.zero_add]
      exact h4 i v hv (by omega)) k1
  exact D.ownR_keep size g (xs ++ [x]) _ _ 0 (fun b hb => ⟨by rw [hsz]; rcases hb with hb | hb; exact ⟨hb.1, by omega⟩; exact ⟨by have := hb.1; omega, hb.2⟩, rfl⟩) (fun _ _ => rfl) k3

/-- a row that has been filled -/
theorem fill_end {w : World} {B g size n : Nat} {t : TypeId} {row : Array Value} {xs : List D} (hrow : Row w g t row) (hB : B ≤ g) (hn : xs.length ≤ n) (hm : n ≤ maxLen)
    (hown : D.ownR w size g xs (fun b => g < b ∧ b < w.heap.size) 0) : Osl w (Btw B w.heap.size) size (some ⟨g, 0, none⟩) n xs :=
  ⟨hn, hm, .inr ⟨g, rfl, ⟨hB, hrow.lt⟩, fun o => hrow.frozen o, D.ownR_keep size g xs _ _ 0 (fun b hb => ⟨⟨⟨by omega, hb.2⟩, by omega⟩, rfl⟩) (fun _ _ => rfl) hown⟩⟩

theorem take_snoc' {α : Type} (l : List α) (j : Nat) (h : j < l.length) : l.take (j + 1) = l.take j ++ [l[j]] := by
  rw [List.take_succ_eq_append_getElem h]

theorem row_some {row : Array Value} (i : Nat) (h : i < row.size) : ∃ v, row[i]? = some v := ⟨_, Array.getElem?_eq_getElem h⟩

theorem bcell {W w1 : World} (hb : Below W.heap.size W w1) : (∀ b o, b < W.heap.size → w1.cell? ⟨b, o, none⟩ = W.cell? ⟨b, o, none⟩) ∧ (∀ b o, b < W.heap.size → w1.frozen? ⟨b, o, none⟩ = W.frozen? ⟨b, o, none⟩) :=
  ⟨fun b o h => hb.cell (p := ⟨b, o, none⟩) h, fun b o h => hb.frozen (p := ⟨b, o, none⟩) h⟩

/-- the row of a slice that was just made -/
def zr (z : Value) (size n : Nat) : Array Value := madeCells z.cells (n * size)
theorem zr_size (z : Value) (size n : Nat) : (zr z size n).size = n * size := size_madeCells _ _

theorem run_mk {P : Program} (t e : TypeId) (z : Value) (size bytes : Nat) (ht : P.underlying t = some (.slice e)) (hi : (P.info? e).map (fun i => (i.zero, i.size, i.bytes)) = some (some z, size, bytes))
    (n : Nat) (hn : n ≤ 1048576) (hb : bytes ≤ 1048576) (w : World) :
    (Instr.makeSlice t (.int .i64 (n : Int)) (.int .i64 (n : Int))).run P w = .ok (.slice (some ⟨w.heap.size, 0, none⟩) n n) (w.alloc (.cells (zr z size n) e)) := by
  obtain ⟨i, h1, h2, h3, h4⟩ := info_parts hi
  have hnat : i.bytes * n ≤ 1048576 * 1048576 := Nat.mul_le_mul (by omega) hn
  have hint : (i.bytes : Int) * (n : Int) ≤ 281474976710656 := by
    have h : ((i.bytes * n : Nat) : Int) ≤ 281474976710656 := by omega
    rwa [Int.natCast_mul] at h
  have hr := run_make (P := P) w t e i z ht h1 h2 .i64 .i64 n n (by omega) (by omega) hint (by omega)
  simp only [Int.toNat_natCast, h3] at hr
  exact hr

theorem quietB {P : Program} {f : FuncId} {args : Array Value} {w : World} {v : Ending} (h : Calls P f args w fun e w' => e = v ∧ w = w') : Calls P f args w fun e w' => e = v ∧ Below w.heap.size w w' :=
  h.mono fun _ _ ⟨a, b⟩ => ⟨a, b ▸ Below.refl _ _⟩

/-- a call of a function through its value enters it -/
theorem enters {P : Program} {K : FuncId} {fn : Func} (h : P.funcs[K]? = some fn) (h1 : (fn.name == "runtime.NumGoroutine") = false) (h2 : fn.body.isNone = false) (args : Array Value) (w : World) :
    (callFunc K args).run P w = .ok (.enter K args) w := by
  have e1 : ¬ fn.name = "runtime.NumGoroutine" := by simpa using h1
  have e2 : ¬ fn.body = none := by intro e; rw [e] at h2; cases h2
  simp [callFunc, h, e1, e2]

/-! ### how much a list holds -/
def bulkL {α : Type} (f : α → Nat) : List α → Nat
  | [] => 0
  | t :: r => 1 + f t + bulkL f r

theorem bulkL_take_succ {α : Type} (f : α → Nat) (l : List α) (i : Nat) (h : i < l.length) : bulkL f (l.take (i + 1)) = bulkL f (l.take i) + 1 + f l[i] := by
  induction l generalizing i with
  | nil => simp at h
  | cons t r ih =>
    match i with
    | 0 => simp [bulkL]
    | i + 1 => simp only [List.take_succ_cons, bulkL, List.getElem_cons_succ]; rw [ih i (by simpa using h)]; omega

theorem bulkL_take_le {α : Type} (f : α → Nat) (l : List α) (i : Nat) (h : i ≤ l.length) : bulkL f (l.take i) + (l.length - i) ≤ bulkL f l := by
  induction l generalizing i with
  | nil => simp [bulkL]
  | cons t r ih =>
    match i with
    | 0 => simp only [List.take_zero, bulkL, List.length_cons]; have := ih 0 (by omega); simp only [List.take_zero, bulkL] at this; omega
    | i + 1 => simp only [List.take_succ_cons, bulkL, List.length_cons]; have := ih i (by simpa using h); omega

theorem bulkL_take_ge {α : Type} (f : α → Nat) (l : List α) (i : Nat) (h : i ≤ l.length) : i ≤ bulkL f (l.take i) := by
  induction l generalizing i with
  | nil => simp at h; simp [h]
  | cons t r ih =>
    match i with
    | 0 => simp
    | i + 1 => simp only [List.take_succ_cons, bulkL]; have := ih i (by simpa using h); omega

theorem bulkL_mem {α : Type} (f : α → Nat) (l : List α) (t : α) (h : t ∈ l) : f t + 1 ≤ bulkL f l := by
  induction l with
  | nil => cases h
  | cons x r ih =>
    simp only [bulkL]
    cases h with
    | head => omega
    | tail _ h => have := ih h; omega

theorem bulkL_len {α : Type} (f : α → Nat) (l : List α) : l.length ≤ bulkL f l := by
  have := bulkL_take_ge f l l.length (Nat.le_refl _); rwa [List.take_length] at this

/-- what the laws' sz functions give back of what is left -/
def szv (b : Nat) (left : Int) : Int := if (b : Int) ≤ left then left - b else -1
theorem szv_le {b : Nat} {left : Int} (h : (b : Int) ≤ left) : szv b left = left - b := if_pos h
theorem szv_gt {b : Nat} {left : Int} (h : left < (b : Int)) : szv b left = -1 := if_neg (by omega)

end Go.Proofs.Ytnpkmebnmklcfaa

/- The data of the Go struct Node: how it lies in memory (no program in sight). Conditions: none. -/
namespace Go.Proofs.Ytnpkmebnmklcfaa
open Go.RowKit
set_option linter.unusedVariables false
set_option linter.unusedSimpArgs false

inductive GNode where
  | mk (op : Int) (n : Int) (s : ByteArray) (t : ByteArray) (kids : List GNode)
def GNode.op : GNode → Int | .mk x _ _ _ _ => x
def GNode.n : GNode → Int | .mk _ x _ _ _ => x
def GNode.s : GNode → ByteArray | .mk _ _ x _ _ => x
def GNode.t : GNode → ByteArray | .mk _ _ _ x _ => x
def GNode.kids : GNode → List GNode | .mk _ _ _ _ x => x

mutual
def GNode.toD : GNode → D | .mk op n s t kids => .agg [.num .i64 op, .num .i64 n, .str s, .str t, .sl 5 (GNode.toDs kids)]
def GNode.toDs : List GNode → List D | [] => [] | t :: r => t.toD :: GNode.toDs r
end

theorem GNode.toDs_map : ∀ l : List GNode, GNode.toDs l = l.map GNode.toD
  | [] => rfl
  | t :: r => by simp only [GNode.toDs, List.map_cons, GNode.toDs_map r]

mutual
/-- how much it holds, as the laws count it -/
def GNode.bulk : GNode → Nat | .mk _ _ s t kids => s.size + t.size + GNode.bulks kids
def GNode.bulks : List GNode → Nat | [] => 0 | t :: r => 1 + t.bulk + GNode.bulks r
end
theorem GNode.bulks_eq : ∀ l : List GNode, GNode.bulks l = bulkL GNode.bulk l
  | [] => rfl
  | t :: r => by simp only [GNode.bulks, bulkL, GNode.bulks_eq r]

theorem GNode.bulk_eq (t : GNode) : t.bulk = t.s.size + t.t.size + bulkL GNode.bulk t.kids := by
  cases t; simp only [GNode.bulk, GNode.bulks_eq, GNode.op, GNode.n, GNode.s, GNode.t, GNode.kids]

/-- the facts of a struct that lies in memory: its cells are .int .i64 t.op, .int .i64 t.n, .string t.s, .string t.t, .slice A1 t.kids.length c1 -/
def GNode.At (w : World) (S : Nat → Prop) (A1 : Option Addr) (c1 : Nat) (t : GNode) : Prop :=
  (Lit.int .i64 t.op).wf = true ∧ (Lit.int .i64 t.n).wf = true ∧ t.s.size ≤ maxLen ∧ t.t.size ≤ maxLen ∧ Sl w S 5 A1 c1 (t.kids.map GNode.toD)

theorem GNode.rd {w : World} {S : Nat → Prop} {t : GNode} {cs : List Value} (h : t.toD.rd w S cs) : ∃ A1 c1, cs = [.int .i64 t.op, .int .i64 t.n, .string t.s, .string t.t, .slice A1 t.kids.length c1] ∧ GNode.At w S A1 c1 t := by
  cases t with
  | mk op n s t kids =>
  simp only [GNode.toD, GNode.toDs_map] at h
  rw [D.rd_agg] at h
  rw [D.rdF_cons] at h
  obtain ⟨x0, r0, rfl, k0, h⟩ := h
  obtain ⟨rfl, h0⟩ := D.rd_num.1 k0
  rw [D.rdF_cons] at h
  obtain ⟨x1, r1, rfl, k1, h⟩ := h
  obtain ⟨rfl, h1⟩ := D.rd_num.1 k1
  rw [D.rdF_cons] at h
  obtain ⟨x2, r2, rfl, k2, h⟩ := h
  obtain ⟨rfl, h2⟩ := D.rd_str.1 k2
  rw [D.rdF_cons] at h
  obtain ⟨x3, r3, rfl, k3, h⟩ := h
  obtain ⟨rfl, h3⟩ := D.rd_str.1 k3
  rw [D.rdF_cons] at h
  obtain ⟨x4, r4, rfl, k4, h⟩ := h
  obtain ⟨A1, c1, rfl, h4⟩ := D.rd_sl.1 k4
  obtain rfl := D.rdF_nil.1 h
  exact ⟨A1, c1, by simp [GNode.op, GNode.n, GNode.s, GNode.t, GNode.kids], h0, h1, h2, h3, h4⟩

theorem GNode.rd_mk {w : World} {S : Nat → Prop} {t : GNode} {A1 : Option Addr} {c1 : Nat} (h : GNode.At w S A1 c1 t) : t.toD.rd w S [.int .i64 t.op, .int .i64 t.n, .string t.s, .string t.t, .slice A1 t.kids.length c1] := by
  cases t with
  | mk op n s t kids =>
  simp only [GNode.toD, GNode.toDs_map]
  unfold GNode.At at h
  obtain ⟨h0, h1, h2, h3, h4⟩ := h
  rw [D.rd_agg]
  exact D.rdF_cons.2 ⟨[_], [_, _, _, _], rfl, D.rd_num.2 ⟨rfl, h0⟩, D.rdF_cons.2 ⟨[_], [_, _, _], rfl, D.rd_num.2 ⟨rfl, h1⟩, D.rdF_cons.2 ⟨[_], [_, _], rfl, D.rd_str.2 ⟨rfl, h2⟩, D.rdF_cons.2 ⟨[_], [_], rfl, D.rd_str.2 ⟨rfl, h3⟩, D.rdF_cons.2 ⟨[_], [], rfl, D.rd_sl.2 ⟨A1, c1, by simp [GNode.kids], h4⟩, D.rdF_nil.2 rfl⟩⟩⟩⟩⟩

theorem GNode.elem {w : World} {S : Nat → Prop} {A : Option Addr} {c : Nat} {l : List GNode} (h : Sl w S 5 A c (l.map GNode.toD)) (i : Nat) (hi : i < l.length) :
    ∃ b off A1 c1, A = some ⟨b, off, none⟩ ∧ S b ∧ w.cell? ⟨b, off + i * 5, none⟩ = some (.int .i64 l[i].op) ∧ w.cell? ⟨b, off + i * 5 + 1, none⟩ = some (.int .i64 l[i].n) ∧ w.cell? ⟨b, off + i * 5 + 2, none⟩ = some (.string l[i].s) ∧ w.cell? ⟨b, off + i * 5 + 3, none⟩ = some (.string l[i].t) ∧ w.cell? ⟨b, off + i * 5 + 4, none⟩ = some (.slice A1 l[i].kids.length c1) ∧ GNode.At w S A1 c1 l[i] := by
  obtain ⟨b, off, cs, e, hb, hl, hc, hr⟩ := Sl.get h i (by simpa using hi)
  rw [List.getElem_map] at hr
  obtain ⟨A1, c1, rfl, h1⟩ := GNode.rd hr
  exact ⟨b, off, A1, c1, e, hb, hc 0 _ rfl, hc 1 _ rfl, hc 2 _ rfl, hc 3 _ rfl, hc 4 _ rfl, h1⟩

theorem GNode.At.keep {w w' : World} {S S' : Nat → Prop} {t : GNode} {A1 : Option Addr} {c1 : Nat} (h : GNode.At w S A1 c1 t) (hk : ∀ b, S b → S' b ∧ w'.heap[b]? = w.heap[b]?) : GNode.At w' S' A1 c1 t := by
  unfold GNode.At at h ⊢
  obtain ⟨h0, h1, h2, h3, h4⟩ := h
  exact ⟨h0, h1, h2, h3, h4.keep hk⟩
theorem GNode.At.below {w w' : World} {B B' : Nat} {t : GNode} {A1 : Option Addr} {c1 : Nat} (h : GNode.At w (Lt B) A1 c1 t) (hb : Below B w w') (hB : B ≤ B') : GNode.At w' (Lt B') A1 c1 t :=
  h.keep (keep_below hb hB)

/-- the same, owned -/
def GNode.Ow (w : World) (S : Nat → Prop) (A1 : Option Addr) (c1 : Nat) (t : GNode) : Prop :=
  (Lit.int .i64 t.op).wf = true ∧ (Lit.int .i64 t.n).wf = true ∧ t.s.size ≤ maxLen ∧ t.t.size ≤ maxLen ∧ Osl w S 5 A1 c1 (t.kids.map GNode.toD)

theorem GNode.own_mk {w : World} {S : Nat → Prop} {t : GNode} {A1 : Option Addr} {c1 : Nat} (h : GNode.Ow w S A1 c1 t) : t.toD.own w S [.int .i64 t.op, .int .i64 t.n, .string t.s, .string t.t, .slice A1 t.kids.length c1] := by
  cases t with
  | mk op n s t kids =>
  simp only [GNode.toD, GNode.toDs_map]
  unfold GNode.Ow at h
  obtain ⟨h0, h1, h2, h3, h4⟩ := h
  rw [D.own_agg]
  exact D.ownF_plain (c1 := [_]) (c2 := [_, _, _, _]) (D.own_num.2 ⟨rfl, h0⟩) (D.ownF_plain (c1 := [_]) (c2 := [_, _, _]) (D.own_num.2 ⟨rfl, h1⟩) (D.ownF_plain (c1 := [_]) (c2 := [_, _]) (D.own_str.2 ⟨rfl, h2⟩) (D.ownF_plain (c1 := [_]) (c2 := [_]) (D.own_str.2 ⟨rfl, h3⟩) (D.ownF_last (D.own_sl.2 ⟨A1, c1, by simp [GNode.kids], h4⟩)))))

theorem GNode.Ow.keep {w w' : World} {S S' : Nat → Prop} {t : GNode} {A1 : Option Addr} {c1 : Nat} (h : GNode.Ow w S A1 c1 t) (hk : ∀ b, S b → S' b ∧ w'.heap[b]? = w.heap[b]?) : GNode.Ow w' S' A1 c1 t := by
  unfold GNode.Ow at h ⊢
  obtain ⟨h0, h1, h2, h3, h4⟩ := h
  exact ⟨h0, h1, h2, h3, h4.keep hk⟩
theorem GNode.Ow.at {w : World} {S : Nat → Prop} {t : GNode} {A1 : Option Addr} {c1 : Nat} (h : GNode.Ow w S A1 c1 t) : GNode.At w S A1 c1 t := by
  unfold GNode.Ow at h
  unfold GNode.At
  obtain ⟨h0, h1, h2, h3, h4⟩ := h
  exact ⟨h0, h1, h2, h3, h4.sl⟩

end Go.Proofs.Ytnpkmebnmklcfaa

/- The data of the Go struct Ask: how it lies in memory (no program in sight). Conditions: none. -/
namespace Go.Proofs.Ytnpkmebnmklcfaa
open Go.RowKit
set_option linter.unusedVariables false
set_option linter.unusedSimpArgs false

structure GAsk where
  path : List Int
  pat : GNode

def GAsk.toD (x : GAsk) : D := .agg [.sl 1 (x.path.map (D.num .i64)), x.pat.toD]

/-- how much it holds, as the laws count it -/
def GAsk.bulk (x : GAsk) : Nat := x.path.length + x.pat.bulk

theorem GAsk.bulk_eq (t : GAsk) : t.bulk = t.path.length + t.pat.bulk := rfl

/-- the facts of a struct that lies in memory: its cells are .slice A1 t.path.length c1, .int .i64 t.pat.op, .int .i64 t.pat.n, .string t.pat.s, .string t.pat.t, .slice A2 t.pat.kids.length c2 -/
def GAsk.At (w : World) (S : Nat → Prop) (A1 : Option Addr) (c1 : Nat) (A2 : Option Addr) (c2 : Nat) (t : GAsk) : Prop :=
  Sl w S 1 A1 c1 (t.path.map (D.num .i64)) ∧ GNode.At w S A2 c2 t.pat

theorem GAsk.rd {w : World} {S : Nat → Prop} {t : GAsk} {cs : List Value} (h : t.toD.rd w S cs) : ∃ A1 c1 A2 c2, cs = [.slice A1 t.path.length c1, .int .i64 t.pat.op, .int .i64 t.pat.n, .string t.pat.s, .string t.pat.t, .slice A2 t.pat.kids.length c2] ∧ GAsk.At w S A1 c1 A2 c2 t := by
  unfold GAsk.toD at h
  rw [D.rd_agg] at h
  rw [D.rdF_cons] at h
  obtain ⟨x0, r0, rfl, k0, h⟩ := h
  obtain ⟨A1, c1, rfl, h0⟩ := D.rd_sl.1 k0
  rw [D.rdF_cons] at h
  obtain ⟨x1, r1, rfl, k1, h⟩ := h
  obtain ⟨A2, c2, rfl, h1⟩ := GNode.rd k1
  obtain rfl := D.rdF_nil.1 h
  exact ⟨A1, c1, A2, c2, by simp [List.length_map], h0, h1⟩

theorem GAsk.rd_mk {w : World} {S : Nat → Prop} {t : GAsk} {A1 : Option Addr} {c1 : Nat} {A2 : Option Addr} {c2 : Nat} (h : GAsk.At w S A1 c1 A2 c2 t) : t.toD.rd w S [.slice A1 t.path.length c1, .int .i64 t.pat.op, .int .i64 t.pat.n, .string t.pat.s, .string t.pat.t, .slice A2 t.pat.kids.length c2] := by
  unfold GAsk.toD
  unfold GAsk.At at h
  obtain ⟨h0, h1⟩ := h
  rw [D.rd_agg]
  exact D.rdF_cons.2 ⟨[_], [_, _, _, _, _], rfl, D.rd_sl.2 ⟨A1, c1, by simp [List.length_map], h0⟩, D.rdF_cons.2 ⟨[_, _, _, _, _], [], rfl, GNode.rd_mk h1, D.rdF_nil.2 rfl⟩⟩

theorem GAsk.elem {w : World} {S : Nat → Prop} {A : Option Addr} {c : Nat} {l : List GAsk} (h : Sl w S 6 A c (l.map GAsk.toD)) (i : Nat) (hi : i < l.length) :
    ∃ b off A1 c1 A2 c2, A = some ⟨b, off, none⟩ ∧ S b ∧ w.cell? ⟨b, off + i * 6, none⟩ = some (.slice A1 l[i].path.length c1) ∧ w.cell? ⟨b, off + i * 6 + 1, none⟩ = some (.int .i64 l[i].pat.op) ∧ w.cell? ⟨b, off + i * 6 + 2, none⟩ = some (.int .i64 l[i].pat.n) ∧ w.cell? ⟨b, off + i * 6 + 3, none⟩ = some (.string l[i].pat.s) ∧ w.cell? ⟨b, off + i * 6 + 4, none⟩ = some (.string l[i].pat.t) ∧ w.cell? ⟨b, off + i * 6 + 5, none⟩ = some (.slice A2 l[i].pat.kids.length c2) ∧ GAsk.At w S A1 c1 A2 c2 l[i] := by
  obtain ⟨b, off, cs, e, hb, hl, hc, hr⟩ := Sl.get h i (by simpa using hi)
  rw [List.getElem_map] at hr
  obtain ⟨A1, c1, A2, c2, rfl, h1⟩ := GAsk.rd hr
  exact ⟨b, off, A1, c1, A2, c2, e, hb, hc 0 _ rfl, hc 1 _ rfl, hc 2 _ rfl, hc 3 _ rfl, hc 4 _ rfl, hc 5 _ rfl, h1⟩

theorem GAsk.At.keep {w w' : World} {S S' : Nat → Prop} {t : GAsk} {A1 : Option Addr} {c1 : Nat} {A2 : Option Addr} {c2 : Nat} (h : GAsk.At w S A1 c1 A2 c2 t) (hk : ∀ b, S b → S' b ∧ w'.heap[b]? = w.heap[b]?) : GAsk.At w' S' A1 c1 A2 c2 t := by
  unfold GAsk.At at h ⊢
  obtain ⟨h0, h1⟩ := h
  exact ⟨h0.keep hk, h1.keep hk⟩
theorem GAsk.At.below {w w' : World} {B B' : Nat} {t : GAsk} {A1 : Option Addr} {c1 : Nat} {A2 : Option Addr} {c2 : Nat} (h : GAsk.At w (Lt B) A1 c1 A2 c2 t) (hb : Below B w w') (hB : B ≤ B') : GAsk.At w' (Lt B') A1 c1 A2 c2 t :=
  h.keep (keep_below hb hB)

/-- the same, owned -/
def GAsk.Ow (w : World) (S : Nat → Prop) (A1 : Option Addr) (c1 : Nat) (A2 : Option Addr) (c2 : Nat) (t : GAsk) : Prop :=
  ∃ S1 S2 : Nat → Prop, (∀ x, S1 x → S x) ∧ (∀ x, S2 x → S x) ∧ (∀ x, S1 x → ¬ S2 x) ∧ Osl w S1 1 A1 c1 (t.path.map (D.num .i64)) ∧ GNode.Ow w S2 A2 c2 t.pat

theorem GAsk.own_mk {w : World} {S : Nat → Prop} {t : GAsk} {A1 : Option Addr} {c1 : Nat} {A2 : Option Addr} {c2 : Nat} (h : GAsk.Ow w S A1 c1 A2 c2 t) : t.toD.own w S [.slice A1 t.path.length c1, .int .i64 t.pat.op, .int .i64 t.pat.n, .string t.pat.s, .string t.pat.t, .slice A2 t.pat.kids.length c2] := by
  unfold GAsk.toD
  unfold GAsk.Ow at h
  obtain ⟨S1, S2, g1, g2, d12, h0, h1⟩ := h
  rw [D.own_agg]
  exact D.ownF_cons (S := S) (S1 := S1) (S2 := S2) (c1 := [_]) (c2 := [_, _, _, _, _]) (fun x hx => ⟨g1 x hx, fun h => d12 x hx h⟩) (g2) (D.own_sl.2 ⟨A1, c1, by simp [List.length_map], h0⟩) (D.ownF_last (GNode.own_mk h1))

theorem GAsk.Ow.keep {w w' : World} {S S' : Nat → Prop} {t : GAsk} {A1 : Option Addr} {c1 : Nat} {A2 : Option Addr} {c2 : Nat} (h : GAsk.Ow w S A1 c1 A2 c2 t) (hk : ∀ b, S b → S' b ∧ w'.heap[b]? = w.heap[b]?) : GAsk.Ow w' S' A1 c1 A2 c2 t := by
  unfold GAsk.Ow at h ⊢
  obtain ⟨S1, S2, g1, g2, d12, h0, h1⟩ := h
  exact ⟨S1, S2, fun x hx => (hk x (g1 x hx)).1, fun x hx => (hk x (g2 x hx)).1, d12, h0.keep fun b hb => ⟨hb, (hk b (g1 b hb)).2⟩, h1.keep fun b hb => ⟨hb, (hk b (g2 b hb)).2⟩⟩
theorem GAsk.Ow.at {w : World} {S : Nat → Prop} {t : GAsk} {A1 : Option Addr} {c1 : Nat} {A2 : Option Addr} {c2 : Nat} (h : GAsk.Ow w S A1 c1 A2 c2 t) : GAsk.At w S A1 c1 A2 c2 t := by
  unfold GAsk.Ow at h
  unfold GAsk.At
  obtain ⟨S1, S2, g1, g2, d12, h0, h1⟩ := h
  exact ⟨h0.sl.keep fun b hb => ⟨g1 b hb, rfl⟩, h1.at.keep fun b hb => ⟨g2 b hb, rfl⟩⟩

end Go.Proofs.Ytnpkmebnmklcfaa

/- The data of the Go struct Trow: how it lies in memory (no program in sight). Conditions: none. -/
namespace Go.Proofs.Ytnpkmebnmklcfaa
open Go.RowKit
set_option linter.unusedVariables false
set_option linter.unusedSimpArgs false

structure GTrow where
  alt : Int
  asks : List GAsk

def GTrow.toD (x : GTrow) : D := .agg [.num .i64 x.alt, .sl 6 (x.asks.map GAsk.toD)]

/-- how much it holds, as the laws count it -/
def GTrow.bulk (x : GTrow) : Nat := bulkL GAsk.bulk x.asks

theorem GTrow.bulk_eq (t : GTrow) : t.bulk = bulkL GAsk.bulk t.asks := rfl

/-- the facts of a struct that lies in memory: its cells are .int .i64 t.alt, .slice A1 t.asks.length c1 -/
def GTrow.At (w : World) (S : Nat → Prop) (A1 : Option Addr) (c1 : Nat) (t : GTrow) : Prop :=
  (Lit.int .i64 t.alt).wf = true ∧ Sl w S 6 A1 c1 (t.asks.map GAsk.toD)

theorem GTrow.rd {w : World} {S : Nat → Prop} {t : GTrow} {cs : List Value} (h : t.toD.rd w S cs) : ∃ A1 c1, cs = [.int .i64 t.alt, .slice A1 t.asks.length c1] ∧ GTrow.At w S A1 c1 t := by
  unfold GTrow.toD at h
  rw [D.rd_agg] at h
  rw [D.rdF_cons] at h
  obtain ⟨x0, r0, rfl, k0, h⟩ := h
  obtain ⟨rfl, h0⟩ := D.rd_num.1 k0
  rw [D.rdF_cons] at h
  obtain ⟨x1, r1, rfl, k1, h⟩ := h
  obtain ⟨A1, c1, rfl, h1⟩ := D.rd_sl.1 k1
  obtain rfl := D.rdF_nil.1 h
  exact ⟨A1, c1, by simp [List.length_map], h0, h1⟩

theorem GTrow.rd_mk {w : World} {S : Nat → Prop} {t : GTrow} {A1 : Option Addr} {c1 : Nat} (h : GTrow.At w S A1 c1 t) : t.toD.rd w S [.int .i64 t.alt, .slice A1 t.asks.length c1] := by
  unfold GTrow.toD
  unfold GTrow.At at h
  obtain ⟨h0, h1⟩ := h
  rw [D.rd_agg]
  exact D.rdF_cons.2 ⟨[_], [_], rfl, D.rd_num.2 ⟨rfl, h0⟩, D.rdF_cons.2 ⟨[_], [], rfl, D.rd_sl.2 ⟨A1, c1, by simp [List.length_map], h1⟩, D.rdF_nil.2 rfl⟩⟩

theorem GTrow.elem {w : World} {S : Nat → Prop} {A : Option Addr} {c : Nat} {l : List GTrow} (h : Sl w S 2 A c (l.map GTrow.toD)) (i : Nat) (hi : i < l.length) :
    ∃ b off A1 c1, A = some ⟨b, off, none⟩ ∧ S b ∧ w.cell? ⟨b, off + i * 2, none⟩ = some (.int .i64 l[i].alt) ∧ w.cell? ⟨b, off + i * 2 + 1, none⟩ = some (.slice A1 l[i].asks.length c1) ∧ GTrow.At w S A1 c1 l[i] := by
  obtain ⟨b, off, cs, e, hb, hl, hc, hr⟩ := Sl.get h i (by simpa using hi)
  rw [List.getElem_map] at hr
  obtain ⟨A1, c1, rfl, h1⟩ := GTrow.rd hr
  exact ⟨b, off, A1, c1, e, hb, hc 0 _ rfl, hc 1 _ rfl, h1⟩

theorem GTrow.At.keep {w w' : World} {S S' : Nat → Prop} {t : GTrow} {A1 : Option Addr} {c1 : Nat} (h : GTrow.At w S A1 c1 t) (hk : ∀ b, S b → S' b ∧ w'.heap[b]? = w.heap[b]?) : GTrow.At w' S' A1 c1 t := by
  unfold GTrow.At at h ⊢
  obtain ⟨h0, h1⟩ := h
  exact ⟨h0, h1.keep hk⟩
theorem GTrow.At.below {w w' : World} {B B' : Nat} {t : GTrow} {A1 : Option Addr} {c1 : Nat} (h : GTrow.At w (Lt B) A1 c1 t) (hb : Below B w w') (hB : B ≤ B') : GTrow.At w' (Lt B') A1 c1 t :=
  h.keep (keep_below hb hB)

/-- the same, owned -/
def GTrow.Ow (w : World) (S : Nat → Prop) (A1 : Option Addr) (c1 : Nat) (t : GTrow) : Prop :=
  (Lit.int .i64 t.alt).wf = true ∧ Osl w S 6 A1 c1 (t.asks.map GAsk.toD)

theorem GTrow.own_mk {w : World} {S : Nat → Prop} {t : GTrow} {A1 : Option Addr} {c1 : Nat} (h : GTrow.Ow w S A1 c1 t) : t.toD.own w S [.int .i64 t.alt, .slice A1 t.asks.length c1] := by
  unfold GTrow.toD
  unfold GTrow.Ow at h
  obtain ⟨h0, h1⟩ := h
  rw [D.own_agg]
  exact D.ownF_plain (c1 := [_]) (c2 := [_]) (D.own_num.2 ⟨rfl, h0⟩) (D.ownF_last (D.own_sl.2 ⟨A1, c1, by simp [List.length_map], h1⟩))

theorem GTrow.Ow.keep {w w' : World} {S S' : Nat → Prop} {t : GTrow} {A1 : Option Addr} {c1 : Nat} (h : GTrow.Ow w S A1 c1 t) (hk : ∀ b, S b → S' b ∧ w'.heap[b]? = w.heap[b]?) : GTrow.Ow w' S' A1 c1 t := by
  unfold GTrow.Ow at h ⊢
  obtain ⟨h0, h1⟩ := h
  exact ⟨h0, h1.keep hk⟩
theorem GTrow.Ow.at {w : World} {S : Nat → Prop} {t : GTrow} {A1 : Option Addr} {c1 : Nat} (h : GTrow.Ow w S A1 c1 t) : GTrow.At w S A1 c1 t := by
  unfold GTrow.Ow at h
  unfold GTrow.At
  obtain ⟨h0, h1⟩ := h
  exact ⟨h0, h1.sl⟩

end Go.Proofs.Ytnpkmebnmklcfaa

/- The data of the Go struct Tree: how it lies in memory (no program in sight). Conditions: none. -/
namespace Go.Proofs.Ytnpkmebnmklcfaa
open Go.RowKit
set_option linter.unusedVariables false
set_option linter.unusedSimpArgs false

inductive GTree where
  | mk (op : Int) (n : Int) (path : List Int) (s : ByteArray) (kids : List GTree)
def GTree.op : GTree → Int | .mk x _ _ _ _ => x
def GTree.n : GTree → Int | .mk _ x _ _ _ => x
def GTree.path : GTree → List Int | .mk _ _ x _ _ => x
def GTree.s : GTree → ByteArray | .mk _ _ _ x _ => x
def GTree.kids : GTree → List GTree | .mk _ _ _ _ x => x

mutual
def GTree.toD : GTree → D | .mk op n path s kids => .agg [.num .i64 op, .num .i64 n, .sl 1 (path.map (D.num .i64)), .str s, .sl 5 (GTree.toDs kids)]
def GTree.toDs : List GTree → List D | [] => [] | t :: r => t.toD :: GTree.toDs r
end

theorem GTree.toDs_map : ∀ l : List GTree, GTree.toDs l = l.map GTree.toD
  | [] => rfl
  | t :: r => by simp only [GTree.toDs, List.map_cons, GTree.toDs_map r]

mutual
/-- how much it holds, as the laws count it -/
def GTree.bulk : GTree → Nat | .mk _ _ path s kids => path.length + s.size + GTree.bulks kids
def GTree.bulks : List GTree → Nat | [] => 0 | t :: r => 1 + t.bulk + GTree.bulks r
end
theorem GTree.bulks_eq : ∀ l : List GTree, GTree.bulks l = bulkL GTree.bulk l
  | [] => rfl
  | t :: r => by simp only [GTree.bulks, bulkL, GTree.bulks_eq r]

theorem GTree.bulk_eq (t : GTree) : t.bulk = t.path.length + t.s.size + bulkL GTree.bulk t.kids := by
  cases t; simp only [GTree.bulk, GTree.bulks_eq, GTree.op, GTree.n, GTree.path, GTree.s, GTree.kids]

/-- the facts of a struct that lies in memory: its cells are .int .i64 t.op, .int .i64 t.n, .slice A1 t.path.length c1, .string t.s, .slice A2 t.kids.length c2 -/
def GTree.At (w : World) (S : Nat → Prop) (A1 : Option Addr) (c1 : Nat) (A2 : Option Addr) (c2 : Nat) (t : GTree) : Prop :=
  (Lit.int .i64 t.op).wf = true ∧ (Lit.int .i64 t.n).wf = true ∧ Sl w S 1 A1 c1 (t.path.map (D.num .i64)) ∧ t.s.size ≤ maxLen ∧ Sl w S 5 A2 c2 (t.kids.map GTree.toD)

theorem GTree.rd {w : World} {S : Nat → Prop} {t : GTree} {cs : List Value} (h : t.toD.rd w S cs) : ∃ A1 c1 A2 c2, cs = [.int .i64 t.op, .int .i64 t.n, .slice A1 t.path.length c1, .string t.s, .slice A2 t.kids.length c2] ∧ GTree.At w S A1 c1 A2 c2 t := by
  cases t with
  | mk op n path s kids =>
  simp only [GTree.toD, GTree.toDs_map] at h
  rw [D.rd_agg] at h
  rw [D.rdF_cons] at h
  obtain ⟨x0, r0, rfl, k0, h⟩ := h
  obtain ⟨rfl, h0⟩ := D.rd_num.1 k0
  rw [D.rdF_cons] at h
  obtain ⟨x1, r1, rfl, k1, h⟩ := h
  obtain ⟨rfl, h1⟩ := D.rd_num.1 k1
  rw [D.rdF_cons] at h
  obtain ⟨x2, r2, rfl, k2, h⟩ := h
  obtain ⟨A1, c1, rfl, h2⟩ := D.rd_sl.1 k2
  rw [D.rdF_cons] at h
  obtain ⟨x3, r3, rfl, k3, h⟩ := h
  obtain ⟨rfl, h3⟩ := D.rd_str.1 k3
  rw [D.rdF_cons] at h
  obtain ⟨x4, r4, rfl, k4, h⟩ := h
  obtain ⟨A2, c2, rfl, h4⟩ := D.rd_sl.1 k4
  obtain rfl := D.rdF_nil.1 h
  exact ⟨A1, c1, A2, c2, by simp [GTree.op, GTree.n, GTree.path, GTree.s, GTree.kids], h0, h1, h2, h3, h4⟩

theorem GTree.rd_mk {w : World} {S : Nat → Prop} {t : GTree} {A1 : Option Addr} {c1 : Nat} {A2 : Option Addr} {c2 : Nat} (h : GTree.At w S A1 c1 A2 c2 t) : t.toD.rd w S [.int .i64 t.op, .int .i64 t.n, .slice A1 t.path.length c1, .string t.s, .slice A2 t.kids.length c2] := by
  cases t with
  | mk op n path s kids =>
  simp only [GTree.toD, GTree.toDs_map]
  unfold GTree.At at h
  obtain ⟨h0, h1, h2, h3, h4⟩ := h
  rw [D.rd_agg]
  exact D.rdF_cons.2 ⟨[_], [_, _, _, _], rfl, D.rd_num.2 ⟨rfl, h0⟩, D.rdF_cons.2 ⟨[_], [_, _, _], rfl, D.rd_num.2 ⟨rfl, h1⟩, D.rdF_cons.2 ⟨[_], [_, _], rfl, D.rd_sl.2 ⟨A1, c1, by simp [GTree.path], h2⟩, D.rdF_cons.2 ⟨[_], [_], rfl, D.rd_str.2 ⟨rfl, h3⟩, D.rdF_cons.2 ⟨[_], [], rfl, D.rd_sl.2 ⟨A2, c2, by simp [GTree.kids], h4⟩, D.rdF_nil.2 rfl⟩⟩⟩⟩⟩

theorem GTree.elem {w : World} {S : Nat → Prop} {A : Option Addr} {c : Nat} {l : List GTree} (h : Sl w S 5 A c (l.map GTree.toD)) (i : Nat) (hi : i < l.length) :
    ∃ b off A1 c1 A2 c2, A = some ⟨b, off, none⟩ ∧ S b ∧ w.cell? ⟨b, off + i * 5, none⟩ = some (.int .i64 l[i].op) ∧ w.cell? ⟨b, off + i * 5 + 1, none⟩ = some (.int .i64 l[i].n) ∧ w.cell? ⟨b, off + i * 5 + 2, none⟩ = some (.slice A1 l[i].path.length c1) ∧ w.cell? ⟨b, off + i * 5 + 3, none⟩ = some (.string l[i].s) ∧ w.cell? ⟨b, off + i * 5 + 4, none⟩ = some (.slice A2 l[i].kids.length c2) ∧ GTree.At w S A1 c1 A2 c2 l[i] := by
  obtain ⟨b, off, cs, e, hb, hl, hc, hr⟩ := Sl.get h i (by simpa using hi)
  rw [List.getElem_map] at hr
  obtain ⟨A1, c1, A2, c2, rfl, h1⟩ := GTree.rd hr
  exact ⟨b, off, A1, c1, A2, c2, e, hb, hc 0 _ rfl, hc 1 _ rfl, hc 2 _ rfl, hc 3 _ rfl, hc 4 _ rfl, h1⟩

theorem GTree.At.keep {w w' : World} {S S' : Nat → Prop} {t : GTree} {A1 : Option Addr} {c1 : Nat} {A2 : Option Addr} {c2 : Nat} (h : GTree.At w S A1 c1 A2 c2 t) (hk : ∀ b, S b → S' b ∧ w'.heap[b]? = w.heap[b]?) : GTree.At w' S' A1 c1 A2 c2 t := by
  unfold GTree.At at h ⊢
  obtain ⟨h0, h1, h2, h3, h4⟩ := h
  exact ⟨h0, h1, h2.keep hk, h3, h4.keep hk⟩
theorem GTree.At.below {w w' : World} {B B' : Nat} {t : GTree} {A1 : Option Addr} {c1 : Nat} {A2 : Option Addr} {c2 : Nat} (h : GTree.At w (Lt B) A1 c1 A2 c2 t) (hb : Below B w w') (hB : B ≤ B') : GTree.At w' (Lt B') A1 c1 A2 c2 t :=
  h.keep (keep_below hb hB)

/-- the same, owned -/
def GTree.Ow (w : World) (S : Nat → Prop) (A1 : Option Addr) (c1 : Nat) (A2 : Option Addr) (c2 : Nat) (t : GTree) : Prop :=
  ∃ S1 S2 : Nat → Prop, (∀ x, S1 x → S x) ∧ (∀ x, S2 x → S x) ∧ (∀ x, S1 x → ¬ S2 x) ∧ (Lit.int .i64 t.op).wf = true ∧ (Lit.int .i64 t.n).wf = true ∧ Osl w S1 1 A1 c1 (t.path.map (D.num .i64)) ∧ t.s.size ≤ maxLen ∧ Osl w S2 5 A2 c2 (t.kids.map GTree.toD)

theorem GTree.own_mk {w : World} {S : Nat → Prop} {t : GTree} {A1 : Option Addr} {c1 : Nat} {A2 : Option Addr} {c2 : Nat} (h : GTree.Ow w S A1 c1 A2 c2 t) : t.toD.own w S [.int .i64 t.op, .int .i64 t.n, .slice A1 t.path.length c1, .string t.s, .slice A2 t.kids.length c2] := by
  cases t with
  | mk op n path s kids =>
  simp only [GTree.toD, GTree.toDs_map]
  unfold GTree.Ow at h
  obtain ⟨S1, S2, g1, g2, d12, h0, h1, h2, h3, h4⟩ := h
  rw [D.own_agg]
  exact D.ownF_plain (c1 := [_]) (c2 := [_, _, _, _]) (D.own_num.2 ⟨rfl, h0⟩) (D.ownF_plain (c1 := [_]) (c2 := [_, _, _]) (D.own_num.2 ⟨rfl, h1⟩) (D.ownF_cons (S := S) (S1 := S1) (S2 := S2) (c1 := [_]) (c2 := [_, _]) (fun x hx => ⟨g1 x hx, fun h => d12 x hx h⟩) (g2) (D.own_sl.2 ⟨A1, c1, by simp [GTree.path], h2⟩) (D.ownF_plain (c1 := [_]) (c2 := [_]) (D.own_str.2 ⟨rfl, h3⟩) (D.ownF_last (D.own_sl.2 ⟨A2, c2, by simp [GTree.kids], h4⟩)))))

theorem GTree.Ow.keep {w w' : World} {S S' : Nat → Prop} {t : GTree} {A1 : Option Addr} {c1 : Nat} {A2 : Option Addr} {c2 : Nat} (h : GTree.Ow w S A1 c1 A2 c2 t) (hk : ∀ b, S b → S' b ∧ w'.heap[b]? = w.heap[b]?) : GTree.Ow w' S' A1 c1 A2 c2 t := by
  unfold GTree.Ow at h ⊢
  obtain ⟨S1, S2, g1, g2, d12, h0, h1, h2, h3, h4⟩ := h
  exact ⟨S1, S2, fun x hx => (hk x (g1 x hx)).1, fun x hx => (hk x (g2 x hx)).1, d12, h0, h1, h2.keep fun b hb => ⟨hb, (hk b (g1 b hb)).2⟩, h3, h4.keep fun b hb => ⟨hb, (hk b (g2 b hb)).2⟩⟩
theorem GTree.Ow.at {w : World} {S : Nat → Prop} {t : GTree} {A1 : Option Addr} {c1 : Nat} {A2 : Option Addr} {c2 : Nat} (h : GTree.Ow w S A1 c1 A2 c2 t) : GTree.At w S A1 c1 A2 c2 t := by
  unfold GTree.Ow at h
  unfold GTree.At
  obtain ⟨S1, S2, g1, g2, d12, h0, h1, h2, h3, h4⟩ := h
  exact ⟨h0, h1, h2.sl.keep fun b hb => ⟨g1 b hb, rfl⟩, h3, h4.sl.keep fun b hb => ⟨g2 b hb, rfl⟩⟩

end Go.Proofs.Ytnpkmebnmklcfaa

/- append of data onto a slice of one's own: what it owns afterwards (no program in sight). Conditions: none. -/
namespace Go.Proofs.Ytnpkmebnmklcfaa
open Go.RowKit
set_option linter.unusedVariables false
set_option linter.unusedSimpArgs false

/-- cells that are data, size cells each, each with blocks of its own -/
def ownC (w : World) (size : Nat) : List D → (Nat → Prop) → List Value → Prop
  | [], _, cs => cs = []
  | d :: r, S, cs => ∃ (S1 S2 : Nat → Prop) (c1 c2 : List Value), (∀ x, S1 x → S x ∧ ¬ S2 x) ∧ (∀ x, S2 x → S x) ∧ cs = c1 ++ c2 ∧ c1.length = size ∧ d.own w S1 c1 ∧ ownC w size r S2 c2

theorem ownC_keep {w w' : World} {size : Nat} : ∀ (xs : List D) (S S' : Nat → Prop) (cs : List Value), (∀ b, S b → S' b ∧ w'.heap[b]? = w.heap[b]?) → ownC w size xs S cs → ownC w' size xs S' cs
  | [], _, _, _, _, h => h
  | d :: r, S, S', cs, hk, h => by
    simp only [ownC] at h ⊢
    obtain ⟨S1, S2, c1, c2, g1, g2, e, hl, h1, h2⟩ := h
    exact ⟨S1, S2, c1, c2, fun x hx => ⟨(hk x (g1 x hx).1).1, (g1 x hx).2⟩, fun x hx => (hk x (g2 x hx)).1, e, hl, D.own_keep d S1 S1 c1 (fun b hb => ⟨hb, (hk b (g1 b hb).1).2⟩) h1, ownC_keep r S2 S2 c2 (fun b hb => ⟨hb, (hk b (g2 b hb)).2⟩) h2⟩

theorem ownC_snoc {w : World} {size : Nat} {d : D} {c : List Value} {T S : Nat → Prop} (hd : d.own w T c) (hc : c.length = size) (hT : ∀ x, T x → S x) :
    ∀ (xs : List D) (U : Nat → Prop) (cs : List Value), (∀ x, U x → S x ∧ ¬ T x) → ownC w size xs U cs → ownC w size (xs ++ [d]) (fun x => U x ∨ T x) (cs ++ c)
  | [], U, cs, _, h => by
    simp only [ownC] at h
    subst h
    simp only [List.nil_append, ownC]
    exact ⟨T, fun _ => False, c, [], fun x hx => ⟨.inr hx, fun h => h⟩, fun x hx => hx.elim, by simp, hc, hd, rfl⟩
  | e :: r, U, cs, hU, h => by
    simp only [ownC, List.cons_append] at h ⊢
    obtain ⟨S1, S2, c1, c2, g1, g2, rfl, hl, h1, h2⟩ := h
    refine ⟨S1, fun x => S2 x ∨ T x, c1, c2 ++ c, fun x hx => ⟨.inl (g1 x hx).1, fun h => ?_⟩, fun x hx => hx.elim (fun h => .inl (g2 x h)) .inr, by simp, hl, h1, ownC_snoc hd hc hT r S2 c2 (fun x hx => hU x (g2 x hx)) h2⟩
    rcases h with h | h
    · exact (g1 x hx).2 h
    · exact (hU x (g1 x hx).1).2 h

theorem ownC_row {w : World} {size b : Nat} : ∀ (xs : List D) (S : Nat → Prop) (cs : List Value) (off : Nat), (∀ j v, cs[j]? = some v → w.cell? ⟨b, off + j, none⟩ = some v) → ownC w size xs S cs → D.ownR w size b xs S off
  | [], _, _, _, _, _ => by simp only [D.ownR]
  | d :: r, S, cs, off, hc, h => by
    simp only [ownC, D.ownR] at h ⊢
    obtain ⟨S1, S2, c1, c2, g1, g2, rfl, hl, h1, h2⟩ := h
    refine ⟨S1, S2, c1, g1, g2, hl, fun j v hj => hc j v ?_, h1, ownC_row r S2 c2 (off + size) (fun j v hj => ?_) h2⟩
    · have : j < c1.length := (List.getElem?_eq_some_iff.1 hj).1
      rw [List.getElem?_append_left this]; exact hj
    · have := hc (size + j) v (by rw [List.getElem?_append_right (by omega), hl]; simpa using hj)
      rwa [← Nat.add_assoc] at this

/-- a slice that grows: nil, or a row of one's own (from block B on, below m); its n data lie in blocks of their own -/
def Gow (w : World) (B m : Nat) (e : TypeId) (size : Nat) (v : Value) (n : Nat) (xs : List D) : Prop :=
  xs.length = n ∧ ∃ cs, w.ownsRow B e size v n cs ∧ (∀ g, v.ownBlock = some g → g < m) ∧ ownC w size xs (fun b => B ≤ b ∧ b < m ∧ v.ownBlock ≠ some b) cs

theorem Gow.nil (w : World) (B m : Nat) (e : TypeId) (size : Nat) : Gow w B m e size (.slice none 0 0) 0 [] :=
  ⟨rfl, [], World.ownsRow_nil w B e size, fun g h => by simp [Value.ownBlock] at h, rfl⟩

theorem Gow.keep {w w' : World} {B m m' : Nat} {e : TypeId} {size : Nat} {v : Value} {n : Nat} {xs : List D} (h : Gow w B m e size v n xs) (hm : m ≤ m') (hk : ∀ b, B ≤ b → b < m → w'.heap[b]? = w.heap[b]?) : Gow w' B m' e size v n xs := by
  obtain ⟨h1, cs, h2, h3, h4⟩ := h
  refine ⟨h1, cs, ?_, fun g hg => Nat.lt_of_lt_of_le (h3 g hg) hm, ownC_keep xs _ _ cs (fun b hb => ⟨⟨hb.1, Nat.lt_of_lt_of_le hb.2.1 hm, hb.2.2⟩, hk b hb.1 hb.2.1⟩) h4⟩
  refine ⟨h2.1, ?_⟩
  rcases h2.2 with h | ⟨g, cap, cur, rfl, a1, a2, a3⟩
  · exact .inl h
  · exact .inr ⟨g, cap, cur, rfl, a1, (hk g a1 (h3 g rfl)).trans a2, a3⟩

theorem Gow.below {w w' : World} {B m m' : Nat} {e : TypeId} {size : Nat} {v : Value} {n : Nat} {xs : List D} (h : Gow w B m e size v n xs) (hb : Below m w w') (hm : m ≤ m') : Gow w' B m' e size v n xs :=
  h.keep hm fun b _ hb' => hb.block b hb'

/-- an empty slice that was just made -/
theorem Gow.made {w : World} {B m g : Nat} {e : TypeId} {size : Nat} (hr : Row w g e #[]) (hB : B ≤ g) (hm : g < m) : Gow w B m e size (.slice (some ⟨g, 0, none⟩) 0 0) 0 [] :=
  ⟨rfl, [], ⟨by simp, .inr ⟨g, 0, #[], rfl, hB, hr, Nat.le_refl _, by unfold maxLen; omega, by simp, by simp⟩⟩, fun g' h => by simp [Value.ownBlock] at h; omega, rfl⟩

/-- what has grown is owned -/
theorem Gow.osl {w : World} {B m : Nat} {e : TypeId} {size : Nat} {v : Value} {n : Nat} {xs : List D} (h : Gow w B m e size v n xs) : ∃ A c, v = .slice A n c ∧ Osl w (Btw B m) size A c xs := by
  obtain ⟨h1, cs, h2, h3, h4⟩ := h
  rcases h2.2 with ⟨rfl, h⟩ | ⟨g, cap, cur, rfl, a1, a2, a3, a4, a5, a6⟩
  · have : xs = [] := List.eq_nil_of_length_eq_zero (by omega)
    subst this
    exact ⟨none, 0, by rw [h], Osl.nil (by unfold maxLen; omega)⟩
  · refine ⟨_, cap, rfl, by omega, a4, .inr ⟨g, rfl, ⟨a1, h3 g rfl⟩, fun o => Row.frozen (t := e) (cs := cur) a2 o, ?_⟩⟩
    refine ownC_row xs _ cs 0 (fun j v hj => ?_) (ownC_keep xs _ _ cs (fun b hb => ⟨⟨⟨hb.1, hb.2.1⟩, fun e => hb.2.2 (by rw [e]; rfl)⟩, rfl⟩) h4)
    rw [Nat.zero_add, Row.cell (t := e) (cs := cur) a2]
    rw [← a6, List.getElem?_take] at hj
    split at hj
    · simpa using hj
    · cases hj

/-- behind an append -/
theorem Gow.step {w w' : World} {B m g cap H : Nat} {e e' : TypeId} {size : Nat} {v : Value} {n : Nat} {xs : List D} {d : D} {cs : List Value} {cells : List Value} (hB : B ≤ m) (hm : m ≤ w.heap.size)
    (hxs : xs.length = n) (hlt0 : ∀ g, v.ownBlock = some g → g < m) (hoc : ownC w size xs (fun b => B ≤ b ∧ b < m ∧ v.ownBlock ≠ some b) cells) (hd : d.own w (Btw m w.heap.size) cs) (hcs : cs.length = size)
    (hH : H = w.heap.size + 1) (hown : w'.ownsRow B e size (.slice (some ⟨g, 0, none⟩) (n + 1) cap) (n + 1) (cells ++ cs)) (hgrow : (w.alloc (.cells cs.toArray e')).grownBy w' v.ownBlock) (hat : v.ownBlock = some g ∨ g = H) (hlt : g < w'.heap.size) :
    Gow w' B w'.heap.size e size (.slice (some ⟨g, 0, none⟩) (n + 1) cap) (n + 1) (xs ++ [d]) := by
  have hsz : (w.alloc (.cells cs.toArray e')).heap.size ≤ w'.heap.size := hgrow.size
  have hsz' : w.heap.size + 1 ≤ w'.heap.size := by simpa using hsz
  have hne : ∀ b, b < w.heap.size → v.ownBlock ≠ some b → w'.heap[b]? = w.heap[b]? := fun b hb hb2 =>
    (hgrow.block b (by simp; omega) (fun e => hb2 e.symm)).trans (Below.heap_alloc w _ b hb)
  refine ⟨by simp [hxs], cells ++ cs, hown, fun g' hg' => by simp [Value.ownBlock] at hg'; omega, ?_⟩
  have hgm : g < m ∨ g = H := by
    rcases hat with h | h
    · exact .inl (hlt0 g h)
    · exact .inr h
  have k1 := ownC_keep (w' := w') xs _ (fun b => B ≤ b ∧ b < m ∧ v.ownBlock ≠ some b) cells (fun b hb => ⟨hb, hne b (by omega) hb.2.2⟩) hoc
  have k2 := D.own_keep (w' := w') d _ (Btw m w.heap.size) cs (fun b hb => ⟨hb, hne b hb.2 (fun e => by have := hlt0 b e; have := hb.1; omega)⟩) hd
  have k3 := ownC_snoc (S := fun b => B ≤ b) k2 hcs (fun x hx => Nat.le_trans hB hx.1) xs _ cells (fun x hx => ⟨hx.1, fun h => by have := h.1; omega⟩) k1
  refine ownC_keep _ _ _ _ (fun b hb => ⟨?_, rfl⟩) k3
  rcases hb with ⟨b1, b2, b3⟩ | ⟨b1, b2⟩
  · refine ⟨b1, by omega, fun e => ?_⟩
    simp only [Value.ownBlock, Option.some.injEq] at e
    subst e
    rcases hat with h | h
    · exact b3 h
    · omega
  · refine ⟨by omega, by omega, fun e => ?_⟩
    simp only [Value.ownBlock, Option.some.injEq] at e
    omega

theorem Gow.grown {w w' : World} {B m : Nat} {e : TypeId} {size : Nat} {v : Value} {n : Nat} {xs : List D} (h : Gow w B m e size v n xs) (hg : w.grownBy w' v.ownBlock) (hm : B ≤ w.heap.size) : Below B w w' := by
  refine ⟨hg.os, hg.tape, hg.output, hg.size, fun b hb => hg.block b (by omega) (fun e => ?_)⟩
  obtain ⟨_, cs, h2, _, _⟩ := h
  have := h2.lt b e.symm
  omega

theorem wpList_append_D {P : Program} (w : World) {ops : Array Oper} {rest : List Oper} {o : Oper} {a : Act} {Q : Exit → Act → World → Prop} (hgd : o.guard = none) (s x : Operand) (t : TypeId) (ho : o.op = .call { callee := .builtin .append, args := #[s, x], argTypes := #[t, t] })
    (e : TypeId) (z : Value) (size bytes : Nat) (ht : P.underlying t = some (.slice e)) (hi : (P.info? e).map (fun i => (i.zero, i.size, i.bytes)) = some (some z, size, bytes)) (hzs : z.cells.size = size) (hsz : 0 < size)
    (B m : Nat) (v : Value) (n : Nat) (xs : List D) (hg : Gow w B m e size v n xs) (d : D) (cs : List Value) (hd : d.own w (Btw m w.heap.size) cs) (hB : B ≤ m) (hm : m ≤ w.heap.size) (hcs : cs.length = size) (h1 : ∀ u ∈ cs, u.oneCell' = true)
    (hn : n < 1048577) (hby : bytes ≤ 1048576) (e' : TypeId) (hs : a.eval s = v) (A : Nat) (hA : A = w.heap.size) (hx : a.eval x = .slice (some ⟨A, 0, none⟩) 1 1)
    (h : ∀ g cap w', Gow w' B w'.heap.size e size (.slice (some ⟨g, 0, none⟩) (n + 1) cap) (n + 1) (xs ++ [d]) → Below B w w' → w.heap.size ≤ w'.heap.size → B ≤ g → g < w'.heap.size → wpList P ops Q rest (a.put o.dst (.slice (some ⟨g, 0, none⟩) (n + 1) cap)) w') : wpList P ops Q (o :: rest) a (w.alloc (.cells cs.toArray e')) := by
  obtain ⟨i, i1, i2, i3, i4⟩ := info_parts hi
  obtain ⟨hxs, cells, g2, g3, g4⟩ := id hg
  have e1 : w.heap.size < (w.alloc (.cells cs.toArray e')).heap.size := by simp
  have hga := g2.alloc (.cells cs.toArray e')
  have hnews : ∀ j u, cs[j]? = some u → (w.alloc (.cells cs.toArray e')).cell? ((⟨A, 0, none⟩ : Addr).add j) = some u := fun j u hu => by
    subst hA
    exact World.news_of_block (cs := cs.toArray) (heap_alloc_new w _) j u (by simpa using hu)
  have hbt : (n + 1) * bytes ≤ 140737488355328 := Nat.le_trans (Nat.mul_le_mul (show n + 1 ≤ 1048577 by omega) hby) (by omega)
  exact wpList_append_lies (w.alloc (.cells cs.toArray e')) hgd s x t ho B e i z size bytes ht i1 i2 i3 i4 hzs hsz v n cells hs hga ⟨A, 0, none⟩ 1 1 cs hx (by omega) hnews h1 (by omega) (by unfold maxLen; omega) hbt (by simp; omega) _ rfl fun g cap w' h2 h3 h4 h5 => h g cap w' (Gow.step (e' := e') hB hm hxs g3 g4 hd hcs (by simp) h2 h3 h4 h5)
    (((Below.refl _ _).alloc (by omega) _).trans (Gow.grown (hg.below (m := m) (m' := m) ((Below.refl _ _).alloc hm _) (Nat.le_refl _)) h3 (by omega))) (Nat.le_trans (Nat.le_of_lt e1) h3.size) (h2.lt g rfl).1 h5

theorem step_append_D {P : Program} (w : World) {ops : Array Oper} {o : Oper} {a : Act} {K : Act → World → Prop} {Q : Exit → Act → World → Prop} {E : Prop} (hgd : o.guard = none) (s x : Operand) (t : TypeId) (ho : o.op = .call { callee := .builtin .append, args := #[s, x], argTypes := #[t, t] })
    (e : TypeId) (z : Value) (size bytes : Nat) (ht : P.underlying t = some (.slice e)) (hi : (P.info? e).map (fun i => (i.zero, i.size, i.bytes)) = some (some z, size, bytes)) (hzs : z.cells.size = size) (hsz : 0 < size)
    (B m : Nat) (v : Value) (n : Nat) (xs : List D) (hg : Gow w B m e size v n xs) (d : D) (cs : List Value) (hd : d.own w (Btw m w.heap.size) cs) (hB : B ≤ m) (hm : m ≤ w.heap.size) (hcs : cs.length = size) (h1 : ∀ u ∈ cs, u.oneCell' = true)
    (hn : n < 1048577) (hby : bytes ≤ 1048576) (e' : TypeId) (hs : a.eval s = v) (A : Nat) (hA : A = w.heap.size) (hx : a.eval x = .slice (some ⟨A, 0, none⟩) 1 1)
    (h : ∀ g cap w', Gow w' B w'.heap.size e size (.slice (some ⟨g, 0, none⟩) (n + 1) cap) (n + 1) (xs ++ [d]) → Below B w w' → w.heap.size ≤ w'.heap.size → B ≤ g → g < w'.heap.size → K (a.put o.dst (.slice (some ⟨g, 0, none⟩) (n + 1) cap)) w') : if Region.wanted o (yielded ops a.tmps) = true then Oper.wp P o a (w.alloc (.cells cs.toArray e')) K Q else E := by
  obtain ⟨i, i1, i2, i3, i4⟩ := info_parts hi
  obtain ⟨hxs, cells, g2, g3, g4⟩ := id hg
  have e1 : w.heap.size < (w.alloc (.cells cs.toArray e')).heap.size := by simp
  have hga := g2.alloc (.cells cs.toArray e')
  have hnews : ∀ j u, cs[j]? = some u → (w.alloc (.cells cs.toArray e')).cell? ((⟨A, 0, none⟩ : Addr).add j) = some u := fun j u hu => by
    subst hA
    exact World.news_of_block (cs := cs.toArray) (heap_alloc_new w _) j u (by simpa using hu)
  have hbt : (n + 1) * bytes ≤ 140737488355328 := Nat.le_trans (Nat.mul_le_mul (show n + 1 ≤ 1048577 by omega) hby) (by omega)
  exact step_append_lies (w.alloc (.cells cs.toArray e')) hgd s x t ho B e i z size bytes ht i1 i2 i3 i4 hzs hsz v n cells hs hga ⟨A, 0, none⟩ 1 1 cs hx (by omega) hnews h1 (by omega) (by unfold maxLen; omega) hbt (by simp; omega) _ rfl fun g cap w' h2 h3 h4 h5 => h g cap w' (Gow.step (e' := e') hB hm hxs g3 g4 hd hcs (by simp) h2 h3 h4 h5)
    (((Below.refl _ _).alloc (by omega) _).trans (Gow.grown (hg.below (m := m) (m' := m) ((Below.refl _ _).alloc hm _) (Nat.le_refl _)) h3 (by omega))) (Nat.le_trans (Nat.le_of_lt e1) h3.size) (h2.lt g rfl).1 h5

end Go.Proofs.Ytnpkmebnmklcfaa

/- append of data that lie elsewhere onto a slice of one's own (no program in sight). Conditions: the data lie below the slice. -/
namespace Go.Proofs.Ytnpkmebnmklcfaa
open Go.RowKit
set_option linter.unusedVariables false
set_option linter.unusedSimpArgs false

/-- cells that read as data, size cells each -/
def rdC (w : World) (size : Nat) (S : Nat → Prop) : List D → List Value → Prop
  | [], cs => cs = []
  | d :: r, cs => ∃ c1 c2, cs = c1 ++ c2 ∧ c1.length = size ∧ d.rd w S c1 ∧ rdC w size S r c2
theorem rdC_keep {w w' : World} {size : Nat} {S S' : Nat → Prop} (hk : ∀ b, S b → S' b ∧ w'.heap[b]? = w.heap[b]?) : ∀ (xs : List D) (cs : List Value), rdC w size S xs cs → rdC w' size S' xs cs
  | [], _, h => h
  | d :: r, cs, h => by
    simp only [rdC] at h ⊢
    obtain ⟨c1, c2, e, hl, h1, h2⟩ := h
    exact ⟨c1, c2, e, hl, D.rd_keep hk d c1 h1, rdC_keep hk r c2 h2⟩
theorem rdC_snoc {w : World} {size : Nat} {S : Nat → Prop} {d : D} {c : List Value} (hd : d.rd w S c) (hc : c.length = size) : ∀ (xs : List D) (cs : List Value), rdC w size S xs cs → rdC w size S (xs ++ [d]) (cs ++ c)
  | [], cs, h => by
    simp only [rdC] at h
    subst h
    simp only [List.nil_append, rdC]
    exact ⟨c, [], by simp, hc, hd, rfl⟩
  | e :: r, cs, h => by
    simp only [rdC, List.cons_append] at h ⊢
    obtain ⟨c1, c2, rfl, hl, h1, h2⟩ := h
    exact ⟨c1, c2 ++ c, by simp, hl, h1, rdC_snoc hd hc r c2 h2⟩
theorem rdC_row {w : World} {size b : Nat} {S : Nat → Prop} : ∀ (xs : List D) (cs : List Value) (off : Nat), (∀ j v, cs[j]? = some v → w.cell? ⟨b, off + j, none⟩ = some v) → rdC w size S xs cs → D.rdR w S size b xs off
  | [], _, _, _, _ => by simp only [D.rdR]
  | d :: r, cs, off, hc, h => by
    simp only [rdC, D.rdR] at h ⊢
    obtain ⟨c1, c2, rfl, hl, h1, h2⟩ := h
    refine ⟨⟨c1, hl, fun j v hj => hc j v ?_, h1⟩, rdC_row r c2 (off + size) (fun j v hj => ?_) h2⟩
    · have : j < c1.length := (List.getElem?_eq_some_iff.1 hj).1
      rw [List.getElem?_append_left this]; exact hj
    · have := hc (size + j) v (by rw [List.getElem?_append_right (by omega), hl]; simpa using hj)
      rwa [← Nat.add_assoc] at this

/-- a slice that grows: nil, or a row of one's own from block B on; its data lie below B -/
def Gsh (w : World) (B : Nat) (e : TypeId) (size : Nat) (v : Value) (n : Nat) (xs : List D) : Prop :=
  xs.length = n ∧ ∃ cs, w.ownsRow B e size v n cs ∧ rdC w size (Lt B) xs cs
theorem Gsh.nil (w : World) (B : Nat) (e : TypeId) (size : Nat) : Gsh w B e size (.slice none 0 0) 0 [] :=
  ⟨rfl, [], World.ownsRow_nil w B e size, rfl⟩
theorem Gsh.made {w : World} {B g : Nat} {e : TypeId} {size : Nat} (hr : Row w g e #[]) (hB : B ≤ g) : Gsh w B e size (.slice (some ⟨g, 0, none⟩) 0 0) 0 [] :=
  ⟨rfl, [], ⟨by simp, .inr ⟨g, 0, #[], rfl, hB, hr, Nat.le_refl _, by unfold maxLen; omega, by simp, by simp⟩⟩, rfl⟩
theorem Gsh.below {w w' : World} {B : Nat} {e : TypeId} {size : Nat} {v : Value} {n : Nat} {xs : List D} (h : Gsh w B e size v n xs) (hb : Below w.heap.size w w') (hB : B ≤ w.heap.size) : Gsh w' B e size v n xs := by
  obtain ⟨h1, cs, h2, h4⟩ := h
  refine ⟨h1, cs, ?_, rdC_keep (fun b hb' => ⟨hb', hb.block b (Nat.lt_of_lt_of_le hb' hB)⟩) xs cs h4⟩
  refine ⟨h2.1, ?_⟩
  rcases h2.2 with h | ⟨g, cap, cur, rfl, a1, a2, a3⟩
  · exact .inl h
  · exact .inr ⟨g, cap, cur, rfl, a1, (hb.block g (h2.lt g rfl).2).trans a2, a3⟩
theorem Gsh.sl {w : World} {B : Nat} {e : TypeId} {size : Nat} {v : Value} {n : Nat} {xs : List D} (h : Gsh w B e size v n xs) (hB : B ≤ w.heap.size) : ∃ A c, v = .slice A n c ∧ Sl w (Lt w.heap.size) size A c xs := by
  obtain ⟨h1, cs, h2, h4⟩ := h
  have hlt := h2.lt
  rcases h2.2 with ⟨rfl, h⟩ | ⟨g, cap, cur, rfl, a1, a2, a3, a4, a5, a6⟩
  · have : xs = [] := List.eq_nil_of_length_eq_zero (by omega)
    subst this
    exact ⟨none, 0, by rw [h], Sl.nil (by unfold maxLen; omega)⟩
  · refine ⟨_, cap, rfl, by omega, a4, .inr ⟨g, 0, rfl, (hlt g rfl).2, ?_⟩⟩
    refine rdC_row xs cs 0 (fun j v hj => ?_) (rdC_keep (fun b hb => ⟨Nat.lt_of_lt_of_le hb hB, rfl⟩) xs cs h4)
    rw [Nat.zero_add, Row.cell (t := e) (cs := cur) a2]
    rw [← a6, List.getElem?_take] at hj
    split at hj
    · simpa using hj
    · cases hj
theorem Gsh.step {w w' : World} {B g cap : Nat} {e e' : TypeId} {size : Nat} {v : Value} {n : Nat} {xs : List D} {d : D} {cs cells : List Value} (hB : B ≤ w.heap.size)
    (hxs : xs.length = n) (hbase : ∀ g, v.ownBlock = some g → B ≤ g) (hoc : rdC w size (Lt B) xs cells) (hd : d.rd w (Lt B) cs) (hcs : cs.length = size)
    (hown : w'.ownsRow B e size (.slice (some ⟨g, 0, none⟩) (n + 1) cap) (n + 1) (cells ++ cs)) (hgrow : (w.alloc (.cells cs.toArray e')).grownBy w' v.ownBlock) :
    Gsh w' B e size (.slice (some ⟨g, 0, none⟩) (n + 1) cap) (n + 1) (xs ++ [d]) := by
  have hne : ∀ b, b < B → w'.heap[b]? = w.heap[b]? := fun b hb =>
    (hgrow.block b (by simp; omega) (fun e => by have := hbase b e.symm; omega)).trans (Below.heap_alloc w _ b (by omega))
  exact ⟨by simp [hxs], cells ++ cs, hown, rdC_snoc (D.rd_keep (fun b hb => ⟨hb, hne b hb⟩) d cs hd) hcs xs cells (rdC_keep (fun b hb => ⟨hb, hne b hb⟩) xs cells hoc)⟩

theorem wpList_append_S {P : Program} (w : World) {ops : Array Oper} {rest : List Oper} {o : Oper} {a : Act} {Q : Exit → Act → World → Prop} (hgd : o.guard = none) (s x : Operand) (t : TypeId) (ho : o.op = .call { callee := .builtin .append, args := #[s, x], argTypes := #[t, t] })
    (e : TypeId) (z : Value) (size bytes : Nat) (ht : P.underlying t = some (.slice e)) (hi : (P.info? e).map (fun i => (i.zero, i.size, i.bytes)) = some (some z, size, bytes)) (hzs : z.cells.size = size) (hsz : 0 < size)
    (B : Nat) (v : Value) (n : Nat) (xs : List D) (hg : Gsh w B e size v n xs) (d : D) (cs : List Value) (hd : d.rd w (Lt B) cs) (hB : B ≤ w.heap.size) (hcs : cs.length = size) (h1 : ∀ u ∈ cs, u.oneCell' = true)
    (hn : n < 1048577) (hby : bytes ≤ 1048576) (e' : TypeId) (hs : a.eval s = v) (A : Nat) (hA : A = w.heap.size) (hx : a.eval x = .slice (some ⟨A, 0, none⟩) 1 1)
    (h : ∀ g cap w', Gsh w' B e size (.slice (some ⟨g, 0, none⟩) (n + 1) cap) (n + 1) (xs ++ [d]) → Below B w w' → w.heap.size ≤ w'.heap.size → B ≤ g → g < w'.heap.size → wpList P ops Q rest (a.put o.dst (.slice (some ⟨g, 0, none⟩) (n + 1) cap)) w') : wpList P ops Q (o :: rest) a (w.alloc (.cells cs.toArray e')) := by
  obtain ⟨i, i1, i2, i3, i4⟩ := info_parts hi
  obtain ⟨hxs, cells, g2, g4⟩ := id hg
  have e1 : w.heap.size < (w.alloc (.cells cs.toArray e')).heap.size := by simp
  have hga := g2.alloc (.cells cs.toArray e')
  have hnews : ∀ j u, cs[j]? = some u → (w.alloc (.cells cs.toArray e')).cell? ((⟨A, 0, none⟩ : Addr).add j) = some u := fun j u hu => by
    subst hA
    exact World.news_of_block (cs := cs.toArray) (heap_alloc_new w _) j u (by simpa using hu)
  have hbt : (n + 1) * bytes ≤ 140737488355328 := Nat.le_trans (Nat.mul_le_mul (show n + 1 ≤ 1048577 by omega) hby) (by omega)
  exact wpList_append_lies (w.alloc (.cells cs.toArray e')) hgd s x t ho B e i z size bytes ht i1 i2 i3 i4 hzs hsz v n cells hs hga ⟨A, 0, none⟩ 1 1 cs hx (by omega) hnews h1 (by omega) (by unfold maxLen; omega) hbt (by simp; omega) _ rfl fun g cap w' h2 h3 h4 h5 => h g cap w' (Gsh.step (e' := e') hB hxs (fun g hg => (g2.lt g hg).1) g4 hd hcs h2 h3)
    (((Below.refl _ _).alloc (by omega) _).trans (⟨h3.os, h3.tape, h3.output, h3.size, fun b hb => h3.block b (by omega) (fun e => by have := (g2.lt b e.symm).1; omega)⟩)) (Nat.le_trans (Nat.le_of_lt e1) h3.size) (h2.lt g rfl).1 h5

theorem step_append_S {P : Program} (w : World) {ops : Array Oper} {o : Oper} {a : Act} {K : Act → World → Prop} {Q : Exit → Act → World → Prop} {E : Prop} (hgd : o.guard = none) (s x : Operand) (t : TypeId) (ho : o.op = .call { callee := .builtin .append, args := #[s, x], argTypes := #[t, t] })
    (e : TypeId) (z : Value) (size bytes : Nat) (ht : P.underlying t = some (.slice e)) (hi : (P.info? e).map (fun i => (i.zero, i.size, i.bytes)) = some (some z, size, bytes)) (hzs : z.cells.size = size) (hsz : 0 < size)
    (B : Nat) (v : Value) (n : Nat) (xs : List D) (hg : Gsh w B e size v n xs) (d : D) (cs : List Value) (hd : d.rd w (Lt B) cs) (hB : B ≤ w.heap.size) (hcs : cs.length = size) (h1 : ∀ u ∈ cs, u.oneCell' = true)
    (hn : n < 1048577) (hby : bytes ≤ 1048576) (e' : TypeId) (hs : a.eval s = v) (A : Nat) (hA : A = w.heap.size) (hx : a.eval x = .slice (some ⟨A, 0, none⟩) 1 1)
    (h : ∀ g cap w', Gsh w' B e size (.slice (some ⟨g, 0, none⟩) (n + 1) cap) (n + 1) (xs ++ [d]) → Below B w w' → w.heap.size ≤ w'.heap.size → B ≤ g → g < w'.heap.size → K (a.put o.dst (.slice (some ⟨g, 0, none⟩) (n + 1) cap)) w') : if Region.wanted o (yielded ops a.tmps) = true then Oper.wp P o a (w.alloc (.cells cs.toArray e')) K Q else E := by
  obtain ⟨i, i1, i2, i3, i4⟩ := info_parts hi
  obtain ⟨hxs, cells, g2, g4⟩ := id hg
  have e1 : w.heap.size < (w.alloc (.cells cs.toArray e')).heap.size := by simp
  have hga := g2.alloc (.cells cs.toArray e')
  have hnews : ∀ j u, cs[j]? = some u → (w.alloc (.cells cs.toArray e')).cell? ((⟨A, 0, none⟩ : Addr).add j) = some u := fun j u hu => by
    subst hA
    exact World.news_of_block (cs := cs.toArray) (heap_alloc_new w _) j u (by simpa using hu)
  have hbt : (n + 1) * bytes ≤ 140737488355328 := Nat.le_trans (Nat.mul_le_mul (show n + 1 ≤ 1048577 by omega) hby) (by omega)
  exact step_append_lies (w.alloc (.cells cs.toArray e')) hgd s x t ho B e i z size bytes ht i1 i2 i3 i4 hzs hsz v n cells hs hga ⟨A, 0, none⟩ 1 1 cs hx (by omega) hnews h1 (by omega) (by unfold maxLen; omega) hbt (by simp; omega) _ rfl fun g cap w' h2 h3 h4 h5 => h g cap w' (Gsh.step (e' := e') hB hxs (fun g hg => (g2.lt g hg).1) g4 hd hcs h2 h3)
    (((Below.refl _ _).alloc (by omega) _).trans (⟨h3.os, h3.tape, h3.output, h3.size, fun b hb => h3.block b (by omega) (fun e => by have := (g2.lt b e.symm).1; omega)⟩)) (Nat.le_trans (Nat.le_of_lt e1) h3.size) (h2.lt g rfl).1 h5

end Go.Proofs.Ytnpkmebnmklcfaa

/- A slice that a call lets grow and hands back (no program in sight): Gr says what has turned: the slice's own row and new blocks. Conditions: none. -/
namespace Go.Proofs.Ytnpkmebnmklcfaa
open Go.RowKit
set_option linter.unusedVariables false
set_option linter.unusedSimpArgs false

structure Gr (w w' : World) (v v' : Value) : Prop where
  grow : w.grownBy w' v.ownBlock
  own : v'.ownBlock = v.ownBlock ∨ ∃ g, v'.ownBlock = some g ∧ w.heap.size ≤ g
theorem Gr.refl (w : World) (v : Value) : Gr w w v v := ⟨⟨rfl, rfl, rfl, Nat.le_refl _, fun _ _ _ => rfl⟩, .inl rfl⟩
theorem Gr.size {w w' : World} {v v' : Value} (h : Gr w w' v v') : w.heap.size ≤ w'.heap.size := h.grow.size
theorem Gr.trans {a b c : World} {v v1 v2 : Value} (h : Gr a b v v1) (k : Gr b c v1 v2) : Gr a c v v2 := by
  refine ⟨h.grow.andThen k.grow fun j e => ?_, ?_⟩
  · rcases h.own with h1 | ⟨g, h1, h2⟩
    · exact .inr (h1.symm.trans e)
    · rw [h1] at e; cases e; exact .inl h2
  · rcases k.own with h1 | ⟨g, h1, h2⟩
    · rw [h1]; exact h.own
    · exact .inr ⟨g, h1, Nat.le_trans h.size h2⟩
theorem Gr.of_below {w w' : World} {v : Value} (h : Below w.heap.size w w') : Gr w w' v v := ⟨⟨h.os, h.tape, h.output, h.size, fun b hb _ => h.block b hb⟩, .inl rfl⟩
theorem Gr.alloc {w w' : World} {v v' : Value} (h : Gr w w' v v') (o : Obj) : Gr w (w'.alloc o) v v' := h.trans (Gr.of_below ((Below.refl _ _).alloc (Nat.le_refl _) _))
theorem Gr.below {B : Nat} {w w' : World} {v v' : Value} (h : Gr w w' v v') (hB : B ≤ w.heap.size) (hv : ∀ g, v.ownBlock = some g → B ≤ g) : Below B w w' :=
  ⟨h.grow.os, h.grow.tape, h.grow.output, h.size, fun b hb => h.grow.block b (by omega) fun e => by have := hv b e.symm; omega⟩
theorem Gr.row {w w' : World} {v v' : Value} {b : Nat} {T : TypeId} {cs : Array Value} (h : Gr w w' v v') (hr : Row w b T cs) (hne : v.ownBlock ≠ some b) : Row w' b T cs :=
  (h.grow.block b hr.lt fun e => hne e.symm).trans hr
theorem Gr.ne {w w' : World} {v v' : Value} {b : Nat} (h : Gr w w' v v') (hv : v.ownBlock ≠ some b) (hb : b < w.heap.size) : v'.ownBlock ≠ some b := by
  rcases h.own with h1 | ⟨g, h1, h2⟩
  · rw [h1]; exact hv
  · rw [h1]; intro e; cases e; omega
theorem Gsh.own {w : World} {B : Nat} {e : TypeId} {size : Nat} {v : Value} {n : Nat} {xs : List D} (h : Gsh w B e size v n xs) : ∀ g, v.ownBlock = some g → B ≤ g ∧ g < w.heap.size := by
  obtain ⟨h1, cs, h2, h4⟩ := h
  exact fun g hg => h2.lt g hg
theorem Gsh.form {w : World} {B : Nat} {e : TypeId} {size : Nat} {v : Value} {n : Nat} {xs : List D} (h : Gsh w B e size v n xs) : ∃ A c, v = .slice A n c := by
  obtain ⟨h1, cs, h2, h4⟩ := h
  rcases h2.2 with ⟨rfl, h0⟩ | ⟨g, cap, cur, rfl, _⟩
  · exact ⟨none, 0, by rw [h0]⟩
  · exact ⟨_, cap, rfl⟩

theorem wpList_append_G {P : Program} (w : World) {ops : Array Oper} {rest : List Oper} {o : Oper} {a : Act} {Q : Exit → Act → World → Prop} (hgd : o.guard = none) (s x : Operand) (t : TypeId) (ho : o.op = .call { callee := .builtin .append, args := #[s, x], argTypes := #[t, t] })
    (e : TypeId) (z : Value) (size bytes : Nat) (ht : P.underlying t = some (.slice e)) (hi : (P.info? e).map (fun i => (i.zero, i.size, i.bytes)) = some (some z, size, bytes)) (hzs : z.cells.size = size) (hsz : 0 < size)
    (B : Nat) (v : Value) (n : Nat) (xs : List D) (hg : Gsh w B e size v n xs) (d : D) (cs : List Value) (hd : d.rd w (Lt B) cs) (hB : B ≤ w.heap.size) (hcs : cs.length = size) (h1 : ∀ u ∈ cs, u.oneCell' = true)
    (hn : n < 1048577) (hby : bytes ≤ 1048576) (e' : TypeId) (hs : a.eval s = v) (A : Nat) (hA : A = w.heap.size) (hx : a.eval x = .slice (some ⟨A, 0, none⟩) 1 1)
    (h : ∀ g cap w', Gsh w' B e size (.slice (some ⟨g, 0, none⟩) (n + 1) cap) (n + 1) (xs ++ [d]) → Gr w w' v (.slice (some ⟨g, 0, none⟩) (n + 1) cap) → wpList P ops Q rest (a.put o.dst (.slice (some ⟨g, 0, none⟩) (n + 1) cap)) w') : wpList P ops Q (o :: rest) a (w.alloc (.cells cs.toArray e')) := by
  obtain ⟨i, i1, i2, i3, i4⟩ := info_parts hi
  obtain ⟨hxs, cells, g2, g4⟩ := id hg
  have e1 : w.heap.size < (w.alloc (.cells cs.toArray e')).heap.size := by simp
  have hga := g2.alloc (.cells cs.toArray e')
  have hnews : ∀ j u, cs[j]? = some u → (w.alloc (.cells cs.toArray e')).cell? ((⟨A, 0, none⟩ : Addr).add j) = some u := fun j u hu => by
    subst hA
    exact World.news_of_block (cs := cs.toArray) (heap_alloc_new w _) j u (by simpa using hu)
  have hbt : (n + 1) * bytes ≤ 140737488355328 := Nat.le_trans (Nat.mul_le_mul (show n + 1 ≤ 1048577 by omega) hby) (by omega)
  refine wpList_append_lies (w.alloc (.cells cs.toArray e')) hgd s x t ho B e i z size bytes ht i1 i2 i3 i4 hzs hsz v n cells hs hga ⟨A, 0, none⟩ 1 1 cs hx (by omega) hnews h1 (by omega) (by unfold maxLen; omega) hbt (by simp; omega) _ rfl fun g cap w' h2 h3 h4 h5 => h g cap w' (Gsh.step (e' := e') hB hxs (fun g hg => (g2.lt g hg).1) g4 hd hcs h2 h3) ?_
  refine (Gr.of_below ((Below.refl _ _).alloc (Nat.le_refl _) _)).trans ⟨h3, ?_⟩
  rcases h4 with h4 | h4
  · exact .inl h4.symm
  · exact .inr ⟨g, rfl, by omega⟩

theorem step_append_G {P : Program} (w : World) {ops : Array Oper} {o : Oper} {a : Act} {K : Act → World → Prop} {Q : Exit → Act → World → Prop} {E : Prop} (hgd : o.guard = none) (s x : Operand) (t : TypeId) (ho : o.op = .call { callee := .builtin .append, args := #[s, x], argTypes := #[t, t] })
    (e : TypeId) (z : Value) (size bytes : Nat) (ht : P.underlying t = some (.slice e)) (hi : (P.info? e).map (fun i => (i.zero, i.size, i.bytes)) = some (some z, size, bytes)) (hzs : z.cells.size = size) (hsz : 0 < size)
    (B : Nat) (v : Value) (n : Nat) (xs : List D) (hg : Gsh w B e size v n xs) (d : D) (cs : List Value) (hd : d.rd w (Lt B) cs) (hB : B ≤ w.heap.size) (hcs : cs.length = size) (h1 : ∀ u ∈ cs, u.oneCell' = true)
    (hn : n < 1048577) (hby : bytes ≤ 1048576) (e' : TypeId) (hs : a.eval s = v) (A : Nat) (hA : A = w.heap.size) (hx : a.eval x = .slice (some ⟨A, 0, none⟩) 1 1)
    (h : ∀ g cap w', Gsh w' B e size (.slice (some ⟨g, 0, none⟩) (n + 1) cap) (n + 1) (xs ++ [d]) → Gr w w' v (.slice (some ⟨g, 0, none⟩) (n + 1) cap) → K (a.put o.dst (.slice (some ⟨g, 0, none⟩) (n + 1) cap)) w') : if Region.wanted o (yielded ops a.tmps) = true then Oper.wp P o a (w.alloc (.cells cs.toArray e')) K Q else E := by
  obtain ⟨i, i1, i2, i3, i4⟩ := info_parts hi
  obtain ⟨hxs, cells, g2, g4⟩ := id hg
  have e1 : w.heap.size < (w.alloc (.cells cs.toArray e')).heap.size := by simp
  have hga := g2.alloc (.cells cs.toArray e')
  have hnews : ∀ j u, cs[j]? = some u → (w.alloc (.cells cs.toArray e')).cell? ((⟨A, 0, none⟩ : Addr).add j) = some u := fun j u hu => by
    subst hA
    exact World.news_of_block (cs := cs.toArray) (heap_alloc_new w _) j u (by simpa using hu)
  have hbt : (n + 1) * bytes ≤ 140737488355328 := Nat.le_trans (Nat.mul_le_mul (show n + 1 ≤ 1048577 by omega) hby) (by omega)
  refine step_append_lies (w.alloc (.cells cs.toArray e')) hgd s x t ho B e i z size bytes ht i1 i2 i3 i4 hzs hsz v n cells hs hga ⟨A, 0, none⟩ 1 1 cs hx (by omega) hnews h1 (by omega) (by unfold maxLen; omega) hbt (by simp; omega) _ rfl fun g cap w' h2 h3 h4 h5 => h g cap w' (Gsh.step (e' := e') hB hxs (fun g hg => (g2.lt g hg).1) g4 hd hcs h2 h3) ?_
  refine (Gr.of_below ((Below.refl _ _).alloc (Nat.le_refl _) _)).trans ⟨h3, ?_⟩
  rcases h4 with h4 | h4
  · exact .inl h4.symm
  · exact .inr ⟨g, rfl, by omega⟩

/-- a call that lets a slice grow: what it hands back -/
def Grows {α : Type} (f : α → D) (e : TypeId) (size : Nat) (B : Nat) (ys : List α) (v : Value) (w : World) (en : Ending) (w' : World) : Prop :=
  ∃ A c, en = .returned (.slice A ys.length c) ∧ Gsh w' B e size (.slice A ys.length c) ys.length (ys.map f) ∧ Gr w w' v (.slice A ys.length c)
end Go.Proofs.Ytnpkmebnmklcfaa

/- append of many data onto a slice of one's own; its data may lie anywhere but in its own row (no program in sight). Conditions: none. -/
namespace Go.Proofs.Ytnpkmebnmklcfaa
open Go.RowKit
set_option linter.unusedVariables false
set_option linter.unusedSimpArgs false

theorem run_append_many {P : Program} (w : World) (base : Nat) (t ty e : TypeId) (i : TypeInfo) (z : Value) (size bytes : Nat) (ht : P.underlying t = some (.slice e)) (hi : P.info? e = some i) (hz : i.zero = some z)
    (hsize : i.size = size) (hby : i.bytes = bytes) (hzs : z.cells.size = size) (hsz : 0 < size)
    (v : Value) (n : Nat) (xs : List Value) (hown : w.ownsRow base e size v n xs)
    (A : Option Addr) (m c : Nat) (news : List Value) (hA : A = none → m = 0) (hl : news.length = m * size) (hnews : ∀ a, A = some a → ∀ j u, news[j]? = some u → w.cell? (a.add j) = some u) (h1 : ∀ u ∈ news, u.oneCell' = true)
    (h63 : n + m ≤ maxLen) (hbytes : (n + m) * bytes ≤ 140737488355328) (hbase : base ≤ w.heap.size) :
    ∃ v' w', (Builtin.append_ #[t, t] ty #[v, .slice A m c]).run P w = .ok v' w' ∧ w'.ownsRow base e size v' (n + m) (xs ++ news) ∧ w.grownBy w' v.ownBlock ∧ (v'.ownBlock = v.ownBlock ∨ v'.ownBlock = some w.heap.size) := by
  match A with
  | some a =>
    obtain ⟨v', w', a1, a2, a3, _, a4⟩ := run_append_own_at (P := P) w base t ty e i z size bytes ht hi hz hsize hby hzs hsz v n xs hown a m c news hl (hnews a rfl) h1 h63 hbytes hbase
    exact ⟨v', w', a1, a2, a3, a4⟩
  | none =>
    have hm := hA rfl
    subst hm
    have hn : news = [] := List.eq_nil_of_length_eq_zero (by simpa using hl)
    subst hn
    subst hsize
    subst hby
    refine ⟨v, w, ?_, by simpa using hown, ⟨rfl, rfl, rfl, Nat.le_refl _, fun _ _ _ => rfl⟩, .inl rfl⟩
    rcases hown.2 with ⟨rfl, rfl⟩ | ⟨g, cap, cur, rfl, hbg, hg, hnc, hcm, hcs, htake⟩
    · simp [Builtin.append_, run_underlying ht, sizeOf, typeInfo, hi, Builtin.lenOf, Builtin.firstCells, loadCells, loadCellsFrom]
    · have hr := run_append_room_src (P := P) w t t ty e i ht hi g 0 n cap (.slice none 0 c) 0 [] (Src.ofNil w ht c) (by omega) (by simp) (by simp)
      simpa [World.setCells] using hr

mutual
/-- data's cells are one cell each -/
theorem D.rd_one {w : World} {S : Nat → Prop} : ∀ (d : D) (cs : List Value), d.rd w S cs → ∀ u ∈ cs, u.oneCell' = true
  | .num k n, cs, h, u, hu => by obtain ⟨rfl, _⟩ := D.rd_num.1 h; simp at hu; subst hu; rfl
  | .str s, cs, h, u, hu => by obtain ⟨rfl, _⟩ := D.rd_str.1 h; simp at hu; subst hu; rfl
  | .bool b, cs, h, u, hu => by obtain rfl := D.rd_bool.1 h; simp at hu; subst hu; rfl
  | .agg fs, cs, h, u, hu => D.rdF_one fs cs (D.rd_agg.1 h) u hu
  | .sl size xs, cs, h, u, hu => by obtain ⟨A, c, rfl, _⟩ := D.rd_sl.1 h; simp at hu; subst hu; rfl
theorem D.rdF_one {w : World} {S : Nat → Prop} : ∀ (fs : List D) (cs : List Value), D.rdF w S fs cs → ∀ u ∈ cs, u.oneCell' = true
  | [], cs, h, u, hu => by obtain rfl := D.rdF_nil.1 h; simp at hu
  | d :: r, cs, h, u, hu => by
    obtain ⟨c1, c2, rfl, h1, h2⟩ := D.rdF_cons.1 h
    rcases List.mem_append.1 hu with hu | hu
    · exact D.rd_one d c1 h1 u hu
    · exact D.rdF_one r c2 h2 u hu
end
theorem rdC_one {w : World} {size : Nat} {S : Nat → Prop} : ∀ (xs : List D) (cs : List Value), rdC w size S xs cs → ∀ u ∈ cs, u.oneCell' = true
  | [], cs, h, u, hu => by simp only [rdC] at h; subst h; simp at hu
  | d :: r, cs, h, u, hu => by
    simp only [rdC] at h
    obtain ⟨c1, c2, rfl, hl, h1, h2⟩ := h
    rcases List.mem_append.1 hu with hu | hu
    · exact D.rd_one d c1 h1 u hu
    · exact rdC_one r c2 h2 u hu
theorem rdC_length {w : World} {size : Nat} {S : Nat → Prop} : ∀ (xs : List D) (cs : List Value), rdC w size S xs cs → cs.length = xs.length * size
  | [], cs, h => by simp only [rdC] at h; simp [h]
  | d :: r, cs, h => by
    simp only [rdC] at h
    obtain ⟨c1, c2, rfl, hl, _, h2⟩ := h
    have := rdC_length r c2 h2
    rw [List.length_append, hl, this, List.length_cons, Nat.add_mul]; omega
theorem rdC_append {w : World} {size : Nat} {S : Nat → Prop} {ys : List D} {es : List Value} (hy : rdC w size S ys es) : ∀ (xs : List D) (cs : List Value), rdC w size S xs cs → rdC w size S (xs ++ ys) (cs ++ es)
  | [], cs, h => by simp only [rdC] at h; subst h; simpa using hy
  | d :: r, cs, h => by
    simp only [rdC, List.cons_append] at h ⊢
    obtain ⟨c1, c2, rfl, hl, h1, h2⟩ := h
    exact ⟨c1, c2 ++ es, by simp, hl, h1, rdC_append hy r c2 h2⟩
/-- the cells of a row that reads as data -/
theorem rdR_cells {w : World} {size b : Nat} {S : Nat → Prop} : ∀ (xs : List D) (off : Nat), D.rdR w S size b xs off → ∃ cs, rdC w size S xs cs ∧ ∀ j u, cs[j]? = some u → w.cell? ⟨b, off + j, none⟩ = some u
  | [], off, _ => ⟨[], rfl, fun j u h => by simp at h⟩
  | d :: r, off, h => by
    simp only [D.rdR] at h
    obtain ⟨⟨c1, hl, hc, h1⟩, h2⟩ := h
    obtain ⟨c2, k1, k2⟩ := rdR_cells r (off + size) h2
    refine ⟨c1 ++ c2, by simp only [rdC]; exact ⟨c1, c2, rfl, hl, h1, k1⟩, fun j u hj => ?_⟩
    by_cases hlt : j < c1.length
    · rw [List.getElem?_append_left hlt] at hj; exact hc j u hj
    · rw [List.getElem?_append_right (by omega)] at hj
      have := k2 (j - c1.length) u hj
      rwa [show off + size + (j - c1.length) = off + j by omega] at this

theorem rdR_take {w : World} {size b : Nat} {S : Nat → Prop} : ∀ (xs : List D) (off j : Nat), D.rdR w S size b xs off → D.rdR w S size b (xs.take j) off
  | [], _, j, h => by simpa using h
  | x :: r, off, 0, h => by simp only [List.take_zero, D.rdR]
  | x :: r, off, j + 1, h => by
    simp only [List.take_succ_cons, D.rdR] at h ⊢
    exact ⟨h.1, rdR_take r (off + size) j h.2⟩
theorem rdR_drop {w : World} {size b : Nat} {S : Nat → Prop} : ∀ (xs : List D) (off j : Nat), D.rdR w S size b xs off → D.rdR w S size b (xs.drop j) (off + j * size)
  | [], _, j, h => by simp only [List.drop_nil, D.rdR]
  | x :: r, off, 0, h => by simpa using h
  | x :: r, off, j + 1, h => by
    simp only [D.rdR] at h
    have := rdR_drop r (off + size) j h.2
    rw [List.drop_succ_cons, Nat.add_mul, Nat.one_mul, show off + (j * size + size) = off + size + j * size by omega]
    exact this
theorem Sl.take {w : World} {S : Nat → Prop} {size : Nat} {A : Option Addr} {c : Nat} {xs : List D} (h : Sl w S size A c xs) (j : Nat) : Sl w S size A c (xs.take j) := by
  obtain ⟨h1, h2, h3⟩ := h
  refine ⟨by rw [List.length_take]; omega, h2, ?_⟩
  rcases h3 with rfl | ⟨b, off, e, hS, hr⟩
  · exact .inl (by simp)
  · exact .inr ⟨b, off, e, hS, rdR_take xs off j hr⟩
theorem Sl.drop {w : World} {S : Nat → Prop} {size b off c : Nat} {xs : List D} (h : Sl w S size (some ⟨b, off, none⟩) c xs) (j : Nat) (hj : j ≤ xs.length) : Sl w S size (some ⟨b, off + j * size, none⟩) (c - j) (xs.drop j) := by
  obtain ⟨h1, h2, h3⟩ := h
  refine ⟨by rw [List.length_drop]; omega, by omega, ?_⟩
  rcases h3 with rfl | ⟨b', off', e, hS, hr⟩
  · exact .inl (by simp)
  · obtain ⟨rfl, rfl⟩ : b = b' ∧ off = off' := by simpa using e
    exact .inr ⟨b, off + j * size, rfl, hS, rdR_drop xs off j hr⟩

/-- a slice that grows: nil, or a row of one's own from block B on; its data lie anywhere but in that row -/
def Gre (w : World) (B : Nat) (e : TypeId) (size : Nat) (v : Value) (n : Nat) (xs : List D) : Prop :=
  xs.length = n ∧ ∃ cs, w.ownsRow B e size v n cs ∧ rdC w size (fun b => b < w.heap.size ∧ v.ownBlock ≠ some b) xs cs
theorem Gre.nil (w : World) (B : Nat) (e : TypeId) (size : Nat) : Gre w B e size (.slice none 0 0) 0 [] := ⟨rfl, [], World.ownsRow_nil w B e size, rfl⟩
theorem Gre.made {w : World} {B g : Nat} {e : TypeId} {size : Nat} (hr : Row w g e #[]) (hB : B ≤ g) : Gre w B e size (.slice (some ⟨g, 0, none⟩) 0 0) 0 [] :=
  ⟨rfl, [], ⟨by simp, .inr ⟨g, 0, #[], rfl, hB, hr, Nat.le_refl _, by unfold maxLen; omega, by simp, by simp⟩⟩, rfl⟩
theorem Gre.of_gsh {w : World} {B : Nat} {e : TypeId} {size : Nat} {v : Value} {n : Nat} {xs : List D} (h : Gsh w B e size v n xs) (hB : B ≤ w.heap.size) : Gre w B e size v n xs := by
  have ho := h.own
  obtain ⟨h1, cs, h2, h4⟩ := h
  refine ⟨h1, cs, h2, rdC_keep (fun b hb => ⟨⟨Nat.lt_of_lt_of_le hb hB, fun e => ?_⟩, rfl⟩) xs cs h4⟩
  have := (ho b e).1
  have : b < B := hb
  omega
theorem Gre.own {w : World} {B : Nat} {e : TypeId} {size : Nat} {v : Value} {n : Nat} {xs : List D} (h : Gre w B e size v n xs) : ∀ g, v.ownBlock = some g → B ≤ g ∧ g < w.heap.size := by
  obtain ⟨h1, cs, h2, h4⟩ := h
  exact fun g hg => h2.lt g hg
theorem Gre.form {w : World} {B : Nat} {e : TypeId} {size : Nat} {v : Value} {n : Nat} {xs : List D} (h : Gre w B e size v n xs) : ∃ A c, v = .slice A n c := by
  obtain ⟨h1, cs, h2, h4⟩ := h
  rcases h2.2 with ⟨rfl, h0⟩ | ⟨g, cap, cur, rfl, _⟩
  · exact ⟨none, 0, by rw [h0]⟩
  · exact ⟨_, cap, rfl⟩
/-- what reads as data anywhere but in a row is kept where that row and new blocks alone turn -/
theorem Gre.keep {w w' : World} {B : Nat} {e : TypeId} {size : Nat} {v : Value} {n : Nat} {xs : List D} (h : Gre w B e size v n xs) (hs : w.heap.size ≤ w'.heap.size) (hk : ∀ b, b < w.heap.size → w'.heap[b]? = w.heap[b]?) : Gre w' B e size v n xs := by
  have ho := h.own
  obtain ⟨h1, cs, h2, h4⟩ := h
  refine ⟨h1, cs, ⟨h2.1, ?_⟩, rdC_keep (fun b hb => ⟨⟨Nat.lt_of_lt_of_le hb.1 hs, hb.2⟩, hk b hb.1⟩) xs cs h4⟩
  rcases h2.2 with h | ⟨g, cap, cur, rfl, a1, a2, a3⟩
  · exact .inl h
  · exact .inr ⟨g, cap, cur, rfl, a1, (hk g (ho g rfl).2).trans a2, a3⟩
theorem Gre.below {w w' : World} {B : Nat} {e : TypeId} {size : Nat} {v : Value} {n : Nat} {xs : List D} (h : Gre w B e size v n xs) (hb : Below w.heap.size w w') : Gre w' B e size v n xs := h.keep hb.size hb.block
theorem Gre.sl {w : World} {B : Nat} {e : TypeId} {size : Nat} {v : Value} {n : Nat} {xs : List D} (h : Gre w B e size v n xs) : ∃ A c, v = .slice A n c ∧ Sl w (Lt w.heap.size) size A c xs := by
  have hlt := h.own
  obtain ⟨h1, cs, h2, h4⟩ := h
  rcases h2.2 with ⟨rfl, h⟩ | ⟨g, cap, cur, rfl, a1, a2, a3, a4, a5, a6⟩
  · have : xs = [] := List.eq_nil_of_length_eq_zero (by omega)
    subst this
    exact ⟨none, 0, by rw [h], Sl.nil (by unfold maxLen; omega)⟩
  · refine ⟨_, cap, rfl, by omega, a4, .inr ⟨g, 0, rfl, (hlt g rfl).2, ?_⟩⟩
    refine rdC_row xs cs 0 (fun j v hj => ?_) (rdC_keep (fun b hb => ⟨hb.1, rfl⟩) xs cs h4)
    rw [Nat.zero_add, Row.cell (t := e) (cs := cur) a2]
    rw [← a6, List.getElem?_take] at hj
    split at hj
    · simpa using hj
    · cases hj

/-- the step itself -/
theorem Gre.step {P : Program} (w : World) (t ty e : TypeId) (z : Value) (size bytes : Nat) (ht : P.underlying t = some (.slice e)) (hi : (P.info? e).map (fun i => (i.zero, i.size, i.bytes)) = some (some z, size, bytes)) (hzs : z.cells.size = size) (hsz : 0 < size)
    (B : Nat) (v : Value) (n : Nat) (xs : List D) (hg : Gre w B e size v n xs) (A : Option Addr) (c m : Nat) (ys : List D) (hm : ys.length = m) (hy : Sl w (fun b => b < w.heap.size ∧ v.ownBlock ≠ some b) size A c ys) (hB : B ≤ w.heap.size)
    (hn : n + m ≤ maxLen) (hbt : (n + m) * bytes ≤ 140737488355328) :
    ∃ A' c' w', (Builtin.append_ #[t, t] ty #[v, .slice A m c]).run P w = .ok (.slice A' (n + m) c') w' ∧ Gre w' B e size (.slice A' (n + m) c') (n + m) (xs ++ ys) ∧ Gr w w' v (.slice A' (n + m) c') := by
  obtain ⟨i, i1, i2, i3, i4⟩ := info_parts hi
  have ho := hg.own
  obtain ⟨hxs, cells, g2, g4⟩ := id hg
  obtain ⟨es, k1, k2, k3⟩ : ∃ es, rdC w size (fun b => b < w.heap.size ∧ v.ownBlock ≠ some b) ys es ∧ (A = none → m = 0) ∧ ∀ a, A = some a → ∀ j u, es[j]? = some u → w.cell? (a.add j) = some u := by
    rcases hy.2.2 with rfl | ⟨b, off, rfl, hS, hr⟩
    · exact ⟨[], rfl, fun _ => by simpa using hm.symm, fun _ _ j u h => by simp at h⟩
    · obtain ⟨es, h1, h2⟩ := rdR_cells ys off hr
      refine ⟨es, h1, fun h => by simp at h, fun a ha j u hj => ?_⟩
      obtain rfl : ⟨b, off, none⟩ = a := by simpa using ha
      have hadd : (⟨b, off, none⟩ : Addr).add j = ⟨b, off + j, none⟩ := by unfold Addr.add; split <;> simp_all
      rw [hadd]; exact h2 j u hj
  obtain ⟨v', w', hr, hown, hgr, hat⟩ := run_append_many (P := P) w B t ty e i z size bytes ht i1 i2 i3 i4 hzs hsz v n cells g2 A m c es k2 (by rw [rdC_length _ _ k1, hm]) k3 (rdC_one _ _ k1) hn hbt hB
  have hfm : ∃ A' c', v' = .slice A' (n + m) c' := by
    rcases hown.2 with ⟨rfl, h0⟩ | ⟨g, cap, cur, rfl, _⟩
    · exact ⟨none, 0, by rw [h0]⟩
    · exact ⟨_, cap, rfl⟩
  obtain ⟨A', c', rfl⟩ := hfm
  have hG : Gr w w' v (.slice A' (n + m) c') := ⟨hgr, hat.imp id fun h => ⟨_, h, Nat.le_refl _⟩⟩
  refine ⟨A', c', w', hr, ⟨by simp [hxs, hm], cells ++ es, hown, rdC_keep (fun b hb => ⟨⟨Nat.lt_of_lt_of_le hb.1 hgr.size, hG.ne hb.2 hb.1⟩, hgr.block b hb.1 fun e => hb.2 e.symm⟩) _ _ (rdC_append k1 _ _ g4)⟩, hG⟩

theorem wp_append_M {P : Program} {o : Oper} {a : Act} {K : Act → World → Prop} {Q : Exit → Act → World → Prop} (w : World) (s x : Operand) (t : TypeId) (ho : o.op = .call { callee := .builtin .append, args := #[s, x], argTypes := #[t, t] })
    (e : TypeId) (z : Value) (size bytes : Nat) (ht : P.underlying t = some (.slice e)) (hi : (P.info? e).map (fun i => (i.zero, i.size, i.bytes)) = some (some z, size, bytes)) (hzs : z.cells.size = size) (hsz : 0 < size)
    (B : Nat) (v : Value) (n : Nat) (xs : List D) (hg : Gre w B e size v n xs) (A : Option Addr) (c m : Nat) (ys : List D) (hm : ys.length = m) (hy : Sl w (fun b => b < w.heap.size ∧ v.ownBlock ≠ some b) size A c ys) (hB : B ≤ w.heap.size)
    (hn : n + m ≤ maxLen) (hbt : (n + m) * bytes ≤ 140737488355328) (hs : a.eval s = v) (hx : a.eval x = .slice A m c)
    (h : ∀ A' c' w', Gre w' B e size (.slice A' (n + m) c') (n + m) (xs ++ ys) → Gr w w' v (.slice A' (n + m) c') → K (a.put o.dst (.slice A' (n + m) c')) w') : o.wp P a w K Q := by
  obtain ⟨A', c', w', hr, h2, h3⟩ := Gre.step (P := P) w t o.type e z size bytes ht hi hzs hsz B v n xs hg A c m ys hm hy hB hn hbt
  unfold Oper.wp execOp
  simp only [ho, resolve, invoke, builtin, Sem.run_bind, Sem.run_pure, Result.andThen_ok, List.map_toArray, List.map_cons, List.map_nil, hs, hx, hr]
  exact h A' c' w' h2 h3
theorem wpList_append_M {P : Program} {ops : Array Oper} {rest : List Oper} {o : Oper} {a : Act} {Q : Exit → Act → World → Prop} (w : World) (hgd : o.guard = none) (s x : Operand) (t : TypeId) (ho : o.op = .call { callee := .builtin .append, args := #[s, x], argTypes := #[t, t] })
    (e : TypeId) (z : Value) (size bytes : Nat) (ht : P.underlying t = some (.slice e)) (hi : (P.info? e).map (fun i => (i.zero, i.size, i.bytes)) = some (some z, size, bytes)) (hzs : z.cells.size = size) (hsz : 0 < size)
    (B : Nat) (v : Value) (n : Nat) (xs : List D) (hg : Gre w B e size v n xs) (A : Option Addr) (c m : Nat) (ys : List D) (hm : ys.length = m) (hy : Sl w (fun b => b < w.heap.size ∧ v.ownBlock ≠ some b) size A c ys) (hB : B ≤ w.heap.size)
    (hn : n + m ≤ maxLen) (hbt : (n + m) * bytes ≤ 140737488355328) (hs : a.eval s = v) (hx : a.eval x = .slice A m c)
    (h : ∀ A' c' w', Gre w' B e size (.slice A' (n + m) c') (n + m) (xs ++ ys) → Gr w w' v (.slice A' (n + m) c') → wpList P ops Q rest (a.put o.dst (.slice A' (n + m) c')) w') : wpList P ops Q (o :: rest) a w :=
  wpList_plain hgd fun _ hK => wp_append_M w s x t ho e z size bytes ht hi hzs hsz B v n xs hg A c m ys hm hy hB hn hbt hs hx fun A' c' w' h2 h3 => hK _ _ (h A' c' w' h2 h3)
theorem step_append_M {P : Program} {ops : Array Oper} {o : Oper} {a : Act} {K : Act → World → Prop} {Q : Exit → Act → World → Prop} {E : Prop} (w : World) (hgd : o.guard = none) (s x : Operand) (t : TypeId) (ho : o.op = .call { callee := .builtin .append, args := #[s, x], argTypes := #[t, t] })
    (e : TypeId) (z : Value) (size bytes : Nat) (ht : P.underlying t = some (.slice e)) (hi : (P.info? e).map (fun i => (i.zero, i.size, i.bytes)) = some (some z, size, bytes)) (hzs : z.cells.size = size) (hsz : 0 < size)
    (B : Nat) (v : Value) (n : Nat) (xs : List D) (hg : Gre w B e size v n xs) (A : Option Addr) (c m : Nat) (ys : List D) (hm : ys.length = m) (hy : Sl w (fun b => b < w.heap.size ∧ v.ownBlock ≠ some b) size A c ys) (hB : B ≤ w.heap.size)
    (hn : n + m ≤ maxLen) (hbt : (n + m) * bytes ≤ 140737488355328) (hs : a.eval s = v) (hx : a.eval x = .slice A m c)
    (h : ∀ A' c' w', Gre w' B e size (.slice A' (n + m) c') (n + m) (xs ++ ys) → Gr w w' v (.slice A' (n + m) c') → K (a.put o.dst (.slice A' (n + m) c')) w') : if Region.wanted o (yielded ops a.tmps) = true then Oper.wp P o a w K Q else E := by
  have hw : Region.wanted o (yielded ops a.tmps) = true := by simp [Region.wanted, hgd]
  rw [if_pos hw]
  exact wp_append_M w s x t ho e z size bytes ht hi hzs hsz B v n xs hg A c m ys hm hy hB hn hbt hs hx h
end Go.Proofs.Ytnpkmebnmklcfaa

/- Growing slices of one's own whose data lie in given blocks (X), never in the row itself: append of many data (no program in sight). Conditions: none. -/
namespace Go.Proofs.Ytnpkmebnmklcfaa
open Go.RowKit
set_option linter.unusedVariables false
set_option linter.unusedSimpArgs false

/-- a slice that grows: nil, or a row of one's own from block B on; its data lie anywhere but in that row -/
def Grx (X : Nat → Prop) (w : World) (B : Nat) (e : TypeId) (size : Nat) (v : Value) (n : Nat) (xs : List D) : Prop :=
  xs.length = n ∧ ∃ cs, w.ownsRow B e size v n cs ∧ rdC w size (fun b => b < w.heap.size ∧ v.ownBlock ≠ some b ∧ X b) xs cs
theorem Grx.nil (X : Nat → Prop) (w : World) (B : Nat) (e : TypeId) (size : Nat) : Grx X w B e size (.slice none 0 0) 0 [] := ⟨rfl, [], World.ownsRow_nil w B e size, rfl⟩
theorem Grx.made {X : Nat → Prop} {w : World} {B g : Nat} {e : TypeId} {size : Nat} (hr : Row w g e #[]) (hB : B ≤ g) : Grx X w B e size (.slice (some ⟨g, 0, none⟩) 0 0) 0 [] :=
  ⟨rfl, [], ⟨by simp, .inr ⟨g, 0, #[], rfl, hB, hr, Nat.le_refl _, by unfold maxLen; omega, by simp, by simp⟩⟩, rfl⟩
theorem Grx.roomy {X : Nat → Prop} {w : World} {B g c : Nat} {e : TypeId} {size : Nat} {cs : Array Value} (hr : Row w g e cs) (hB : B ≤ g) (hc : c ≤ maxLen) (hs : cs.size = c * size) : Grx X w B e size (.slice (some ⟨g, 0, none⟩) 0 c) 0 [] :=
  ⟨rfl, [], ⟨by simp, .inr ⟨g, c, cs, rfl, hB, hr, Nat.zero_le _, hc, hs, by simp⟩⟩, rfl⟩
theorem Grx.own {X : Nat → Prop} {w : World} {B : Nat} {e : TypeId} {size : Nat} {v : Value} {n : Nat} {xs : List D} (h : Grx X w B e size v n xs) : ∀ g, v.ownBlock = some g → B ≤ g ∧ g < w.heap.size := by
  obtain ⟨h1, cs, h2, h4⟩ := h
  exact fun g hg => h2.lt g hg
theorem Grx.form {X : Nat → Prop} {w : World} {B : Nat} {e : TypeId} {size : Nat} {v : Value} {n : Nat} {xs : List D} (h : Grx X w B e size v n xs) : ∃ A c, v = .slice A n c := by
  obtain ⟨h1, cs, h2, h4⟩ := h
  rcases h2.2 with ⟨rfl, h0⟩ | ⟨g, cap, cur, rfl, _⟩
  · exact ⟨none, 0, by rw [h0]⟩
  · exact ⟨_, cap, rfl⟩
/-- what reads as data anywhere but in a row is kept where that row and new blocks alone turn -/
theorem Grx.keep {X : Nat → Prop} {w w' : World} {B : Nat} {e : TypeId} {size : Nat} {v : Value} {n : Nat} {xs : List D} (h : Grx X w B e size v n xs) (hs : w.heap.size ≤ w'.heap.size) (hk : ∀ b, b < w.heap.size → w'.heap[b]? = w.heap[b]?) : Grx X w' B e size v n xs := by
  have ho := h.own
  obtain ⟨h1, cs, h2, h4⟩ := h
  refine ⟨h1, cs, ⟨h2.1, ?_⟩, rdC_keep (fun b hb => ⟨⟨Nat.lt_of_lt_of_le hb.1 hs, hb.2⟩, hk b hb.1⟩) xs cs h4⟩
  rcases h2.2 with h | ⟨g, cap, cur, rfl, a1, a2, a3⟩
  · exact .inl h
  · exact .inr ⟨g, cap, cur, rfl, a1, (hk g (ho g rfl).2).trans a2, a3⟩
theorem Grx.below {X : Nat → Prop} {w w' : World} {B : Nat} {e : TypeId} {size : Nat} {v : Value} {n : Nat} {xs : List D} (h : Grx X w B e size v n xs) (hb : Below w.heap.size w w') : Grx X w' B e size v n xs := h.keep hb.size hb.block
theorem Grx.sl {X : Nat → Prop} {w : World} {B : Nat} {e : TypeId} {size : Nat} {v : Value} {n : Nat} {xs : List D} (h : Grx X w B e size v n xs) (hX : ∀ b, B ≤ b → X b) : ∃ A c, v = .slice A n c ∧ Sl w (fun b => b < w.heap.size ∧ X b) size A c xs := by
  have hlt := h.own
  obtain ⟨h1, cs, h2, h4⟩ := h
  rcases h2.2 with ⟨rfl, h⟩ | ⟨g, cap, cur, rfl, a1, a2, a3, a4, a5, a6⟩
  · have : xs = [] := List.eq_nil_of_length_eq_zero (by omega)
    subst this
    exact ⟨none, 0, by rw [h], Sl.nil (by unfold maxLen; omega)⟩
  · refine ⟨_, cap, rfl, by omega, a4, .inr ⟨g, 0, rfl, ⟨(hlt g rfl).2, hX g (hlt g rfl).1⟩, ?_⟩⟩
    refine rdC_row xs cs 0 (fun j v hj => ?_) (rdC_keep (fun b hb => ⟨⟨hb.1, hb.2.2⟩, rfl⟩) xs cs h4)
    rw [Nat.zero_add, Row.cell (t := e) (cs := cur) a2]
    rw [← a6, List.getElem?_take] at hj
    split at hj
    · simpa using hj
    · cases hj

/-- the step itself -/
theorem Grx.step {P : Program} {X : Nat → Prop} (w : World) (t ty e : TypeId) (z : Value) (size bytes : Nat) (ht : P.underlying t = some (.slice e)) (hi : (P.info? e).map (fun i => (i.zero, i.size, i.bytes)) = some (some z, size, bytes)) (hzs : z.cells.size = size) (hsz : 0 < size)
    (B : Nat) (v : Value) (n : Nat) (xs : List D) (hg : Grx X w B e size v n xs) (A : Option Addr) (c m : Nat) (ys : List D) (hm : ys.length = m) (hy : Sl w (fun b => b < w.heap.size ∧ v.ownBlock ≠ some b ∧ X b) size A c ys) (hB : B ≤ w.heap.size)
    (hn : n + m ≤ maxLen) (hbt : (n + m) * bytes ≤ 140737488355328) :
    ∃ A' c' w', (Builtin.append_ #[t, t] ty #[v, .slice A m c]).run P w = .ok (.slice A' (n + m) c') w' ∧ Grx X w' B e size (.slice A' (n + m) c') (n + m) (xs ++ ys) ∧ Gr w w' v (.slice A' (n + m) c') := by
  obtain ⟨i, i1, i2, i3, i4⟩ := info_parts hi
  have ho := hg.own
  obtain ⟨hxs, cells, g2, g4⟩ := id hg
  obtain ⟨es, k1, k2, k3⟩ : ∃ es, rdC w size (fun b => b < w.heap.size ∧ v.ownBlock ≠ some b ∧ X b) ys es ∧ (A = none → m = 0) ∧ ∀ a, A = some a → ∀ j u, es[j]? = some u → w.cell? (a.add j) = some u := by
    rcases hy.2.2 with rfl | ⟨b, off, rfl, hS, hr⟩
    · exact ⟨[], rfl, fun _ => by simpa using hm.symm, fun _ _ j u h => by simp at h⟩
    · obtain ⟨es, h1, h2⟩ := rdR_cells ys off hr
      refine ⟨es, h1, fun h => by simp at h, fun a ha j u hj => ?_⟩
      obtain rfl : ⟨b, off, none⟩ = a := by simpa using ha
      have hadd : (⟨b, off, none⟩ : Addr).add j = ⟨b, off + j, none⟩ := by unfold Addr.add; split <;> simp_all
      rw [hadd]; exact h2 j u hj
  obtain ⟨v', w', hr, hown, hgr, hat⟩ := run_append_many (P := P) w B t ty e i z size bytes ht i1 i2 i3 i4 hzs hsz v n cells g2 A m c es k2 (by rw [rdC_length _ _ k1, hm]) k3 (rdC_one _ _ k1) hn hbt hB
  have hfm : ∃ A' c', v' = .slice A' (n + m) c' := by
    rcases hown.2 with ⟨rfl, h0⟩ | ⟨g, cap, cur, rfl, _⟩
    · exact ⟨none, 0, by rw [h0]⟩
    · exact ⟨_, cap, rfl⟩
  obtain ⟨A', c', rfl⟩ := hfm
  have hG : Gr w w' v (.slice A' (n + m) c') := ⟨hgr, hat.imp id fun h => ⟨_, h, Nat.le_refl _⟩⟩
  refine ⟨A', c', w', hr, ⟨by simp [hxs, hm], cells ++ es, hown, rdC_keep (fun b hb => ⟨⟨Nat.lt_of_lt_of_le hb.1 hgr.size, hG.ne hb.2.1 hb.1, hb.2.2⟩, hgr.block b hb.1 fun e => hb.2.1 e.symm⟩) _ _ (rdC_append k1 _ _ g4)⟩, hG⟩

theorem wp_append_X {P : Program} {X : Nat → Prop} {o : Oper} {a : Act} {K : Act → World → Prop} {Q : Exit → Act → World → Prop} (w : World) (s x : Operand) (t : TypeId) (ho : o.op = .call { callee := .builtin .append, args := #[s, x], argTypes := #[t, t] })
    (e : TypeId) (z : Value) (size bytes : Nat) (ht : P.underlying t = some (.slice e)) (hi : (P.info? e).map (fun i => (i.zero, i.size, i.bytes)) = some (some z, size, bytes)) (hzs : z.cells.size = size) (hsz : 0 < size)
    (B : Nat) (v : Value) (n : Nat) (xs : List D) (hg : Grx X w B e size v n xs) (A : Option Addr) (c m : Nat) (ys : List D) (hm : ys.length = m) (hy : Sl w (fun b => b < w.heap.size ∧ v.ownBlock ≠ some b ∧ X b) size A c ys) (hB : B ≤ w.heap.size)
    (hn : n + m ≤ maxLen) (hbt : (n + m) * bytes ≤ 140737488355328) (hs : a.eval s = v) (hx : a.eval x = .slice A m c)
    (h : ∀ A' c' w', Grx X w' B e size (.slice A' (n + m) c') (n + m) (xs ++ ys) → Gr w w' v (.slice A' (n + m) c') → K (a.put o.dst (.slice A' (n + m) c')) w') : o.wp P a w K Q := by
  obtain ⟨A', c', w', hr, h2, h3⟩ := Grx.step (P := P) w t o.type e z size bytes ht hi hzs hsz B v n xs hg A c m ys hm hy hB hn hbt
  unfold Oper.wp execOp
  simp only [ho, resolve, invoke, builtin, Sem.run_bind, Sem.run_pure, Result.andThen_ok, List.map_toArray, List.map_cons, List.map_nil, hs, hx, hr]
  exact h A' c' w' h2 h3
theorem wpList_append_X {P : Program} {X : Nat → Prop} {ops : Array Oper} {rest : List Oper} {o : Oper} {a : Act} {Q : Exit → Act → World → Prop} (w : World) (hgd : o.guard = none) (s x : Operand) (t : TypeId) (ho : o.op = .call { callee := .builtin .append, args := #[s, x], argTypes := #[t, t] })
    (e : TypeId) (z : Value) (size bytes : Nat) (ht : P.underlying t = some (.slice e)) (hi : (P.info? e).map (fun i => (i.zero, i.size, i.bytes)) = some (some z, size, bytes)) (hzs : z.cells.size = size) (hsz : 0 < size)
    (B : Nat) (v : Value) (n : Nat) (xs : List D) (hg : Grx X w B e size v n xs) (A : Option Addr) (c m : Nat) (ys : List D) (hm : ys.length = m) (hy : Sl w (fun b => b < w.heap.size ∧ v.ownBlock ≠ some b ∧ X b) size A c ys) (hB : B ≤ w.heap.size)
    (hn : n + m ≤ maxLen) (hbt : (n + m) * bytes ≤ 140737488355328) (hs : a.eval s = v) (hx : a.eval x = .slice A m c)
    (h : ∀ A' c' w', Grx X w' B e size (.slice A' (n + m) c') (n + m) (xs ++ ys) → Gr w w' v (.slice A' (n + m) c') → wpList P ops Q rest (a.put o.dst (.slice A' (n + m) c')) w') : wpList P ops Q (o :: rest) a w :=
  wpList_plain hgd fun _ hK => wp_append_X w s x t ho e z size bytes ht hi hzs hsz B v n xs hg A c m ys hm hy hB hn hbt hs hx fun A' c' w' h2 h3 => hK _ _ (h A' c' w' h2 h3)
theorem step_append_X {P : Program} {X : Nat → Prop} {ops : Array Oper} {o : Oper} {a : Act} {K : Act → World → Prop} {Q : Exit → Act → World → Prop} {E : Prop} (w : World) (hgd : o.guard = none) (s x : Operand) (t : TypeId) (ho : o.op = .call { callee := .builtin .append, args := #[s, x], argTypes := #[t, t] })
    (e : TypeId) (z : Value) (size bytes : Nat) (ht : P.underlying t = some (.slice e)) (hi : (P.info? e).map (fun i => (i.zero, i.size, i.bytes)) = some (some z, size, bytes)) (hzs : z.cells.size = size) (hsz : 0 < size)
    (B : Nat) (v : Value) (n : Nat) (xs : List D) (hg : Grx X w B e size v n xs) (A : Option Addr) (c m : Nat) (ys : List D) (hm : ys.length = m) (hy : Sl w (fun b => b < w.heap.size ∧ v.ownBlock ≠ some b ∧ X b) size A c ys) (hB : B ≤ w.heap.size)
    (hn : n + m ≤ maxLen) (hbt : (n + m) * bytes ≤ 140737488355328) (hs : a.eval s = v) (hx : a.eval x = .slice A m c)
    (h : ∀ A' c' w', Grx X w' B e size (.slice A' (n + m) c') (n + m) (xs ++ ys) → Gr w w' v (.slice A' (n + m) c') → K (a.put o.dst (.slice A' (n + m) c')) w') : if Region.wanted o (yielded ops a.tmps) = true then Oper.wp P o a w K Q else E := by
  have hw : Region.wanted o (yielded ops a.tmps) = true := by simp [Region.wanted, hgd]
  rw [if_pos hw]
  exact wp_append_X w s x t ho e z size bytes ht hi hzs hsz B v n xs hg A c m ys hm hy hB hn hbt hs hx h
end Go.Proofs.Ytnpkmebnmklcfaa
