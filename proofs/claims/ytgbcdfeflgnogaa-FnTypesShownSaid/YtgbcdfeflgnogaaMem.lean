/- How trees lie in memory: a reading of cells as data, and that it is kept where its blocks are kept (no program in sight). Conditions: none. -/
import Derived.WalkKit
namespace Go.Proofs.Ytgbcdfeflgnogaa
open Go.RowKit
set_option linter.unusedVariables false

/-- data: numbers, strings, bools, structs (their fields' cells one behind the other), slices (with the number of cells of an element) -/
inductive D where
  | num (k : IntKind) (n : Int)
  | str (s : ByteArray)
  | bool (b : Bool)
  | agg (fs : List D)
  | sl (size : Nat) (xs : List D)

mutual
/-- the cells cs read as the data; each block that is gone to is one of S -/
def D.rd (w : World) (S : Nat → Prop) : D → List Value → Prop
  | .num k n, cs => cs = [.int k n] ∧ (Lit.int k n).wf = true
  | .str s, cs => cs = [.string s] ∧ s.size ≤ maxLen
  | .bool b, cs => cs = [.bool b]
  | .agg fs, cs => D.rdF w S fs cs
  | .sl size xs, cs => ∃ A c, cs = [.slice A xs.length c] ∧ xs.length ≤ c ∧ c ≤ maxLen ∧ (xs = [] ∨ ∃ b off, A = some ⟨b, off, none⟩ ∧ S b ∧ D.rdR w S size b xs off)
def D.rdF (w : World) (S : Nat → Prop) : List D → List Value → Prop
  | [], cs => cs = []
  | d :: r, cs => ∃ c1 c2, cs = c1 ++ c2 ∧ D.rd w S d c1 ∧ D.rdF w S r c2
def D.rdR (w : World) (S : Nat → Prop) (size b : Nat) : List D → Nat → Prop
  | [], _ => True
  | d :: r, off => (∃ cs, cs.length = size ∧ (∀ j v, cs[j]? = some v → w.cell? ⟨b, off + j, none⟩ = some v) ∧ D.rd w S d cs) ∧ D.rdR w S size b r (off + size)
end

mutual
/-- the same, where each slice lies in a block of its own that may be written; all of them are of S -/
def D.own (w : World) : D → (Nat → Prop) → List Value → Prop
  | .num k n, _, cs => cs = [.int k n] ∧ (Lit.int k n).wf = true
  | .str s, _, cs => cs = [.string s] ∧ s.size ≤ maxLen
  | .bool b, _, cs => cs = [.bool b]
  | .agg fs, S, cs => D.ownF w fs S cs
  | .sl size xs, S, cs => ∃ A c, cs = [.slice A xs.length c] ∧ xs.length ≤ c ∧ c ≤ maxLen ∧ (xs = [] ∨ ∃ b, A = some ⟨b, 0, none⟩ ∧ S b ∧ (∀ o, w.frozen? ⟨b, o, none⟩ = false) ∧ D.ownR w size b xs (fun x => S x ∧ x ≠ b) 0)
def D.ownF (w : World) : List D → (Nat → Prop) → List Value → Prop
  | [], _, cs => cs = []
  | d :: r, S, cs => ∃ (S1 S2 : Nat → Prop) (c1 c2 : List Value), (∀ x, S1 x → S x ∧ ¬ S2 x) ∧ (∀ x, S2 x → S x) ∧ cs = c1 ++ c2 ∧ D.own w d S1 c1 ∧ D.ownF w r S2 c2
def D.ownR (w : World) (size b : Nat) : List D → (Nat → Prop) → Nat → Prop
  | [], _, _ => True
  | d :: r, S, off => ∃ (S1 S2 : Nat → Prop) (cs : List Value), (∀ x, S1 x → S x ∧ ¬ S2 x) ∧ (∀ x, S2 x → S x) ∧ cs.length = size ∧ (∀ j v, cs[j]? = some v → w.cell? ⟨b, off + j, none⟩ = some v) ∧ D.own w d S1 cs ∧ D.ownR w size b r S2 (off + size)
end

/-! ### the reading, kept -/
mutual
theorem D.rd_keep {w w' : World} {S S' : Nat → Prop} (h : ∀ b, S b → S' b ∧ w'.heap[b]? = w.heap[b]?) : ∀ (d : D) (cs : List Value), d.rd w S cs → d.rd w' S' cs
  | .num _ _, _, hd => by simpa only [D.rd] using hd
  | .str _, _, hd => by simpa only [D.rd] using hd
  | .bool _, _, hd => by simpa only [D.rd] using hd
  | .agg fs, cs, hd => by
    simp only [D.rd] at hd ⊢
    exact D.rdF_keep h fs cs hd
  | .sl size xs, cs, hd => by
    simp only [D.rd] at hd ⊢
    obtain ⟨A, c, h1, h2, h3, h4⟩ := hd
    refine ⟨A, c, h1, h2, h3, ?_⟩
    rcases h4 with h4 | ⟨b, off, e, hS, hr⟩
    · exact .inl h4
    · exact .inr ⟨b, off, e, (h b hS).1, D.rdR_keep h size b hS xs off hr⟩
theorem D.rdF_keep {w w' : World} {S S' : Nat → Prop} (h : ∀ b, S b → S' b ∧ w'.heap[b]? = w.heap[b]?) : ∀ (fs : List D) (cs : List Value), D.rdF w S fs cs → D.rdF w' S' fs cs
  | [], _, hd => by simpa only [D.rdF] using hd
  | d :: r, cs, hd => by
    simp only [D.rdF] at hd ⊢
    obtain ⟨c1, c2, e, h1, h2⟩ := hd
    exact ⟨c1, c2, e, D.rd_keep h d c1 h1, D.rdF_keep h r c2 h2⟩
theorem D.rdR_keep {w w' : World} {S S' : Nat → Prop} (h : ∀ b, S b → S' b ∧ w'.heap[b]? = w.heap[b]?) (size b : Nat) (hb : S b) : ∀ (xs : List D) (off : Nat), D.rdR w S size b xs off → D.rdR w' S' size b xs off
  | [], _, _ => by simp only [D.rdR]
  | d :: r, off, hd => by
    simp only [D.rdR] at hd ⊢
    obtain ⟨⟨cs, h1, h2, h3⟩, h4⟩ := hd
    exact ⟨⟨cs, h1, fun j v hj => (World.cell?_of_block (h b hb).2).trans (h2 j v hj), D.rd_keep h d cs h3⟩, D.rdR_keep h size b hb r (off + size) h4⟩
end

theorem D.rdR_get {w : World} {S : Nat → Prop} {size b : Nat} : ∀ {xs : List D} {off : Nat}, D.rdR w S size b xs off → ∀ (i : Nat) (h : i < xs.length),
    ∃ cs, cs.length = size ∧ (∀ j v, cs[j]? = some v → w.cell? ⟨b, off + i * size + j, none⟩ = some v) ∧ (xs[i]).rd w S cs
  | [], _, _, i, h => by simp at h
  | d :: r, off, hr, i, h => by
    simp only [D.rdR] at hr
    match i with
    | 0 => obtain ⟨⟨cs, h1, h2, h3⟩, _⟩ := hr; exact ⟨cs, h1, by simpa using h2, h3⟩
    | i + 1 =>
      obtain ⟨cs, h1, h2, h3⟩ := D.rdR_get hr.2 i (by simpa using h)
      refine ⟨cs, h1, fun j v hj => ?_, by simpa using h3⟩
      rw [← h2 j v hj]
      congr 2
      rw [Nat.add_mul]; omega

theorem D.rdR_mk {w : World} {S : Nat → Prop} {size b : Nat} : ∀ {xs : List D} {off : Nat}, (∀ (i : Nat) (h : i < xs.length),
    ∃ cs, cs.length = size ∧ (∀ j v, cs[j]? = some v → w.cell? ⟨b, off + i * size + j, none⟩ = some v) ∧ (xs[i]).rd w S cs) → D.rdR w S size b xs off
  | [], _, _ => by simp only [D.rdR]
  | d :: r, off, hr => by
    simp only [D.rdR]
    refine ⟨?_, D.rdR_mk fun i h => ?_⟩
    · obtain ⟨cs, h1, h2, h3⟩ := hr 0 (by simp)
      exact ⟨cs, h1, by simpa using h2, h3⟩
    · obtain ⟨cs, h1, h2, h3⟩ := hr (i + 1) (by simpa using h)
      refine ⟨cs, h1, fun j v hj => ?_, by simpa using h3⟩
      rw [← h2 j v hj]
      congr 2
      rw [Nat.add_mul]; omega

/-- the slice value '.slice A n c' reads as the list xs of data, size cells each -/
def Sl (w : World) (S : Nat → Prop) (size : Nat) (A : Option Addr) (c : Nat) (xs : List D) : Prop :=
  xs.length ≤ c ∧ c ≤ maxLen ∧ (xs = [] ∨ ∃ b off, A = some ⟨b, off, none⟩ ∧ S b ∧ D.rdR w S size b xs off)

theorem Sl.keep {w w' : World} {S S' : Nat → Prop} {size : Nat} {A : Option Addr} {c : Nat} {xs : List D} (hs : Sl w S size A c xs) (h : ∀ b, S b → S' b ∧ w'.heap[b]? = w.heap[b]?) : Sl w' S' size A c xs := by
  obtain ⟨h1, h2, h3⟩ := hs
  refine ⟨h1, h2, ?_⟩
  rcases h3 with h3 | ⟨b, off, e, hS, hr⟩
  · exact .inl h3
  · exact .inr ⟨b, off, e, (h b hS).1, D.rdR_keep h size b hS xs off hr⟩

theorem D.rd_num {w : World} {S : Nat → Prop} {k : IntKind} {n : Int} {cs : List Value} : (D.num k n).rd w S cs ↔ cs = [.int k n] ∧ (Lit.int k n).wf = true := by simp only [D.rd]
theorem D.rd_str {w : World} {S : Nat → Prop} {s : ByteArray} {cs : List Value} : (D.str s).rd w S cs ↔ cs = [.string s] ∧ s.size ≤ maxLen := by simp only [D.rd]
theorem D.rd_bool {w : World} {S : Nat → Prop} {b : Bool} {cs : List Value} : (D.bool b).rd w S cs ↔ cs = [.bool b] := by simp only [D.rd]
theorem D.rd_sl {w : World} {S : Nat → Prop} {size : Nat} {xs : List D} {cs : List Value} : (D.sl size xs).rd w S cs ↔ ∃ A c, cs = [.slice A xs.length c] ∧ Sl w S size A c xs := by
  simp only [D.rd, Sl]
theorem D.rd_agg {w : World} {S : Nat → Prop} {fs : List D} {cs : List Value} : (D.agg fs).rd w S cs ↔ D.rdF w S fs cs := by simp only [D.rd]
theorem D.rdF_nil {w : World} {S : Nat → Prop} {cs : List Value} : D.rdF w S [] cs ↔ cs = [] := by simp only [D.rdF]
theorem D.rdF_cons {w : World} {S : Nat → Prop} {d : D} {r : List D} {cs : List Value} : D.rdF w S (d :: r) cs ↔ ∃ c1 c2, cs = c1 ++ c2 ∧ D.rd w S d c1 ∧ D.rdF w S r c2 := by simp only [D.rdF]

theorem Sl.get {w : World} {S : Nat → Prop} {size : Nat} {A : Option Addr} {c : Nat} {xs : List D} (hs : Sl w S size A c xs) (i : Nat) (h : i < xs.length) :
    ∃ b off cs, A = some ⟨b, off, none⟩ ∧ S b ∧ cs.length = size ∧ (∀ j v, cs[j]? = some v → w.cell? ⟨b, off + i * size + j, none⟩ = some v) ∧ (xs[i]).rd w S cs := by
  obtain ⟨_, _, h3 | ⟨b, off, e, hS, hr⟩⟩ := hs
  · rw [h3] at h; simp at h
  · obtain ⟨cs, g1, g2, g3⟩ := D.rdR_get hr i h
    exact ⟨b, off, cs, e, hS, g1, g2, g3⟩

theorem Sl.nil {w : World} {S : Nat → Prop} {size : Nat} {A : Option Addr} {c : Nat} (hc : c ≤ maxLen) : Sl w S size A c [] := ⟨by simp, hc, .inl rfl⟩

theorem Sl.len {w : World} {S : Nat → Prop} {size : Nat} {A : Option Addr} {c : Nat} {xs : List D} (hs : Sl w S size A c xs) : xs.length ≤ 9223372036854775807 := by
  have := hs.1; have := hs.2.1; unfold maxLen at *; omega

/-! ### what is owned, kept -/
mutual
theorem D.own_keep {w w' : World} : ∀ (d : D) (S S' : Nat → Prop) (cs : List Value), (∀ b, S b → S' b ∧ w'.heap[b]? = w.heap[b]?) → d.own w S cs → d.own w' S' cs
  | .num _ _, _, _, _, _, hd => by simpa only [D.own] using hd
  | .str _, _, _, _, _, hd => by simpa only [D.own] using hd
  | .bool _, _, _, _, _, hd => by simpa only [D.own] using hd
  | .agg fs, S, S', cs, h, hd => by
    simp only [D.own] at hd ⊢
    exact D.ownF_keep fs S S' cs h hd
  | .sl size xs, S, S', cs, h, hd => by
    simp only [D.own] at hd ⊢
    obtain ⟨A, c, h1, h2, h3, h4⟩ := hd
    refine ⟨A, c, h1, h2, h3, ?_⟩
    rcases h4 with h4 | ⟨b, e, hS, hf, hr⟩
    · exact .inl h4
    · exact .inr ⟨b, e, (h b hS).1, fun o => (World.frozen?_of_block (h b hS).2).trans (hf o), D.ownR_keep size b xs _ _ 0 (fun x hx => ⟨⟨(h x hx.1).1, hx.2⟩, (h x hx.1).2⟩) (fun j _ => World.cell?_of_block (h b hS).2) hr⟩
theorem D.ownF_keep {w w' : World} : ∀ (fs : List D) (S S' : Nat → Prop) (cs : List Value), (∀ b, S b → S' b ∧ w'.heap[b]? = w.heap[b]?) → D.ownF w fs S cs → D.ownF w' fs S' cs
  | [], _, _, _, _, hd => by simpa only [D.ownF] using hd
  | d :: r, S, S', cs, h, hd => by
    simp only [D.ownF] at hd ⊢
    obtain ⟨S1, S2, c1, c2, g1, g2, e, h1, h2⟩ := hd
    exact ⟨S1, S2, c1, c2, fun x hx => ⟨(h x (g1 x hx).1).1, (g1 x hx).2⟩, fun x hx => (h x (g2 x hx)).1, e, D.own_keep d S1 S1 c1 (fun b hb => ⟨hb, (h b (g1 b hb).1).2⟩) h1, D.ownF_keep r S2 S2 c2 (fun b hb => ⟨hb, (h b (g2 b hb)).2⟩) h2⟩
theorem D.ownR_keep {w w' : World} (size b : Nat) : ∀ (xs : List D) (S S' : Nat → Prop) (off : Nat), (∀ b, S b → S' b ∧ w'.heap[b]? = w.heap[b]?) → (∀ j, j < off + xs.length * size → w'.cell? ⟨b, j, none⟩ = w.cell? ⟨b, j, none⟩) →
    D.ownR w size b xs S off → D.ownR w' size b xs S' off
  | [], _, _, _, _, _, _ => by simp only [D.ownR]
  | d :: r, S, S', off, h, hc, hd => by
    simp only [D.ownR] at hd ⊢
    obtain ⟨S1, S2, cs, g1, g2, h1, h2, h3, h4⟩ := hd
    have hlen : (d :: r).length * size = r.length * size + size := by rw [List.length_cons, Nat.add_mul, Nat.one_mul]
    refine ⟨S1, S2, cs, fun x hx => ⟨(h x (g1 x hx).1).1, (g1 x hx).2⟩, fun x hx => (h x (g2 x hx)).1, h1, fun j v hj => ?_, D.own_keep d S1 S1 cs (fun b hb => ⟨hb, (h b (g1 b hb).1).2⟩) h3,
      D.ownR_keep size b r S2 S2 (off + size) (fun b hb => ⟨hb, (h b (g2 b hb)).2⟩) (fun j hj => hc j (by rw [hlen]; omega)) h4⟩
    have hjl : j < cs.length := (List.getElem?_eq_some_iff.1 hj).1
    rw [hc (off + j) (by rw [hlen]; omega)]
    exact h2 j v hj
end

mutual
theorem D.own_rd {w : World} : ∀ (d : D) (S : Nat → Prop) (cs : List Value), d.own w S cs → d.rd w S cs
  | .num _ _, _, _, hd => by simpa only [D.own, D.rd] using hd
  | .str _, _, _, hd => by simpa only [D.own, D.rd] using hd
  | .bool _, _, _, hd => by simpa only [D.own, D.rd] using hd
  | .agg fs, S, cs, hd => by
    simp only [D.own, D.rd] at hd ⊢
    exact D.ownF_rd fs S cs hd
  | .sl size xs, S, cs, hd => by
    simp only [D.own, D.rd] at hd ⊢
    obtain ⟨A, c, h1, h2, h3, h4⟩ := hd
    refine ⟨A, c, h1, h2, h3, ?_⟩
    rcases h4 with h4 | ⟨b, e, hS, hf, hr⟩
    · exact .inl h4
    · exact .inr ⟨b, 0, e, hS, D.rdR_keep (S := fun x => S x) (fun x hx => ⟨hx, rfl⟩) size b hS xs 0 (D.ownR_rd size b xs _ S 0 (fun x hx => hx.1) hr)⟩
theorem D.ownF_rd {w : World} : ∀ (fs : List D) (S : Nat → Prop) (cs : List Value), D.ownF w fs S cs → D.rdF w S fs cs
  | [], _, _, hd => by simpa only [D.ownF, D.rdF] using hd
  | d :: r, S, cs, hd => by
    simp only [D.ownF, D.rdF] at hd ⊢
    obtain ⟨S1, S2, c1, c2, g1, g2, e, h1, h2⟩ := hd
    exact ⟨c1, c2, e, D.rd_keep (fun b hb => ⟨(g1 b hb).1, rfl⟩) d c1 (D.own_rd d S1 c1 h1), D.rdF_keep (fun b hb => ⟨g2 b hb, rfl⟩) r c2 (D.ownF_rd r S2 c2 h2)⟩
theorem D.ownR_rd {w : World} (size b : Nat) : ∀ (xs : List D) (S T : Nat → Prop) (off : Nat), (∀ x, S x → T x) → D.ownR w size b xs S off → D.rdR w T size b xs off
  | [], _, _, _, _, _ => by simp only [D.rdR]
  | d :: r, S, T, off, hT, hd => by
    simp only [D.ownR, D.rdR] at hd ⊢
    obtain ⟨S1, S2, cs, g1, g2, h1, h2, h3, h4⟩ := hd
    exact ⟨⟨cs, h1, h2, D.rd_keep (fun b hb => ⟨hT b (g1 b hb).1, rfl⟩) d cs (D.own_rd d S1 cs h3)⟩, D.ownR_rd size b r S2 T (off + size) (fun x hx => hT x (g2 x hx)) h4⟩
end

/-- an owned row, one element longer -/
theorem D.ownR_snoc {w : World} {size b : Nat} {d : D} {S1 S2 S : Nat → Prop} (h2 : ∀ x, S2 x → S x ∧ ¬ S1 x) (cs : List Value) (hl : cs.length = size) (hd : d.own w S2 cs) :
    ∀ (xs : List D) (T : Nat → Prop) (off : Nat), (∀ x, T x → S1 x) → (∀ x, S1 x → S x) → (∀ j v, cs[j]? = some v → w.cell? ⟨b, off + xs.length * size + j, none⟩ = some v) →
    D.ownR w size b xs T off → D.ownR w size b (xs ++ [d]) (fun x => T x ∨ S2 x) off
  | [], T, off, hT, h1, hc, _ => by
    simp only [List.nil_append, D.ownR]
    exact ⟨S2, fun _ => False, cs, fun x hx => ⟨.inr hx, fun h => h⟩, fun x hx => hx.elim, hl, by simpa using hc, hd, trivial⟩
  | e :: r, T, off, hT, h1, hc, hr => by
    simp only [List.cons_append, D.ownR] at hr ⊢
    obtain ⟨T1, T2, c1, g1, g2, k1, k2, k3, k4⟩ := hr
    have ih := D.ownR_snoc h2 cs hl hd r T2 (off + size) (fun x hx => hT x (g2 x hx)) h1 (fun j v hj => by
      rw [← hc j v hj]
      congr 2
      rw [List.length_cons, Nat.add_mul]; omega) k4
    refine ⟨T1, fun x => T2 x ∨ S2 x, c1, fun x hx => ⟨.inl (g1 x hx).1, fun h => ?_⟩, fun x hx => hx.elim (fun h => .inl (g2 x h)) .inr, k1, k2, k3, ih⟩
    rcases h with h | h
    · exact (g1 x hx).2 h
    · exact (h2 x h).2 (hT x (g1 x hx).1)

/-- the owned slice value -/
def Osl (w : World) (S : Nat → Prop) (size : Nat) (A : Option Addr) (c : Nat) (xs : List D) : Prop :=
  xs.length ≤ c ∧ c ≤ maxLen ∧ (xs = [] ∨ ∃ b, A = some ⟨b, 0, none⟩ ∧ S b ∧ (∀ o, w.frozen? ⟨b, o, none⟩ = false) ∧ D.ownR w size b xs (fun x => S x ∧ x ≠ b) 0)

theorem D.own_num {w : World} {S : Nat → Prop} {k : IntKind} {n : Int} {cs : List Value} : (D.num k n).own w S cs ↔ cs = [.int k n] ∧ (Lit.int k n).wf = true := by simp only [D.own]
theorem D.own_str {w : World} {S : Nat → Prop} {s : ByteArray} {cs : List Value} : (D.str s).own w S cs ↔ cs = [.string s] ∧ s.size ≤ maxLen := by simp only [D.own]
theorem D.own_bool {w : World} {S : Nat → Prop} {b : Bool} {cs : List Value} : (D.bool b).own w S cs ↔ cs = [.bool b] := by simp only [D.own]
theorem D.own_sl {w : World} {S : Nat → Prop} {size : Nat} {xs : List D} {cs : List Value} : (D.sl size xs).own w S cs ↔ ∃ A c, cs = [.slice A xs.length c] ∧ Osl w S size A c xs := by
  simp only [D.own, Osl]
theorem D.own_agg {w : World} {S : Nat → Prop} {fs : List D} {cs : List Value} : (D.agg fs).own w S cs ↔ D.ownF w fs S cs := by simp only [D.own]
theorem D.ownF_nil {w : World} {S : Nat → Prop} {cs : List Value} : D.ownF w [] S cs ↔ cs = [] := by simp only [D.ownF]

/-- a field that goes to no block -/
theorem D.ownF_plain {w : World} {S : Nat → Prop} {d : D} {r : List D} {c1 c2 : List Value} (h : d.own w (fun _ => False) c1) (h2 : D.ownF w r S c2) : D.ownF w (d :: r) S (c1 ++ c2) := by
  simp only [D.ownF]
  exact ⟨fun _ => False, S, c1, c2, fun x hx => hx.elim, fun x hx => hx, rfl, h, h2⟩

theorem D.ownF_cons {w : World} {S S1 S2 : Nat → Prop} {d : D} {r : List D} {c1 c2 : List Value} (g1 : ∀ x, S1 x → S x ∧ ¬ S2 x) (g2 : ∀ x, S2 x → S x) (h : d.own w S1 c1) (h2 : D.ownF w r S2 c2) : D.ownF w (d :: r) S (c1 ++ c2) := by
  simp only [D.ownF]
  exact ⟨S1, S2, c1, c2, g1, g2, rfl, h, h2⟩

/-- the last field -/
theorem D.ownF_last {w : World} {S : Nat → Prop} {d : D} {c1 : List Value} (h : d.own w S c1) : D.ownF w [d] S c1 := by
  simp only [D.ownF]
  exact ⟨S, fun _ => False, c1, [], fun x hx => ⟨hx, fun h => h⟩, fun x hx => hx.elim, by simp, h, rfl⟩

theorem Osl.keep {w w' : World} {S S' : Nat → Prop} {size : Nat} {A : Option Addr} {c : Nat} {xs : List D} (hs : Osl w S size A c xs) (h : ∀ b, S b → S' b ∧ w'.heap[b]? = w.heap[b]?) : Osl w' S' size A c xs := by
  obtain ⟨h1, h2, h3⟩ := hs
  refine ⟨h1, h2, ?_⟩
  rcases h3 with h3 | ⟨b, e, hS, hf, hr⟩
  · exact .inl h3
  · exact .inr ⟨b, e, (h b hS).1, fun o => (World.frozen?_of_block (h b hS).2).trans (hf o), D.ownR_keep size b xs _ _ 0 (fun x hx => ⟨⟨(h x hx.1).1, hx.2⟩, (h x hx.1).2⟩) (fun j _ => World.cell?_of_block (h b hS).2) hr⟩

theorem Osl.sl {w : World} {S : Nat → Prop} {size : Nat} {A : Option Addr} {c : Nat} {xs : List D} (hs : Osl w S size A c xs) : Sl w S size A c xs := by
  obtain ⟨h1, h2, h3⟩ := hs
  refine ⟨h1, h2, ?_⟩
  rcases h3 with h3 | ⟨b, e, hS, hf, hr⟩
  · exact .inl h3
  · exact .inr ⟨b, 0, e, hS, D.ownR_rd size b xs _ S 0 (fun x hx => hx.1) hr⟩

theorem Osl.nil {w : World} {S : Nat → Prop} {size : Nat} {A : Option Addr} {c : Nat} (hc : c ≤ maxLen) : Osl w S size A c [] := ⟨by simp, hc, .inl rfl⟩

/-! ### sets of blocks -/
/-- blocks below a number -/
def Lt (B : Nat) : Nat → Prop := fun b => b < B
/-- blocks from a number on, below another -/
def Btw (B B' : Nat) : Nat → Prop := fun b => B ≤ b ∧ b < B'

theorem keep_below {w w' : World} {B B' : Nat} (h : Below B w w') (hB : B ≤ B') : ∀ b, Lt B b → Lt B' b ∧ w'.heap[b]? = w.heap[b]? :=
  fun b hb => ⟨Nat.lt_of_lt_of_le hb hB, h.block b hb⟩
theorem keep_btw {w w' : World} {B B' C C' : Nat} (h : Below B' w w') (hC : C ≤ B) (hC' : B' ≤ C') : ∀ b, Btw B B' b → Btw C C' b ∧ w'.heap[b]? = w.heap[b]? :=
  fun b hb => ⟨⟨Nat.le_trans hC hb.1, Nat.lt_of_lt_of_le hb.2 hC'⟩, h.block b hb.2⟩

/-- the same data in the world to come -/
theorem Sl.below {w w' : World} {B B' : Nat} {size : Nat} {A : Option Addr} {c : Nat} {xs : List D} (hs : Sl w (Lt B) size A c xs) (h : Below B w w') (hB : B ≤ B') : Sl w' (Lt B') size A c xs :=
  hs.keep (keep_below h hB)
theorem Osl.below {w w' : World} {B B' C C' : Nat} {size : Nat} {A : Option Addr} {c : Nat} {xs : List D} (hs : Osl w (Btw B B') size A c xs) (h : Below B' w w') (hC : C ≤ B) (hC' : B' ≤ C') : Osl w' (Btw C C') size A c xs :=
  hs.keep (keep_btw h hC hC')
theorem Osl.slLt {w : World} {B B' : Nat} {size : Nat} {A : Option Addr} {c : Nat} {xs : List D} (hs : Osl w (Btw B B') size A c xs) : Sl w (Lt B') size A c xs :=
  hs.sl.keep fun b hb => ⟨hb.2, rfl⟩

/-- a block of one's own, known whole -/
def Row (w : World) (g : Nat) (t : TypeId) (cs : Array Value) : Prop := w.heap[g]? = some (.cells cs t (0, 0))
theorem Row.cell {w : World} {g : Nat} {t : TypeId} {cs : Array Value} (h : Row w g t cs) (i : Nat) : w.cell? ⟨g, i, none⟩ = cs[i]? := cell_of_row w g i cs t (0, 0) h
theorem Row.frozen {w : World} {g : Nat} {t : TypeId} {cs : Array Value} (h : Row w g t cs) (i : Nat) : w.frozen? ⟨g, i, none⟩ = false := by
  unfold Row at h
  simp [World.frozen?, h]
theorem Row.new (w : World) (t : TypeId) (cs : Array Value) : Row (w.alloc (.cells cs t)) w.heap.size t cs := heap_alloc_new w _
theorem Row.new' (w : World) (t : TypeId) (cs : Array Value) {g : Nat} (hg : g = w.heap.size) : Row (w.alloc (.cells cs t)) g t cs := by subst hg; exact Row.new w t cs
theorem Row.lt {w : World} {g : Nat} {t : TypeId} {cs : Array Value} (h : Row w g t cs) : g < w.heap.size := by
  rcases Nat.lt_or_ge g w.heap.size with hlt | hge
  · exact hlt
  · unfold Row at h; rw [Array.getElem?_eq_none hge] at h; cases h
theorem Row.set {w : World} {g : Nat} {t : TypeId} {cs : Array Value} (h : Row w g t cs) (i : Nat) (u : Value) : Row (w.setCell ⟨g, i, none⟩ u) g t (cs.setIfInBounds i u) := by
  unfold Row at h ⊢
  simp [World.setCell, Array.getElem?_modify, h]
theorem Row.alloc {w : World} {g : Nat} {t : TypeId} {cs : Array Value} (h : Row w g t cs) (o : Obj) : Row (w.alloc o) g t cs := (Below.heap_alloc w o g h.lt).trans h
theorem Row.far {w : World} {g : Nat} {t : TypeId} {cs : Array Value} (h : Row w g t cs) {p : Addr} (hp : g ≠ p.block) (u : Value) : Row (w.setCell p u) g t cs := (Below.heap_setCell w p u g hp).trans h
theorem Row.below {B : Nat} {w w' : World} {g : Nat} {t : TypeId} {cs : Array Value} (h : Row w g t cs) (hb : Below B w w') (hg : g < B) : Row w' g t cs := (hb.block g hg).trans h

/-- some cells of block g written, one behind the other, from place k on -/
def setCells (w : World) (g k : Nat) : List Value → World
  | [] => w
  | v :: r => setCells (w.setCell ⟨g, k, none⟩ v) g (k + 1) r

theorem setCells_size (w : World) (g k : Nat) (vs : List Value) : (setCells w g k vs).heap.size = w.heap.size := by
  induction vs generalizing w k with
  | nil => rfl
  | cons v r ih => simp only [setCells]; rw [ih]; simp [World.setCell]

theorem setCells_block (w : World) (g k : Nat) (vs : List Value) (b : Nat) (hb : b ≠ g) : (setCells w g k vs).heap[b]? = w.heap[b]? := by
  induction vs generalizing w k with
  | nil => rfl
  | cons v r ih => simp only [setCells]; rw [ih]; exact Below.heap_setCell w ⟨g, k, none⟩ v b hb

theorem setCells_below {B : Nat} {a w : World} (h : Below B a w) (g k : Nat) (hg : B ≤ g) (vs : List Value) : Below B a (setCells w g k vs) := by
  induction vs generalizing w k with
  | nil => exact h
  | cons v r ih => simp only [setCells]; exact ih (h.setCell hg v) (k + 1)

theorem setCells_row {w : World} {g : Nat} {t : TypeId} {row : Array Value} (h : Row w g t row) (k : Nat) (vs : List Value) :
    ∃ row', Row (setCells w g k vs) g t row' ∧ row'.size = row.size ∧ (∀ i, i < k ∨ k + vs.length ≤ i → row'[i]? = row[i]?) ∧ (∀ i v, vs[i]? = some v → k + i < row.size → row'[k + i]? = some v) := by
  induction vs generalizing w k row with
  | nil => exact ⟨row, h, rfl, fun _ _ => rfl, fun i v hv => by simp at hv⟩
  | cons v r ih =>
    obtain ⟨row', h1, h2, h3, h4⟩ := ih (h.set k v) (k + 1)
    refine ⟨row', h1, by rw [h2]; simp, fun i hi => ?_, fun i u hu hl => ?_⟩
    · rw [h3 i (by simp only [List.length_cons] at hi; omega)]
      rw [Array.getElem?_setIfInBounds]
      simp only [List.length_cons] at hi
      rw [if_neg (by omega)]
    · match i with
      | 0 =>
        have hv : v = u := by simpa using hu
        subst hv
        rw [h3 (k + 0) (by omega)]
        rw [Array.getElem?_setIfInBounds]
        have hk : k < row.size := by omega
        simp [hk]
      | i + 1 =>
        have := h4 i u (by simpa using hu) (by simp; omega)
        rwa [show k + 1 + i = k + (i + 1) from by omega] at this

/-- an element behind the others of a row that is being filled -/
theorem fill_step {w : World} {g m size j : Nat} {t : TypeId} {row : Array Value} {xs : List D} {x : D} {cs : List Value} (hrow : Row w g t row) (hj : xs.length = j) (hrs : (j + 1) * size ≤ row.size) (hgm : g < m) (hm : m ≤ w.heap.size)
    (hown : D.ownR w size g xs (fun b => g < b ∧ b < m) 0) (hx : x.own w (Btw m w.heap.size) cs) (hcs : cs.length = size) :
    ∃ row', Row (setCells w g (j * size) cs) g t row' ∧ row'.size = row.size ∧ D.ownR (setCells w g (j * size) cs) size g (xs ++ [x]) (fun b => g < b ∧ b < (setCells w g (j * size) cs).heap.size) 0 := by
  obtain ⟨row', h1, h2, h3, h4⟩ := setCells_row hrow (j * size) cs
  refine ⟨row', h1, h2, ?_⟩
  have hsz := setCells_size w g (j * size) cs
  have e1 : (j + 1) * size = j * size + size := by rw [Nat.add_mul, Nat.one_mul]
  have k1 : D.ownR (setCells w g (j * size) cs) size g xs (fun b => g < b ∧ b < m) 0 := D.ownR_keep size g xs _ _ 0 (fun b hb => ⟨hb, setCells_block _ _ _ _ _ (by omega)⟩) (fun i hi => by
    rw [h1.cell, hrow.cell]; exact h3 i (.inl (by rw [hj] at hi; omega))) hown
  have k2 : x.own (setCells w g (j * size) cs) (Btw m w.heap.size) cs := D.own_keep x _ _ cs (fun b hb => ⟨hb, setCells_block _ _ _ _ _ (by have := hb.1; omega)⟩) hx
  have k3 := D.ownR_snoc (w := setCells w g (j * size) cs) (size := size) (b := g) (d := x) (S1 := fun b => g < b ∧ b < m) (S2 := Btw m w.heap.size) (S := fun b => g < b ∧ b < w.heap.size)
    (fun b hb => ⟨⟨by have := hb.1; omega, hb.2⟩, fun h => by have := hb.1; omega⟩) cs hcs k2 xs (fun b => g < b ∧ b < m) 0 (fun _ h => h) (fun b hb => ⟨hb.1, by omega⟩) (fun i v hv => by
      have hi : i < cs.length := (List.getElem?_eq_some_iff.1 hv).1
      rw [h1.cell, hj, Nat.zero_add]
      exact h4 i v hv (by omega)) k1
  exact D.ownR_keep size g (xs ++ [x]) _ _ 0 (fun b hb => ⟨by rw [hsz]; rcases hb with hb | hb; exact ⟨hb.1, by omega⟩; exact ⟨by have := hb.1; omega, hb.2⟩, rfl⟩) (fun _ _ => rfl) k3

/-- a row that has been filled -/
theorem fill_end {w : World} {B g size n : Nat} {t : TypeId} {row : Array Value} {xs : List D} (hrow : Row w g t row) (hB : B ≤ g) (hn : xs.length ≤ n) (hm : n ≤ maxLen)
    (hown : D.ownR w size g xs (fun b => g < b ∧ b < w.heap.size) 0) : Osl w (Btw B w.heap.size) size (some ⟨g, 0, none⟩) n xs :=
  ⟨hn, hm, .inr ⟨g, rfl, ⟨hB, hrow.lt⟩, fun o => hrow.frozen o, D.ownR_keep size g xs _ _ 0 (fun b hb => ⟨⟨⟨by omega, hb.2⟩, by omega⟩, rfl⟩) (fun _ _ => rfl) hown⟩⟩

theorem take_snoc' {α : Type} (l : List α) (j : Nat) (h : j < l.length) : l.take (j + 1) = l.take j ++ [l[j]] := by
  rw [List.take_succ_eq_append_getElem h]

theorem row_some {row : Array Value} (i : Nat) (h : i < row.size) : ∃ v, row[i]? = some v := ⟨_, Array.getElem?_eq_getElem h⟩

theorem bcell {W w1 : World} (hb : Below W.heap.size W w1) : (∀ b o, b < W.heap.size → w1.cell? ⟨b, o, none⟩ = W.cell? ⟨b, o, none⟩) ∧ (∀ b o, b < W.heap.size → w1.frozen? ⟨b, o, none⟩ = W.frozen? ⟨b, o, none⟩) :=
  ⟨fun b o h => hb.cell (p := ⟨b, o, none⟩) h, fun b o h => hb.frozen (p := ⟨b, o, none⟩) h⟩

/-- the row of a slice that was just made -/
def zr (z : Value) (size n : Nat) : Array Value := madeCells z.cells (n * size)
theorem zr_size (z : Value) (size n : Nat) : (zr z size n).size = n * size := size_madeCells _ _

theorem run_mk {P : Program} (t e : TypeId) (z : Value) (size bytes : Nat) (ht : P.underlying t = some (.slice e)) (hi : (P.info? e).map (fun i => (i.zero, i.size, i.bytes)) = some (some z, size, bytes))
    (n : Nat) (hn : n ≤ 1048576) (hb : bytes ≤ 1048576) (w : World) :
    (Instr.makeSlice t (.int .i64 (n : Int)) (.int .i64 (n : Int))).run P w = .ok (.slice (some ⟨w.heap.size, 0, none⟩) n n) (w.alloc (.cells (zr z size n) e)) := by
  obtain ⟨i, h1, h2, h3, h4⟩ := info_parts hi
  have hnat : i.bytes * n ≤ 1048576 * 1048576 := Nat.mul_le_mul (by omega) hn
  have hint : (i.bytes : Int) * (n : Int) ≤ 281474976710656 := by
    have h : ((i.bytes * n : Nat) : Int) ≤ 281474976710656 := by omega
    rwa [Int.natCast_mul] at h
  have hr := run_make (P := P) w t e i z ht h1 h2 .i64 .i64 n n (by omega) (by omega) hint (by omega)
  simp only [Int.toNat_natCast, h3] at hr
  exact hr

theorem quietB {P : Program} {f : FuncId} {args : Array Value} {w : World} {v : Ending} (h : Calls P f args w fun e w' => e = v ∧ w = w') : Calls P f args w fun e w' => e = v ∧ Below w.heap.size w w' :=
  h.mono fun _ _ ⟨a, b⟩ => ⟨a, b ▸ Below.refl _ _⟩

/-- a call of a function through its value enters it -/
theorem enters {P : Program} {K : FuncId} {fn : Func} (h : P.funcs[K]? = some fn) (h1 : (fn.name == "runtime.NumGoroutine") = false) (h2 : fn.body.isNone = false) (args : Array Value) (w : World) :
    (callFunc K args).run P w = .ok (.enter K args) w := by
  have e1 : ¬ fn.name = "runtime.NumGoroutine" := by simpa using h1
  have e2 : ¬ fn.body = none := by intro e; rw [e] at h2; cases h2
  simp [callFunc, h, e1, e2]

/-! ### how much a list holds -/
def bulkL {α : Type} (f : α → Nat) : List α → Nat
  | [] => 0
  | t :: r => 1 + f t + bulkL f r

theorem bulkL_take_succ {α : Type} (f : α → Nat) (l : List α) (i : Nat) (h : i < l.length) : bulkL f (l.take (i + 1)) = bulkL f (l.take i) + 1 + f l[i] := by
  induction l generalizing i with
  | nil => simp at h
  | cons t r ih =>
    match i with
    | 0 => simp [bulkL]
    | i + 1 => simp only [List.take_succ_cons, bulkL, List.getElem_cons_succ]; rw [ih i (by simpa using h)]; omega

theorem bulkL_take_le {α : Type} (f : α → Nat) (l : List α) (i : Nat) (h : i ≤ l.length) : bulkL f (l.take i) + (l.length - i) ≤ bulkL f l := by
  induction l generalizing i with
  | nil => simp [bulkL]
  | cons t r ih =>
    match i with
    | 0 => simp only [List.take_zero, bulkL, List.length_cons]; have := ih 0 (by omega); simp only [List.take_zero, bulkL] at this; omega
    | i + 1 => simp only [List.take_succ_cons, bulkL, List.length_cons]; have := ih i (by simpa using h); omega

theorem bulkL_take_ge {α : Type} (f : α → Nat) (l : List α) (i : Nat) (h : i ≤ l.length) : i ≤ bulkL f (l.take i) := by
  induction l generalizing i with
  | nil => simp at h; simp [h]
  | cons t r ih =>
    match i with
    | 0 => simp
    | i + 1 => simp only [List.take_succ_cons, bulkL]; have := ih i (by simpa using h); omega

theorem bulkL_mem {α : Type} (f : α → Nat) (l : List α) (t : α) (h : t ∈ l) : f t + 1 ≤ bulkL f l := by
  induction l with
  | nil => cases h
  | cons x r ih =>
    simp only [bulkL]
    cases h with
    | head => omega
    | tail _ h => have := ih h; omega

theorem bulkL_len {α : Type} (f : α → Nat) (l : List α) : l.length ≤ bulkL f l := by
  have := bulkL_take_ge f l l.length (Nat.le_refl _); rwa [List.take_length] at this

/-- what the laws' sz functions give back of what is left -/
def szv (b : Nat) (left : Int) : Int := if (b : Int) ≤ left then left - b else -1
theorem szv_le {b : Nat} {left : Int} (h : (b : Int) ≤ left) : szv b left = left - b := if_pos h
theorem szv_gt {b : Nat} {left : Int} (h : left < (b : Int)) : szv b left = -1 := if_neg (by omega)

end Go.Proofs.Ytgbcdfeflgnogaa
