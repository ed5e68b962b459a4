/- Several texts of this claim in one: Grow AppM Grx GTy. Conditions: none but bounds on sizes. -/
import Derived.Test.YtgbcdfeflgnogaaGreatMg3
import Derived.Maps.Range
import Derived.Maps.AppendAt
import Derived.Deep.AppendSrc
import Derived.Test.YtgbcdfeflgnogaaGreatMg0
/- A slice that a call lets grow and hands back (no program in sight): Gr says what has turned: the slice's own row and new blocks. Conditions: none. -/
namespace Go.Proofs.YtgbcdfeflgnogaaGreat
open Go.RowKit
set_option linter.unusedVariables false
set_option linter.unusedSimpArgs false

structure Gr (w w' : World) (v v' : Value) : Prop where
  grow : w.grownBy w' v.ownBlock
  own : v'.ownBlock = v.ownBlock ∨ ∃ g, v'.ownBlock = some g ∧ w.heap.size ≤ g
theorem Gr.refl (w : World) (v : Value) : Gr w w v v := ⟨⟨rfl, rfl, rfl, Nat.le_refl _, fun _ _ _ => rfl⟩, .inl rfl⟩
theorem Gr.size {w w' : World} {v v' : Value} (h : Gr w w' v v') : w.heap.size ≤ w'.heap.size := h.grow.size
theorem Gr.trans {a b c : World} {v v1 v2 : Value} (h : Gr a b v v1) (k : Gr b c v1 v2) : Gr a c v v2 := by
  refine ⟨h.grow.andThen k.grow fun j e => ?_, ?_⟩
  · rcases h.own with h1 | ⟨g, h1, h2⟩
    · exact .inr (h1.symm.trans e)
    · rw [h1] at e; cases e; exact .inl h2
  · rcases k.own with h1 | ⟨g, h1, h2⟩
    · rw [h1]; exact h.own
    · exact .inr ⟨g, h1, Nat.le_trans h.size h2⟩
theorem Gr.of_below {w w' : World} {v : Value} (h : Below w.heap.size w w') : Gr w w' v v := ⟨⟨h.os, h.tape, h.output, h.size, fun b hb _ => h.block b hb⟩, .inl rfl⟩
theorem Gr.alloc {w w' : World} {v v' : Value} (h : Gr w w' v v') (o : Obj) : Gr w (w'.alloc o) v v' := h.trans (Gr.of_below ((Below.refl _ _).alloc (Nat.le_refl _) _))
theorem Gr.below {B : Nat} {w w' : World} {v v' : Value} (h : Gr w w' v v') (hB : B ≤ w.heap.size) (hv : ∀ g, v.ownBlock = some g → B ≤ g) : Below B w w' :=
  ⟨h.grow.os, h.grow.tape, h.grow.output, h.size, fun b hb => h.grow.block b (by omega) fun e => by have := hv b e.symm; omega⟩
theorem Gr.row {w w' : World} {v v' : Value} {b : Nat} {T : TypeId} {cs : Array Value} (h : Gr w w' v v') (hr : Row w b T cs) (hne : v.ownBlock ≠ some b) : Row w' b T cs :=
  (h.grow.block b hr.lt fun e => hne e.symm).trans hr
theorem Gr.ne {w w' : World} {v v' : Value} {b : Nat} (h : Gr w w' v v') (hv : v.ownBlock ≠ some b) (hb : b < w.heap.size) : v'.ownBlock ≠ some b := by
  rcases h.own with h1 | ⟨g, h1, h2⟩
  · rw [h1]; exact hv
  · rw [h1]; intro e; cases e; omega
theorem Gsh.own {w : World} {B : Nat} {e : TypeId} {size : Nat} {v : Value} {n : Nat} {xs : List D} (h : Gsh w B e size v n xs) : ∀ g, v.ownBlock = some g → B ≤ g ∧ g < w.heap.size := by
  obtain ⟨h1, cs, h2, h4⟩ := h
  exact fun g hg => h2.lt g hg
theorem Gsh.form {w : World} {B : Nat} {e : TypeId} {size : Nat} {v : Value} {n : Nat} {xs : List D} (h : Gsh w B e size v n xs) : ∃ A c, v = .slice A n c := by
  obtain ⟨h1, cs, h2, h4⟩ := h
  rcases h2.2 with ⟨rfl, h0⟩ | ⟨g, cap, cur, rfl, _⟩
  · exact ⟨none, 0, by rw [h0]⟩
  · exact ⟨_, cap, rfl⟩

theorem wpList_append_G {P : Program} (w : World) {ops : Array Oper} {rest : List Oper} {o : Oper} {a : Act} {Q : Exit → Act → World → Prop} (hgd : o.guard = none) (s x : Operand) (t : TypeId) (ho : o.op = .call { callee := .builtin .append, args := #[s, x], argTypes := #[t, t] })
    (e : TypeId) (z : Value) (size bytes : Nat) (ht : P.underlying t = some (.slice e)) (hi : (P.info? e).map (fun i => (i.zero, i.size, i.bytes)) = some (some z, size, bytes)) (hzs : z.cells.size = size) (hsz : 0 < size)
    (B : Nat) (v : Value) (n : Nat) (xs : List D) (hg : Gsh w B e size v n xs) (d : D) (cs : List Value) (hd : d.rd w (Lt B) cs) (hB : B ≤ w.heap.size) (hcs : cs.length = size) (h1 : ∀ u ∈ cs, u.oneCell' = true)
    (hn : n < 1048577) (hby : bytes ≤ 1048576) (e' : TypeId) (hs : a.eval s = v) (A : Nat) (hA : A = w.heap.size) (hx : a.eval x = .slice (some ⟨A, 0, none⟩) 1 1)
    (h : ∀ g cap w', Gsh w' B e size (.slice (some ⟨g, 0, none⟩) (n + 1) cap) (n + 1) (xs ++ [d]) → Gr w w' v (.slice (some ⟨g, 0, none⟩) (n + 1) cap) → wpList P ops Q rest (a.put o.dst (.slice (some ⟨g, 0, none⟩) (n + 1) cap)) w') : wpList P ops Q (o :: rest) a (w.alloc (.cells cs.toArray e')) := by
  obtain ⟨i, i1, i2, i3, i4⟩ := info_parts hi
  obtain ⟨hxs, cells, g2, g4⟩ := id hg
  have e1 : w.heap.size < (w.alloc (.cells cs.toArray e')).heap.size := by simp
  have hga := g2.alloc (.cells cs.toArray e')
  have hnews : ∀ j u, cs[j]? = some u → (w.alloc (.cells cs.toArray e')).cell? ((⟨A, 0, none⟩ : Addr).add j) = some u := fun j u hu => by
    subst hA
    exact World.news_of_block (cs := cs.toArray) (heap_alloc_new w _) j u (by simpa using hu)
  have hbt : (n + 1) * bytes ≤ 140737488355328 := Nat.le_trans (Nat.mul_le_mul (show n + 1 ≤ 1048577 by omega) hby) (by omega)
  refine wpList_append_lies (w.alloc (.cells cs.toArray e')) hgd s x t ho B e i z size bytes ht i1 i2 i3 i4 hzs hsz v n cells hs hga ⟨A, 0, none⟩ 1 1 cs hx (by omega) hnews h1 (by omega) (by unfold maxLen; omega) hbt (by simp; omega) _ rfl fun g cap w' h2 h3 h4 h5 => h g cap w' (Gsh.step (e' := e') hB hxs (fun g hg => (g2.lt g hg).1) g4 hd hcs h2 h3) ?_
  refine (Gr.of_below ((Below.refl _ _).alloc (Nat.le_refl _) _)).trans ⟨h3, ?_⟩
  rcases h4 with h4 | h4
  · exact .inl h4.symm
  · exact .inr ⟨g, rfl, by omega⟩

theorem step_append_G {P : Program} (w : World) {ops : Array Oper} {o : Oper} {a : Act} {K : Act → World → Prop} {Q : Exit → Act → World → Prop} {E : Prop} (hgd : o.guard = none) (s x : Operand) (t : TypeId) (ho : o.op = .call { callee := .builtin .append, args := #[s, x], argTypes := #[t, t] })
    (e : TypeId) (z : Value) (size bytes : Nat) (ht : P.underlying t = some (.slice e)) (hi : (P.info? e).map (fun i => (i.zero, i.size, i.bytes)) = some (some z, size, bytes)) (hzs : z.cells.size = size) (hsz : 0 < size)
    (B : Nat) (v : Value) (n : Nat) (xs : List D) (hg : Gsh w B e size v n xs) (d : D) (cs : List Value) (hd : d.rd w (Lt B) cs) (hB : B ≤ w.heap.size) (hcs : cs.length = size) (h1 : ∀ u ∈ cs, u.oneCell' = true)
    (hn : n < 1048577) (hby : bytes ≤ 1048576) (e' : TypeId) (hs : a.eval s = v) (A : Nat) (hA : A = w.heap.size) (hx : a.eval x = .slice (some ⟨A, 0, none⟩) 1 1)
    (h : ∀ g cap w', Gsh w' B e size (.slice (some ⟨g, 0, none⟩) (n + 1) cap) (n + 1) (xs ++ [d]) → Gr w w' v (.slice (some ⟨g, 0, none⟩) (n + 1) cap) → K (a.put o.dst (.slice (some ⟨g, 0, none⟩) (n + 1) cap)) w') : if Region.wanted o (yielded ops a.tmps) = true then Oper.wp P o a (w.alloc (.cells cs.toArray e')) K Q else E := by
  obtain ⟨i, i1, i2, i3, i4⟩ := info_parts hi
  obtain ⟨hxs, cells, g2, g4⟩ := id hg
  have e1 : w.heap.size < (w.alloc (.cells cs.toArray e')).heap.size := by simp
  have hga := g2.alloc (.cells cs.toArray e')
  have hnews : ∀ j u, cs[j]? = some u → (w.alloc (.cells cs.toArray e')).cell? ((⟨A, 0, none⟩ : Addr).add j) = some u := fun j u hu => by
    subst hA
    exact World.news_of_block (cs := cs.toArray) (heap_alloc_new w _) j u (by simpa using hu)
  have hbt : (n + 1) * bytes ≤ 140737488355328 := Nat.le_trans (Nat.mul_le_mul (show n + 1 ≤ 1048577 by omega) hby) (by omega)
  refine step_append_lies (w.alloc (.cells cs.toArray e')) hgd s x t ho B e i z size bytes ht i1 i2 i3 i4 hzs hsz v n cells hs hga ⟨A, 0, none⟩ 1 1 cs hx (by omega) hnews h1 (by omega) (by unfold maxLen; omega) hbt (by simp; omega) _ rfl fun g cap w' h2 h3 h4 h5 => h g cap w' (Gsh.step (e' := e') hB hxs (fun g hg => (g2.lt g hg).1) g4 hd hcs h2 h3) ?_
  refine (Gr.of_below ((Below.refl _ _).alloc (Nat.le_refl _) _)).trans ⟨h3, ?_⟩
  rcases h4 with h4 | h4
  · exact .inl h4.symm
  · exact .inr ⟨g, rfl, by omega⟩

/-- a call that lets a slice grow: what it hands back -/
def Grows {α : Type} (f : α → D) (e : TypeId) (size : Nat) (B : Nat) (ys : List α) (v : Value) (w : World) (en : Ending) (w' : World) : Prop :=
  ∃ A c, en = .returned (.slice A ys.length c) ∧ Gsh w' B e size (.slice A ys.length c) ys.length (ys.map f) ∧ Gr w w' v (.slice A ys.length c)
end Go.Proofs.YtgbcdfeflgnogaaGreat

/- append of many data onto a slice of one's own; its data may lie anywhere but in its own row (no program in sight). Conditions: none. -/
namespace Go.Proofs.YtgbcdfeflgnogaaGreat
open Go.RowKit
set_option linter.unusedVariables false
set_option linter.unusedSimpArgs false

theorem run_append_many {P : Program} (w : World) (base : Nat) (t ty e : TypeId) (i : TypeInfo) (z : Value) (size bytes : Nat) (ht : P.underlying t = some (.slice e)) (hi : P.info? e = some i) (hz : i.zero = some z)
    (hsize : i.size = size) (hby : i.bytes = bytes) (hzs : z.cells.size = size) (hsz : 0 < size)
    (v : Value) (n : Nat) (xs : List Value) (hown : w.ownsRow base e size v n xs)
    (A : Option Addr) (m c : Nat) (news : List Value) (hA : A = none → m = 0) (hl : news.length = m * size) (hnews : ∀ a, A = some a → ∀ j u, news[j]? = some u → w.cell? (a.add j) = some u) (h1 : ∀ u ∈ news, u.oneCell' = true)
    (h63 : n + m ≤ maxLen) (hbytes : (n + m) * bytes ≤ 140737488355328) (hbase : base ≤ w.heap.size) :
    ∃ v' w', (Builtin.append_ #[t, t] ty #[v, .slice A m c]).run P w = .ok v' w' ∧ w'.ownsRow base e size v' (n + m) (xs ++ news) ∧ w.grownBy w' v.ownBlock ∧ (v'.ownBlock = v.ownBlock ∨ v'.ownBlock = some w.heap.size) := by
  match A with
  | some a =>
    obtain ⟨v', w', a1, a2, a3, _, a4⟩ := run_append_own_at (P := P) w base t ty e i z size bytes ht hi hz hsize hby hzs hsz v n xs hown a m c news hl (hnews a rfl) h1 h63 hbytes hbase
    exact ⟨v', w', a1, a2, a3, a4⟩
  | none =>
    have hm := hA rfl
    subst hm
    have hn : news = [] := List.eq_nil_of_length_eq_zero (by simpa using hl)
    subst hn
    subst hsize
    subst hby
    refine ⟨v, w, ?_, by simpa using hown, ⟨rfl, rfl, rfl, Nat.le_refl _, fun _ _ _ => rfl⟩, .inl rfl⟩
    rcases hown.2 with ⟨rfl, rfl⟩ | ⟨g, cap, cur, rfl, hbg, hg, hnc, hcm, hcs, htake⟩
    · simp [Builtin.append_, run_underlying ht, sizeOf, typeInfo, hi, Builtin.lenOf, Builtin.firstCells, loadCells, loadCellsFrom]
    · have hr := run_append_room_src (P := P) w t t ty e i ht hi g 0 n cap (.slice none 0 c) 0 [] (Src.ofNil w ht c) (by omega) (by simp) (by simp)
      simpa [World.setCells] using hr

mutual
/-- data's cells are one cell each -/
theorem D.rd_one {w : World} {S : Nat → Prop} : ∀ (d : D) (cs : List Value), d.rd w S cs → ∀ u ∈ cs, u.oneCell' = true
  | .num k n, cs, h, u, hu => by obtain ⟨rfl, _⟩ := D.rd_num.1 h; simp at hu; subst hu; rfl
  | .str s, cs, h, u, hu => by obtain ⟨rfl, _⟩ := D.rd_str.1 h; simp at hu; subst hu; rfl
  | .bool b, cs, h, u, hu => by obtain rfl := D.rd_bool.1 h; simp at hu; subst hu; rfl
  | .agg fs, cs, h, u, hu => D.rdF_one fs cs (D.rd_agg.1 h) u hu
  | .sl size xs, cs, h, u, hu => by obtain ⟨A, c, rfl, _⟩ := D.rd_sl.1 h; simp at hu; subst hu; rfl
theorem D.rdF_one {w : World} {S : Nat → Prop} : ∀ (fs : List D) (cs : List Value), D.rdF w S fs cs → ∀ u ∈ cs, u.oneCell' = true
  | [], cs, h, u, hu => by obtain rfl := D.rdF_nil.1 h; simp at hu
  | d :: r, cs, h, u, hu => by
    obtain ⟨c1, c2, rfl, h1, h2⟩ := D.rdF_cons.1 h
    rcases List.mem_append.1 hu with hu | hu
    · exact D.rd_one d c1 h1 u hu
    · exact D.rdF_one r c2 h2 u hu
end
theorem rdC_one {w : World} {size : Nat} {S : Nat → Prop} : ∀ (xs : List D) (cs : List Value), rdC w size S xs cs → ∀ u ∈ cs, u.oneCell' = true
  | [], cs, h, u, hu => by simp only [rdC] at h; subst h; simp at hu
  | d :: r, cs, h, u, hu => by
    simp only [rdC] at h
    obtain ⟨c1, c2, rfl, hl, h1, h2⟩ := h
    rcases List.mem_append.1 hu with hu | hu
    · exact D.rd_one d c1 h1 u hu
    · exact rdC_one r c2 h2 u hu
theorem rdC_length {w : World} {size : Nat} {S : Nat → Prop} : ∀ (xs : List D) (cs : List Value), rdC w size S xs cs → cs.length = xs.length * size
  | [], cs, h => by simp only [rdC] at h; simp [h]
  | d :: r, cs, h => by
    simp only [rdC] at h
    obtain ⟨c1, c2, rfl, hl, _, h2⟩ := h
    have := rdC_length r c2 h2
    rw [List.length_append, hl, this, List.length_cons, Nat.add_mul]; omega
theorem rdC_append {w : World} {size : Nat} {S : Nat → Prop} {ys : List D} {es : List Value} (hy : rdC w size S ys es) : ∀ (xs : List D) (cs : List Value), rdC w size S xs cs → rdC w size S (xs ++ ys) (cs ++ es)
  | [], cs, h => by simp only [rdC] at h; subst h; simpa using hy
  | d :: r, cs, h => by
    simp only [rdC, List.cons_append] at h ⊢
    obtain ⟨c1, c2, rfl, hl, h1, h2⟩ := h
    exact ⟨c1, c2 ++ es, by simp, hl, h1, rdC_append hy r c2 h2⟩
/-- the cells of a row that reads as data -/
theorem rdR_cells {w : World} {size b : Nat} {S : Nat → Prop} : ∀ (xs : List D) (off : Nat), D.rdR w S size b xs off → ∃ cs, rdC w size S xs cs ∧ ∀ j u, cs[j]? = some u → w.cell? ⟨b, off + j, none⟩ = some u
  | [], off, _ => ⟨[], rfl, fun j u h => by simp at h⟩
  | d :: r, off, h => by
    simp only [D.rdR] at h
    obtain ⟨⟨c1, hl, hc, h1⟩, h2⟩ := h
    obtain ⟨c2, k1, k2⟩ := rdR_cells r (off + size) h2
    refine ⟨c1 ++ c2, by simp only [rdC]; exact ⟨c1, c2, rfl, hl, h1, k1⟩, fun j u hj => ?_⟩
    by_cases hlt : j < c1.length
    · rw [List.getElem?_append_left hlt] at hj; exact hc j u hj
    · rw [List.getElem?_append_right (by omega)] at hj
      have := k2 (j - c1.length) u hj
      rwa [show off + size + (j - c1.length) = off + j by omega] at this

theorem rdR_take {w : World} {size b : Nat} {S : Nat → Prop} : ∀ (xs : List D) (off j : Nat), D.rdR w S size b xs off → D.rdR w S size b (xs.take j) off
  | [], _, j, h => by simpa using h
  | x :: r, off, 0, h => by simp only [List.take_zero, D.rdR]
  | x :: r, off, j + 1, h => by
    simp only [List.take_succ_cons, D.rdR] at h ⊢
    exact ⟨h.1, rdR_take r (off + size) j h.2⟩
theorem rdR_drop {w : World} {size b : Nat} {S : Nat → Prop} : ∀ (xs : List D) (off j : Nat), D.rdR w S size b xs off → D.rdR w S size b (xs.drop j) (off + j * size)
  | [], _, j, h => by simp only [List.drop_nil, D.rdR]
  | x :: r, off, 0, h => by simpa using h
  | x :: r, off, j + 1, h => by
    simp only [D.rdR] at h
    have := rdR_drop r (off + size) j h.2
    rw [List.drop_succ_cons, Nat.add_mul, Nat.one_mul, show off + (j * size + size) = off + size + j * size by omega]
    exact this
theorem Sl.take {w : World} {S : Nat → Prop} {size : Nat} {A : Option Addr} {c : Nat} {xs : List D} (h : Sl w S size A c xs) (j : Nat) : Sl w S size A c (xs.take j) := by
  obtain ⟨h1, h2, h3⟩ := h
  refine ⟨by rw [List.length_take]; omega, h2, ?_⟩
  rcases h3 with rfl | ⟨b, off, e, hS, hr⟩
  · exact .inl (by simp)
  · exact .inr ⟨b, off, e, hS, rdR_take xs off j hr⟩
theorem Sl.drop {w : World} {S : Nat → Prop} {size b off c : Nat} {xs : List D} (h : Sl w S size (some ⟨b, off, none⟩) c xs) (j : Nat) (hj : j ≤ xs.length) : Sl w S size (some ⟨b, off + j * size, none⟩) (c - j) (xs.drop j) := by
  obtain ⟨h1, h2, h3⟩ := h
  refine ⟨by rw [List.length_drop]; omega, by omega, ?_⟩
  rcases h3 with rfl | ⟨b', off', e, hS, hr⟩
  · exact .inl (by simp)
  · obtain ⟨rfl, rfl⟩ : b = b' ∧ off = off' := by simpa using e
    exact .inr ⟨b, off + j * size, rfl, hS, rdR_drop xs off j hr⟩

/-- a slice that grows: nil, or a row of one's own from block B on; its data lie anywhere but in that row -/
def Gre (w : World) (B : Nat) (e : TypeId) (size : Nat) (v : Value) (n : Nat) (xs : List D) : Prop :=
  xs.length = n ∧ ∃ cs, w.ownsRow B e size v n cs ∧ rdC w size (fun b => b < w.heap.size ∧ v.ownBlock ≠ some b) xs cs
theorem Gre.nil (w : World) (B : Nat) (e : TypeId) (size : Nat) : Gre w B e size (.slice none 0 0) 0 [] := ⟨rfl, [], World.ownsRow_nil w B e size, rfl⟩
theorem Gre.made {w : World} {B g : Nat} {e : TypeId} {size : Nat} (hr : Row w g e #[]) (hB : B ≤ g) : Gre w B e size (.slice (some ⟨g, 0, none⟩) 0 0) 0 [] :=
  ⟨rfl, [], ⟨by simp, .inr ⟨g, 0, #[], rfl, hB, hr, Nat.le_refl _, by unfold maxLen; omega, by simp, by simp⟩⟩, rfl⟩
theorem Gre.of_gsh {w : World} {B : Nat} {e : TypeId} {size : Nat} {v : Value} {n : Nat} {xs : List D} (h : Gsh w B e size v n xs) (hB : B ≤ w.heap.size) : Gre w B e size v n xs := by
  have ho := h.own
  obtain ⟨h1, cs, h2, h4⟩ := h
  refine ⟨h1, cs, h2, rdC_keep (fun b hb => ⟨⟨Nat.lt_of_lt_of_le hb hB, fun e => ?_⟩, rfl⟩) xs cs h4⟩
  have := (ho b e).1
  have : b < B := hb
  omega
theorem Gre.own {w : World} {B : Nat} {e : TypeId} {size : Nat} {v : Value} {n : Nat} {xs : List D} (h : Gre w B e size v n xs) : ∀ g, v.ownBlock = some g → B ≤ g ∧ g < w.heap.size := by
  obtain ⟨h1, cs, h2, h4⟩ := h
  exact fun g hg => h2.lt g hg
theorem Gre.form {w : World} {B : Nat} {e : TypeId} {size : Nat} {v : Value} {n : Nat} {xs : List D} (h : Gre w B e size v n xs) : ∃ A c, v = .slice A n c := by
  obtain ⟨h1, cs, h2, h4⟩ := h
  rcases h2.2 with ⟨rfl, h0⟩ | ⟨g, cap, cur, rfl, _⟩
  · exact ⟨none, 0, by rw [h0]⟩
  · exact ⟨_, cap, rfl⟩
/-- what reads as data anywhere but in a row is kept where that row and new blocks alone turn -/
theorem Gre.keep {w w' : World} {B : Nat} {e : TypeId} {size : Nat} {v : Value} {n : Nat} {xs : List D} (h : Gre w B e size v n xs) (hs : w.heap.size ≤ w'.heap.size) (hk : ∀ b, b < w.heap.size → w'.heap[b]? = w.heap[b]?) : Gre w' B e size v n xs := by
  have ho := h.own
  obtain ⟨h1, cs, h2, h4⟩ := h
  refine ⟨h1, cs, ⟨h2.1, ?_⟩, rdC_keep (fun b hb => ⟨⟨Nat.lt_of_lt_of_le hb.1 hs, hb.2⟩, hk b hb.1⟩) xs cs h4⟩
  rcases h2.2 with h | ⟨g, cap, cur, rfl, a1, a2, a3⟩
  · exact .inl h
  · exact .inr ⟨g, cap, cur, rfl, a1, (hk g (ho g rfl).2).trans a2, a3⟩
theorem Gre.below {w w' : World} {B : Nat} {e : TypeId} {size : Nat} {v : Value} {n : Nat} {xs : List D} (h : Gre w B e size v n xs) (hb : Below w.heap.size w w') : Gre w' B e size v n xs := h.keep hb.size hb.block
theorem Gre.sl {w : World} {B : Nat} {e : TypeId} {size : Nat} {v : Value} {n : Nat} {xs : List D} (h : Gre w B e size v n xs) : ∃ A c, v = .slice A n c ∧ Sl w (Lt w.heap.size) size A c xs := by
  have hlt := h.own
  obtain ⟨h1, cs, h2, h4⟩ := h
  rcases h2.2 with ⟨rfl, h⟩ | ⟨g, cap, cur, rfl, a1, a2, a3, a4, a5, a6⟩
  · have : xs = [] := List.eq_nil_of_length_eq_zero (by omega)
    subst this
    exact ⟨none, 0, by rw [h], Sl.nil (by unfold maxLen; omega)⟩
  · refine ⟨_, cap, rfl, by omega, a4, .inr ⟨g, 0, rfl, (hlt g rfl).2, ?_⟩⟩
    refine rdC_row xs cs 0 (fun j v hj => ?_) (rdC_keep (fun b hb => ⟨hb.1, rfl⟩) xs cs h4)
    rw [Nat.zero_add, Row.cell (t := e) (cs := cur) a2]
    rw [← a6, List.getElem?_take] at hj
    split at hj
    · simpa using hj
    · cases hj

/-- the step itself -/
theorem Gre.step {P : Program} (w : World) (t ty e : TypeId) (z : Value) (size bytes : Nat) (ht : P.underlying t = some (.slice e)) (hi : (P.info? e).map (fun i => (i.zero, i.size, i.bytes)) = some (some z, size, bytes)) (hzs : z.cells.size = size) (hsz : 0 < size)
    (B : Nat) (v : Value) (n : Nat) (xs : List D) (hg : Gre w B e size v n xs) (A : Option Addr) (c m : Nat) (ys : List D) (hm : ys.length = m) (hy : Sl w (fun b => b < w.heap.size ∧ v.ownBlock ≠ some b) size A c ys) (hB : B ≤ w.heap.size)
    (hn : n + m ≤ maxLen) (hbt : (n + m) * bytes ≤ 140737488355328) :
    ∃ A' c' w', (Builtin.append_ #[t, t] ty #[v, .slice A m c]).run P w = .ok (.slice A' (n + m) c') w' ∧ Gre w' B e size (.slice A' (n + m) c') (n + m) (xs ++ ys) ∧ Gr w w' v (.slice A' (n + m) c') := by
  obtain ⟨i, i1, i2, i3, i4⟩ := info_parts hi
  have ho := hg.own
  obtain ⟨hxs, cells, g2, g4⟩ := id hg
  obtain ⟨es, k1, k2, k3⟩ : ∃ es, rdC w size (fun b => b < w.heap.size ∧ v.ownBlock ≠ some b) ys es ∧ (A = none → m = 0) ∧ ∀ a, A = some a → ∀ j u, es[j]? = some u → w.cell? (a.add j) = some u := by
    rcases hy.2.2 with rfl | ⟨b, off, rfl, hS, hr⟩
    · exact ⟨[], rfl, fun _ => by simpa using hm.symm, fun _ _ j u h => by simp at h⟩
    · obtain ⟨es, h1, h2⟩ := rdR_cells ys off hr
      refine ⟨es, h1, fun h => by simp at h, fun a ha j u hj => ?_⟩
      obtain rfl : ⟨b, off, none⟩ = a := by simpa using ha
      have hadd : (⟨b, off, none⟩ : Addr).add j = ⟨b, off + j, none⟩ := by unfold Addr.add; split <;> simp_all
      rw [hadd]; exact h2 j u hj
  obtain ⟨v', w', hr, hown, hgr, hat⟩ := run_append_many (P := P) w B t ty e i z size bytes ht i1 i2 i3 i4 hzs hsz v n cells g2 A m c es k2 (by rw [rdC_length _ _ k1, hm]) k3 (rdC_one _ _ k1) hn hbt hB
  have hfm : ∃ A' c', v' = .slice A' (n + m) c' := by
    rcases hown.2 with ⟨rfl, h0⟩ | ⟨g, cap, cur, rfl, _⟩
    · exact ⟨none, 0, by rw [h0]⟩
    · exact ⟨_, cap, rfl⟩
  obtain ⟨A', c', rfl⟩ := hfm
  have hG : Gr w w' v (.slice A' (n + m) c') := ⟨hgr, hat.imp id fun h => ⟨_, h, Nat.le_refl _⟩⟩
  refine ⟨A', c', w', hr, ⟨by simp [hxs, hm], cells ++ es, hown, rdC_keep (fun b hb => ⟨⟨Nat.lt_of_lt_of_le hb.1 hgr.size, hG.ne hb.2 hb.1⟩, hgr.block b hb.1 fun e => hb.2 e.symm⟩) _ _ (rdC_append k1 _ _ g4)⟩, hG⟩

theorem wp_append_M {P : Program} {o : Oper} {a : Act} {K : Act → World → Prop} {Q : Exit → Act → World → Prop} (w : World) (s x : Operand) (t : TypeId) (ho : o.op = .call { callee := .builtin .append, args := #[s, x], argTypes := #[t, t] })
    (e : TypeId) (z : Value) (size bytes : Nat) (ht : P.underlying t = some (.slice e)) (hi : (P.info? e).map (fun i => (i.zero, i.size, i.bytes)) = some (some z, size, bytes)) (hzs : z.cells.size = size) (hsz : 0 < size)
    (B : Nat) (v : Value) (n : Nat) (xs : List D) (hg : Gre w B e size v n xs) (A : Option Addr) (c m : Nat) (ys : List D) (hm : ys.length = m) (hy : Sl w (fun b => b < w.heap.size ∧ v.ownBlock ≠ some b) size A c ys) (hB : B ≤ w.heap.size)
    (hn : n + m ≤ maxLen) (hbt : (n + m) * bytes ≤ 140737488355328) (hs : a.eval s = v) (hx : a.eval x = .slice A m c)
    (h : ∀ A' c' w', Gre w' B e size (.slice A' (n + m) c') (n + m) (xs ++ ys) → Gr w w' v (.slice A' (n + m) c') → K (a.put o.dst (.slice A' (n + m) c')) w') : o.wp P a w K Q := by
  obtain ⟨A', c', w', hr, h2, h3⟩ := Gre.step (P := P) w t o.type e z size bytes ht hi hzs hsz B v n xs hg A c m ys hm hy hB hn hbt
  unfold Oper.wp execOp
  simp only [ho, resolve, invoke, builtin, Sem.run_bind, Sem.run_pure, Result.andThen_ok, List.map_toArray, List.map_cons, List.map_nil, hs, hx, hr]
  exact h A' c' w' h2 h3
theorem wpList_append_M {P : Program} {ops : Array Oper} {rest : List Oper} {o : Oper} {a : Act} {Q : Exit → Act → World → Prop} (w : World) (hgd : o.guard = none) (s x : Operand) (t : TypeId) (ho : o.op = .call { callee := .builtin .append, args := #[s, x], argTypes := #[t, t] })
    (e : TypeId) (z : Value) (size bytes : Nat) (ht : P.underlying t = some (.slice e)) (hi : (P.info? e).map (fun i => (i.zero, i.size, i.bytes)) = some (some z, size, bytes)) (hzs : z.cells.size = size) (hsz : 0 < size)
    (B : Nat) (v : Value) (n : Nat) (xs : List D) (hg : Gre w B e size v n xs) (A : Option Addr) (c m : Nat) (ys : List D) (hm : ys.length = m) (hy : Sl w (fun b => b < w.heap.size ∧ v.ownBlock ≠ some b) size A c ys) (hB : B ≤ w.heap.size)
    (hn : n + m ≤ maxLen) (hbt : (n + m) * bytes ≤ 140737488355328) (hs : a.eval s = v) (hx : a.eval x = .slice A m c)
    (h : ∀ A' c' w', Gre w' B e size (.slice A' (n + m) c') (n + m) (xs ++ ys) → Gr w w' v (.slice A' (n + m) c') → wpList P ops Q rest (a.put o.dst (.slice A' (n + m) c')) w') : wpList P ops Q (o :: rest) a w :=
  wpList_plain hgd fun _ hK => wp_append_M w s x t ho e z size bytes ht hi hzs hsz B v n xs hg A c m ys hm hy hB hn hbt hs hx fun A' c' w' h2 h3 => hK _ _ (h A' c' w' h2 h3)
theorem step_append_M {P : Program} {ops : Array Oper} {o : Oper} {a : Act} {K : Act → World → Prop} {Q : Exit → Act → World → Prop} {E : Prop} (w : World) (hgd : o.guard = none) (s x : Operand) (t : TypeId) (ho : o.op = .call { callee := .builtin .append, args := #[s, x], argTypes := #[t, t] })
    (e : TypeId) (z : Value) (size bytes : Nat) (ht : P.underlying t = some (.slice e)) (hi : (P.info? e).map (fun i => (i.zero, i.size, i.bytes)) = some (some z, size, bytes)) (hzs : z.cells.size = size) (hsz : 0 < size)
    (B : Nat) (v : Value) (n : Nat) (xs : List D) (hg : Gre w B e size v n xs) (A : Option Addr) (c m : Nat) (ys : List D) (hm : ys.length = m) (hy : Sl w (fun b => b < w.heap.size ∧ v.ownBlock ≠ some b) size A c ys) (hB : B ≤ w.heap.size)
    (hn : n + m ≤ maxLen) (hbt : (n + m) * bytes ≤ 140737488355328) (hs : a.eval s = v) (hx : a.eval x = .slice A m c)
    (h : ∀ A' c' w', Gre w' B e size (.slice A' (n + m) c') (n + m) (xs ++ ys) → Gr w w' v (.slice A' (n + m) c') → K (a.put o.dst (.slice A' (n + m) c')) w') : if Region.wanted o (yielded ops a.tmps) = true then Oper.wp P o a w K Q else E := by
  have hw : Region.wanted o (yielded ops a.tmps) = true := by simp [Region.wanted, hgd]
  rw [if_pos hw]
  exact wp_append_M w s x t ho e z size bytes ht hi hzs hsz B v n xs hg A c m ys hm hy hB hn hbt hs hx h
end Go.Proofs.YtgbcdfeflgnogaaGreat

/- Growing slices of one's own whose data lie in given blocks (X), never in the row itself: append of many data (no program in sight). Conditions: none. -/
namespace Go.Proofs.YtgbcdfeflgnogaaGreat
open Go.RowKit
set_option linter.unusedVariables false
set_option linter.unusedSimpArgs false

/-- a slice that grows: nil, or a row of one's own from block B on; its data lie anywhere but in that row -/
def Grx (X : Nat → Prop) (w : World) (B : Nat) (e : TypeId) (size : Nat) (v : Value) (n : Nat) (xs : List D) : Prop :=
  xs.length = n ∧ ∃ cs, w.ownsRow B e size v n cs ∧ rdC w size (fun b => b < w.heap.size ∧ v.ownBlock ≠ some b ∧ X b) xs cs
theorem Grx.nil (X : Nat → Prop) (w : World) (B : Nat) (e : TypeId) (size : Nat) : Grx X w B e size (.slice none 0 0) 0 [] := ⟨rfl, [], World.ownsRow_nil w B e size, rfl⟩
theorem Grx.made {X : Nat → Prop} {w : World} {B g : Nat} {e : TypeId} {size : Nat} (hr : Row w g e #[]) (hB : B ≤ g) : Grx X w B e size (.slice (some ⟨g, 0, none⟩) 0 0) 0 [] :=
  ⟨rfl, [], ⟨by simp, .inr ⟨g, 0, #[], rfl, hB, hr, Nat.le_refl _, by unfold maxLen; omega, by simp, by simp⟩⟩, rfl⟩
theorem Grx.roomy {X : Nat → Prop} {w : World} {B g c : Nat} {e : TypeId} {size : Nat} {cs : Array Value} (hr : Row w g e cs) (hB : B ≤ g) (hc : c ≤ maxLen) (hs : cs.size = c * size) : Grx X w B e size (.slice (some ⟨g, 0, none⟩) 0 c) 0 [] :=
  ⟨rfl, [], ⟨by simp, .inr ⟨g, c, cs, rfl, hB, hr, Nat.zero_le _, hc, hs, by simp⟩⟩, rfl⟩
theorem Grx.own {X : Nat → Prop} {w : World} {B : Nat} {e : TypeId} {size : Nat} {v : Value} {n : Nat} {xs : List D} (h : Grx X w B e size v n xs) : ∀ g, v.ownBlock = some g → B ≤ g ∧ g < w.heap.size := by
  obtain ⟨h1, cs, h2, h4⟩ := h
  exact fun g hg => h2.lt g hg
theorem Grx.form {X : Nat → Prop} {w : World} {B : Nat} {e : TypeId} {size : Nat} {v : Value} {n : Nat} {xs : List D} (h : Grx X w B e size v n xs) : ∃ A c, v = .slice A n c := by
  obtain ⟨h1, cs, h2, h4⟩ := h
  rcases h2.2 with ⟨rfl, h0⟩ | ⟨g, cap, cur, rfl, _⟩
  · exact ⟨none, 0, by rw [h0]⟩
  · exact ⟨_, cap, rfl⟩
/-- what reads as data anywhere but in a row is kept where that row and new blocks alone turn -/
theorem Grx.keep {X : Nat → Prop} {w w' : World} {B : Nat} {e : TypeId} {size : Nat} {v : Value} {n : Nat} {xs : List D} (h : Grx X w B e size v n xs) (hs : w.heap.size ≤ w'.heap.size) (hk : ∀ b, b < w.heap.size → w'.heap[b]? = w.heap[b]?) : Grx X w' B e size v n xs := by
  have ho := h.own
  obtain ⟨h1, cs, h2, h4⟩ := h
  refine ⟨h1, cs, ⟨h2.1, ?_⟩, rdC_keep (fun b hb => ⟨⟨Nat.lt_of_lt_of_le hb.1 hs, hb.2⟩, hk b hb.1⟩) xs cs h4⟩
  rcases h2.2 with h | ⟨g, cap, cur, rfl, a1, a2, a3⟩
  · exact .inl h
  · exact .inr ⟨g, cap, cur, rfl, a1, (hk g (ho g rfl).2).trans a2, a3⟩
theorem Grx.below {X : Nat → Prop} {w w' : World} {B : Nat} {e : TypeId} {size : Nat} {v : Value} {n : Nat} {xs : List D} (h : Grx X w B e size v n xs) (hb : Below w.heap.size w w') : Grx X w' B e size v n xs := h.keep hb.size hb.block
theorem Grx.sl {X : Nat → Prop} {w : World} {B : Nat} {e : TypeId} {size : Nat} {v : Value} {n : Nat} {xs : List D} (h : Grx X w B e size v n xs) (hX : ∀ b, B ≤ b → X b) : ∃ A c, v = .slice A n c ∧ Sl w (fun b => b < w.heap.size ∧ X b) size A c xs := by
  have hlt := h.own
  obtain ⟨h1, cs, h2, h4⟩ := h
  rcases h2.2 with ⟨rfl, h⟩ | ⟨g, cap, cur, rfl, a1, a2, a3, a4, a5, a6⟩
  · have : xs = [] := List.eq_nil_of_length_eq_zero (by omega)
    subst this
    exact ⟨none, 0, by rw [h], Sl.nil (by unfold maxLen; omega)⟩
  · refine ⟨_, cap, rfl, by omega, a4, .inr ⟨g, 0, rfl, ⟨(hlt g rfl).2, hX g (hlt g rfl).1⟩, ?_⟩⟩
    refine rdC_row xs cs 0 (fun j v hj => ?_) (rdC_keep (fun b hb => ⟨⟨hb.1, hb.2.2⟩, rfl⟩) xs cs h4)
    rw [Nat.zero_add, Row.cell (t := e) (cs := cur) a2]
    rw [← a6, List.getElem?_take] at hj
    split at hj
    · simpa using hj
    · cases hj

/-- the step itself -/
theorem Grx.step {P : Program} {X : Nat → Prop} (w : World) (t ty e : TypeId) (z : Value) (size bytes : Nat) (ht : P.underlying t = some (.slice e)) (hi : (P.info? e).map (fun i => (i.zero, i.size, i.bytes)) = some (some z, size, bytes)) (hzs : z.cells.size = size) (hsz : 0 < size)
    (B : Nat) (v : Value) (n : Nat) (xs : List D) (hg : Grx X w B e size v n xs) (A : Option Addr) (c m : Nat) (ys : List D) (hm : ys.length = m) (hy : Sl w (fun b => b < w.heap.size ∧ v.ownBlock ≠ some b ∧ X b) size A c ys) (hB : B ≤ w.heap.size)
    (hn : n + m ≤ maxLen) (hbt : (n + m) * bytes ≤ 140737488355328) :
    ∃ A' c' w', (Builtin.append_ #[t, t] ty #[v, .slice A m c]).run P w = .ok (.slice A' (n + m) c') w' ∧ Grx X w' B e size (.slice A' (n + m) c') (n + m) (xs ++ ys) ∧ Gr w w' v (.slice A' (n + m) c') := by
  obtain ⟨i, i1, i2, i3, i4⟩ := info_parts hi
  have ho := hg.own
  obtain ⟨hxs, cells, g2, g4⟩ := id hg
  obtain ⟨es, k1, k2, k3⟩ : ∃ es, rdC w size (fun b => b < w.heap.size ∧ v.ownBlock ≠ some b ∧ X b) ys es ∧ (A = none → m = 0) ∧ ∀ a, A = some a → ∀ j u, es[j]? = some u → w.cell? (a.add j) = some u := by
    rcases hy.2.2 with rfl | ⟨b, off, rfl, hS, hr⟩
    · exact ⟨[], rfl, fun _ => by simpa using hm.symm, fun _ _ j u h => by simp at h⟩
    · obtain ⟨es, h1, h2⟩ := rdR_cells ys off hr
      refine ⟨es, h1, fun h => by simp at h, fun a ha j u hj => ?_⟩
      obtain rfl : ⟨b, off, none⟩ = a := by simpa using ha
      have hadd : (⟨b, off, none⟩ : Addr).add j = ⟨b, off + j, none⟩ := by unfold Addr.add; split <;> simp_all
      rw [hadd]; exact h2 j u hj
  obtain ⟨v', w', hr, hown, hgr, hat⟩ := run_append_many (P := P) w B t ty e i z size bytes ht i1 i2 i3 i4 hzs hsz v n cells g2 A m c es k2 (by rw [rdC_length _ _ k1, hm]) k3 (rdC_one _ _ k1) hn hbt hB
  have hfm : ∃ A' c', v' = .slice A' (n + m) c' := by
    rcases hown.2 with ⟨rfl, h0⟩ | ⟨g, cap, cur, rfl, _⟩
    · exact ⟨none, 0, by rw [h0]⟩
    · exact ⟨_, cap, rfl⟩
  obtain ⟨A', c', rfl⟩ := hfm
  have hG : Gr w w' v (.slice A' (n + m) c') := ⟨hgr, hat.imp id fun h => ⟨_, h, Nat.le_refl _⟩⟩
  refine ⟨A', c', w', hr, ⟨by simp [hxs, hm], cells ++ es, hown, rdC_keep (fun b hb => ⟨⟨Nat.lt_of_lt_of_le hb.1 hgr.size, hG.ne hb.2.1 hb.1, hb.2.2⟩, hgr.block b hb.1 fun e => hb.2.1 e.symm⟩) _ _ (rdC_append k1 _ _ g4)⟩, hG⟩

theorem wp_append_X {P : Program} {X : Nat → Prop} {o : Oper} {a : Act} {K : Act → World → Prop} {Q : Exit → Act → World → Prop} (w : World) (s x : Operand) (t : TypeId) (ho : o.op = .call { callee := .builtin .append, args := #[s, x], argTypes := #[t, t] })
    (e : TypeId) (z : Value) (size bytes : Nat) (ht : P.underlying t = some (.slice e)) (hi : (P.info? e).map (fun i => (i.zero, i.size, i.bytes)) = some (some z, size, bytes)) (hzs : z.cells.size = size) (hsz : 0 < size)
    (B : Nat) (v : Value) (n : Nat) (xs : List D) (hg : Grx X w B e size v n xs) (A : Option Addr) (c m : Nat) (ys : List D) (hm : ys.length = m) (hy : Sl w (fun b => b < w.heap.size ∧ v.ownBlock ≠ some b ∧ X b) size A c ys) (hB : B ≤ w.heap.size)
    (hn : n + m ≤ maxLen) (hbt : (n + m) * bytes ≤ 140737488355328) (hs : a.eval s = v) (hx : a.eval x = .slice A m c)
    (h : ∀ A' c' w', Grx X w' B e size (.slice A' (n + m) c') (n + m) (xs ++ ys) → Gr w w' v (.slice A' (n + m) c') → K (a.put o.dst (.slice A' (n + m) c')) w') : o.wp P a w K Q := by
  obtain ⟨A', c', w', hr, h2, h3⟩ := Grx.step (P := P) w t o.type e z size bytes ht hi hzs hsz B v n xs hg A c m ys hm hy hB hn hbt
  unfold Oper.wp execOp
  simp only [ho, resolve, invoke, builtin, Sem.run_bind, Sem.run_pure, Result.andThen_ok, List.map_toArray, List.map_cons, List.map_nil, hs, hx, hr]
  exact h A' c' w' h2 h3
theorem wpList_append_X {P : Program} {X : Nat → Prop} {ops : Array Oper} {rest : List Oper} {o : Oper} {a : Act} {Q : Exit → Act → World → Prop} (w : World) (hgd : o.guard = none) (s x : Operand) (t : TypeId) (ho : o.op = .call { callee := .builtin .append, args := #[s, x], argTypes := #[t, t] })
    (e : TypeId) (z : Value) (size bytes : Nat) (ht : P.underlying t = some (.slice e)) (hi : (P.info? e).map (fun i => (i.zero, i.size, i.bytes)) = some (some z, size, bytes)) (hzs : z.cells.size = size) (hsz : 0 < size)
    (B : Nat) (v : Value) (n : Nat) (xs : List D) (hg : Grx X w B e size v n xs) (A : Option Addr) (c m : Nat) (ys : List D) (hm : ys.length = m) (hy : Sl w (fun b => b < w.heap.size ∧ v.ownBlock ≠ some b ∧ X b) size A c ys) (hB : B ≤ w.heap.size)
    (hn : n + m ≤ maxLen) (hbt : (n + m) * bytes ≤ 140737488355328) (hs : a.eval s = v) (hx : a.eval x = .slice A m c)
    (h : ∀ A' c' w', Grx X w' B e size (.slice A' (n + m) c') (n + m) (xs ++ ys) → Gr w w' v (.slice A' (n + m) c') → wpList P ops Q rest (a.put o.dst (.slice A' (n + m) c')) w') : wpList P ops Q (o :: rest) a w :=
  wpList_plain hgd fun _ hK => wp_append_X w s x t ho e z size bytes ht hi hzs hsz B v n xs hg A c m ys hm hy hB hn hbt hs hx fun A' c' w' h2 h3 => hK _ _ (h A' c' w' h2 h3)
theorem step_append_X {P : Program} {X : Nat → Prop} {ops : Array Oper} {o : Oper} {a : Act} {K : Act → World → Prop} {Q : Exit → Act → World → Prop} {E : Prop} (w : World) (hgd : o.guard = none) (s x : Operand) (t : TypeId) (ho : o.op = .call { callee := .builtin .append, args := #[s, x], argTypes := #[t, t] })
    (e : TypeId) (z : Value) (size bytes : Nat) (ht : P.underlying t = some (.slice e)) (hi : (P.info? e).map (fun i => (i.zero, i.size, i.bytes)) = some (some z, size, bytes)) (hzs : z.cells.size = size) (hsz : 0 < size)
    (B : Nat) (v : Value) (n : Nat) (xs : List D) (hg : Grx X w B e size v n xs) (A : Option Addr) (c m : Nat) (ys : List D) (hm : ys.length = m) (hy : Sl w (fun b => b < w.heap.size ∧ v.ownBlock ≠ some b ∧ X b) size A c ys) (hB : B ≤ w.heap.size)
    (hn : n + m ≤ maxLen) (hbt : (n + m) * bytes ≤ 140737488355328) (hs : a.eval s = v) (hx : a.eval x = .slice A m c)
    (h : ∀ A' c' w', Grx X w' B e size (.slice A' (n + m) c') (n + m) (xs ++ ys) → Gr w w' v (.slice A' (n + m) c') → K (a.put o.dst (.slice A' (n + m) c')) w') : if Region.wanted o (yielded ops a.tmps) = true then Oper.wp P o a w K Q else E := by
  have hw : Region.wanted o (yielded ops a.tmps) = true := by simp [Region.wanted, hgd]
  rw [if_pos hw]
  exact wp_append_X w s x t ho e z size bytes ht hi hzs hsz B v n xs hg A c m ys hm hy hB hn hbt hs hx h
end Go.Proofs.YtgbcdfeflgnogaaGreat

/- The data of the Go struct Ty: how it lies in memory (no program in sight). Conditions: none. -/
namespace Go.Proofs.YtgbcdfeflgnogaaGreat
open Go.RowKit
set_option linter.unusedVariables false
set_option linter.unusedSimpArgs false

inductive GTy where
  | mk (op : Int) (n : Int) (s : ByteArray) (kids : List GTy)
def GTy.op : GTy → Int | .mk x _ _ _ => x
def GTy.n : GTy → Int | .mk _ x _ _ => x
def GTy.s : GTy → ByteArray | .mk _ _ x _ => x
def GTy.kids : GTy → List GTy | .mk _ _ _ x => x

mutual
def GTy.toD : GTy → D | .mk op n s kids => .agg [.num .i64 op, .num .i64 n, .str s, .sl 4 (GTy.toDs kids)]
def GTy.toDs : List GTy → List D | [] => [] | t :: r => t.toD :: GTy.toDs r
end

theorem GTy.toDs_map : ∀ l : List GTy, GTy.toDs l = l.map GTy.toD
  | [] => rfl
  | t :: r => by simp only [GTy.toDs, List.map_cons, GTy.toDs_map r]

mutual
/-- how much it holds, as the laws count it -/
def GTy.bulk : GTy → Nat | .mk _ _ s kids => s.size + GTy.bulks kids
def GTy.bulks : List GTy → Nat | [] => 0 | t :: r => 1 + t.bulk + GTy.bulks r
end
theorem GTy.bulks_eq : ∀ l : List GTy, GTy.bulks l = bulkL GTy.bulk l
  | [] => rfl
  | t :: r => by simp only [GTy.bulks, bulkL, GTy.bulks_eq r]

theorem GTy.bulk_eq (t : GTy) : t.bulk = t.s.size + bulkL GTy.bulk t.kids := by
  cases t; simp only [GTy.bulk, GTy.bulks_eq, GTy.op, GTy.n, GTy.s, GTy.kids]

/-- the facts of a struct that lies in memory: its cells are .int .i64 t.op, .int .i64 t.n, .string t.s, .slice A1 t.kids.length c1 -/
def GTy.At (w : World) (S : Nat → Prop) (A1 : Option Addr) (c1 : Nat) (t : GTy) : Prop :=
  (Lit.int .i64 t.op).wf = true ∧ (Lit.int .i64 t.n).wf = true ∧ t.s.size ≤ maxLen ∧ Sl w S 4 A1 c1 (t.kids.map GTy.toD)

theorem GTy.rd {w : World} {S : Nat → Prop} {t : GTy} {cs : List Value} (h : t.toD.rd w S cs) : ∃ A1 c1, cs = [.int .i64 t.op, .int .i64 t.n, .string t.s, .slice A1 t.kids.length c1] ∧ GTy.At w S A1 c1 t := by
  cases t with
  | mk op n s kids =>
  simp only [GTy.toD, GTy.toDs_map] at h
  rw [D.rd_agg] at h
  rw [D.rdF_cons] at h
  obtain ⟨x0, r0, rfl, k0, h⟩ := h
  obtain ⟨rfl, h0⟩ := D.rd_num.1 k0
  rw [D.rdF_cons] at h
  obtain ⟨x1, r1, rfl, k1, h⟩ := h
  obtain ⟨rfl, h1⟩ := D.rd_num.1 k1
  rw [D.rdF_cons] at h
  obtain ⟨x2, r2, rfl, k2, h⟩ := h
  obtain ⟨rfl, h2⟩ := D.rd_str.1 k2
  rw [D.rdF_cons] at h
  obtain ⟨x3, r3, rfl, k3, h⟩ := h
  obtain ⟨A1, c1, rfl, h3⟩ := D.rd_sl.1 k3
  obtain rfl := D.rdF_nil.1 h
  exact ⟨A1, c1, by simp [GTy.op, GTy.n, GTy.s, GTy.kids], h0, h1, h2, h3⟩

theorem GTy.rd_mk {w : World} {S : Nat → Prop} {t : GTy} {A1 : Option Addr} {c1 : Nat} (h : GTy.At w S A1 c1 t) : t.toD.rd w S [.int .i64 t.op, .int .i64 t.n, .string t.s, .slice A1 t.kids.length c1] := by
  cases t with
  | mk op n s kids =>
  simp only [GTy.toD, GTy.toDs_map]
  unfold GTy.At at h
  obtain ⟨h0, h1, h2, h3⟩ := h
  rw [D.rd_agg]
  exact D.rdF_cons.2 ⟨[_], [_, _, _], rfl, D.rd_num.2 ⟨rfl, h0⟩, D.rdF_cons.2 ⟨[_], [_, _], rfl, D.rd_num.2 ⟨rfl, h1⟩, D.rdF_cons.2 ⟨[_], [_], rfl, D.rd_str.2 ⟨rfl, h2⟩, D.rdF_cons.2 ⟨[_], [], rfl, D.rd_sl.2 ⟨A1, c1, by simp [GTy.kids], h3⟩, D.rdF_nil.2 rfl⟩⟩⟩⟩

theorem GTy.elem {w : World} {S : Nat → Prop} {A : Option Addr} {c : Nat} {l : List GTy} (h : Sl w S 4 A c (l.map GTy.toD)) (i : Nat) (hi : i < l.length) :
    ∃ b off A1 c1, A = some ⟨b, off, none⟩ ∧ S b ∧ w.cell? ⟨b, off + i * 4, none⟩ = some (.int .i64 l[i].op) ∧ w.cell? ⟨b, off + i * 4 + 1, none⟩ = some (.int .i64 l[i].n) ∧ w.cell? ⟨b, off + i * 4 + 2, none⟩ = some (.string l[i].s) ∧ w.cell? ⟨b, off + i * 4 + 3, none⟩ = some (.slice A1 l[i].kids.length c1) ∧ GTy.At w S A1 c1 l[i] := by
  obtain ⟨b, off, cs, e, hb, hl, hc, hr⟩ := Sl.get h i (by simpa using hi)
  rw [List.getElem_map] at hr
  obtain ⟨A1, c1, rfl, h1⟩ := GTy.rd hr
  exact ⟨b, off, A1, c1, e, hb, hc 0 _ rfl, hc 1 _ rfl, hc 2 _ rfl, hc 3 _ rfl, h1⟩

theorem GTy.At.keep {w w' : World} {S S' : Nat → Prop} {t : GTy} {A1 : Option Addr} {c1 : Nat} (h : GTy.At w S A1 c1 t) (hk : ∀ b, S b → S' b ∧ w'.heap[b]? = w.heap[b]?) : GTy.At w' S' A1 c1 t := by
  unfold GTy.At at h ⊢
  obtain ⟨h0, h1, h2, h3⟩ := h
  exact ⟨h0, h1, h2, h3.keep hk⟩
theorem GTy.At.below {w w' : World} {B B' : Nat} {t : GTy} {A1 : Option Addr} {c1 : Nat} (h : GTy.At w (Lt B) A1 c1 t) (hb : Below B w w') (hB : B ≤ B') : GTy.At w' (Lt B') A1 c1 t :=
  h.keep (keep_below hb hB)

/-- the same, owned -/
def GTy.Ow (w : World) (S : Nat → Prop) (A1 : Option Addr) (c1 : Nat) (t : GTy) : Prop :=
  (Lit.int .i64 t.op).wf = true ∧ (Lit.int .i64 t.n).wf = true ∧ t.s.size ≤ maxLen ∧ Osl w S 4 A1 c1 (t.kids.map GTy.toD)

theorem GTy.own_mk {w : World} {S : Nat → Prop} {t : GTy} {A1 : Option Addr} {c1 : Nat} (h : GTy.Ow w S A1 c1 t) : t.toD.own w S [.int .i64 t.op, .int .i64 t.n, .string t.s, .slice A1 t.kids.length c1] := by
  cases t with
  | mk op n s kids =>
  simp only [GTy.toD, GTy.toDs_map]
  unfold GTy.Ow at h
  obtain ⟨h0, h1, h2, h3⟩ := h
  rw [D.own_agg]
  exact D.ownF_plain (c1 := [_]) (c2 := [_, _, _]) (D.own_num.2 ⟨rfl, h0⟩) (D.ownF_plain (c1 := [_]) (c2 := [_, _]) (D.own_num.2 ⟨rfl, h1⟩) (D.ownF_plain (c1 := [_]) (c2 := [_]) (D.own_str.2 ⟨rfl, h2⟩) (D.ownF_last (D.own_sl.2 ⟨A1, c1, by simp [GTy.kids], h3⟩))))

theorem GTy.Ow.keep {w w' : World} {S S' : Nat → Prop} {t : GTy} {A1 : Option Addr} {c1 : Nat} (h : GTy.Ow w S A1 c1 t) (hk : ∀ b, S b → S' b ∧ w'.heap[b]? = w.heap[b]?) : GTy.Ow w' S' A1 c1 t := by
  unfold GTy.Ow at h ⊢
  obtain ⟨h0, h1, h2, h3⟩ := h
  exact ⟨h0, h1, h2, h3.keep hk⟩
theorem GTy.Ow.at {w : World} {S : Nat → Prop} {t : GTy} {A1 : Option Addr} {c1 : Nat} (h : GTy.Ow w S A1 c1 t) : GTy.At w S A1 c1 t := by
  unfold GTy.Ow at h
  unfold GTy.At
  obtain ⟨h0, h1, h2, h3⟩ := h
  exact ⟨h0, h1, h2, h3.sl⟩

end Go.Proofs.YtgbcdfeflgnogaaGreat
