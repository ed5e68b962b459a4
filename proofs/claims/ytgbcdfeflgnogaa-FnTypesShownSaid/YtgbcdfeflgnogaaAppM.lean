/- append of many data onto a slice of one's own; its data may lie anywhere but in its own row (no program in sight). Conditions: none. -/
import Derived.Test.YtgbcdfeflgnogaaGrow
import Derived.Maps.AppendAt
import Derived.Deep.AppendSrc
namespace Go.Proofs.Ytgbcdfeflgnogaa
open Go.RowKit
set_option linter.unusedVariables false
set_option linter.unusedSimpArgs false

theorem run_append_many {P : Program} (w : World) (base : Nat) (t ty e : TypeId) (i : TypeInfo) (z : Value) (size bytes : Nat) (ht : P.underlying t = some (.slice e)) (hi : P.info? e = some i) (hz : i.zero = some z)
    (hsize : i.size = size) (hby : i.bytes = bytes) (hzs : z.cells.size = size) (hsz : 0 < size)
    (v : Value) (n : Nat) (xs : List Value) (hown : w.ownsRow base e size v n xs)
    (A : Option Addr) (m c : Nat) (news : List Value) (hA : A = none → m = 0) (hl : news.length = m * size) (hnews : ∀ a, A = some a → ∀ j u, news[j]? = some u → w.cell? (a.add j) = some u) (h1 : ∀ u ∈ news, u.oneCell' = true)
    (h63 : n + m ≤ maxLen) (hbytes : (n + m) * bytes ≤ 140737488355328) (hbase : base ≤ w.heap.size) :
    ∃ v' w', (Builtin.append_ #[t, t] ty #[v, .slice A m c]).run P w = .ok v' w' ∧ w'.ownsRow base e size v' (n + m) (xs ++ news) ∧ w.grownBy w' v.ownBlock ∧ (v'.ownBlock = v.ownBlock ∨ v'.ownBlock = some w.heap.size) := by
  match A with
  | some a =>
    obtain ⟨v', w', a1, a2, a3, _, a4⟩ := run_append_own_at (P := P) w base t ty e i z size bytes ht hi hz hsize hby hzs hsz v n xs hown a m c news hl (hnews a rfl) h1 h63 hbytes hbase
    exact ⟨v', w', a1, a2, a3, a4⟩
  | none =>
    have hm := hA rfl
    subst hm
    have hn : news = [] := List.eq_nil_of_length_eq_zero (by simpa using hl)
    subst hn
    subst hsize
    subst hby
    refine ⟨v, w, ?_, by simpa using hown, ⟨rfl, rfl, rfl, Nat.le_refl _, fun _ _ _ => rfl⟩, .inl rfl⟩
    rcases hown.2 with ⟨rfl, rfl⟩ | ⟨g, cap, cur, rfl, hbg, hg, hnc, hcm, hcs, htake⟩
    · simp [Builtin.append_, run_underlying ht, sizeOf, typeInfo, hi, Builtin.lenOf, Builtin.firstCells, loadCells, loadCellsFrom]
    · have hr := run_append_room_src (P := P) w t t ty e i ht hi g 0 n cap (.slice none 0 c) 0 [] (Src.ofNil w ht c) (by omega) (by simp) (by simp)
      simpa [World.setCells] using hr

mutual
/-- data's cells are one cell each -/
theorem D.rd_one {w : World} {S : Nat → Prop} : ∀ (d : D) (cs : List Value), d.rd w S cs → ∀ u ∈ cs, u.oneCell' = true
  | .num k n, cs, h, u, hu => by obtain ⟨rfl, _⟩ := D.rd_num.1 h; simp at hu; subst hu; rfl
  | .str s, cs, h, u, hu => by obtain ⟨rfl, _⟩ := D.rd_str.1 h; simp at hu; subst hu; rfl
  | .bool b, cs, h, u, hu => by obtain rfl := D.rd_bool.1 h; simp at hu; subst hu; rfl
  | .agg fs, cs, h, u, hu => D.rdF_one fs cs (D.rd_agg.1 h) u hu
  | .sl size xs, cs, h, u, hu => by obtain ⟨A, c, rfl, _⟩ := D.rd_sl.1 h; simp at hu; subst hu; rfl
theorem D.rdF_one {w : World} {S : Nat → Prop} : ∀ (fs : List D) (cs : List Value), D.rdF w S fs cs → ∀ u ∈ cs, u.oneCell' = true
  | [], cs, h, u, hu => by obtain rfl := D.rdF_nil.1 h; simp at hu
  | d :: r, cs, h, u, hu => by
    obtain ⟨c1, c2, rfl, h1, h2⟩ := D.rdF_cons.1 h
    rcases List.mem_append.1 hu with hu | hu
    · exact D.rd_one d c1 h1 u hu
    · exact D.rdF_one r c2 h2 u hu
end
theorem rdC_one {w : World} {size : Nat} {S : Nat → Prop} : ∀ (xs : List D) (cs : List Value), rdC w size S xs cs → ∀ u ∈ cs, u.oneCell' = true
  | [], cs, h, u, hu => by simp only [rdC] at h; subst h; simp at hu
  | d :: r, cs, h, u, hu => by
    simp only [rdC] at h
    obtain ⟨c1, c2, rfl, hl, h1, h2⟩ := h
    rcases List.mem_append.1 hu with hu | hu
    · exact D.rd_one d c1 h1 u hu
    · exact rdC_one r c2 h2 u hu
theorem rdC_length {w : World} {size : Nat} {S : Nat → Prop} : ∀ (xs : List D) (cs : List Value), rdC w size S xs cs → cs.length = xs.length * size
  | [], cs, h => by simp only [rdC] at h; simp [h]
  | d :: r, cs, h => by
    simp only [rdC] at h
    obtain ⟨c1, c2, rfl, hl, _, h2⟩ := h
    have := rdC_length r c2 h2
    rw [List.length_append, hl, this, List.length_cons, Nat.add_mul]; omega
theorem rdC_append {w : World} {size : Nat} {S : Nat → Prop} {ys : List D} {es : List Value} (hy : rdC w size S ys es) : ∀ (xs : List D) (cs : List Value), rdC w size S xs cs → rdC w size S (xs ++ ys) (cs ++ es)
  | [], cs, h => by simp only [rdC] at h; subst h; simpa using hy
  | d :: r, cs, h => by
    simp only [rdC, List.cons_append] at h ⊢
    obtain ⟨c1, c2, rfl, hl, h1, h2⟩ := h
    exact ⟨c1, c2 ++ es, by simp, hl, h1, rdC_append hy r c2 h2⟩
/-- the cells of a row that reads as data -/
theorem rdR_cells {w : World} {size b : Nat} {S : Nat → Prop} : ∀ (xs : List D) (off : Nat), D.rdR w S size b xs off → ∃ cs, rdC w size S xs cs ∧ ∀ j u, cs[j]? = some u → w.cell? ⟨b, off + j, none⟩ = some u
  | [], off, _ => ⟨[], rfl, fun j u h => by simp at h⟩
  | d :: r, off, h => by
    simp only [D.rdR] at h
    obtain ⟨⟨c1, hl, hc, h1⟩, h2⟩ := h
    obtain ⟨c2, k1, k2⟩ := rdR_cells r (off + size) h2
    refine ⟨c1 ++ c2, by simp only [rdC]; exact ⟨c1, c2, rfl, hl, h1, k1⟩, fun j u hj => ?_⟩
    by_cases hlt : j < c1.length
    · rw [List.getElem?_append_left hlt] at hj; exact hc j u hj
    · rw [List.getElem?_append_right (by omega)] at hj
      have := k2 (j - c1.length) u hj
      rwa [show off + size + (j - c1.length) = off + j by omega] at this

theorem rdR_take {w : World} {size b : Nat} {S : Nat → Prop} : ∀ (xs : List D) (off j : Nat), D.rdR w S size b xs off → D.rdR w S size b (xs.take j) off
  | [], _, j, h => by simpa using h
  | x :: r, off, 0, h => by simp only [List.take_zero, D.rdR]
  | x :: r, off, j + 1, h => by
    simp only [List.take_succ_cons, D.rdR] at h ⊢
    exact ⟨h.1, rdR_take r (off + size) j h.2⟩
theorem rdR_drop {w : World} {size b : Nat} {S : Nat → Prop} : ∀ (xs : List D) (off j : Nat), D.rdR w S size b xs off → D.rdR w S size b (xs.drop j) (off + j * size)
  | [], _, j, h => by simp only [List.drop_nil, D.rdR]
  | x :: r, off, 0, h => by simpa using h
  | x :: r, off, j + 1, h => by
    simp only [D.rdR] at h
    have := rdR_drop r (off + size) j h.2
    rw [List.drop_succ_cons, Nat.add_mul, Nat.one_mul, show off + (j * size + size) = off + size + j * size by omega]
    exact this
theorem Sl.take {w : World} {S : Nat → Prop} {size : Nat} {A : Option Addr} {c : Nat} {xs : List D} (h : Sl w S size A c xs) (j : Nat) : Sl w S size A c (xs.take j) := by
  obtain ⟨h1, h2, h3⟩ := h
  refine ⟨by rw [List.length_take]; omega, h2, ?_⟩
  rcases h3 with rfl | ⟨b, off, e, hS, hr⟩
  · exact .inl (by simp)
  · exact .inr ⟨b, off, e, hS, rdR_take xs off j hr⟩
theorem Sl.drop {w : World} {S : Nat → Prop} {size b off c : Nat} {xs : List D} (h : Sl w S size (some ⟨b, off, none⟩) c xs) (j : Nat) (hj : j ≤ xs.length) : Sl w S size (some ⟨b, off + j * size, none⟩) (c - j) (xs.drop j) := by
  obtain ⟨h1, h2, h3⟩ := h
  refine ⟨by rw [List.length_drop]; omega, by omega, ?_⟩
  rcases h3 with rfl | ⟨b', off', e, hS, hr⟩
  · exact .inl (by simp)
  · obtain ⟨rfl, rfl⟩ : b = b' ∧ off = off' := by simpa using e
    exact .inr ⟨b, off + j * size, rfl, hS, rdR_drop xs off j hr⟩

/-- a slice that grows: nil, or a row of one's own from block B on; its data lie anywhere but in that row -/
def Gre (w : World) (B : Nat) (e : TypeId) (size : Nat) (v : Value) (n : Nat) (xs : List D) : Prop :=
  xs.length = n ∧ ∃ cs, w.ownsRow B e size v n cs ∧ rdC w size (fun b => b < w.heap.size ∧ v.ownBlock ≠ some b) xs cs
theorem Gre.nil (w : World) (B : Nat) (e : TypeId) (size : Nat) : Gre w B e size (.slice none 0 0) 0 [] := ⟨rfl, [], World.ownsRow_nil w B e size, rfl⟩
theorem Gre.made {w : World} {B g : Nat} {e : TypeId} {size : Nat} (hr : Row w g e #[]) (hB : B ≤ g) : Gre w B e size (.slice (some ⟨g, 0, none⟩) 0 0) 0 [] :=
  ⟨rfl, [], ⟨by simp, .inr ⟨g, 0, #[], rfl, hB, hr, Nat.le_refl _, by unfold maxLen; omega, by simp, by simp⟩⟩, rfl⟩
theorem Gre.of_gsh {w : World} {B : Nat} {e : TypeId} {size : Nat} {v : Value} {n : Nat} {xs : List D} (h : Gsh w B e size v n xs) (hB : B ≤ w.heap.size) : Gre w B e size v n xs := by
  have ho := h.own
  obtain ⟨h1, cs, h2, h4⟩ := h
  refine ⟨h1, cs, h2, rdC_keep (fun b hb => ⟨⟨Nat.lt_of_lt_of_le hb hB, fun e => ?_⟩, rfl⟩) xs cs h4⟩
  have := (ho b e).1
  have : b < B := hb
  omega
theorem Gre.own {w : World} {B : Nat} {e : TypeId} {size : Nat} {v : Value} {n : Nat} {xs : List D} (h : Gre w B e size v n xs) : ∀ g, v.ownBlock = some g → B ≤ g ∧ g < w.heap.size := by
  obtain ⟨h1, cs, h2, h4⟩ := h
  exact fun g hg => h2.lt g hg
theorem Gre.form {w : World} {B : Nat} {e : TypeId} {size : Nat} {v : Value} {n : Nat} {xs : List D} (h : Gre w B e size v n xs) : ∃ A c, v = .slice A n c := by
  obtain ⟨h1, cs, h2, h4⟩ := h
  rcases h2.2 with ⟨rfl, h0⟩ | ⟨g, cap, cur, rfl, _⟩
  · exact ⟨none, 0, by rw [h0]⟩
  · exact ⟨_, cap, rfl⟩
/-- what reads as data anywhere but in a row is kept where that row and new blocks alone turn -/
theorem Gre.keep {w w' : World} {B : Nat} {e : TypeId} {size : Nat} {v : Value} {n : Nat} {xs : List D} (h : Gre w B e size v n xs) (hs : w.heap.size ≤ w'.heap.size) (hk : ∀ b, b < w.heap.size → w'.heap[b]? = w.heap[b]?) : Gre w' B e size v n xs := by
  have ho := h.own
  obtain ⟨h1, cs, h2, h4⟩ := h
  refine ⟨h1, cs, ⟨h2.1, ?_⟩, rdC_keep (fun b hb => ⟨⟨Nat.lt_of_lt_of_le hb.1 hs, hb.2⟩, hk b hb.1⟩) xs cs h4⟩
  rcases h2.2 with h | ⟨g, cap, cur, rfl, a1, a2, a3⟩
  · exact .inl h
  · exact .inr ⟨g, cap, cur, rfl, a1, (hk g (ho g rfl).2).trans a2, a3⟩
theorem Gre.below {w w' : World} {B : Nat} {e : TypeId} {size : Nat} {v : Value} {n : Nat} {xs : List D} (h : Gre w B e size v n xs) (hb : Below w.heap.size w w') : Gre w' B e size v n xs := h.keep hb.size hb.block
theorem Gre.sl {w : World} {B : Nat} {e : TypeId} {size : Nat} {v : Value} {n : Nat} {xs : List D} (h : Gre w B e size v n xs) : ∃ A c, v = .slice A n c ∧ Sl w (Lt w.heap.size) size A c xs := by
  have hlt := h.own
  obtain ⟨h1, cs, h2, h4⟩ := h
  rcases h2.2 with ⟨rfl, h⟩ | ⟨g, cap, cur, rfl, a1, a2, a3, a4, a5, a6⟩
  · have : xs = [] := List.eq_nil_of_length_eq_zero (by omega)
    subst this
    exact ⟨none, 0, by rw [h], Sl.nil (by unfold maxLen; omega)⟩
  · refine ⟨_, cap, rfl, by omega, a4, .inr ⟨g, 0, rfl, (hlt g rfl).2, ?_⟩⟩
    refine rdC_row xs cs 0 (fun j v hj => ?_) (rdC_keep (fun b hb => ⟨hb.1, rfl⟩) xs cs h4)
    rw [Nat.zero_add, Row.cell (t := e) (cs := cur) a2]
    rw [← a6, List.getElem?_take] at hj
    split at hj
    · simpa using hj
    · cases hj

/-- the step itself -/
theorem Gre.step {P : Program} (w : World) (t ty e : TypeId) (z : Value) (size bytes : Nat) (ht : P.underlying t = some (.slice e)) (hi : (P.info? e).map (fun i => (i.zero, i.size, i.bytes)) = some (some z, size, bytes)) (hzs : z.cells.size = size) (hsz : 0 < size)
    (B : Nat) (v : Value) (n : Nat) (xs : List D) (hg : Gre w B e size v n xs) (A : Option Addr) (c m : Nat) (ys : List D) (hm : ys.length = m) (hy : Sl w (fun b => b < w.heap.size ∧ v.ownBlock ≠ some b) size A c ys) (hB : B ≤ w.heap.size)
    (hn : n + m ≤ maxLen) (hbt : (n + m) * bytes ≤ 140737488355328) :
    ∃ A' c' w', (Builtin.append_ #[t, t] ty #[v, .slice A m c]).run P w = .ok (.slice A' (n + m) c') w' ∧ Gre w' B e size (.slice A' (n + m) c') (n + m) (xs ++ ys) ∧ Gr w w' v (.slice A' (n + m) c') := by
  obtain ⟨i, i1, i2, i3, i4⟩ := info_parts hi
  have ho := hg.own
  obtain ⟨hxs, cells, g2, g4⟩ := id hg
  obtain ⟨es, k1, k2, k3⟩ : ∃ es, rdC w size (fun b => b < w.heap.size ∧ v.ownBlock ≠ some b) ys es ∧ (A = none → m = 0) ∧ ∀ a, A = some a → ∀ j u, es[j]? = some u → w.cell? (a.add j) = some u := by
    rcases hy.2.2 with rfl | ⟨b, off, rfl, hS, hr⟩
    · exact ⟨[], rfl, fun _ => by simpa using hm.symm, fun _ _ j u h => by simp at h⟩
    · obtain ⟨es, h1, h2⟩ := rdR_cells ys off hr
      refine ⟨es, h1, fun h => by simp at h, fun a ha j u hj => ?_⟩
      obtain rfl : ⟨b, off, none⟩ = a := by simpa using ha
      have hadd : (⟨b, off, none⟩ : Addr).add j = ⟨b, off + j, none⟩ := by unfold Addr.add; split <;> simp_all
      rw [hadd]; exact h2 j u hj
  obtain ⟨v', w', hr, hown, hgr, hat⟩ := run_append_many (P := P) w B t ty e i z size bytes ht i1 i2 i3 i4 hzs hsz v n cells g2 A m c es k2 (by rw [rdC_length _ _ k1, hm]) k3 (rdC_one _ _ k1) hn hbt hB
  have hfm : ∃ A' c', v' = .slice A' (n + m) c' := by
    rcases hown.2 with ⟨rfl, h0⟩ | ⟨g, cap, cur, rfl, _⟩
    · exact ⟨none, 0, by rw [h0]⟩
    · exact ⟨_, cap, rfl⟩
  obtain ⟨A', c', rfl⟩ := hfm
  have hG : Gr w w' v (.slice A' (n + m) c') := ⟨hgr, hat.imp id fun h => ⟨_, h, Nat.le_refl _⟩⟩
  refine ⟨A', c', w', hr, ⟨by simp [hxs, hm], cells ++ es, hown, rdC_keep (fun b hb => ⟨⟨Nat.lt_of_lt_of_le hb.1 hgr.size, hG.ne hb.2 hb.1⟩, hgr.block b hb.1 fun e => hb.2 e.symm⟩) _ _ (rdC_append k1 _ _ g4)⟩, hG⟩

theorem wp_append_M {P : Program} {o : Oper} {a : Act} {K : Act → World → Prop} {Q : Exit → Act → World → Prop} (w : World) (s x : Operand) (t : TypeId) (ho : o.op = .call { callee := .builtin .append, args := #[s, x], argTypes := #[t, t] })
    (e : TypeId) (z : Value) (size bytes : Nat) (ht : P.underlying t = some (.slice e)) (hi : (P.info? e).map (fun i => (i.zero, i.size, i.bytes)) = some (some z, size, bytes)) (hzs : z.cells.size = size) (hsz : 0 < size)
    (B : Nat) (v : Value) (n : Nat) (xs : List D) (hg : Gre w B e size v n xs) (A : Option Addr) (c m : Nat) (ys : List D) (hm : ys.length = m) (hy : Sl w (fun b => b < w.heap.size ∧ v.ownBlock ≠ some b) size A c ys) (hB : B ≤ w.heap.size)
    (hn : n + m ≤ maxLen) (hbt : (n + m) * bytes ≤ 140737488355328) (hs : a.eval s = v) (hx : a.eval x = .slice A m c)
    (h : ∀ A' c' w', Gre w' B e size (.slice A' (n + m) c') (n + m) (xs ++ ys) → Gr w w' v (.slice A' (n + m) c') → K (a.put o.dst (.slice A' (n + m) c')) w') : o.wp P a w K Q := by
  obtain ⟨A', c', w', hr, h2, h3⟩ := Gre.step (P := P) w t o.type e z size bytes ht hi hzs hsz B v n xs hg A c m ys hm hy hB hn hbt
  unfold Oper.wp execOp
  simp only [ho, resolve, invoke, builtin, Sem.run_bind, Sem.run_pure, Result.andThen_ok, List.map_toArray, List.map_cons, List.map_nil, hs, hx, hr]
  exact h A' c' w' h2 h3
theorem wpList_append_M {P : Program} {ops : Array Oper} {rest : List Oper} {o : Oper} {a : Act} {Q : Exit → Act → World → Prop} (w : World) (hgd : o.guard = none) (s x : Operand) (t : TypeId) (ho : o.op = .call { callee := .builtin .append, args := #[s, x], argTypes := #[t, t] })
    (e : TypeId) (z : Value) (size bytes : Nat) (ht : P.underlying t = some (.slice e)) (hi : (P.info? e).map (fun i => (i.zero, i.size, i.bytes)) = some (some z, size, bytes)) (hzs : z.cells.size = size) (hsz : 0 < size)
    (B : Nat) (v : Value) (n : Nat) (xs : List D) (hg : Gre w B e size v n xs) (A : Option Addr) (c m : Nat) (ys : List D) (hm : ys.length = m) (hy : Sl w (fun b => b < w.heap.size ∧ v.ownBlock ≠ some b) size A c ys) (hB : B ≤ w.heap.size)
    (hn : n + m ≤ maxLen) (hbt : (n + m) * bytes ≤ 140737488355328) (hs : a.eval s = v) (hx : a.eval x = .slice A m c)
    (h : ∀ A' c' w', Gre w' B e size (.slice A' (n + m) c') (n + m) (xs ++ ys) → Gr w w' v (.slice A' (n + m) c') → wpList P ops Q rest (a.put o.dst (.slice A' (n + m) c')) w') : wpList P ops Q (o :: rest) a w :=
  wpList_plain hgd fun _ hK => wp_append_M w s x t ho e z size bytes ht hi hzs hsz B v n xs hg A c m ys hm hy hB hn hbt hs hx fun A' c' w' h2 h3 => hK _ _ (h A' c' w' h2 h3)
theorem step_append_M {P : Program} {ops : Array Oper} {o : Oper} {a : Act} {K : Act → World → Prop} {Q : Exit → Act → World → Prop} {E : Prop} (w : World) (hgd : o.guard = none) (s x : Operand) (t : TypeId) (ho : o.op = .call { callee := .builtin .append, args := #[s, x], argTypes := #[t, t] })
    (e : TypeId) (z : Value) (size bytes : Nat) (ht : P.underlying t = some (.slice e)) (hi : (P.info? e).map (fun i => (i.zero, i.size, i.bytes)) = some (some z, size, bytes)) (hzs : z.cells.size = size) (hsz : 0 < size)
    (B : Nat) (v : Value) (n : Nat) (xs : List D) (hg : Gre w B e size v n xs) (A : Option Addr) (c m : Nat) (ys : List D) (hm : ys.length = m) (hy : Sl w (fun b => b < w.heap.size ∧ v.ownBlock ≠ some b) size A c ys) (hB : B ≤ w.heap.size)
    (hn : n + m ≤ maxLen) (hbt : (n + m) * bytes ≤ 140737488355328) (hs : a.eval s = v) (hx : a.eval x = .slice A m c)
    (h : ∀ A' c' w', Gre w' B e size (.slice A' (n + m) c') (n + m) (xs ++ ys) → Gr w w' v (.slice A' (n + m) c') → K (a.put o.dst (.slice A' (n + m) c')) w') : if Region.wanted o (yielded ops a.tmps) = true then Oper.wp P o a w K Q else E := by
  have hw : Region.wanted o (yielded ops a.tmps) = true := by simp [Region.wanted, hgd]
  rw [if_pos hw]
  exact wp_append_M w s x t ho e z size bytes ht hi hzs hsz B v n xs hg A c m ys hm hy hB hn hbt hs hx h
end Go.Proofs.Ytgbcdfeflgnogaa
