/- Texts of the claim LCases in one: AppM Grx PaK PaE PaG PaH PaI PaQ GValue Dn. Conditions: none but bounds on sizes. -/
import Derived.Test.YtjjikciggbnjmaaGreatZLCases2
import Derived.Maps.AppendAt
import Derived.Deep.AppendSrc
import Derived.Test.YtjjikciggbnjmaaGreatZLCases0
namespace Go.Proofs.YtjjikciggbnjmaaGreat
set_option maxRecDepth 20000
set_option linter.unusedVariables false
set_option linter.unusedSimpArgs false
open Go.RowKit
theorem run_append_many {P : Program} (w : World) (base : Nat) (t ty e : TypeId) (i : TypeInfo) (z : Value) (size bytes : Nat) (ht : P.underlying t = some (.slice e)) (hi : P.info? e = some i) (hz : i.zero = some z)
 (hsize : i.size = size) (hby : i.bytes = bytes) (hzs : z.cells.size = size) (hsz : 0 < size)
 (v : Value) (n : Nat) (xs : List Value) (hown : w.ownsRow base e size v n xs)
 (A : Option Addr) (m c : Nat) (news : List Value) (hA : A = none → m = 0) (hl : news.length = m * size) (hnews : ∀ a, A = some a → ∀ j u, news[j]? = some u → w.cell? (a.add j) = some u) (h1 : ∀ u ∈ news, u.oneCell' = true)
 (h63 : n + m ≤ maxLen) (hbytes : (n + m) * bytes ≤ 140737488355328) (hbase : base ≤ w.heap.size) :
 ∃ v' w', (Builtin.append_ #[t, t] ty #[v, .slice A m c]).run P w = .ok v' w' ∧ w'.ownsRow base e size v' (n + m) (xs ++ news) ∧ w.grownBy w' v.ownBlock ∧ (v'.ownBlock = v.ownBlock ∨ v'.ownBlock = some w.heap.size) := by
 match A with
 | some a =>
  obtain ⟨v', w', a1, a2, a3, _, a4⟩ := run_append_own_at (P := P) w base t ty e i z size bytes ht hi hz hsize hby hzs hsz v n xs hown a m c news hl (hnews a rfl) h1 h63 hbytes hbase
  exact ⟨v', w', a1, a2, a3, a4⟩
 | none =>
  have hm := hA rfl
  subst hm
  have hn : news = [] := List.eq_nil_of_length_eq_zero (by simpa using hl)
  subst hn
  subst hsize
  subst hby
  refine ⟨v, w, ?_, by simpa using hown, ⟨rfl, rfl, rfl, Nat.le_refl _, fun _ _ _ => rfl⟩, .inl rfl⟩
  rcases hown.2 with ⟨rfl, rfl⟩ | ⟨g, cap, cur, rfl, hbg, hg, hnc, hcm, hcs, htake⟩
  · simp [Builtin.append_, run_underlying ht, sizeOf, typeInfo, hi, Builtin.lenOf, Builtin.firstCells, loadCells, loadCellsFrom]
  · have hr := run_append_room_src (P := P) w t t ty e i ht hi g 0 n cap (.slice none 0 c) 0 [] (Src.ofNil w ht c) (by omega) (by simp) (by simp)
    simpa [World.setCells] using hr
mutual
theorem D.rd_one {w : World} {S : Nat → Prop} : ∀ (d : D) (cs : List Value), d.rd w S cs → ∀ u ∈ cs, u.oneCell' = true
 | .num k n, cs, h, u, hu => by obtain ⟨rfl, _⟩ := D.rd_num.1 h; simp at hu; subst hu; rfl
 | .str s, cs, h, u, hu => by obtain ⟨rfl, _⟩ := D.rd_str.1 h; simp at hu; subst hu; rfl
 | .bool b, cs, h, u, hu => by obtain rfl := D.rd_bool.1 h; simp at hu; subst hu; rfl
 | .agg fs, cs, h, u, hu => D.rdF_one fs cs (D.rd_agg.1 h) u hu
 | .sl size xs, cs, h, u, hu => by obtain ⟨A, c, rfl, _⟩ := D.rd_sl.1 h; simp at hu; subst hu; rfl
theorem D.rdF_one {w : World} {S : Nat → Prop} : ∀ (fs : List D) (cs : List Value), D.rdF w S fs cs → ∀ u ∈ cs, u.oneCell' = true
 | [], cs, h, u, hu => by obtain rfl := D.rdF_nil.1 h; simp at hu
 | d :: r, cs, h, u, hu => by
  obtain ⟨c1, c2, rfl, h1, h2⟩ := D.rdF_cons.1 h
  rcases List.mem_append.1 hu with hu | hu
  · exact D.rd_one d c1 h1 u hu
  · exact D.rdF_one r c2 h2 u hu
end
theorem rdC_one {w : World} {size : Nat} {S : Nat → Prop} : ∀ (xs : List D) (cs : List Value), rdC w size S xs cs → ∀ u ∈ cs, u.oneCell' = true
 | [], cs, h, u, hu => by simp only [rdC] at h; subst h; simp at hu
 | d :: r, cs, h, u, hu => by
  simp only [rdC] at h
  obtain ⟨c1, c2, rfl, hl, h1, h2⟩ := h
  rcases List.mem_append.1 hu with hu | hu
  · exact D.rd_one d c1 h1 u hu
  · exact rdC_one r c2 h2 u hu
theorem rdC_length {w : World} {size : Nat} {S : Nat → Prop} : ∀ (xs : List D) (cs : List Value), rdC w size S xs cs → cs.length = xs.length * size
 | [], cs, h => by simp only [rdC] at h; simp [h]
 | d :: r, cs, h => by
  simp only [rdC] at h
  obtain ⟨c1, c2, rfl, hl, _, h2⟩ := h
  have := rdC_length r c2 h2
  rw [List.length_append, hl, this, List.length_cons, Nat.add_mul]; omega
theorem rdC_append {w : World} {size : Nat} {S : Nat → Prop} {ys : List D} {es : List Value} (hy : rdC w size S ys es) : ∀ (xs : List D) (cs : List Value), rdC w size S xs cs → rdC w size S (xs ++ ys) (cs ++ es)
 | [], cs, h => by simp only [rdC] at h; subst h; simpa using hy
 | d :: r, cs, h => by
  simp only [rdC, List.cons_append] at h ⊢
  obtain ⟨c1, c2, rfl, hl, h1, h2⟩ := h
  exact ⟨c1, c2 ++ es, by simp, hl, h1, rdC_append hy r c2 h2⟩
theorem rdR_cells {w : World} {size b : Nat} {S : Nat → Prop} : ∀ (xs : List D) (off : Nat), D.rdR w S size b xs off → ∃ cs, rdC w size S xs cs ∧ ∀ j u, cs[j]? = some u → w.cell? ⟨b, off + j, none⟩ = some u
 | [], off, _ => ⟨[], rfl, fun j u h => by simp at h⟩
 | d :: r, off, h => by
  simp only [D.rdR] at h
  obtain ⟨⟨c1, hl, hc, h1⟩, h2⟩ := h
  obtain ⟨c2, k1, k2⟩ := rdR_cells r (off + size) h2
  refine ⟨c1 ++ c2, by simp only [rdC]; exact ⟨c1, c2, rfl, hl, h1, k1⟩, fun j u hj => ?_⟩
  by_cases hlt : j < c1.length
  · rw [List.getElem?_append_left hlt] at hj; exact hc j u hj
  · rw [List.getElem?_append_right (by omega)] at hj
    have := k2 (j - c1.length) u hj
    rwa [show off + size + (j - c1.length) = off + j by omega] at this
theorem rdR_take {w : World} {size b : Nat} {S : Nat → Prop} : ∀ (xs : List D) (off j : Nat), D.rdR w S size b xs off → D.rdR w S size b (xs.take j) off
 | [], _, j, h => by simpa using h
 | x :: r, off, 0, h => by simp only [List.take_zero, D.rdR]
 | x :: r, off, j + 1, h => by
  simp only [List.take_succ_cons, D.rdR] at h ⊢
  exact ⟨h.1, rdR_take r (off + size) j h.2⟩
theorem rdR_drop {w : World} {size b : Nat} {S : Nat → Prop} : ∀ (xs : List D) (off j : Nat), D.rdR w S size b xs off → D.rdR w S size b (xs.drop j) (off + j * size)
 | [], _, j, h => by simp only [List.drop_nil, D.rdR]
 | x :: r, off, 0, h => by simpa using h
 | x :: r, off, j + 1, h => by
  simp only [D.rdR] at h
  have := rdR_drop r (off + size) j h.2
  rw [List.drop_succ_cons, Nat.add_mul, Nat.one_mul, show off + (j * size + size) = off + size + j * size by omega]
  exact this
theorem Sl.take {w : World} {S : Nat → Prop} {size : Nat} {A : Option Addr} {c : Nat} {xs : List D} (h : Sl w S size A c xs) (j : Nat) : Sl w S size A c (xs.take j) := by
 obtain ⟨h1, h2, h3⟩ := h
 refine ⟨by rw [List.length_take]; omega, h2, ?_⟩
 rcases h3 with rfl | ⟨b, off, e, hS, hr⟩
 · exact .inl (by simp)
 · exact .inr ⟨b, off, e, hS, rdR_take xs off j hr⟩
theorem Sl.drop {w : World} {S : Nat → Prop} {size b off c : Nat} {xs : List D} (h : Sl w S size (some ⟨b, off, none⟩) c xs) (j : Nat) (hj : j ≤ xs.length) : Sl w S size (some ⟨b, off + j * size, none⟩) (c - j) (xs.drop j) := by
 obtain ⟨h1, h2, h3⟩ := h
 refine ⟨by rw [List.length_drop]; omega, by omega, ?_⟩
 rcases h3 with rfl | ⟨b', off', e, hS, hr⟩
 · exact .inl (by simp)
 · obtain ⟨rfl, rfl⟩ : b = b' ∧ off = off' := by simpa using e
   exact .inr ⟨b, off + j * size, rfl, hS, rdR_drop xs off j hr⟩
def Grx (X : Nat → Prop) (w : World) (B : Nat) (e : TypeId) (size : Nat) (v : Value) (n : Nat) (xs : List D) : Prop :=
 xs.length = n ∧ ∃ cs, w.ownsRow B e size v n cs ∧ rdC w size (fun b => b < w.heap.size ∧ v.ownBlock ≠ some b ∧ X b) xs cs
theorem Grx.nil (X : Nat → Prop) (w : World) (B : Nat) (e : TypeId) (size : Nat) : Grx X w B e size (.slice none 0 0) 0 [] := ⟨rfl, [], World.ownsRow_nil w B e size, rfl⟩
theorem Grx.made {X : Nat → Prop} {w : World} {B g : Nat} {e : TypeId} {size : Nat} (hr : Row w g e #[]) (hB : B ≤ g) : Grx X w B e size (.slice (some ⟨g, 0, none⟩) 0 0) 0 [] :=
 ⟨rfl, [], ⟨by simp, .inr ⟨g, 0, #[], rfl, hB, hr, Nat.le_refl _, by unfold maxLen; omega, by simp, by simp⟩⟩, rfl⟩
theorem Grx.roomy {X : Nat → Prop} {w : World} {B g c : Nat} {e : TypeId} {size : Nat} {cs : Array Value} (hr : Row w g e cs) (hB : B ≤ g) (hc : c ≤ maxLen) (hs : cs.size = c * size) : Grx X w B e size (.slice (some ⟨g, 0, none⟩) 0 c) 0 [] :=
 ⟨rfl, [], ⟨by simp, .inr ⟨g, c, cs, rfl, hB, hr, Nat.zero_le _, hc, hs, by simp⟩⟩, rfl⟩
theorem Grx.own {X : Nat → Prop} {w : World} {B : Nat} {e : TypeId} {size : Nat} {v : Value} {n : Nat} {xs : List D} (h : Grx X w B e size v n xs) : ∀ g, v.ownBlock = some g → B ≤ g ∧ g < w.heap.size := by
 obtain ⟨h1, cs, h2, h4⟩ := h
 exact fun g hg => h2.lt g hg
theorem Grx.keep {X : Nat → Prop} {w w' : World} {B : Nat} {e : TypeId} {size : Nat} {v : Value} {n : Nat} {xs : List D} (h : Grx X w B e size v n xs) (hs : w.heap.size ≤ w'.heap.size) (hk : ∀ b, b < w.heap.size → w'.heap[b]? = w.heap[b]?) : Grx X w' B e size v n xs := by
 have ho := h.own
 obtain ⟨h1, cs, h2, h4⟩ := h
 refine ⟨h1, cs, ⟨h2.1, ?_⟩, rdC_keep (fun b hb => ⟨⟨Nat.lt_of_lt_of_le hb.1 hs, hb.2⟩, hk b hb.1⟩) xs cs h4⟩
 rcases h2.2 with h | ⟨g, cap, cur, rfl, a1, a2, a3⟩
 · exact .inl h
 · exact .inr ⟨g, cap, cur, rfl, a1, (hk g (ho g rfl).2).trans a2, a3⟩
theorem Grx.below {X : Nat → Prop} {w w' : World} {B : Nat} {e : TypeId} {size : Nat} {v : Value} {n : Nat} {xs : List D} (h : Grx X w B e size v n xs) (hb : Below w.heap.size w w') : Grx X w' B e size v n xs := h.keep hb.size hb.block
theorem Grx.sl {X : Nat → Prop} {w : World} {B : Nat} {e : TypeId} {size : Nat} {v : Value} {n : Nat} {xs : List D} (h : Grx X w B e size v n xs) (hX : ∀ b, B ≤ b → X b) : ∃ A c, v = .slice A n c ∧ Sl w (fun b => b < w.heap.size ∧ X b) size A c xs := by
 have hlt := h.own
 obtain ⟨h1, cs, h2, h4⟩ := h
 rcases h2.2 with ⟨rfl, h⟩ | ⟨g, cap, cur, rfl, a1, a2, a3, a4, a5, a6⟩
 · have : xs = [] := List.eq_nil_of_length_eq_zero (by omega)
   subst this
   exact ⟨none, 0, by rw [h], Sl.nil (by unfold maxLen; omega)⟩
 ·
  refine ⟨_, cap, rfl, by omega, a4, .inr ⟨g, 0, rfl, ⟨(hlt g rfl).2, hX g (hlt g rfl).1⟩, ?_⟩⟩
  refine rdC_row xs cs 0 (fun j v hj => ?_) (rdC_keep (fun b hb => ⟨⟨hb.1, hb.2.2⟩, rfl⟩) xs cs h4)
  rw [Nat.zero_add, Row.cell (t := e) (cs := cur) a2]
  rw [← a6, List.getElem?_take] at hj
  split at hj
  · simpa using hj
  · cases hj
theorem Grx.step {P : Program} {X : Nat → Prop} (w : World) (t ty e : TypeId) (z : Value) (size bytes : Nat) (ht : P.underlying t = some (.slice e)) (hi : (P.info? e).map (fun i => (i.zero, i.size, i.bytes)) = some (some z, size, bytes)) (hzs : z.cells.size = size) (hsz : 0 < size)
 (B : Nat) (v : Value) (n : Nat) (xs : List D) (hg : Grx X w B e size v n xs) (A : Option Addr) (c m : Nat) (ys : List D) (hm : ys.length = m) (hy : Sl w (fun b => b < w.heap.size ∧ v.ownBlock ≠ some b ∧ X b) size A c ys) (hB : B ≤ w.heap.size)
 (hn : n + m ≤ maxLen) (hbt : (n + m) * bytes ≤ 140737488355328) :
 ∃ A' c' w', (Builtin.append_ #[t, t] ty #[v, .slice A m c]).run P w = .ok (.slice A' (n + m) c') w' ∧ Grx X w' B e size (.slice A' (n + m) c') (n + m) (xs ++ ys) ∧ Gr w w' v (.slice A' (n + m) c') := by
 obtain ⟨i, i1, i2, i3, i4⟩ := info_parts hi
 have ho := hg.own
 obtain ⟨hxs, cells, g2, g4⟩ := id hg
 obtain ⟨es, k1, k2, k3⟩ : ∃ es, rdC w size (fun b => b < w.heap.size ∧ v.ownBlock ≠ some b ∧ X b) ys es ∧ (A = none → m = 0) ∧ ∀ a, A = some a → ∀ j u, es[j]? = some u → w.cell? (a.add j) = some u := by
  rcases hy.2.2 with rfl | ⟨b, off, rfl, hS, hr⟩
  · exact ⟨[], rfl, fun _ => by simpa using hm.symm, fun _ _ j u h => by simp at h⟩
  · obtain ⟨es, h1, h2⟩ := rdR_cells ys off hr
    refine ⟨es, h1, fun h => by simp at h, fun a ha j u hj => ?_⟩
    obtain rfl : ⟨b, off, none⟩ = a := by simpa using ha
    have hadd : (⟨b, off, none⟩ : Addr).add j = ⟨b, off + j, none⟩ := by unfold Addr.add; split <;> simp_all
    rw [hadd]; exact h2 j u hj
 obtain ⟨v', w', hr, hown, hgr, hat⟩ := run_append_many (P := P) w B t ty e i z size bytes ht i1 i2 i3 i4 hzs hsz v n cells g2 A m c es k2 (by rw [rdC_length _ _ k1, hm]) k3 (rdC_one _ _ k1) hn hbt hB
 have hfm : ∃ A' c', v' = .slice A' (n + m) c' := by
  rcases hown.2 with ⟨rfl, h0⟩ | ⟨g, cap, cur, rfl, _⟩
  · exact ⟨none, 0, by rw [h0]⟩
  · exact ⟨_, cap, rfl⟩
 obtain ⟨A', c', rfl⟩ := hfm
 have hG : Gr w w' v (.slice A' (n + m) c') := ⟨hgr, hat.imp id fun h => ⟨_, h, Nat.le_refl _⟩⟩
 refine ⟨A', c', w', hr, ⟨by simp [hxs, hm], cells ++ es, hown, rdC_keep (fun b hb => ⟨⟨Nat.lt_of_lt_of_le hb.1 hgr.size, hG.ne hb.2.1 hb.1, hb.2.2⟩, hgr.block b hb.1 fun e => hb.2.1 e.symm⟩) _ _ (rdC_append k1 _ _ g4)⟩, hG⟩
theorem wp_append_X {P : Program} {X : Nat → Prop} {o : Oper} {a : Act} {K : Act → World → Prop} {Q : Exit → Act → World → Prop} (w : World) (s x : Operand) (t : TypeId) (ho : o.op = .call { callee := .builtin .append, args := #[s, x], argTypes := #[t, t] })
 (e : TypeId) (z : Value) (size bytes : Nat) (ht : P.underlying t = some (.slice e)) (hi : (P.info? e).map (fun i => (i.zero, i.size, i.bytes)) = some (some z, size, bytes)) (hzs : z.cells.size = size) (hsz : 0 < size)
 (B : Nat) (v : Value) (n : Nat) (xs : List D) (hg : Grx X w B e size v n xs) (A : Option Addr) (c m : Nat) (ys : List D) (hm : ys.length = m) (hy : Sl w (fun b => b < w.heap.size ∧ v.ownBlock ≠ some b ∧ X b) size A c ys) (hB : B ≤ w.heap.size)
 (hn : n + m ≤ maxLen) (hbt : (n + m) * bytes ≤ 140737488355328) (hs : a.eval s = v) (hx : a.eval x = .slice A m c)
 (h : ∀ A' c' w', Grx X w' B e size (.slice A' (n + m) c') (n + m) (xs ++ ys) → Gr w w' v (.slice A' (n + m) c') → K (a.put o.dst (.slice A' (n + m) c')) w') : o.wp P a w K Q := by
 obtain ⟨A', c', w', hr, h2, h3⟩ := Grx.step (P := P) w t o.type e z size bytes ht hi hzs hsz B v n xs hg A c m ys hm hy hB hn hbt
 unfold Oper.wp execOp
 simp only [ho, resolve, invoke, builtin, Sem.run_bind, Sem.run_pure, Result.andThen_ok, List.map_toArray, List.map_cons, List.map_nil, hs, hx, hr]
 exact h A' c' w' h2 h3
theorem wpList_append_X {P : Program} {X : Nat → Prop} {ops : Array Oper} {rest : List Oper} {o : Oper} {a : Act} {Q : Exit → Act → World → Prop} (w : World) (hgd : o.guard = none) (s x : Operand) (t : TypeId) (ho : o.op = .call { callee := .builtin .append, args := #[s, x], argTypes := #[t, t] })
 (e : TypeId) (z : Value) (size bytes : Nat) (ht : P.underlying t = some (.slice e)) (hi : (P.info? e).map (fun i => (i.zero, i.size, i.bytes)) = some (some z, size, bytes)) (hzs : z.cells.size = size) (hsz : 0 < size)
 (B : Nat) (v : Value) (n : Nat) (xs : List D) (hg : Grx X w B e size v n xs) (A : Option Addr) (c m : Nat) (ys : List D) (hm : ys.length = m) (hy : Sl w (fun b => b < w.heap.size ∧ v.ownBlock ≠ some b ∧ X b) size A c ys) (hB : B ≤ w.heap.size)
 (hn : n + m ≤ maxLen) (hbt : (n + m) * bytes ≤ 140737488355328) (hs : a.eval s = v) (hx : a.eval x = .slice A m c)
 (h : ∀ A' c' w', Grx X w' B e size (.slice A' (n + m) c') (n + m) (xs ++ ys) → Gr w w' v (.slice A' (n + m) c') → wpList P ops Q rest (a.put o.dst (.slice A' (n + m) c')) w') : wpList P ops Q (o :: rest) a w :=
 wpList_plain hgd fun _ hK => wp_append_X w s x t ho e z size bytes ht hi hzs hsz B v n xs hg A c m ys hm hy hB hn hbt hs hx fun A' c' w' h2 h3 => hK _ _ (h A' c' w' h2 h3)
theorem step_append_X {P : Program} {X : Nat → Prop} {ops : Array Oper} {o : Oper} {a : Act} {K : Act → World → Prop} {Q : Exit → Act → World → Prop} {E : Prop} (w : World) (hgd : o.guard = none) (s x : Operand) (t : TypeId) (ho : o.op = .call { callee := .builtin .append, args := #[s, x], argTypes := #[t, t] })
 (e : TypeId) (z : Value) (size bytes : Nat) (ht : P.underlying t = some (.slice e)) (hi : (P.info? e).map (fun i => (i.zero, i.size, i.bytes)) = some (some z, size, bytes)) (hzs : z.cells.size = size) (hsz : 0 < size)
 (B : Nat) (v : Value) (n : Nat) (xs : List D) (hg : Grx X w B e size v n xs) (A : Option Addr) (c m : Nat) (ys : List D) (hm : ys.length = m) (hy : Sl w (fun b => b < w.heap.size ∧ v.ownBlock ≠ some b ∧ X b) size A c ys) (hB : B ≤ w.heap.size)
 (hn : n + m ≤ maxLen) (hbt : (n + m) * bytes ≤ 140737488355328) (hs : a.eval s = v) (hx : a.eval x = .slice A m c)
 (h : ∀ A' c' w', Grx X w' B e size (.slice A' (n + m) c') (n + m) (xs ++ ys) → Gr w w' v (.slice A' (n + m) c') → K (a.put o.dst (.slice A' (n + m) c')) w') : if Region.wanted o (yielded ops a.tmps) = true then Oper.wp P o a w K Q else E := by
 have hw : Region.wanted o (yielded ops a.tmps) = true := by simp [Region.wanted, hgd]
 rw [if_pos hw]
 exact wp_append_X w s x t ho e z size bytes ht hi hzs hsz B v n xs hg A c m ys hm hy hB hn hbt hs hx h
set_option maxHeartbeats 1000000
theorem least_ex {I : Nat → Prop} : ∀ n, (∃ k, k ≤ n ∧ I k) → ∃ m, I m ∧ ∀ k, I k → m ≤ k
 | 0, ⟨k, hk, h⟩ => ⟨k, h, fun j _ => by omega⟩
 | n + 1, ⟨k, hk, h⟩ => by
  by_cases hn : ∃ k, k ≤ n ∧ I k
  · exact least_ex n hn
  · exact ⟨k, h, fun j hj => by
      rcases Nat.lt_or_ge j k with hlt | hge
      · exact (hn ⟨j, by omega, hj⟩).elim
      · exact hge⟩
open Classical in
noncomputable def leastK (I : Nat → Prop) : Nat := if h : ∃ m, I m ∧ ∀ k, I k → m ≤ k then Classical.choose h else 0
theorem leastK_both {I : Nat → Prop} (h : ∃ k, I k) : I (leastK I) ∧ ∀ k, I k → leastK I ≤ k := by
 obtain ⟨k, hk⟩ := h
 have h' : ∃ m, I m ∧ ∀ k, I k → m ≤ k := least_ex k ⟨k, Nat.le_refl _, hk⟩
 unfold leastK
 rw [dif_pos h']
 exact Classical.choose_spec h'
theorem leastK_spec {I : Nat → Prop} (h : ∃ k, I k) : I (leastK I) := (leastK_both h).1
theorem leastK_le {I : Nat → Prop} {k : Nat} (h : I k) : leastK I ≤ k := (leastK_both ⟨k, h⟩).2 k h
theorem Grx.keepP {X : Nat → Prop} {w w' : World} {B : Nat} {e : TypeId} {size : Nat} {v : Value} {n : Nat} {xs : List D} (h : Grx X w B e size v n xs) (hs : w.heap.size ≤ w'.heap.size) (hk : ∀ b, b < w.heap.size → (v.ownBlock = some b ∨ X b) → w'.heap[b]? = w.heap[b]?) : Grx X w' B e size v n xs := by
 have ho := h.own
 obtain ⟨h1, cs, h2, h4⟩ := h
 refine ⟨h1, cs, ⟨h2.1, ?_⟩, rdC_keep (fun b hb => ⟨⟨Nat.lt_of_lt_of_le hb.1 hs, hb.2⟩, hk b hb.1 (.inr hb.2.2)⟩) xs cs h4⟩
 rcases h2.2 with h | ⟨g, cap, cur, rfl, a1, a2, a3⟩
 · exact .inl h
 · exact .inr ⟨g, cap, cur, rfl, a1, (hk g (ho g rfl).2 (.inl rfl)).trans a2, a3⟩
theorem Grx.wide {X Y : Nat → Prop} {w : World} {B B' : Nat} {e : TypeId} {size : Nat} {v : Value} {n : Nat} {xs : List D} (h : Grx X w B e size v n xs) (hB : B' ≤ B) (hX : ∀ b, X b → Y b) : Grx Y w B' e size v n xs := by
 obtain ⟨h1, cs, h2, h4⟩ := h
 refine ⟨h1, cs, ⟨h2.1, ?_⟩, rdC_keep (fun b hb => ⟨⟨hb.1, hb.2.1, hX b hb.2.2⟩, rfl⟩) xs cs h4⟩
 rcases h2.2 with h | ⟨g, cap, cur, rfl, a1, a2, a3⟩
 · exact .inl h
 · exact .inr ⟨g, cap, cur, rfl, Nat.le_trans hB a1, a2, a3⟩
theorem own_is {b : Nat} {o n c q : Nat} (h : (Value.slice (some ⟨b, o, none⟩) n c).ownBlock = some q) : q = b := by simp [Value.ownBlock] at h; omega
theorem Gr.keepB {w w' : World} {v v' : Value} (h : Gr w w' v v') {b : Nat} (hb : b < w.heap.size) (hv : v.ownBlock ≠ some b) : w'.heap[b]? = w.heap[b]? := h.grow.block b hb fun e => hv e.symm
theorem Sl.ofRow {w : World} {b : Nat} {T : TypeId} {cs : Array Value} {size c : Nat} {S : Nat → Prop} {xs : List D} (hr : Row w b T cs) (hc : rdC w size S xs cs.toList) (hS : S b) (hl : xs.length ≤ c) (hm : c ≤ maxLen) : Sl w S size (some ⟨b, 0, none⟩) c xs :=
 ⟨hl, hm, .inr ⟨b, 0, rfl, hS, rdC_row xs cs.toList 0 (fun j v hj => by rw [Nat.zero_add, hr.cell]; simpa using hj) hc⟩⟩
theorem rdC_one1 {w : World} {size : Nat} {S : Nat → Prop} {d1 : D} {c1 : List Value} (h1 : d1.rd w S c1) (l1 : c1.length = size) : rdC w size S [d1] c1 := ⟨c1, [], by simp, l1, h1, rfl⟩
theorem rdC_cons {w : World} {size : Nat} {S : Nat → Prop} {d1 : D} {xs : List D} {c1 cs : List Value} (h1 : d1.rd w S c1) (l1 : c1.length = size) (h : rdC w size S xs cs) : rdC w size S (d1 :: xs) (c1 ++ cs) := ⟨c1, cs, rfl, l1, h1, h⟩
def zNd : Value := .agg #[.int .i64 0, .int .i64 0, .string ⟨#[]⟩, .string ⟨#[]⟩, .slice none 0 0]
def zTyv : Value := .agg #[.int .i64 0, .int .i64 0, .string ⟨#[]⟩, .slice none 0 0]
def zCn : Value := .agg #[.string ⟨#[]⟩, .slice none 0 0]
def zDt : Value := .agg #[.string ⟨#[]⟩, .int .i64 0, .slice none 0 0]
theorem Mv.chg {ts : List GToken} {g : Nat} {L : Option Addr} {cl : Nat} {V : Option Addr} {cv : Nat} {vs : List ByteArray} {st : PSt} {q : Nat} {a b c : World} (h : Mv ts g L cl V cv vs st a b) (k : Bx q b c) (hq : a.heap.size ≤ q) (hg : g < a.heap.size) : Mv ts g L cl V cv vs st a c := by
 have hz := h.size
 exact ⟨⟨k.os.trans h.bx.os, k.tape.trans h.bx.tape, k.output.trans h.bx.output, Nat.le_trans hz k.size, fun x hx hxg => (k.block x (by omega) (by omega)).trans (h.bx.block x hx hxg)⟩, (k.block g (by omega) (by omega)).trans h.row, h.vs, h.pos⟩
theorem boxed (w : World) (T : TypeId) (cs : Array Value) : ∃ x, x = w.alloc (.cells cs T) ∧ Hid (Row x w.heap.size T cs) ∧ x.heap.size = w.heap.size + 1 ∧ Hid (Bx w.heap.size w x) :=
 ⟨_, rfl, LH (Row.new _ _ _), by simp, LH ((Bx.refl _ _).alloc _)⟩
theorem storedF {w : World} {n : Nat} {T : TypeId} {cs : Array Value} (h : Row w n T cs) (i : Nat) (v : Value) : ∃ x, x = w.setCell ⟨n, i, none⟩ v ∧ Hid (Row x n T (cs.setIfInBounds i v)) ∧ x.heap.size = w.heap.size ∧ Hid (Bx n w x) :=
 ⟨_, rfl, LH (h.set i v), by simp [World.setCell], LH ((Bx.refl _ _).set (p := ⟨n, i, none⟩) (.inl rfl) _)⟩
theorem stored2 {w : World} {n : Nat} {T : TypeId} {a0 a1 : Value} (h : Row w n T #[a0, a1]) (v0 v1 : Value) : ∃ x, x = ((w.setCell ⟨n, 0, none⟩ v0).setCell ⟨n, 1, none⟩ v1) ∧ Hid (Row x n T #[v0, v1]) ∧ x.heap.size = w.heap.size ∧ Hid (Bx n w x) :=
 ⟨_, rfl, LH ((h.set 0 v0).set 1 v1), by simp [World.setCell], LH (((Bx.refl _ _).set (p := ⟨n, 0, none⟩) (.inl rfl) _).set (p := ⟨n, 1, none⟩) (.inl rfl) _)⟩
theorem stored3 {w : World} {n : Nat} {T : TypeId} {a0 a1 a2 : Value} (h : Row w n T #[a0, a1, a2]) (v0 v1 v2 : Value) : ∃ x, x = (((w.setCell ⟨n, 0, none⟩ v0).setCell ⟨n, 1, none⟩ v1).setCell ⟨n, 2, none⟩ v2) ∧ Hid (Row x n T #[v0, v1, v2]) ∧ x.heap.size = w.heap.size ∧ Hid (Bx n w x) :=
 ⟨_, rfl, LH (((h.set 0 v0).set 1 v1).set 2 v2), by simp [World.setCell], LH ((((Bx.refl _ _).set (p := ⟨n, 0, none⟩) (.inl rfl) _).set (p := ⟨n, 1, none⟩) (.inl rfl) _).set (p := ⟨n, 2, none⟩) (.inl rfl) _)⟩
theorem stored4 {w : World} {n : Nat} {T : TypeId} {a0 a1 a2 a3 : Value} (h : Row w n T #[a0, a1, a2, a3]) (v0 v1 v2 v3 : Value) : ∃ x, x = ((((w.setCell ⟨n, 0, none⟩ v0).setCell ⟨n, 1, none⟩ v1).setCell ⟨n, 2, none⟩ v2).setCell ⟨n, 3, none⟩ v3) ∧ Hid (Row x n T #[v0, v1, v2, v3]) ∧ x.heap.size = w.heap.size ∧ Hid (Bx n w x) :=
 ⟨_, rfl, LH ((((h.set 0 v0).set 1 v1).set 2 v2).set 3 v3), by simp [World.setCell], LH (((((Bx.refl _ _).set (p := ⟨n, 0, none⟩) (.inl rfl) _).set (p := ⟨n, 1, none⟩) (.inl rfl) _).set (p := ⟨n, 2, none⟩) (.inl rfl) _).set (p := ⟨n, 3, none⟩) (.inl rfl) _)⟩
theorem stored5 {w : World} {n : Nat} {T : TypeId} {a0 a1 a2 a3 a4 : Value} (h : Row w n T #[a0, a1, a2, a3, a4]) (v0 v1 v2 v3 v4 : Value) : ∃ x, x = (((((w.setCell ⟨n, 0, none⟩ v0).setCell ⟨n, 1, none⟩ v1).setCell ⟨n, 2, none⟩ v2).setCell ⟨n, 3, none⟩ v3).setCell ⟨n, 4, none⟩ v4) ∧ Hid (Row x n T #[v0, v1, v2, v3, v4]) ∧ x.heap.size = w.heap.size ∧ Hid (Bx n w x) :=
 ⟨_, rfl, LH (((((h.set 0 v0).set 1 v1).set 2 v2).set 3 v3).set 4 v4), by simp [World.setCell], LH ((((((Bx.refl _ _).set (p := ⟨n, 0, none⟩) (.inl rfl) _).set (p := ⟨n, 1, none⟩) (.inl rfl) _).set (p := ⟨n, 2, none⟩) (.inl rfl) _).set (p := ⟨n, 3, none⟩) (.inl rfl) _).set (p := ⟨n, 4, none⟩) (.inl rfl) _)⟩
def PToNode (ts : List GToken) (g : Nat) (L : Option Addr) (cl : Nat) (V : Option Addr) (cv : Nat) (vs : List ByteArray) (n : GNode) (st : PSt) (w : World) (e : Ending) (w' : World) : Prop :=
 ∃ A c, e = .returned (.agg #[.int .i64 n.op, .int .i64 n.n, .string n.s, .string n.t, .slice A n.kids.length c]) ∧ GNode.At w' (fun b => w.heap.size ≤ b ∧ b < w'.heap.size) A c n ∧ Mv ts g L cl V cv vs st w w'
def PToTy (ts : List GToken) (g : Nat) (L : Option Addr) (cl : Nat) (V : Option Addr) (cv : Nat) (vs : List ByteArray) (n : GTy) (st : PSt) (w : World) (e : Ending) (w' : World) : Prop :=
 ∃ A c, e = .returned (.agg #[.int .i64 n.op, .int .i64 n.n, .string n.s, .slice A n.kids.length c]) ∧ GTy.At w' (fun b => w.heap.size ≤ b ∧ b < w'.heap.size) A c n ∧ Mv ts g L cl V cv vs st w w'
theorem l3Node (X : Nat → Prop) (op : Int) (ks : List GNode) (A : Option Addr) (c : Nat) (w : World) (hs : Sl w (fun b => b < w.heap.size ∧ X b) 5 A c (ks.map GNode.toD)) (hn : ks.length ≤ 1000) :
 Calls Tryz.prog 84 #[.int .i64 op, .slice A ks.length c] w fun e w' => ∃ A' c', e = .returned (.agg #[.int .i64 op, .int .i64 0, .string ⟨#[]⟩, .string ⟨#[]⟩, .slice A' ks.length c']) ∧
  Grx X w' w.heap.size 39 5 (.slice A' ks.length c') ks.length (ks.map GNode.toD) ∧ Below w.heap.size w w' := by
 have HS := LH hs
 clear hs
 obtain ⟨w1, e1⟩ : ∃ w1, w1 = w.alloc (.cells #[.int .i64 0, .int .i64 0, .string ⟨#[]⟩, .string ⟨#[]⟩, .slice none 0 0] 39) := ⟨_, rfl⟩
 obtain ⟨w2, e2⟩ : ∃ w2, w2 = w1.alloc (.cells #[] 39) := ⟨_, rfl⟩
 have hz1 : w1.heap.size = w.heap.size + 1 := by rw [e1]; simp
 have hz2 : w2.heap.size = w.heap.size + 2 := by rw [e2]; simp [hz1]
 have E2 := LH (show Below w.heap.size w w2 by rw [e2, e1]; exact ((Below.refl _ _).alloc (Nat.le_refl _) _).alloc (by simp) _)
 have RR := LH (show Row w2 w.heap.size 39 #[.int .i64 0, .int .i64 0, .string ⟨#[]⟩, .string ⟨#[]⟩, .slice none 0 0] by rw [e2, e1]; exact (Row.new _ _ _).alloc _)
 have G2 := LH (show Grx (fun b => X b ∧ b < w.heap.size) w2 (w.heap.size + 1) 39 5 (.slice (some ⟨w.heap.size + 1, 0, none⟩) 0 0) 0 [] from Grx.made (by rw [e2]; exact Row.new' _ _ _ hz1.symm) (by omega))
 have T2 := LH (show Sl w2 (fun b => b < w2.heap.size ∧ (Value.slice (some ⟨w.heap.size + 1, 0, none⟩) 0 0).ownBlock ≠ some b ∧ (X b ∧ b < w.heap.size)) 5 A c (ks.map GNode.toD) from HS.out.keep fun b hb => ⟨⟨by have := hb.1; omega, fun e => by have := own_is e; have := hb.1; omega, hb.2, hb.1⟩, E2.out.block b hb.1⟩)
 go_enter Tryz.func84, Tryz.ntmps84
 go_wp2_with (first | (at_builtin; rw [← e1, ← e2]; refine wpList_append_X w2 rfl (.tmp 6) (.tmp 7) 25 rfl 39 zNd 5 72 Tryz.underlying25 (by kernel_rfl) rfl (by omega) (w.heap.size + 1) (.slice (some ⟨w.heap.size + 1, 0, none⟩) 0 0) 0 _ G2.out A c ks.length _ (by simp) T2.out (by omega) (by unfold maxLen; omega) (by omega) rfl rfl ?_; intro A4 c4 w4 G4 hGr4; rw [Nat.zero_add] at G4 hGr4; have HE4 := LH (show Value.slice A4 (0 + ks.length) c4 = .slice A4 ks.length c4 by rw [Nat.zero_add]); rw [HE4.out]; have G4h := LH (show Grx (fun b => X b ∧ b < w.heap.size) w4 (w.heap.size + 1) 39 5 (.slice A4 ks.length c4) ks.length (ks.map GNode.toD) by simpa using G4); have GR4 := LH hGr4; have R4 := LH (show Row w4 w.heap.size 39 #[.int .i64 0, .int .i64 0, .string ⟨#[]⟩, .string ⟨#[]⟩, .slice none 0 0] from (hGr4.keepB (by omega) (by simp [Value.ownBlock])).trans RR.out); have hc4 := fun i => R4.out.cell i; have hf4 := fun i => R4.out.frozen i; have hz4 := hGr4.size; clear G4 hGr4))
 obtain ⟨w5, e5, R5, z5, K5⟩ := stored5 R4.out (.int .i64 op) (.int .i64 0) (.string ⟨#[]⟩) (.string ⟨#[]⟩) (.slice A4 ks.length c4)
 rw [← e5]
 have G5 := LH (G4h.out.keepP (w' := w5) (by omega) fun b hb h => K5.out.block b hb (by
   rcases h with h | h
   · have := G4h.out.own b h; omega
   · have := h.2; omega))
 have hc5 := fun i => R5.out.cell i
 clear hc4 hf4 e5
 refine bodyPost_ret (v := .agg #[.int .i64 op, .int .i64 0, .string ⟨#[]⟩, .string ⟨#[]⟩, .slice A4 ks.length c4]) (by simp [results, Tryz.results84, go_sem, hc5]) rfl ?_
 exact ⟨A4, c4, rfl, G5.out.wide (by omega) fun b h => h.1, (E2.out.trans (GR4.out.below (by omega) fun q hq => by have := own_is hq; omega)).trans (K5.out.below (by omega) (by omega))⟩
set_option maxHeartbeats 2000000
def Ok1 (F : FuncId) (p : List GToken → Nat → PSt → Option (GNode × PSt)) (k : Nat) : Prop :=
 ∀ (ts : List GToken) (g : Nat) (L : Option Addr) (cl : Nat) (V : Option Addr) (cv : Nat) (st : PSt) (w : World), PCur ts g L cl V cv st w → ∀ (n : GNode) (st' : PSt), p ts k st = some (n, st') →
  Calls Tryz.prog F #[.pointer (some ⟨g, 0, none⟩)] w (PToNode ts g L cl V cv st.vars n st' w)
def OkT (F : FuncId) (p : List GToken → Nat → PSt → Option (GTy × PSt)) (k : Nat) : Prop :=
 ∀ (ts : List GToken) (g : Nat) (L : Option Addr) (cl : Nat) (V : Option Addr) (cv : Nat) (st : PSt) (w : World), PCur ts g L cl V cv st w → ∀ (n : GTy) (st' : PSt), p ts k st = some (n, st') →
  Calls Tryz.prog F #[.pointer (some ⟨g, 0, none⟩)] w (PToTy ts g L cl V cv st.vars n st' w)
theorem GNode.leaf {w : World} {S : Nat → Prop} {op n : Int} {s t : ByteArray} (h1 : (Lit.int .i64 op).wf = true) (h2 : (Lit.int .i64 n).wf = true) (h3 : s.size ≤ maxLen) (h4 : t.size ≤ maxLen) : GNode.At w S none 0 (.mk op n s t []) := ⟨h1, h2, h3, h4, Sl.nil (by unfold maxLen; omega)⟩
theorem empty_le : (⟨#[]⟩ : ByteArray).size ≤ maxLen := by simp [ByteArray.size, maxLen]
theorem l3Atom (k : Nat) (hE : Ok1 53 pE k) : Ok1 120 pAtom (k + 1) := by
 intro ts g L cl V cv st w h n st' hp
 have HE := LH hE
 clear hE
 obtain ⟨b0, off0, hL, hbt, -, -, -, -, hat⟩ := h.now
 clear hL hbt
 obtain ⟨t, ht⟩ : ∃ t, pNow ts st = t := ⟨_, rfl⟩
 rw [ht] at hat
 have HAT := LH hat
 have HT := LH ht
 clear hat
 have HC := LH h
 have M0 := LH h.mv
 have hgl := h.row.lt
 clear h
 have hcu0 := fun i => M0.out.row.cell i
 have HN := LH (l3Now ts g L cl V cv st w HC.out)
 rw [ht] at HN
 clear ht
 go_enter Tryz.func120, Tryz.ntmps120
 go_wp2_with fail
 clear hcu0
 obtain ⟨w1, e1, Rr1, hz1, K1⟩ := boxed w 39 #[.int .i64 0, .int .i64 0, .string ⟨#[]⟩, .string ⟨#[]⟩, .slice none 0 0]
 have M1 := LH (M0.out.chg K1.out (by omega) (by omega))
 rw [← e1]
 clear e1
 have hcu1 := fun i => M1.out.row.cell i
 have hlu1 := M1.out.row.lt
 have hcr1 := fun i => Rr1.out.cell i
 have hlr1 := Rr1.out.lt
 have HN1 := LH (l3Now ts g L cl V cv st w1 (M1.out.cur HC.out))
 rw [HT.out] at HN1
 clear HN
 refine (HN1.out).mono ?_
 clear hcu1 hlu1 hcr1 hlr1
 rintro e w2 ⟨rfl, hb2⟩
 have hz2 := hb2.size
 have K2 := LH (Bx.of_below (g := g) hb2 (Nat.le_refl _))
 have Rr2 := LH (K2.out.row Rr1.out (by omega))
 have M2 := LH (M1.out.below hb2)
 clear Rr1 M1
 clear hb2
 have hcu2 := fun i => M2.out.row.cell i
 have hlu2 := M2.out.row.lt
 have hcr2 := fun i => Rr2.out.cell i
 have hlr2 := Rr2.out.lt
 clear HN1
 cases hb : decide (st.bad < 0)
 case' true => cases hk : (t.kind == 3)
 case' true.true =>
  simp [pAtom, hb, hk, HT.out] at hp
  obtain ⟨rfl, rfl⟩ := hp
  go_wp2_with fail
  clear hcu2 hlu2 hcr2 hlr2
  obtain ⟨w3, e3, Rt3, hz3, K3⟩ := boxed w2 119 #[.int .i64 t.kind, .string t.text, .int .i64 t.n, .int .i64 t.pos]
  have Rr3 := LH (K3.out.row Rr2.out (by omega))
  have M3 := LH (M2.out.chg K3.out (by omega) (by omega))
  clear Rr2 M2
  rw [← e3]
  clear e3
  have hcu3 := fun i => M3.out.row.cell i
  have hlu3 := M3.out.row.lt
  have hcr3 := fun i => Rr3.out.cell i
  have hlr3 := Rr3.out.lt
  have hct3 := fun i => Rt3.out.cell i
  have hlt3 := Rt3.out.lt
  refine (l3Next ts g L cl V cv st w3 (M3.out.cur HC.out)).mono ?_
  clear hcu3 hlu3 hcr3 hlr3 hct3 hlt3
  rintro e w4 ⟨rfl, hm4⟩
  replace hm4 : Mv ts g L cl V cv st.vars (pNext ts st) w3 w4 := hm4
  have hz4 := hm4.size
  have K4 := LH hm4.bx
  have Rr4 := LH (K4.out.row Rr3.out (by omega))
  have Rt4 := LH (K4.out.row Rt3.out (by omega))
  have M4 := LH (M3.out.trans hm4)
  clear Rr3 Rt3 M3
  clear hm4
  have hcu4 := fun i => M4.out.row.cell i
  have hlu4 := M4.out.row.lt
  have hcr4 := fun i => Rr4.out.cell i
  have hfr4 := fun i => Rr4.out.frozen i
  have hlr4 := Rr4.out.lt
  have hct4 := fun i => Rt4.out.cell i
  have hlt4 := Rt4.out.lt
  go_wp2_with fail
  clear hcu4 hlu4 hcr4 hfr4 hlr4 hct4 hlt4
  obtain ⟨w5, e5, RN5, hz5, K5⟩ := stored5 Rr4.out (.int .i64 1) (.int .i64 t.n) (.string ⟨#[]⟩) (.string ⟨#[]⟩) (.slice none 0 0)
  have Rt5 := LH (K5.out.row Rt4.out (by omega))
  have M5 := LH (M4.out.chg K5.out (by omega) (by omega))
  clear Rt4 M4
  clear Rr4
  rw [← e5]
  clear e5
  have hcu5 := fun i => M5.out.row.cell i
  have hlu5 := M5.out.row.lt
  have hct5 := fun i => Rt5.out.cell i
  have hlt5 := Rt5.out.lt
  have hcr5 := fun i => RN5.out.cell i
  have hlr5 := RN5.out.lt
  refine bodyPost_ret (v := .agg #[.int .i64 1, .int .i64 t.n, .string ⟨#[]⟩, .string ⟨#[]⟩, .slice none 0 0]) (by simp [results, Tryz.results120, go_sem, hcr5]) rfl ?_
  exact ⟨none, 0, rfl, GNode.leaf (by decide) HAT.out.2.2.1 empty_le empty_le, M5.out⟩
 all_goals
  go_wp2_with fail
  clear hcu2 hlu2 hcr2 hlr2
  obtain ⟨w3, e3, Rt3, hz3, K3⟩ := boxed w2 119 #[.int .i64 t.kind, .string t.text, .int .i64 t.n, .int .i64 t.pos]
  have Rr3 := LH (K3.out.row Rr2.out (by omega))
  have M3 := LH (M2.out.chg K3.out (by omega) (by omega))
  clear Rr2 M2
  rw [← e3]
  clear e3
  have hcu3 := fun i => M3.out.row.cell i
  have hlu3 := M3.out.row.lt
  have hcr3 := fun i => Rr3.out.cell i
  have hlr3 := Rr3.out.lt
  have hct3 := fun i => Rt3.out.cell i
  have hlt3 := Rt3.out.lt
  refine (l3Name ts g L cl V cv st w3 (M3.out.cur HC.out)).mono ?_
  clear hcu3 hlu3 hcr3 hlr3 hct3 hlt3
  rintro e w4 ⟨rfl, hb4⟩
  have hz4 := hb4.size
  have K4 := LH (Bx.of_below (g := g) hb4 (Nat.le_refl _))
  have Rr4 := LH (K4.out.row Rr3.out (by omega))
  have Rt4 := LH (K4.out.row Rt3.out (by omega))
  have M4 := LH (M3.out.below hb4)
  clear Rr3 Rt3 M3
  clear hb4
  have hcu4 := fun i => M4.out.row.cell i
  have hlu4 := M4.out.row.lt
  have hcr4 := fun i => Rr4.out.cell i
  have hfr4 := fun i => Rr4.out.frozen i
  have hlr4 := Rr4.out.lt
  have hct4 := fun i => Rt4.out.cell i
  have hlt4 := Rt4.out.lt
  cases hn : pName ts st
  case' true =>
   simp [pAtom, *, HT.out] at hp
   obtain ⟨rfl, rfl⟩ := hp
   go_wp2_with fail
   refine (l3Next ts g L cl V cv st w4 (M4.out.cur HC.out)).mono ?_
   clear hcu4 hlu4 hcr4 hfr4 hlr4 hct4 hlt4
   rintro e w5 ⟨rfl, hm5⟩
   replace hm5 : Mv ts g L cl V cv st.vars (pNext ts st) w4 w5 := hm5
   have hz5 := hm5.size
   have K5 := LH hm5.bx
   have Rr5 := LH (K5.out.row Rr4.out (by omega))
   have Rt5 := LH (K5.out.row Rt4.out (by omega))
   have M5 := LH (M4.out.trans hm5)
   clear Rr4 Rt4 M4
   clear hm5
   have hcu5 := fun i => M5.out.row.cell i
   have hlu5 := M5.out.row.lt
   have hcr5 := fun i => Rr5.out.cell i
   have hfr5 := fun i => Rr5.out.frozen i
   have hlr5 := Rr5.out.lt
   have hct5 := fun i => Rt5.out.cell i
   have hlt5 := Rt5.out.lt
   go_wp2_with fail
   clear hcu5 hlu5 hcr5 hlr5 hct5 hlt5
   obtain ⟨w6, e6, RN6, hz6, K6⟩ := stored5 Rr5.out (.int .i64 2) (.int .i64 0) (.string t.text) (.string ⟨#[]⟩) (.slice none 0 0)
   have Rt6 := LH (K6.out.row Rt5.out (by omega))
   have M6 := LH (M5.out.chg K6.out (by omega) (by omega))
   clear Rt5 M5
   clear Rr5
   rw [← e6]
   clear e6
   have hcu6 := fun i => M6.out.row.cell i
   have hlu6 := M6.out.row.lt
   have hct6 := fun i => Rt6.out.cell i
   have hlt6 := Rt6.out.lt
   have hcr6 := fun i => RN6.out.cell i
   have hlr6 := RN6.out.lt
   refine bodyPost_ret (v := .agg #[.int .i64 2, .int .i64 0, .string t.text, .string ⟨#[]⟩, .slice none 0 0]) (by simp [results, Tryz.results120, go_sem, hcr6]) rfl ?_
   exact ⟨none, 0, rfl, GNode.leaf (by decide) (by decide) HAT.out.2.1 empty_le, M6.out⟩
  go_wp2_with fail
  refine (l3Con ts g L cl V cv st w4 (M4.out.cur HC.out)).mono ?_
  clear hcu4 hlu4 hcr4 hfr4 hlr4 hct4 hlt4
  rintro e w5 ⟨rfl, hb5⟩
  have hz5 := hb5.size
  have K5 := LH (Bx.of_below (g := g) hb5 (Nat.le_refl _))
  have Rr5 := LH (K5.out.row Rr4.out (by omega))
  have Rt5 := LH (K5.out.row Rt4.out (by omega))
  have M5 := LH (M4.out.below hb5)
  clear Rr4 Rt4 M4
  clear hb5
  have hcu5 := fun i => M5.out.row.cell i
  have hlu5 := M5.out.row.lt
  have hcr5 := fun i => Rr5.out.cell i
  have hfr5 := fun i => Rr5.out.frozen i
  have hlr5 := Rr5.out.lt
  have hct5 := fun i => Rt5.out.cell i
  have hlt5 := Rt5.out.lt
  cases hc : pCon ts st
  case' true =>
   simp [pAtom, *, HT.out] at hp
   obtain ⟨rfl, rfl⟩ := hp
   go_wp2_with fail
   refine (l3Next ts g L cl V cv st w5 (M5.out.cur HC.out)).mono ?_
   clear hcu5 hlu5 hcr5 hlr5 hct5 hlt5
   rintro e w6 ⟨rfl, hm6⟩
   replace hm6 : Mv ts g L cl V cv st.vars (pNext ts st) w5 w6 := hm6
   have hz6 := hm6.size
   have K6 := LH hm6.bx
   have Rr6 := LH (K6.out.row Rr5.out (by omega))
   have Rt6 := LH (K6.out.row Rt5.out (by omega))
   have M6 := LH (M5.out.trans hm6)
   clear Rr5 Rt5 M5
   clear hm6
   have hcu6 := fun i => M6.out.row.cell i
   have hlu6 := M6.out.row.lt
   have hcr6 := fun i => Rr6.out.cell i
   have hfr6 := fun i => Rr6.out.frozen i
   have hlr6 := Rr6.out.lt
   have hct6 := fun i => Rt6.out.cell i
   have hlt6 := Rt6.out.lt
   go_wp2_with fail
   clear hcu6 hlu6 hcr6 hlr6 hct6 hlt6
   obtain ⟨w7, e7, RN7, hz7, K7⟩ := stored5 Rr6.out (.int .i64 15) (.int .i64 0) (.string t.text) (.string ⟨#[]⟩) (.slice none 0 0)
   have Rt7 := LH (K7.out.row Rt6.out (by omega))
   have M7 := LH (M6.out.chg K7.out (by omega) (by omega))
   clear Rt6 M6
   clear Rr6
   rw [← e7]
   clear e7
   have hcu7 := fun i => M7.out.row.cell i
   have hlu7 := M7.out.row.lt
   have hct7 := fun i => Rt7.out.cell i
   have hlt7 := Rt7.out.lt
   have hcr7 := fun i => RN7.out.cell i
   have hlr7 := RN7.out.lt
   refine bodyPost_ret (v := .agg #[.int .i64 15, .int .i64 0, .string t.text, .string ⟨#[]⟩, .slice none 0 0]) (by simp [results, Tryz.results120, go_sem, hcr7]) rfl ?_
   exact ⟨none, 0, rfl, GNode.leaf (by decide) (by decide) HAT.out.2.1 empty_le, M7.out⟩
  go_wp2_with fail
  obtain ⟨s1, hs1⟩ : ∃ s1, pTake ts [40] st = s1 := ⟨_, rfl⟩
  refine (l3Take ts g L cl V cv st w5 (M5.out.cur HC.out) ⟨#[40]⟩).mono ?_
  clear hcu5 hlu5 hcr5 hlr5 hct5 hlt5
  rintro e w6 ⟨rfl, hm6⟩
  replace hm6 : Mv ts g L cl V cv st.vars (pTake ts [40] st) w5 w6 := hm6
  have hz6 := hm6.size
  have K6 := LH hm6.bx
  have Rr6 := LH (K6.out.row Rr5.out (by omega))
  have Rt6 := LH (K6.out.row Rt5.out (by omega))
  have M6 := LH (M5.out.trans hm6)
  clear Rr5 Rt5 M5
  clear hm6
  have hcu6 := fun i => M6.out.row.cell i
  have hlu6 := M6.out.row.lt
  have hcr6 := fun i => Rr6.out.cell i
  have hfr6 := fun i => Rr6.out.frozen i
  have hlr6 := Rr6.out.lt
  have hct6 := fun i => Rt6.out.cell i
  have hlt6 := Rt6.out.lt
  rw [hs1] at M6
  clear hcu6 hlu6 hcr6 hlr6 hct6 hlt6
  have hcu6 := fun i => M6.out.row.cell i
  have hlu6 := M6.out.row.lt
  have hcr6 := fun i => Rr6.out.cell i
  have hfr6 := fun i => Rr6.out.frozen i
  have hlr6 := Rr6.out.lt
  have hct6 := fun i => Rt6.out.cell i
  have hlt6 := Rt6.out.lt
  have HS1 := LH hs1
  by_cases hb1 : 0 ≤ s1.bad
  ·
   simp [pAtom, *, HT.out] at hp
   obtain ⟨rfl, rfl⟩ := hp
   have d1 : decide (0 ≤ s1.bad) = true := decide_eq_true hb1
   go_wp2_with fail
   clear hcu6 hlu6 hcr6 hlr6 hct6 hlt6
   obtain ⟨w7, e7, RN7, hz7, K7⟩ := stored5 Rr6.out (.int .i64 0) (.int .i64 0) (.string ⟨#[]⟩) (.string ⟨#[]⟩) (.slice none 0 0)
   have Rt7 := LH (K7.out.row Rt6.out (by omega))
   have M7 := LH (M6.out.chg K7.out (by omega) (by omega))
   clear Rt6 M6
   clear Rr6
   rw [← e7]
   clear e7
   have hcu7 := fun i => M7.out.row.cell i
   have hlu7 := M7.out.row.lt
   have hct7 := fun i => Rt7.out.cell i
   have hlt7 := Rt7.out.lt
   have hcr7 := fun i => RN7.out.cell i
   have hlr7 := RN7.out.lt
   refine bodyPost_ret (v := .agg #[.int .i64 0, .int .i64 0, .string ⟨#[]⟩, .string ⟨#[]⟩, .slice none 0 0]) (by simp [results, Tryz.results120, go_sem, hcr7]) rfl ?_
   exact ⟨none, 0, rfl, GNode.leaf (by decide) (by decide) empty_le empty_le, M7.out⟩
  ·
   simp [pAtom, *, HT.out] at hp
   obtain ⟨n1, s2, hq, rfl, rfl⟩ := hp
   have d1 : decide (0 ≤ s1.bad) = false := decide_eq_false hb1
   clear hb1 hs1
   go_wp2_with fail
   refine (HE.out ts g L cl V cv s1 w6 (M6.out.cur HC.out) n1 s2 hq).mono ?_
   clear hcu6 hlu6 hcr6 hlr6 hct6 hlt6
   rintro e w7 ⟨Ax, cx, rfl, ha7, hm7⟩
   have hz7 := hm7.size
   have K7 := LH hm7.bx
   have DN7 := LH ha7
   have Rr7 := LH (K7.out.row Rr6.out (by omega))
   have Rt7 := LH (K7.out.row Rt6.out (by omega))
   have M7 := LH (M6.out.trans hm7)
   clear Rr6 Rt6 M6
   clear hm7 ha7
   have hcu7 := fun i => M7.out.row.cell i
   have hlu7 := M7.out.row.lt
   have hcr7 := fun i => Rr7.out.cell i
   have hlr7 := Rr7.out.lt
   have hct7 := fun i => Rt7.out.cell i
   have hlt7 := Rt7.out.lt
   go_wp2_with fail
   clear hcu7 hlu7 hcr7 hlr7 hct7 hlt7
   obtain ⟨w8, e8, Rx8, hz8, K8⟩ := boxed w7 39 #[.int .i64 n1.op, .int .i64 n1.n, .string n1.s, .string n1.t, .slice Ax n1.kids.length cx]
   have Rr8 := LH (K8.out.row Rr7.out (by omega))
   have Rt8 := LH (K8.out.row Rt7.out (by omega))
   have Dx8 := LH (DN7.out.keep fun b hb => K8.out.kq hb (by have h1 := hb.1; have h2 := hb.2; omega))
   have M8 := LH (M7.out.chg K8.out (by omega) (by omega))
   clear Rr7 Rt7 DN7 M7
   rw [← e8]
   clear e8
   have hcu8 := fun i => M8.out.row.cell i
   have hlu8 := M8.out.row.lt
   have hcr8 := fun i => Rr8.out.cell i
   have hlr8 := Rr8.out.lt
   have hct8 := fun i => Rt8.out.cell i
   have hlt8 := Rt8.out.lt
   have hcx8 := fun i => Rx8.out.cell i
   have hlx8 := Rx8.out.lt
   refine (l3Take ts g L cl V cv s2 w8 (M8.out.cur HC.out) ⟨#[41]⟩).mono ?_
   clear hcu8 hlu8 hcr8 hlr8 hct8 hlt8 hcx8 hlx8
   rintro e w9 ⟨rfl, hm9⟩
   replace hm9 : Mv ts g L cl V cv s2.vars (pTake ts [41] s2) w8 w9 := hm9
   have hz9 := hm9.size
   have K9 := LH hm9.bx
   have Rr9 := LH (K9.out.row Rr8.out (by omega))
   have Rt9 := LH (K9.out.row Rt8.out (by omega))
   have Rx9 := LH (K9.out.row Rx8.out (by omega))
   have Dx9 := LH (Dx8.out.keep fun b hb => K9.out.kq hb (by have h1 := hb.1; have h2 := hb.2; omega))
   have M9 := LH (M8.out.trans hm9)
   clear Rr8 Rt8 Rx8 Dx8 M8
   clear hm9
   have hcu9 := fun i => M9.out.row.cell i
   have hlu9 := M9.out.row.lt
   have hcr9 := fun i => Rr9.out.cell i
   have hfr9 := fun i => Rr9.out.frozen i
   have hlr9 := Rr9.out.lt
   have hct9 := fun i => Rt9.out.cell i
   have hlt9 := Rt9.out.lt
   have hcx9 := fun i => Rx9.out.cell i
   have hlx9 := Rx9.out.lt
   go_wp2_with fail
   clear hcu9 hlu9 hcr9 hfr9 hlr9 hct9 hlt9 hcx9 hlx9
   obtain ⟨w10, e10, RN10, hz10, K10⟩ := stored5 Rr9.out (.int .i64 n1.op) (.int .i64 n1.n) (.string n1.s) (.string n1.t) (.slice Ax n1.kids.length cx)
   have Rt10 := LH (K10.out.row Rt9.out (by omega))
   have Rx10 := LH (K10.out.row Rx9.out (by omega))
   have Dx10 := LH (Dx9.out.keep fun b hb => K10.out.kq hb (by have h1 := hb.1; have h2 := hb.2; omega))
   have M10 := LH (M9.out.chg K10.out (by omega) (by omega))
   clear Rt9 Rx9 Dx9 M9
   clear Rr9
   rw [← e10]
   clear e10
   have hcu10 := fun i => M10.out.row.cell i
   have hlu10 := M10.out.row.lt
   have hct10 := fun i => Rt10.out.cell i
   have hlt10 := Rt10.out.lt
   have hcx10 := fun i => Rx10.out.cell i
   have hlx10 := Rx10.out.lt
   have hcr10 := fun i => RN10.out.cell i
   have hlr10 := RN10.out.lt
   refine bodyPost_ret (v := .agg #[.int .i64 n1.op, .int .i64 n1.n, .string n1.s, .string n1.t, .slice Ax n1.kids.length cx]) (by simp [results, Tryz.results120, go_sem, hcr10]) rfl ?_
   exact ⟨Ax, cx, rfl, Dx10.out.keep fun b hb => ⟨⟨by have := hb.1; omega, by have := hb.2; omega⟩, rfl⟩, M10.out⟩
theorem ndOf {X : Nat → Prop} {w : World} {B : Nat} {T : TypeId} {A : Option Addr} {c : Nat} {op : Int} {ks : List GNode} (h : Grx X w B T 5 (.slice A ks.length c) ks.length (ks.map GNode.toD)) (hX : ∀ b, B ≤ b → X b) (ho : (Lit.int .i64 op).wf = true) : GNode.At w (fun b => b < w.heap.size ∧ X b) A c (nd op ks) := by
 obtain ⟨A', c', e, hs⟩ := h.sl hX
 obtain ⟨rfl, rfl⟩ : A = A' ∧ c = c' := by simpa using e
 exact ⟨ho, (show (Lit.int .i64 0).wf = true by decide), empty_le, empty_le, hs⟩
theorem l3Product (k : Nat) (hA : ∀ j, j ≤ k → Ok1 119 pApply j) : Ok1 117 pProduct (k + 1) := by
 intro ts g L cl V cv st w h n st' hp
 simp [pProduct, Option.bind_eq_some_iff] at hp
 obtain ⟨n0, s0, hp0, hp1⟩ := hp
 have HA := LH hA
 have HL := LH hp1
 clear hA hp1
 have HC := LH h
 have M0 := LH h.mv
 have hgl := h.row.lt
 clear h
 go_enter Tryz.func117, Tryz.ntmps117
 go_wp2_with fail
 obtain ⟨w1, e1, Rr1, hz1, K1⟩ := boxed w 39 #[.int .i64 0, .int .i64 0, .string ⟨#[]⟩, .string ⟨#[]⟩, .slice none 0 0]
 have M1 := LH (M0.out.chg K1.out (by omega) (by omega))
 rw [← e1]
 clear e1
 have hlu1 := M1.out.row.lt
 have hcr1 := fun i => Rr1.out.cell i
 have hlr1 := Rr1.out.lt
 refine (HA.out k (Nat.le_refl _) ts g L cl V cv st w1 (M1.out.cur HC.out) n0 s0 hp0).mono ?_
 clear hlu1 hcr1 hlr1
 rintro e w2 ⟨A0, c0, rfl, ha2, hm2⟩
 have hz2 := hm2.size
 have K2 := LH hm2.bx
 have DN2 := LH ha2
 have Rr2 := LH (K2.out.row Rr1.out (by omega))
 have M2 := LH (M1.out.trans hm2)
 clear Rr1 M1
 clear hm2 ha2
 have hlu2 := M2.out.row.lt
 have hcr2 := fun i => Rr2.out.cell i
 have hlr2 := Rr2.out.lt
 clear hp0
 go_wp2_with fail
 clear hlu2 hcr2 hlr2
 obtain ⟨w3, e3, Ra3, hz3, K3⟩ := boxed w2 39 #[.int .i64 n0.op, .int .i64 n0.n, .string n0.s, .string n0.t, .slice A0 n0.kids.length c0]
 have Rr3 := LH (K3.out.row Rr2.out (by omega))
 have D03 := LH (DN2.out.keep fun b hb => K3.out.kq hb (by have h1 := hb.1; have h2 := hb.2; omega))
 have M3 := LH (M2.out.chg K3.out (by omega) (by omega))
 clear Rr2 DN2 M2
 rw [← e3]
 clear e3
 have hlu3 := M3.out.row.lt
 have hcr3 := fun i => Rr3.out.cell i
 have hlr3 := Rr3.out.lt
 have hca3 := fun i => Ra3.out.cell i
 have hla3 := Ra3.out.lt
 clear hlu3 hcr3 hlr3 hca3 hla3
 have hINV : ∃ I : Nat → World → Prop, I = fun j wr => ∃ (x : GNode) (s : PSt) (A : Option Addr) (c : Nat), pMuls ts j s x = some (n, st') ∧ j ≤ k ∧ Row wr w2.heap.size 39 #[.int .i64 x.op, .int .i64 x.n, .string x.s, .string x.t, .slice A x.kids.length c] ∧ Row wr w.heap.size 39 #[.int .i64 0, .int .i64 0, .string ⟨#[]⟩, .string ⟨#[]⟩, .slice none 0 0] ∧ GNode.At wr (fun b => b < wr.heap.size ∧ w.heap.size ≤ b ∧ b ≠ w2.heap.size ∧ b ≠ w.heap.size) A c x ∧ Mv ts g L cl V cv st.vars s w wr ∧ w2.heap.size < wr.heap.size := ⟨_, rfl⟩
 obtain ⟨I, hI⟩ := hINV
 have HI := LH hI
 have I0 : I k w3 := by
  rw [hI]
  exact ⟨n0, s0, A0, c0, HL.out, Nat.le_refl _, Ra3.out, Rr3.out, D03.out.keep fun b hb => ⟨⟨by have h1 := hb.1; have h2 := hb.2; omega, by have h1 := hb.1; have h2 := hb.2; omega⟩, rfl⟩, M3.out, Ra3.out.lt⟩
 have hnw : w.heap.size < w2.heap.size := by omega
 have hzw : w.heap.size ≤ w3.heap.size := M3.out.size
 go_loopw [4] (fun v wr => ∃ j, I j wr) (fun _ wr => leastK (fun j => I j wr))
 case atStart => exact ⟨k, I0⟩
 case round =>
  have hex := hrel
  have hleast := leastK_spec (I := fun j => I j wr) hex
  obtain ⟨j, hj⟩ : ∃ j, leastK (fun j => I j wr) = j := ⟨_, rfl⟩
  rw [hj] at hleast
  have HJ := LH hj
  clear hj hex hrel I0
  rw [hI] at hleast
  obtain ⟨x, s, A, c, hx, hjk, ra, rr, da, hm, hnl⟩ := hleast
  clear Ra3 Rr3 D03 M3 hI
  have RA0 := LH ra
  have RR0 := LH rr
  have DA0 := LH da
  have MR0 := LH hm
  have hzr := hm.size
  clear ra rr da hm
  have hlu3 := MR0.out.row.lt
  have hcr3 := fun i => RR0.out.cell i
  have hlr3 := RR0.out.lt
  have hca3 := fun i => RA0.out.cell i
  have hla3 := RA0.out.lt
  cases j with
  | zero => simp [pMuls] at hx
  | succ j =>
   go_wp2_with fail
   refine (l3Sign ts g L cl V cv s wr (MR0.out.cur HC.out) ⟨#[42]⟩).mono ?_
   clear hlu3 hcr3 hlr3 hca3 hla3
   rintro e w4 ⟨rfl, hb4⟩
   have hz4 := hb4.size
   have K4 := LH (Bx.of_below (g := g) hb4 (Nat.le_refl _))
   have Rr4 := LH (K4.out.row RR0.out (by omega))
   have Ra4 := LH (K4.out.row RA0.out (by omega))
   have Da4 := LH (DA0.out.keep fun b hb => K4.out.kq hb (by have h1 := hb.1; have h2 := hb.2; omega))
   have M4 := LH (MR0.out.below hb4)
   clear RR0 RA0 DA0 MR0
   clear hb4
   have hlu4 := M4.out.row.lt
   have hcr4 := fun i => Rr4.out.cell i
   have hfr4 := fun i => Rr4.out.frozen i
   have hlr4 := Rr4.out.lt
   have hca4 := fun i => Ra4.out.cell i
   have hla4 := Ra4.out.lt
   cases hs : pSign ts [42] s
   ·
    simp [pMuls, hs, Option.bind_eq_some_iff] at hx
    obtain ⟨rfl, rfl⟩ := hx
    go_wp2_with fail
    clear hlu4 hcr4 hfr4 hlr4 hca4 hla4
    obtain ⟨w5, e5, RN5, hz5, K5⟩ := stored5 Rr4.out (.int .i64 x.op) (.int .i64 x.n) (.string x.s) (.string x.t) (.slice A x.kids.length c)
    have Ra5 := LH (K5.out.row Ra4.out (by omega))
    have Da5 := LH (Da4.out.keep fun b hb => K5.out.kq hb (by have h1 := hb.1; have h2 := hb.2; omega))
    have M5 := LH (M4.out.chg K5.out (by omega) (by omega))
    clear Ra4 Da4 M4
    clear Rr4
    rw [← e5]
    clear e5
    have hlu5 := M5.out.row.lt
    have hca5 := fun i => Ra5.out.cell i
    have hla5 := Ra5.out.lt
    have hcr5 := fun i => RN5.out.cell i
    have hlr5 := RN5.out.lt
    refine bodyPost_ret (v := .agg #[.int .i64 x.op, .int .i64 x.n, .string x.s, .string x.t, .slice A x.kids.length c]) (by simp [results, Tryz.results117, go_sem, hcr5]) rfl ?_
    exact ⟨A, c, rfl, Da5.out.keep fun b hb => ⟨⟨by have h1 := hb.1; have h2 := hb.2; omega, by have h1 := hb.1; have h2 := hb.2; omega⟩, rfl⟩, M5.out⟩
   ·
    simp [pMuls, hs, Option.bind_eq_some_iff] at hx
    obtain ⟨n1, s1, hq, hr⟩ := hx
    have HR := LH hr
    clear hr
    go_wp2_with fail
    refine (l3Next ts g L cl V cv s w4 (M4.out.cur HC.out)).mono ?_
    clear hlu4 hcr4 hfr4 hlr4 hca4 hla4
    rintro e w5 ⟨rfl, hm5⟩
    replace hm5 : Mv ts g L cl V cv s.vars (pNext ts s) w4 w5 := hm5
    have hz5 := hm5.size
    have K5 := LH hm5.bx
    have Rr5 := LH (K5.out.row Rr4.out (by omega))
    have Ra5 := LH (K5.out.row Ra4.out (by omega))
    have Da5 := LH (Da4.out.keep fun b hb => K5.out.kq hb (by have h1 := hb.1; have h2 := hb.2; omega))
    have M5 := LH (M4.out.trans hm5)
    clear Rr4 Ra4 Da4 M4
    clear hm5
    have hlu5 := M5.out.row.lt
    have hcr5 := fun i => Rr5.out.cell i
    have hlr5 := Rr5.out.lt
    have hca5 := fun i => Ra5.out.cell i
    have hla5 := Ra5.out.lt
    go_wp2_with fail
    refine (HA.out j (by omega) ts g L cl V cv (pNext ts s) w5 (M5.out.cur HC.out) n1 s1 hq).mono ?_
    clear hlu5 hcr5 hlr5 hca5 hla5
    rintro e w6 ⟨A1, c1, rfl, ha6, hm6⟩
    have hz6 := hm6.size
    have K6 := LH hm6.bx
    have DN6 := LH ha6
    have Rr6 := LH (K6.out.row Rr5.out (by omega))
    have Ra6 := LH (K6.out.row Ra5.out (by omega))
    have Da6 := LH (Da5.out.keep fun b hb => K6.out.kq hb (by have h1 := hb.1; have h2 := hb.2; omega))
    have M6 := LH (M5.out.trans hm6)
    clear Rr5 Ra5 Da5 M5
    clear hm6 ha6
    have hlu6 := M6.out.row.lt
    have hcr6 := fun i => Rr6.out.cell i
    have hlr6 := Rr6.out.lt
    have hca6 := fun i => Ra6.out.cell i
    have hla6 := Ra6.out.lt
    clear hq
    go_wp2_with fail
    clear hlu6 hcr6 hlr6 hca6 hla6
    obtain ⟨w7, e7, Rb7, hz7, K7⟩ := boxed w6 39 #[.int .i64 n1.op, .int .i64 n1.n, .string n1.s, .string n1.t, .slice A1 n1.kids.length c1]
    have Rr7 := LH (K7.out.row Rr6.out (by omega))
    have Ra7 := LH (K7.out.row Ra6.out (by omega))
    have Da7 := LH (Da6.out.keep fun b hb => K7.out.kq hb (by have h1 := hb.1; have h2 := hb.2; omega))
    have D17 := LH (DN6.out.keep fun b hb => K7.out.kq hb (by have h1 := hb.1; have h2 := hb.2; omega))
    have M7 := LH (M6.out.chg K7.out (by omega) (by omega))
    clear Rr6 Ra6 Da6 DN6 M6
    obtain ⟨w8, e8, Rrow8, hz8, K8⟩ := boxed w7 39 #[.int .i64 x.op, .int .i64 x.n, .string x.s, .string x.t, .slice A x.kids.length c, .int .i64 n1.op, .int .i64 n1.n, .string n1.s, .string n1.t, .slice A1 n1.kids.length c1]
    have hy8 : w7.heap.size = (w6.heap.size + 1) := by omega
    rw [hy8] at Rrow8 K8
    have Rr8 := LH (K8.out.row Rr7.out (by omega))
    have Ra8 := LH (K8.out.row Ra7.out (by omega))
    have Rb8 := LH (K8.out.row Rb7.out (by omega))
    have Da8 := LH (Da7.out.keep fun b hb => K8.out.kq hb (by have h1 := hb.1; have h2 := hb.2; omega))
    have D18 := LH (D17.out.keep fun b hb => K8.out.kq hb (by have h1 := hb.1; have h2 := hb.2; omega))
    have M8 := LH (M7.out.chg K8.out (by omega) (by omega))
    clear Rr7 Ra7 Rb7 Da7 D17 M7
    have SL8 := LH (show Sl w8 (fun b => b < w8.heap.size ∧ w.heap.size ≤ b ∧ b ≠ w2.heap.size ∧ b ≠ w.heap.size) 5 (some ⟨(w6.heap.size + 1), 0, none⟩) 2 ([x, n1].map GNode.toD) from Sl.ofRow Rrow8.out (rdC_cons (GNode.rd_mk (Da8.out.keep (w' := w8) (S' := fun b => b < w8.heap.size ∧ w.heap.size ≤ b ∧ b ≠ w2.heap.size ∧ b ≠ w.heap.size) fun b hb => ⟨⟨by have h1 := hb.1; have h2 := hb.2; omega, by have h1 := hb.1; have h2 := hb.2; omega⟩, rfl⟩)) rfl (rdC_one1 (GNode.rd_mk (D18.out.keep (w' := w8) (S' := fun b => b < w8.heap.size ∧ w.heap.size ≤ b ∧ b ≠ w2.heap.size ∧ b ≠ w.heap.size) fun b hb => ⟨⟨by have h1 := hb.1; have h2 := hb.2; omega, by have h1 := hb.1; have h2 := hb.2; omega⟩, rfl⟩)) rfl)) ⟨by omega, by omega⟩ (by simp) (by unfold maxLen; omega))
    rw [← e7, ← e8]
    clear e7 e8
    have hlu8 := M8.out.row.lt
    have hcr8 := fun i => Rr8.out.cell i
    have hlr8 := Rr8.out.lt
    have hca8 := fun i => Ra8.out.cell i
    have hla8 := Ra8.out.lt
    have hcb8 := fun i => Rb8.out.cell i
    have hlb8 := Rb8.out.lt
    have hcrow8 := fun i => Rrow8.out.cell i
    have hlrow8 := Rrow8.out.lt
    refine (l3Node (fun b => w.heap.size ≤ b ∧ b ≠ w2.heap.size ∧ b ≠ w.heap.size) (12) [x, n1] (some ⟨(w6.heap.size + 1), 0, none⟩) 2 w8 SL8.out (by simp)).mono ?_
    clear hlu8 hcr8 hlr8 hca8 hla8 hcb8 hlb8 hcrow8 hlrow8
    rintro e w9 ⟨A2, c2, rfl, hG9, hb9⟩
    have hz9 := hb9.size
    have K9 := LH (Bx.of_below (g := g) hb9 (Nat.le_refl _))
    have GN9 := LH hG9
    have Rr9 := LH (K9.out.row Rr8.out (by omega))
    have Ra9 := LH (K9.out.row Ra8.out (by omega))
    have Rb9 := LH (K9.out.row Rb8.out (by omega))
    have Rrow9 := LH (K9.out.row Rrow8.out (by omega))
    have Da9 := LH (Da8.out.keep fun b hb => K9.out.kq hb (by have h1 := hb.1; have h2 := hb.2; omega))
    have D19 := LH (D18.out.keep fun b hb => K9.out.kq hb (by have h1 := hb.1; have h2 := hb.2; omega))
    have M9 := LH (M8.out.below hb9)
    clear Rr8 Ra8 Rb8 Rrow8 Da8 D18 M8
    clear hb9 hG9
    have hlu9 := M9.out.row.lt
    have hcr9 := fun i => Rr9.out.cell i
    have hlr9 := Rr9.out.lt
    have hca9 := fun i => Ra9.out.cell i
    have hfa9 := fun i => Ra9.out.frozen i
    have hla9 := Ra9.out.lt
    have hcb9 := fun i => Rb9.out.cell i
    have hlb9 := Rb9.out.lt
    have hcrow9 := fun i => Rrow9.out.cell i
    have hlrow9 := Rrow9.out.lt
    have DD := LH (ndOf (op := 12) GN9.out (fun b h => by omega) (by decide))
    go_wp2_with fail
    clear hlu9 hcr9 hlr9 hca9 hfa9 hla9 hcb9 hlb9 hcrow9 hlrow9
    obtain ⟨w10, e10, RN10, hz10, K10⟩ := stored5 Ra9.out (.int .i64 12) (.int .i64 0) (.string ⟨#[]⟩) (.string ⟨#[]⟩) (.slice A2 2 c2)
    have Rr10 := LH (K10.out.row Rr9.out (by omega))
    have Rb10 := LH (K10.out.row Rb9.out (by omega))
    have D210 := LH (DD.out.keep fun b hb => K10.out.kq hb (by have h1 := hb.1; have h2 := hb.2; omega))
    have M10 := LH (M9.out.chg K10.out (by omega) (by omega))
    clear Rr9 Rb9 DD M9
    clear Ra9
    rw [← e10]
    clear e10
    have hlu10 := M10.out.row.lt
    have hcr10 := fun i => Rr10.out.cell i
    have hlr10 := Rr10.out.lt
    have hcb10 := fun i => Rb10.out.cell i
    have hlb10 := Rb10.out.lt
    have hca10 := fun i => RN10.out.cell i
    have hla10 := RN10.out.lt
    have HN : I j w10 := by
     rw [HI.out]
     exact ⟨nd (12) [x, n1], s1, A2, c2, HR.out, by omega, RN10.out, Rr10.out, D210.out.keep fun b hb => ⟨⟨by have h1 := hb.1; have h2 := hb.2; omega, hb.2⟩, rfl⟩, M10.out, RN10.out.lt⟩
    go_roundw
    case rel => exact ⟨j, HN⟩
    case measure => rw [HJ.out]; exact Nat.lt_succ_of_le (leastK_le (I := fun j => I j w10) HN)
theorem l3Sum (k : Nat) (hA : ∀ j, j ≤ k → Ok1 117 pProduct j) : Ok1 105 pSum (k + 1) := by
 intro ts g L cl V cv st w h n st' hp
 simp [pSum, Option.bind_eq_some_iff] at hp
 obtain ⟨n0, s0, hp0, hp1⟩ := hp
 have HA := LH hA
 have HL := LH hp1
 clear hA hp1
 have HC := LH h
 have M0 := LH h.mv
 have hgl := h.row.lt
 clear h
 go_enter Tryz.func105, Tryz.ntmps105
 go_wp2_with fail
 obtain ⟨w1, e1, Rr1, hz1, K1⟩ := boxed w 39 #[.int .i64 0, .int .i64 0, .string ⟨#[]⟩, .string ⟨#[]⟩, .slice none 0 0]
 have M1 := LH (M0.out.chg K1.out (by omega) (by omega))
 rw [← e1]
 clear e1
 have hlu1 := M1.out.row.lt
 have hcr1 := fun i => Rr1.out.cell i
 have hlr1 := Rr1.out.lt
 refine (HA.out k (Nat.le_refl _) ts g L cl V cv st w1 (M1.out.cur HC.out) n0 s0 hp0).mono ?_
 clear hlu1 hcr1 hlr1
 rintro e w2 ⟨A0, c0, rfl, ha2, hm2⟩
 have hz2 := hm2.size
 have K2 := LH hm2.bx
 have DN2 := LH ha2
 have Rr2 := LH (K2.out.row Rr1.out (by omega))
 have M2 := LH (M1.out.trans hm2)
 clear Rr1 M1
 clear hm2 ha2
 have hlu2 := M2.out.row.lt
 have hcr2 := fun i => Rr2.out.cell i
 have hlr2 := Rr2.out.lt
 clear hp0
 go_wp2_with fail
 clear hlu2 hcr2 hlr2
 obtain ⟨w3, e3, Ra3, hz3, K3⟩ := boxed w2 39 #[.int .i64 n0.op, .int .i64 n0.n, .string n0.s, .string n0.t, .slice A0 n0.kids.length c0]
 have Rr3 := LH (K3.out.row Rr2.out (by omega))
 have D03 := LH (DN2.out.keep fun b hb => K3.out.kq hb (by have h1 := hb.1; have h2 := hb.2; omega))
 have M3 := LH (M2.out.chg K3.out (by omega) (by omega))
 clear Rr2 DN2 M2
 rw [← e3]
 clear e3
 have hlu3 := M3.out.row.lt
 have hcr3 := fun i => Rr3.out.cell i
 have hlr3 := Rr3.out.lt
 have hca3 := fun i => Ra3.out.cell i
 have hla3 := Ra3.out.lt
 clear hlu3 hcr3 hlr3 hca3 hla3
 have hINV : ∃ I : Nat → World → Prop, I = fun j wr => ∃ (x : GNode) (s : PSt) (A : Option Addr) (c : Nat), pAdds ts j s x = some (n, st') ∧ j ≤ k ∧ Row wr w2.heap.size 39 #[.int .i64 x.op, .int .i64 x.n, .string x.s, .string x.t, .slice A x.kids.length c] ∧ Row wr w.heap.size 39 #[.int .i64 0, .int .i64 0, .string ⟨#[]⟩, .string ⟨#[]⟩, .slice none 0 0] ∧ GNode.At wr (fun b => b < wr.heap.size ∧ w.heap.size ≤ b ∧ b ≠ w2.heap.size ∧ b ≠ w.heap.size) A c x ∧ Mv ts g L cl V cv st.vars s w wr ∧ w2.heap.size < wr.heap.size := ⟨_, rfl⟩
 obtain ⟨I, hI⟩ := hINV
 have HI := LH hI
 have I0 : I k w3 := by
  rw [hI]
  exact ⟨n0, s0, A0, c0, HL.out, Nat.le_refl _, Ra3.out, Rr3.out, D03.out.keep fun b hb => ⟨⟨by have h1 := hb.1; have h2 := hb.2; omega, by have h1 := hb.1; have h2 := hb.2; omega⟩, rfl⟩, M3.out, Ra3.out.lt⟩
 have hnw : w.heap.size < w2.heap.size := by omega
 have hzw : w.heap.size ≤ w3.heap.size := M3.out.size
 go_loopw [5] (fun v wr => ∃ j, I j wr) (fun _ wr => leastK (fun j => I j wr))
 case atStart => exact ⟨k, I0⟩
 case round =>
  have hex := hrel
  have hleast := leastK_spec (I := fun j => I j wr) hex
  obtain ⟨j, hj⟩ : ∃ j, leastK (fun j => I j wr) = j := ⟨_, rfl⟩
  rw [hj] at hleast
  have HJ := LH hj
  clear hj hex hrel I0
  rw [hI] at hleast
  obtain ⟨x, s, A, c, hx, hjk, ra, rr, da, hm, hnl⟩ := hleast
  clear Ra3 Rr3 D03 M3 hI
  have RA0 := LH ra
  have RR0 := LH rr
  have DA0 := LH da
  have MR0 := LH hm
  have hzr := hm.size
  clear ra rr da hm
  have hlu3 := MR0.out.row.lt
  have hcr3 := fun i => RR0.out.cell i
  have hlr3 := RR0.out.lt
  have hca3 := fun i => RA0.out.cell i
  have hla3 := RA0.out.lt
  cases j with
  | zero => simp [pAdds] at hx
  | succ j =>
   go_wp2_with fail
   refine (l3Sign ts g L cl V cv s wr (MR0.out.cur HC.out) ⟨#[43]⟩).mono ?_
   clear hlu3 hcr3 hlr3 hca3 hla3
   rintro e w4 ⟨rfl, hb4⟩
   have hz4 := hb4.size
   have K4 := LH (Bx.of_below (g := g) hb4 (Nat.le_refl _))
   have Rr4 := LH (K4.out.row RR0.out (by omega))
   have Ra4 := LH (K4.out.row RA0.out (by omega))
   have Da4 := LH (DA0.out.keep fun b hb => K4.out.kq hb (by have h1 := hb.1; have h2 := hb.2; omega))
   have M4 := LH (MR0.out.below hb4)
   clear RR0 RA0 DA0 MR0
   clear hb4
   have hlu4 := M4.out.row.lt
   have hcr4 := fun i => Rr4.out.cell i
   have hlr4 := Rr4.out.lt
   have hca4 := fun i => Ra4.out.cell i
   have hla4 := Ra4.out.lt
   cases hs : pSign ts [43] s
   ·
    go_wp2_with fail
    refine (l3Sign ts g L cl V cv s w4 (M4.out.cur HC.out) ⟨#[45]⟩).mono ?_
    clear hlu4 hcr4 hlr4 hca4 hla4
    rintro e w5 ⟨rfl, hb5⟩
    have hz5 := hb5.size
    have K5 := LH (Bx.of_below (g := g) hb5 (Nat.le_refl _))
    have Rr5 := LH (K5.out.row Rr4.out (by omega))
    have Ra5 := LH (K5.out.row Ra4.out (by omega))
    have Da5 := LH (Da4.out.keep fun b hb => K5.out.kq hb (by have h1 := hb.1; have h2 := hb.2; omega))
    have M5 := LH (M4.out.below hb5)
    clear Rr4 Ra4 Da4 M4
    clear hb5
    have hlu5 := M5.out.row.lt
    have hcr5 := fun i => Rr5.out.cell i
    have hfr5 := fun i => Rr5.out.frozen i
    have hlr5 := Rr5.out.lt
    have hca5 := fun i => Ra5.out.cell i
    have hla5 := Ra5.out.lt
    cases hs2 : pSign ts [45] s
    ·
     simp [pAdds, hs, hs2, Option.bind_eq_some_iff] at hx
     obtain ⟨rfl, rfl⟩ := hx
     go_wp2_with fail
     clear hlu5 hcr5 hfr5 hlr5 hca5 hla5
     obtain ⟨w6, e6, RN6, hz6, K6⟩ := stored5 Rr5.out (.int .i64 x.op) (.int .i64 x.n) (.string x.s) (.string x.t) (.slice A x.kids.length c)
     have Ra6 := LH (K6.out.row Ra5.out (by omega))
     have Da6 := LH (Da5.out.keep fun b hb => K6.out.kq hb (by have h1 := hb.1; have h2 := hb.2; omega))
     have M6 := LH (M5.out.chg K6.out (by omega) (by omega))
     clear Ra5 Da5 M5
     clear Rr5
     rw [← e6]
     clear e6
     have hlu6 := M6.out.row.lt
     have hca6 := fun i => Ra6.out.cell i
     have hla6 := Ra6.out.lt
     have hcr6 := fun i => RN6.out.cell i
     have hlr6 := RN6.out.lt
     refine bodyPost_ret (v := .agg #[.int .i64 x.op, .int .i64 x.n, .string x.s, .string x.t, .slice A x.kids.length c]) (by simp [results, Tryz.results105, go_sem, hcr6]) rfl ?_
     exact ⟨A, c, rfl, Da6.out.keep fun b hb => ⟨⟨by have h1 := hb.1; have h2 := hb.2; omega, by have h1 := hb.1; have h2 := hb.2; omega⟩, rfl⟩, M6.out⟩
    ·
     go_wp2_with fail
     refine (l3Sign ts g L cl V cv s w5 (M5.out.cur HC.out) ⟨#[45]⟩).mono ?_
     clear hlu5 hcr5 hfr5 hlr5 hca5 hla5
     rintro e w6 ⟨rfl, hb6⟩
     have hz6 := hb6.size
     have K6 := LH (Bx.of_below (g := g) hb6 (Nat.le_refl _))
     have Rr6 := LH (K6.out.row Rr5.out (by omega))
     have Ra6 := LH (K6.out.row Ra5.out (by omega))
     have Da6 := LH (Da5.out.keep fun b hb => K6.out.kq hb (by have h1 := hb.1; have h2 := hb.2; omega))
     have M6 := LH (M5.out.below hb6)
     clear Rr5 Ra5 Da5 M5
     clear hb6
     have hlu6 := M6.out.row.lt
     have hcr6 := fun i => Rr6.out.cell i
     have hlr6 := Rr6.out.lt
     have hca6 := fun i => Ra6.out.cell i
     have hla6 := Ra6.out.lt
     rw [hs2]
     simp [pAdds, hs, hs2, Option.bind_eq_some_iff] at hx
     obtain ⟨n1, s1, hq, hr⟩ := hx
     have HR := LH hr
     clear hr
     go_wp2_with fail
     refine (l3Next ts g L cl V cv s w6 (M6.out.cur HC.out)).mono ?_
     clear hlu6 hcr6 hlr6 hca6 hla6
     rintro e w7 ⟨rfl, hm7⟩
     replace hm7 : Mv ts g L cl V cv s.vars (pNext ts s) w6 w7 := hm7
     have hz7 := hm7.size
     have K7 := LH hm7.bx
     have Rr7 := LH (K7.out.row Rr6.out (by omega))
     have Ra7 := LH (K7.out.row Ra6.out (by omega))
     have Da7 := LH (Da6.out.keep fun b hb => K7.out.kq hb (by have h1 := hb.1; have h2 := hb.2; omega))
     have M7 := LH (M6.out.trans hm7)
     clear Rr6 Ra6 Da6 M6
     clear hm7
     have hlu7 := M7.out.row.lt
     have hcr7 := fun i => Rr7.out.cell i
     have hlr7 := Rr7.out.lt
     have hca7 := fun i => Ra7.out.cell i
     have hla7 := Ra7.out.lt
     go_wp2_with fail
     refine (HA.out j (by omega) ts g L cl V cv (pNext ts s) w7 (M7.out.cur HC.out) n1 s1 hq).mono ?_
     clear hlu7 hcr7 hlr7 hca7 hla7
     rintro e w8 ⟨A1, c1, rfl, ha8, hm8⟩
     have hz8 := hm8.size
     have K8 := LH hm8.bx
     have DN8 := LH ha8
     have Rr8 := LH (K8.out.row Rr7.out (by omega))
     have Ra8 := LH (K8.out.row Ra7.out (by omega))
     have Da8 := LH (Da7.out.keep fun b hb => K8.out.kq hb (by have h1 := hb.1; have h2 := hb.2; omega))
     have M8 := LH (M7.out.trans hm8)
     clear Rr7 Ra7 Da7 M7
     clear hm8 ha8
     have hlu8 := M8.out.row.lt
     have hcr8 := fun i => Rr8.out.cell i
     have hlr8 := Rr8.out.lt
     have hca8 := fun i => Ra8.out.cell i
     have hla8 := Ra8.out.lt
     clear hq
     go_wp2_with fail
     clear hlu8 hcr8 hlr8 hca8 hla8
     obtain ⟨w9, e9, Rb9, hz9, K9⟩ := boxed w8 39 #[.int .i64 n1.op, .int .i64 n1.n, .string n1.s, .string n1.t, .slice A1 n1.kids.length c1]
     have Rr9 := LH (K9.out.row Rr8.out (by omega))
     have Ra9 := LH (K9.out.row Ra8.out (by omega))
     have Da9 := LH (Da8.out.keep fun b hb => K9.out.kq hb (by have h1 := hb.1; have h2 := hb.2; omega))
     have D19 := LH (DN8.out.keep fun b hb => K9.out.kq hb (by have h1 := hb.1; have h2 := hb.2; omega))
     have M9 := LH (M8.out.chg K9.out (by omega) (by omega))
     clear Rr8 Ra8 Da8 DN8 M8
     obtain ⟨w10, e10, Rrow10, hz10, K10⟩ := boxed w9 39 #[.int .i64 x.op, .int .i64 x.n, .string x.s, .string x.t, .slice A x.kids.length c, .int .i64 n1.op, .int .i64 n1.n, .string n1.s, .string n1.t, .slice A1 n1.kids.length c1]
     have hy10 : w9.heap.size = (w8.heap.size + 1) := by omega
     rw [hy10] at Rrow10 K10
     have Rr10 := LH (K10.out.row Rr9.out (by omega))
     have Ra10 := LH (K10.out.row Ra9.out (by omega))
     have Rb10 := LH (K10.out.row Rb9.out (by omega))
     have Da10 := LH (Da9.out.keep fun b hb => K10.out.kq hb (by have h1 := hb.1; have h2 := hb.2; omega))
     have D110 := LH (D19.out.keep fun b hb => K10.out.kq hb (by have h1 := hb.1; have h2 := hb.2; omega))
     have M10 := LH (M9.out.chg K10.out (by omega) (by omega))
     clear Rr9 Ra9 Rb9 Da9 D19 M9
     have SL10 := LH (show Sl w10 (fun b => b < w10.heap.size ∧ w.heap.size ≤ b ∧ b ≠ w2.heap.size ∧ b ≠ w.heap.size) 5 (some ⟨(w8.heap.size + 1), 0, none⟩) 2 ([x, n1].map GNode.toD) from Sl.ofRow Rrow10.out (rdC_cons (GNode.rd_mk (Da10.out.keep (w' := w10) (S' := fun b => b < w10.heap.size ∧ w.heap.size ≤ b ∧ b ≠ w2.heap.size ∧ b ≠ w.heap.size) fun b hb => ⟨⟨by have h1 := hb.1; have h2 := hb.2; omega, by have h1 := hb.1; have h2 := hb.2; omega⟩, rfl⟩)) rfl (rdC_one1 (GNode.rd_mk (D110.out.keep (w' := w10) (S' := fun b => b < w10.heap.size ∧ w.heap.size ≤ b ∧ b ≠ w2.heap.size ∧ b ≠ w.heap.size) fun b hb => ⟨⟨by have h1 := hb.1; have h2 := hb.2; omega, by have h1 := hb.1; have h2 := hb.2; omega⟩, rfl⟩)) rfl)) ⟨by omega, by omega⟩ (by simp) (by unfold maxLen; omega))
     rw [← e9, ← e10]
     clear e9 e10
     have hlu10 := M10.out.row.lt
     have hcr10 := fun i => Rr10.out.cell i
     have hlr10 := Rr10.out.lt
     have hca10 := fun i => Ra10.out.cell i
     have hfa10 := fun i => Ra10.out.frozen i
     have hla10 := Ra10.out.lt
     have hcb10 := fun i => Rb10.out.cell i
     have hlb10 := Rb10.out.lt
     have hcrow10 := fun i => Rrow10.out.cell i
     have hlrow10 := Rrow10.out.lt
     refine (l3Node (fun b => w.heap.size ≤ b ∧ b ≠ w2.heap.size ∧ b ≠ w.heap.size) (11) [x, n1] (some ⟨(w8.heap.size + 1), 0, none⟩) 2 w10 SL10.out (by simp)).mono ?_
     clear hlu10 hcr10 hlr10 hca10 hfa10 hla10 hcb10 hlb10 hcrow10 hlrow10
     rintro e w11 ⟨A2, c2, rfl, hG11, hb11⟩
     have hz11 := hb11.size
     have K11 := LH (Bx.of_below (g := g) hb11 (Nat.le_refl _))
     have GN11 := LH hG11
     have Rr11 := LH (K11.out.row Rr10.out (by omega))
     have Ra11 := LH (K11.out.row Ra10.out (by omega))
     have Rb11 := LH (K11.out.row Rb10.out (by omega))
     have Rrow11 := LH (K11.out.row Rrow10.out (by omega))
     have Da11 := LH (Da10.out.keep fun b hb => K11.out.kq hb (by have h1 := hb.1; have h2 := hb.2; omega))
     have D111 := LH (D110.out.keep fun b hb => K11.out.kq hb (by have h1 := hb.1; have h2 := hb.2; omega))
     have M11 := LH (M10.out.below hb11)
     clear Rr10 Ra10 Rb10 Rrow10 Da10 D110 M10
     clear hb11 hG11
     have hlu11 := M11.out.row.lt
     have hcr11 := fun i => Rr11.out.cell i
     have hlr11 := Rr11.out.lt
     have hca11 := fun i => Ra11.out.cell i
     have hfa11 := fun i => Ra11.out.frozen i
     have hla11 := Ra11.out.lt
     have hcb11 := fun i => Rb11.out.cell i
     have hlb11 := Rb11.out.lt
     have hcrow11 := fun i => Rrow11.out.cell i
     have hlrow11 := Rrow11.out.lt
     have DD := LH (ndOf (op := 11) GN11.out (fun b h => by omega) (by decide))
     go_wp2_with fail
     clear hlu11 hcr11 hlr11 hca11 hla11 hcb11 hlb11 hcrow11 hlrow11
     obtain ⟨w12, e12, RN12, hz12, K12⟩ := stored5 Ra11.out (.int .i64 11) (.int .i64 0) (.string ⟨#[]⟩) (.string ⟨#[]⟩) (.slice A2 2 c2)
     have Rr12 := LH (K12.out.row Rr11.out (by omega))
     have Rb12 := LH (K12.out.row Rb11.out (by omega))
     have D212 := LH (DD.out.keep fun b hb => K12.out.kq hb (by have h1 := hb.1; have h2 := hb.2; omega))
     have M12 := LH (M11.out.chg K12.out (by omega) (by omega))
     clear Rr11 Rb11 DD M11
     clear Ra11
     rw [← e12]
     clear e12
     have hlu12 := M12.out.row.lt
     have hcr12 := fun i => Rr12.out.cell i
     have hlr12 := Rr12.out.lt
     have hcb12 := fun i => Rb12.out.cell i
     have hlb12 := Rb12.out.lt
     have hca12 := fun i => RN12.out.cell i
     have hla12 := RN12.out.lt
     have HN : I j w12 := by
      rw [HI.out]
      exact ⟨nd (11) [x, n1], s1, A2, c2, HR.out, by omega, RN12.out, Rr12.out, D212.out.keep fun b hb => ⟨⟨by have h1 := hb.1; have h2 := hb.2; omega, hb.2⟩, rfl⟩, M12.out, RN12.out.lt⟩
     go_roundw
     case rel => exact ⟨j, HN⟩
     case measure => rw [HJ.out]; exact Nat.lt_succ_of_le (leastK_le (I := fun j => I j w12) HN)
   ·
    go_wp2_with fail
    refine (l3Sign ts g L cl V cv s w4 (M4.out.cur HC.out) ⟨#[45]⟩).mono ?_
    clear hlu4 hcr4 hlr4 hca4 hla4
    rintro e w5 ⟨rfl, hb5⟩
    have hz5 := hb5.size
    have K5 := LH (Bx.of_below (g := g) hb5 (Nat.le_refl _))
    have Rr5 := LH (K5.out.row Rr4.out (by omega))
    have Ra5 := LH (K5.out.row Ra4.out (by omega))
    have Da5 := LH (Da4.out.keep fun b hb => K5.out.kq hb (by have h1 := hb.1; have h2 := hb.2; omega))
    have M5 := LH (M4.out.below hb5)
    clear Rr4 Ra4 Da4 M4
    clear hb5
    have hlu5 := M5.out.row.lt
    have hcr5 := fun i => Rr5.out.cell i
    have hfr5 := fun i => Rr5.out.frozen i
    have hlr5 := Rr5.out.lt
    have hca5 := fun i => Ra5.out.cell i
    have hla5 := Ra5.out.lt
    cases hs2 : pSign ts [45] s
    ·
     simp [pAdds, hs, hs2, Option.bind_eq_some_iff] at hx
     obtain ⟨n1, s1, hq, hr⟩ := hx
     have HR := LH hr
     clear hr
     go_wp2_with fail
     refine (l3Next ts g L cl V cv s w5 (M5.out.cur HC.out)).mono ?_
     clear hlu5 hcr5 hfr5 hlr5 hca5 hla5
     rintro e w6 ⟨rfl, hm6⟩
     replace hm6 : Mv ts g L cl V cv s.vars (pNext ts s) w5 w6 := hm6
     have hz6 := hm6.size
     have K6 := LH hm6.bx
     have Rr6 := LH (K6.out.row Rr5.out (by omega))
     have Ra6 := LH (K6.out.row Ra5.out (by omega))
     have Da6 := LH (Da5.out.keep fun b hb => K6.out.kq hb (by have h1 := hb.1; have h2 := hb.2; omega))
     have M6 := LH (M5.out.trans hm6)
     clear Rr5 Ra5 Da5 M5
     clear hm6
     have hlu6 := M6.out.row.lt
     have hcr6 := fun i => Rr6.out.cell i
     have hlr6 := Rr6.out.lt
     have hca6 := fun i => Ra6.out.cell i
     have hla6 := Ra6.out.lt
     go_wp2_with fail
     refine (HA.out j (by omega) ts g L cl V cv (pNext ts s) w6 (M6.out.cur HC.out) n1 s1 hq).mono ?_
     clear hlu6 hcr6 hlr6 hca6 hla6
     rintro e w7 ⟨A1, c1, rfl, ha7, hm7⟩
     have hz7 := hm7.size
     have K7 := LH hm7.bx
     have DN7 := LH ha7
     have Rr7 := LH (K7.out.row Rr6.out (by omega))
     have Ra7 := LH (K7.out.row Ra6.out (by omega))
     have Da7 := LH (Da6.out.keep fun b hb => K7.out.kq hb (by have h1 := hb.1; have h2 := hb.2; omega))
     have M7 := LH (M6.out.trans hm7)
     clear Rr6 Ra6 Da6 M6
     clear hm7 ha7
     have hlu7 := M7.out.row.lt
     have hcr7 := fun i => Rr7.out.cell i
     have hlr7 := Rr7.out.lt
     have hca7 := fun i => Ra7.out.cell i
     have hla7 := Ra7.out.lt
     clear hq
     go_wp2_with fail
     clear hlu7 hcr7 hlr7 hca7 hla7
     obtain ⟨w8, e8, Rb8, hz8, K8⟩ := boxed w7 39 #[.int .i64 n1.op, .int .i64 n1.n, .string n1.s, .string n1.t, .slice A1 n1.kids.length c1]
     have Rr8 := LH (K8.out.row Rr7.out (by omega))
     have Ra8 := LH (K8.out.row Ra7.out (by omega))
     have Da8 := LH (Da7.out.keep fun b hb => K8.out.kq hb (by have h1 := hb.1; have h2 := hb.2; omega))
     have D18 := LH (DN7.out.keep fun b hb => K8.out.kq hb (by have h1 := hb.1; have h2 := hb.2; omega))
     have M8 := LH (M7.out.chg K8.out (by omega) (by omega))
     clear Rr7 Ra7 Da7 DN7 M7
     obtain ⟨w9, e9, Rrow9, hz9, K9⟩ := boxed w8 39 #[.int .i64 x.op, .int .i64 x.n, .string x.s, .string x.t, .slice A x.kids.length c, .int .i64 n1.op, .int .i64 n1.n, .string n1.s, .string n1.t, .slice A1 n1.kids.length c1]
     have hy9 : w8.heap.size = (w7.heap.size + 1) := by omega
     rw [hy9] at Rrow9 K9
     have Rr9 := LH (K9.out.row Rr8.out (by omega))
     have Ra9 := LH (K9.out.row Ra8.out (by omega))
     have Rb9 := LH (K9.out.row Rb8.out (by omega))
     have Da9 := LH (Da8.out.keep fun b hb => K9.out.kq hb (by have h1 := hb.1; have h2 := hb.2; omega))
     have D19 := LH (D18.out.keep fun b hb => K9.out.kq hb (by have h1 := hb.1; have h2 := hb.2; omega))
     have M9 := LH (M8.out.chg K9.out (by omega) (by omega))
     clear Rr8 Ra8 Rb8 Da8 D18 M8
     have SL9 := LH (show Sl w9 (fun b => b < w9.heap.size ∧ w.heap.size ≤ b ∧ b ≠ w2.heap.size ∧ b ≠ w.heap.size) 5 (some ⟨(w7.heap.size + 1), 0, none⟩) 2 ([x, n1].map GNode.toD) from Sl.ofRow Rrow9.out (rdC_cons (GNode.rd_mk (Da9.out.keep (w' := w9) (S' := fun b => b < w9.heap.size ∧ w.heap.size ≤ b ∧ b ≠ w2.heap.size ∧ b ≠ w.heap.size) fun b hb => ⟨⟨by have h1 := hb.1; have h2 := hb.2; omega, by have h1 := hb.1; have h2 := hb.2; omega⟩, rfl⟩)) rfl (rdC_one1 (GNode.rd_mk (D19.out.keep (w' := w9) (S' := fun b => b < w9.heap.size ∧ w.heap.size ≤ b ∧ b ≠ w2.heap.size ∧ b ≠ w.heap.size) fun b hb => ⟨⟨by have h1 := hb.1; have h2 := hb.2; omega, by have h1 := hb.1; have h2 := hb.2; omega⟩, rfl⟩)) rfl)) ⟨by omega, by omega⟩ (by simp) (by unfold maxLen; omega))
     rw [← e8, ← e9]
     clear e8 e9
     have hlu9 := M9.out.row.lt
     have hcr9 := fun i => Rr9.out.cell i
     have hlr9 := Rr9.out.lt
     have hca9 := fun i => Ra9.out.cell i
     have hla9 := Ra9.out.lt
     have hcb9 := fun i => Rb9.out.cell i
     have hlb9 := Rb9.out.lt
     have hcrow9 := fun i => Rrow9.out.cell i
     have hlrow9 := Rrow9.out.lt
     refine (l3Node (fun b => w.heap.size ≤ b ∧ b ≠ w2.heap.size ∧ b ≠ w.heap.size) (10) [x, n1] (some ⟨(w7.heap.size + 1), 0, none⟩) 2 w9 SL9.out (by simp)).mono ?_
     clear hlu9 hcr9 hlr9 hca9 hla9 hcb9 hlb9 hcrow9 hlrow9
     rintro e w10 ⟨A2, c2, rfl, hG10, hb10⟩
     have hz10 := hb10.size
     have K10 := LH (Bx.of_below (g := g) hb10 (Nat.le_refl _))
     have GN10 := LH hG10
     have Rr10 := LH (K10.out.row Rr9.out (by omega))
     have Ra10 := LH (K10.out.row Ra9.out (by omega))
     have Rb10 := LH (K10.out.row Rb9.out (by omega))
     have Rrow10 := LH (K10.out.row Rrow9.out (by omega))
     have Da10 := LH (Da9.out.keep fun b hb => K10.out.kq hb (by have h1 := hb.1; have h2 := hb.2; omega))
     have D110 := LH (D19.out.keep fun b hb => K10.out.kq hb (by have h1 := hb.1; have h2 := hb.2; omega))
     have M10 := LH (M9.out.below hb10)
     clear Rr9 Ra9 Rb9 Rrow9 Da9 D19 M9
     clear hb10 hG10
     have hlu10 := M10.out.row.lt
     have hcr10 := fun i => Rr10.out.cell i
     have hlr10 := Rr10.out.lt
     have hca10 := fun i => Ra10.out.cell i
     have hfa10 := fun i => Ra10.out.frozen i
     have hla10 := Ra10.out.lt
     have hcb10 := fun i => Rb10.out.cell i
     have hlb10 := Rb10.out.lt
     have hcrow10 := fun i => Rrow10.out.cell i
     have hlrow10 := Rrow10.out.lt
     have DD := LH (ndOf (op := 10) GN10.out (fun b h => by omega) (by decide))
     go_wp2_with fail
     clear hlu10 hcr10 hlr10 hca10 hfa10 hla10 hcb10 hlb10 hcrow10 hlrow10
     obtain ⟨w11, e11, RN11, hz11, K11⟩ := stored5 Ra10.out (.int .i64 10) (.int .i64 0) (.string ⟨#[]⟩) (.string ⟨#[]⟩) (.slice A2 2 c2)
     have Rr11 := LH (K11.out.row Rr10.out (by omega))
     have Rb11 := LH (K11.out.row Rb10.out (by omega))
     have D211 := LH (DD.out.keep fun b hb => K11.out.kq hb (by have h1 := hb.1; have h2 := hb.2; omega))
     have M11 := LH (M10.out.chg K11.out (by omega) (by omega))
     clear Rr10 Rb10 DD M10
     clear Ra10
     rw [← e11]
     clear e11
     have hlu11 := M11.out.row.lt
     have hcr11 := fun i => Rr11.out.cell i
     have hlr11 := Rr11.out.lt
     have hcb11 := fun i => Rb11.out.cell i
     have hlb11 := Rb11.out.lt
     have hca11 := fun i => RN11.out.cell i
     have hla11 := RN11.out.lt
     have HN : I j w11 := by
      rw [HI.out]
      exact ⟨nd (10) [x, n1], s1, A2, c2, HR.out, by omega, RN11.out, Rr11.out, D211.out.keep fun b hb => ⟨⟨by have h1 := hb.1; have h2 := hb.2; omega, hb.2⟩, rfl⟩, M11.out, RN11.out.lt⟩
     go_roundw
     case rel => exact ⟨j, HN⟩
     case measure => rw [HJ.out]; exact Nat.lt_succ_of_le (leastK_le (I := fun j => I j w11) HN)
    ·
     simp [pAdds, hs, hs2, Option.bind_eq_some_iff] at hx
     obtain ⟨n1, s1, hq, hr⟩ := hx
     have HR := LH hr
     clear hr
     go_wp2_with fail
     refine (l3Next ts g L cl V cv s w5 (M5.out.cur HC.out)).mono ?_
     clear hlu5 hcr5 hfr5 hlr5 hca5 hla5
     rintro e w6 ⟨rfl, hm6⟩
     replace hm6 : Mv ts g L cl V cv s.vars (pNext ts s) w5 w6 := hm6
     have hz6 := hm6.size
     have K6 := LH hm6.bx
     have Rr6 := LH (K6.out.row Rr5.out (by omega))
     have Ra6 := LH (K6.out.row Ra5.out (by omega))
     have Da6 := LH (Da5.out.keep fun b hb => K6.out.kq hb (by have h1 := hb.1; have h2 := hb.2; omega))
     have M6 := LH (M5.out.trans hm6)
     clear Rr5 Ra5 Da5 M5
     clear hm6
     have hlu6 := M6.out.row.lt
     have hcr6 := fun i => Rr6.out.cell i
     have hlr6 := Rr6.out.lt
     have hca6 := fun i => Ra6.out.cell i
     have hla6 := Ra6.out.lt
     go_wp2_with fail
     refine (HA.out j (by omega) ts g L cl V cv (pNext ts s) w6 (M6.out.cur HC.out) n1 s1 hq).mono ?_
     clear hlu6 hcr6 hlr6 hca6 hla6
     rintro e w7 ⟨A1, c1, rfl, ha7, hm7⟩
     have hz7 := hm7.size
     have K7 := LH hm7.bx
     have DN7 := LH ha7
     have Rr7 := LH (K7.out.row Rr6.out (by omega))
     have Ra7 := LH (K7.out.row Ra6.out (by omega))
     have Da7 := LH (Da6.out.keep fun b hb => K7.out.kq hb (by have h1 := hb.1; have h2 := hb.2; omega))
     have M7 := LH (M6.out.trans hm7)
     clear Rr6 Ra6 Da6 M6
     clear hm7 ha7
     have hlu7 := M7.out.row.lt
     have hcr7 := fun i => Rr7.out.cell i
     have hlr7 := Rr7.out.lt
     have hca7 := fun i => Ra7.out.cell i
     have hla7 := Ra7.out.lt
     clear hq
     go_wp2_with fail
     clear hlu7 hcr7 hlr7 hca7 hla7
     obtain ⟨w8, e8, Rb8, hz8, K8⟩ := boxed w7 39 #[.int .i64 n1.op, .int .i64 n1.n, .string n1.s, .string n1.t, .slice A1 n1.kids.length c1]
     have Rr8 := LH (K8.out.row Rr7.out (by omega))
     have Ra8 := LH (K8.out.row Ra7.out (by omega))
     have Da8 := LH (Da7.out.keep fun b hb => K8.out.kq hb (by have h1 := hb.1; have h2 := hb.2; omega))
     have D18 := LH (DN7.out.keep fun b hb => K8.out.kq hb (by have h1 := hb.1; have h2 := hb.2; omega))
     have M8 := LH (M7.out.chg K8.out (by omega) (by omega))
     clear Rr7 Ra7 Da7 DN7 M7
     obtain ⟨w9, e9, Rrow9, hz9, K9⟩ := boxed w8 39 #[.int .i64 x.op, .int .i64 x.n, .string x.s, .string x.t, .slice A x.kids.length c, .int .i64 n1.op, .int .i64 n1.n, .string n1.s, .string n1.t, .slice A1 n1.kids.length c1]
     have hy9 : w8.heap.size = (w7.heap.size + 1) := by omega
     rw [hy9] at Rrow9 K9
     have Rr9 := LH (K9.out.row Rr8.out (by omega))
     have Ra9 := LH (K9.out.row Ra8.out (by omega))
     have Rb9 := LH (K9.out.row Rb8.out (by omega))
     have Da9 := LH (Da8.out.keep fun b hb => K9.out.kq hb (by have h1 := hb.1; have h2 := hb.2; omega))
     have D19 := LH (D18.out.keep fun b hb => K9.out.kq hb (by have h1 := hb.1; have h2 := hb.2; omega))
     have M9 := LH (M8.out.chg K9.out (by omega) (by omega))
     clear Rr8 Ra8 Rb8 Da8 D18 M8
     have SL9 := LH (show Sl w9 (fun b => b < w9.heap.size ∧ w.heap.size ≤ b ∧ b ≠ w2.heap.size ∧ b ≠ w.heap.size) 5 (some ⟨(w7.heap.size + 1), 0, none⟩) 2 ([x, n1].map GNode.toD) from Sl.ofRow Rrow9.out (rdC_cons (GNode.rd_mk (Da9.out.keep (w' := w9) (S' := fun b => b < w9.heap.size ∧ w.heap.size ≤ b ∧ b ≠ w2.heap.size ∧ b ≠ w.heap.size) fun b hb => ⟨⟨by have h1 := hb.1; have h2 := hb.2; omega, by have h1 := hb.1; have h2 := hb.2; omega⟩, rfl⟩)) rfl (rdC_one1 (GNode.rd_mk (D19.out.keep (w' := w9) (S' := fun b => b < w9.heap.size ∧ w.heap.size ≤ b ∧ b ≠ w2.heap.size ∧ b ≠ w.heap.size) fun b hb => ⟨⟨by have h1 := hb.1; have h2 := hb.2; omega, by have h1 := hb.1; have h2 := hb.2; omega⟩, rfl⟩)) rfl)) ⟨by omega, by omega⟩ (by simp) (by unfold maxLen; omega))
     rw [← e8, ← e9]
     clear e8 e9
     have hlu9 := M9.out.row.lt
     have hcr9 := fun i => Rr9.out.cell i
     have hlr9 := Rr9.out.lt
     have hca9 := fun i => Ra9.out.cell i
     have hla9 := Ra9.out.lt
     have hcb9 := fun i => Rb9.out.cell i
     have hlb9 := Rb9.out.lt
     have hcrow9 := fun i => Rrow9.out.cell i
     have hlrow9 := Rrow9.out.lt
     refine (l3Node (fun b => w.heap.size ≤ b ∧ b ≠ w2.heap.size ∧ b ≠ w.heap.size) (11) [x, n1] (some ⟨(w7.heap.size + 1), 0, none⟩) 2 w9 SL9.out (by simp)).mono ?_
     clear hlu9 hcr9 hlr9 hca9 hla9 hcb9 hlb9 hcrow9 hlrow9
     rintro e w10 ⟨A2, c2, rfl, hG10, hb10⟩
     have hz10 := hb10.size
     have K10 := LH (Bx.of_below (g := g) hb10 (Nat.le_refl _))
     have GN10 := LH hG10
     have Rr10 := LH (K10.out.row Rr9.out (by omega))
     have Ra10 := LH (K10.out.row Ra9.out (by omega))
     have Rb10 := LH (K10.out.row Rb9.out (by omega))
     have Rrow10 := LH (K10.out.row Rrow9.out (by omega))
     have Da10 := LH (Da9.out.keep fun b hb => K10.out.kq hb (by have h1 := hb.1; have h2 := hb.2; omega))
     have D110 := LH (D19.out.keep fun b hb => K10.out.kq hb (by have h1 := hb.1; have h2 := hb.2; omega))
     have M10 := LH (M9.out.below hb10)
     clear Rr9 Ra9 Rb9 Rrow9 Da9 D19 M9
     clear hb10 hG10
     have hlu10 := M10.out.row.lt
     have hcr10 := fun i => Rr10.out.cell i
     have hlr10 := Rr10.out.lt
     have hca10 := fun i => Ra10.out.cell i
     have hfa10 := fun i => Ra10.out.frozen i
     have hla10 := Ra10.out.lt
     have hcb10 := fun i => Rb10.out.cell i
     have hlb10 := Rb10.out.lt
     have hcrow10 := fun i => Rrow10.out.cell i
     have hlrow10 := Rrow10.out.lt
     have DD := LH (ndOf (op := 11) GN10.out (fun b h => by omega) (by decide))
     go_wp2_with fail
     clear hlu10 hcr10 hlr10 hca10 hfa10 hla10 hcb10 hlb10 hcrow10 hlrow10
     obtain ⟨w11, e11, RN11, hz11, K11⟩ := stored5 Ra10.out (.int .i64 11) (.int .i64 0) (.string ⟨#[]⟩) (.string ⟨#[]⟩) (.slice A2 2 c2)
     have Rr11 := LH (K11.out.row Rr10.out (by omega))
     have Rb11 := LH (K11.out.row Rb10.out (by omega))
     have D211 := LH (DD.out.keep fun b hb => K11.out.kq hb (by have h1 := hb.1; have h2 := hb.2; omega))
     have M11 := LH (M10.out.chg K11.out (by omega) (by omega))
     clear Rr10 Rb10 DD M10
     clear Ra10
     rw [← e11]
     clear e11
     have hlu11 := M11.out.row.lt
     have hcr11 := fun i => Rr11.out.cell i
     have hlr11 := Rr11.out.lt
     have hcb11 := fun i => Rb11.out.cell i
     have hlb11 := Rb11.out.lt
     have hca11 := fun i => RN11.out.cell i
     have hla11 := RN11.out.lt
     have HN : I j w11 := by
      rw [HI.out]
      exact ⟨nd (11) [x, n1], s1, A2, c2, HR.out, by omega, RN11.out, Rr11.out, D211.out.keep fun b hb => ⟨⟨by have h1 := hb.1; have h2 := hb.2; omega, hb.2⟩, rfl⟩, M11.out, RN11.out.lt⟩
     go_roundw
     case rel => exact ⟨j, HN⟩
     case measure => rw [HJ.out]; exact Nat.lt_succ_of_le (leastK_le (I := fun j => I j w11) HN)
theorem Gr.bxe {w w' : World} {v v' : Value} {B : Nat} (h : Gr w w' v v') (ho : ∀ q, v.ownBlock = some q → B ≤ q) (hB : B ≤ w.heap.size) : ∃ q, B ≤ q ∧ Bx q w w' := by
 cases hv : v.ownBlock with
 | none => exact ⟨w.heap.size, hB, h.grow.os, h.grow.tape, h.grow.output, h.size, fun b hb _ => h.keepB hb (by rw [hv]; simp)⟩
 | some q => exact ⟨q, ho q hv, h.grow.os, h.grow.tape, h.grow.output, h.size, fun b hb hne => h.keepB hb (by rw [hv]; intro e; exact hne (by simpa using e.symm))⟩
theorem PCur.text_le {ts : List GToken} {g : Nat} {L : Option Addr} {cl : Nat} {V : Option Addr} {cv : Nat} {st : PSt} {w : World} (h : PCur ts g L cl V cv st w) : (pNow ts st).text.size ≤ maxLen := by
 obtain ⟨b, off, -, -, -, -, -, -, hat⟩ := h.now
 exact hat.2.1
theorem PCur.ptext_le {ts : List GToken} {g : Nat} {L : Option Addr} {cl : Nat} {V : Option Addr} {cv : Nat} {st : PSt} {w : World} (h : PCur ts g L cl V cv st w) (con : Bool) : (pText ts con st).1.size ≤ maxLen := by
 unfold pText; split
 · exact empty_le
 · exact h.text_le
theorem sl_of_grx {X : Nat → Prop} {w : World} {B : Nat} {T : TypeId} {size : Nat} {A : Option Addr} {c n : Nat} {xs : List D} (h : Grx X w B T size (.slice A n c) n xs) (hX : ∀ b, B ≤ b → X b) : Sl w (fun b => b < w.heap.size ∧ X b) size A c xs := by
 obtain ⟨A', c', e, hs⟩ := h.sl hX
 obtain ⟨rfl, rfl⟩ : A = A' ∧ c = c' := by simpa using e
 exact hs
theorem l3Compare (k : Nat) (hA : ∀ j, j ≤ k → Ok1 105 pSum j) : Ok1 85 pCompare (k + 1) := by
 intro ts g L cl V cv st w h n st' hp
 have HA := LH hA
 clear hA
 simp [pCompare, Option.bind_eq_some_iff] at hp
 obtain ⟨n0, s0, hp0, hp1⟩ := hp
 have HC := LH h
 have M0 := LH h.mv
 have hgl := h.row.lt
 clear h
 go_enter Tryz.func85, Tryz.ntmps85
 go_wp2_with fail
 obtain ⟨w1, e1, Rr1, hz1, K1⟩ := boxed w 39 #[.int .i64 0, .int .i64 0, .string ⟨#[]⟩, .string ⟨#[]⟩, .slice none 0 0]
 have M1 := LH (M0.out.chg K1.out (by omega) (by omega))
 rw [← e1]
 clear e1
 have hlu1 := M1.out.row.lt
 have hcr1 := fun i => Rr1.out.cell i
 have hlr1 := Rr1.out.lt
 refine (HA.out k (Nat.le_refl _) ts g L cl V cv st w1 (M1.out.cur HC.out) n0 s0 hp0).mono ?_
 clear hlu1 hcr1 hlr1
 rintro e w2 ⟨A0, c0, rfl, ha2, hm2⟩
 have hz2 := hm2.size
 have K2 := LH hm2.bx
 have DN2 := LH ha2
 have Rr2 := LH (K2.out.row Rr1.out (by omega))
 have M2 := LH (M1.out.trans hm2)
 clear Rr1 M1
 clear hm2 ha2
 have hlu2 := M2.out.row.lt
 have hcr2 := fun i => Rr2.out.cell i
 have hlr2 := Rr2.out.lt
 clear hp0
 go_wp2_with fail
 clear hlu2 hcr2 hlr2
 obtain ⟨w3, e3, Ra3, hz3, K3⟩ := boxed w2 39 #[.int .i64 n0.op, .int .i64 n0.n, .string n0.s, .string n0.t, .slice A0 n0.kids.length c0]
 have Rr3 := LH (K3.out.row Rr2.out (by omega))
 have D03 := LH (DN2.out.keep fun b hb => K3.out.kq hb (by have h1 := hb.1; have h2 := hb.2; omega))
 have M3 := LH (M2.out.chg K3.out (by omega) (by omega))
 clear Rr2 DN2 M2
 rw [← e3]
 clear e3
 have hlu3 := M3.out.row.lt
 have hcr3 := fun i => Rr3.out.cell i
 have hlr3 := Rr3.out.lt
 have hca3 := fun i => Ra3.out.cell i
 have hla3 := Ra3.out.lt
 refine (l3Sign ts g L cl V cv s0 w3 (M3.out.cur HC.out) ⟨#[60]⟩).mono ?_
 clear hlu3 hcr3 hlr3 hca3 hla3
 rintro e w4 ⟨rfl, hb4⟩
 have hz4 := hb4.size
 have K4 := LH (Bx.of_below (g := g) hb4 (Nat.le_refl _))
 have Rr4 := LH (K4.out.row Rr3.out (by omega))
 have Ra4 := LH (K4.out.row Ra3.out (by omega))
 have D04 := LH (D03.out.keep fun b hb => K4.out.kq hb (by have h1 := hb.1; have h2 := hb.2; omega))
 have M4 := LH (M3.out.below hb4)
 clear Rr3 Ra3 D03 M3
 clear hb4
 have hlu4 := M4.out.row.lt
 have hcr4 := fun i => Rr4.out.cell i
 have hlr4 := Rr4.out.lt
 have hca4 := fun i => Ra4.out.cell i
 have hla4 := Ra4.out.lt
 cases hs : pSign ts [60] s0
 ·
  go_wp2_with fail
  refine (l3Sign ts g L cl V cv s0 w4 (M4.out.cur HC.out) ⟨#[61, 61]⟩).mono ?_
  clear hlu4 hcr4 hlr4 hca4 hla4
  rintro e w5 ⟨rfl, hb5⟩
  have hz5 := hb5.size
  have K5 := LH (Bx.of_below (g := g) hb5 (Nat.le_refl _))
  have Rr5 := LH (K5.out.row Rr4.out (by omega))
  have Ra5 := LH (K5.out.row Ra4.out (by omega))
  have D05 := LH (D04.out.keep fun b hb => K5.out.kq hb (by have h1 := hb.1; have h2 := hb.2; omega))
  have M5 := LH (M4.out.below hb5)
  clear Rr4 Ra4 D04 M4
  clear hb5
  have hlu5 := M5.out.row.lt
  have hcr5 := fun i => Rr5.out.cell i
  have hfr5 := fun i => Rr5.out.frozen i
  have hlr5 := Rr5.out.lt
  have hca5 := fun i => Ra5.out.cell i
  have hla5 := Ra5.out.lt
  cases hs2 : pSign ts [61, 61] s0
  ·
   simp [hs, hs2] at hp1
   obtain ⟨rfl, rfl⟩ := hp1
   go_wp2_with fail
   clear hlu5 hcr5 hfr5 hlr5 hca5 hla5
   obtain ⟨w6, e6, RN6, hz6, K6⟩ := stored5 Rr5.out (.int .i64 n0.op) (.int .i64 n0.n) (.string n0.s) (.string n0.t) (.slice A0 n0.kids.length c0)
   have Ra6 := LH (K6.out.row Ra5.out (by omega))
   have D06 := LH (D05.out.keep fun b hb => K6.out.kq hb (by have h1 := hb.1; have h2 := hb.2; omega))
   have M6 := LH (M5.out.chg K6.out (by omega) (by omega))
   clear Ra5 D05 M5
   clear Rr5
   rw [← e6]
   clear e6
   have hlu6 := M6.out.row.lt
   have hca6 := fun i => Ra6.out.cell i
   have hla6 := Ra6.out.lt
   have hcr6 := fun i => RN6.out.cell i
   have hlr6 := RN6.out.lt
   refine bodyPost_ret (v := .agg #[.int .i64 n0.op, .int .i64 n0.n, .string n0.s, .string n0.t, .slice A0 n0.kids.length c0]) (by simp [results, Tryz.results85, go_sem, hcr6]) rfl ?_
   exact ⟨A0, c0, rfl, D06.out.keep fun b hb => ⟨⟨by have h1 := hb.1; have h2 := hb.2; omega, by have h1 := hb.1; have h2 := hb.2; omega⟩, rfl⟩, M6.out⟩
  ·
   simp [hs, hs2] at hp1
   obtain ⟨n1, hq, rfl⟩ := hp1
   go_wp2_with fail
   refine (l3Next ts g L cl V cv s0 w5 (M5.out.cur HC.out)).mono ?_
   clear hlu5 hcr5 hfr5 hlr5 hca5 hla5
   rintro e w6 ⟨rfl, hm6⟩
   replace hm6 : Mv ts g L cl V cv s0.vars (pNext ts s0) w5 w6 := hm6
   have hz6 := hm6.size
   have K6 := LH hm6.bx
   have Rr6 := LH (K6.out.row Rr5.out (by omega))
   have Ra6 := LH (K6.out.row Ra5.out (by omega))
   have D06 := LH (D05.out.keep fun b hb => K6.out.kq hb (by have h1 := hb.1; have h2 := hb.2; omega))
   have M6 := LH (M5.out.trans hm6)
   clear Rr5 Ra5 D05 M5
   clear hm6
   have hlu6 := M6.out.row.lt
   have hcr6 := fun i => Rr6.out.cell i
   have hlr6 := Rr6.out.lt
   have hca6 := fun i => Ra6.out.cell i
   have hla6 := Ra6.out.lt
   go_wp2_with fail
   refine (HA.out k (Nat.le_refl _) ts g L cl V cv (pNext ts s0) w6 (M6.out.cur HC.out) n1 st' hq).mono ?_
   clear hlu6 hcr6 hlr6 hca6 hla6
   rintro e w7 ⟨A1, c1, rfl, ha7, hm7⟩
   have hz7 := hm7.size
   have K7 := LH hm7.bx
   have DN7 := LH ha7
   have Rr7 := LH (K7.out.row Rr6.out (by omega))
   have Ra7 := LH (K7.out.row Ra6.out (by omega))
   have D07 := LH (D06.out.keep fun b hb => K7.out.kq hb (by have h1 := hb.1; have h2 := hb.2; omega))
   have M7 := LH (M6.out.trans hm7)
   clear Rr6 Ra6 D06 M6
   clear hm7 ha7
   have hlu7 := M7.out.row.lt
   have hcr7 := fun i => Rr7.out.cell i
   have hlr7 := Rr7.out.lt
   have hca7 := fun i => Ra7.out.cell i
   have hla7 := Ra7.out.lt
   clear hq
   go_wp2_with fail
   clear hlu7 hcr7 hlr7 hca7 hla7
   obtain ⟨w8, e8, Rb8, hz8, K8⟩ := boxed w7 39 #[.int .i64 n1.op, .int .i64 n1.n, .string n1.s, .string n1.t, .slice A1 n1.kids.length c1]
   have Rr8 := LH (K8.out.row Rr7.out (by omega))
   have Ra8 := LH (K8.out.row Ra7.out (by omega))
   have D08 := LH (D07.out.keep fun b hb => K8.out.kq hb (by have h1 := hb.1; have h2 := hb.2; omega))
   have D18 := LH (DN7.out.keep fun b hb => K8.out.kq hb (by have h1 := hb.1; have h2 := hb.2; omega))
   have M8 := LH (M7.out.chg K8.out (by omega) (by omega))
   clear Rr7 Ra7 D07 DN7 M7
   obtain ⟨w9, e9, Rrow9, hz9, K9⟩ := boxed w8 39 #[.int .i64 n0.op, .int .i64 n0.n, .string n0.s, .string n0.t, .slice A0 n0.kids.length c0, .int .i64 n1.op, .int .i64 n1.n, .string n1.s, .string n1.t, .slice A1 n1.kids.length c1]
   have hy9 : w8.heap.size = (w7.heap.size + 1) := by omega
   rw [hy9] at Rrow9 K9
   have Rr9 := LH (K9.out.row Rr8.out (by omega))
   have Ra9 := LH (K9.out.row Ra8.out (by omega))
   have Rb9 := LH (K9.out.row Rb8.out (by omega))
   have D09 := LH (D08.out.keep fun b hb => K9.out.kq hb (by have h1 := hb.1; have h2 := hb.2; omega))
   have D19 := LH (D18.out.keep fun b hb => K9.out.kq hb (by have h1 := hb.1; have h2 := hb.2; omega))
   have M9 := LH (M8.out.chg K9.out (by omega) (by omega))
   clear Rr8 Ra8 Rb8 D08 D18 M8
   have SL9 := LH (show Sl w9 (fun b => b < w9.heap.size ∧ w.heap.size ≤ b ∧ b ≠ w.heap.size) 5 (some ⟨(w7.heap.size + 1), 0, none⟩) 2 ([n0, n1].map GNode.toD) from Sl.ofRow Rrow9.out (rdC_cons (GNode.rd_mk (D09.out.keep (w' := w9) (S' := fun b => b < w9.heap.size ∧ w.heap.size ≤ b ∧ b ≠ w.heap.size) fun b hb => ⟨⟨by have h1 := hb.1; have h2 := hb.2; omega, by have h1 := hb.1; have h2 := hb.2; omega⟩, rfl⟩)) rfl (rdC_one1 (GNode.rd_mk (D19.out.keep (w' := w9) (S' := fun b => b < w9.heap.size ∧ w.heap.size ≤ b ∧ b ≠ w.heap.size) fun b hb => ⟨⟨by have h1 := hb.1; have h2 := hb.2; omega, by have h1 := hb.1; have h2 := hb.2; omega⟩, rfl⟩)) rfl)) ⟨by omega, by omega⟩ (by simp) (by unfold maxLen; omega))
   rw [← e8, ← e9]
   clear e8 e9
   have hlu9 := M9.out.row.lt
   have hcr9 := fun i => Rr9.out.cell i
   have hfr9 := fun i => Rr9.out.frozen i
   have hlr9 := Rr9.out.lt
   have hca9 := fun i => Ra9.out.cell i
   have hla9 := Ra9.out.lt
   have hcb9 := fun i => Rb9.out.cell i
   have hlb9 := Rb9.out.lt
   have hcrow9 := fun i => Rrow9.out.cell i
   have hlrow9 := Rrow9.out.lt
   refine (l3Node (fun b => w.heap.size ≤ b ∧ b ≠ w.heap.size) (14) [n0, n1] (some ⟨(w7.heap.size + 1), 0, none⟩) 2 w9 SL9.out (by simp)).mono ?_
   clear hlu9 hcr9 hfr9 hlr9 hca9 hla9 hcb9 hlb9 hcrow9 hlrow9
   rintro e w10 ⟨A2, c2, rfl, hG10, hb10⟩
   have hz10 := hb10.size
   have K10 := LH (Bx.of_below (g := g) hb10 (Nat.le_refl _))
   have GN10 := LH hG10
   have Rr10 := LH (K10.out.row Rr9.out (by omega))
   have Ra10 := LH (K10.out.row Ra9.out (by omega))
   have Rb10 := LH (K10.out.row Rb9.out (by omega))
   have Rrow10 := LH (K10.out.row Rrow9.out (by omega))
   have D010 := LH (D09.out.keep fun b hb => K10.out.kq hb (by have h1 := hb.1; have h2 := hb.2; omega))
   have D110 := LH (D19.out.keep fun b hb => K10.out.kq hb (by have h1 := hb.1; have h2 := hb.2; omega))
   have M10 := LH (M9.out.below hb10)
   clear Rr9 Ra9 Rb9 Rrow9 D09 D19 M9
   clear hb10 hG10
   have hlu10 := M10.out.row.lt
   have hcr10 := fun i => Rr10.out.cell i
   have hfr10 := fun i => Rr10.out.frozen i
   have hlr10 := Rr10.out.lt
   have hca10 := fun i => Ra10.out.cell i
   have hla10 := Ra10.out.lt
   have hcb10 := fun i => Rb10.out.cell i
   have hlb10 := Rb10.out.lt
   have hcrow10 := fun i => Rrow10.out.cell i
   have hlrow10 := Rrow10.out.lt
   have DD2 := LH (ndOf (op := 14) GN10.out (fun b h => by omega) (by decide))
   go_wp2_with fail
   clear hlu10 hcr10 hlr10 hca10 hla10 hcb10 hlb10 hcrow10 hlrow10
   obtain ⟨w11, e11, RN11, hz11, K11⟩ := stored5 Rr10.out (.int .i64 14) (.int .i64 0) (.string ⟨#[]⟩) (.string ⟨#[]⟩) (.slice A2 2 c2)
   have Ra11 := LH (K11.out.row Ra10.out (by omega))
   have Rb11 := LH (K11.out.row Rb10.out (by omega))
   have D211 := LH (DD2.out.keep fun b hb => K11.out.kq hb (by have h1 := hb.1; have h2 := hb.2; omega))
   have M11 := LH (M10.out.chg K11.out (by omega) (by omega))
   clear Ra10 Rb10 DD2 M10
   clear Rr10
   rw [← e11]
   clear e11
   have hlu11 := M11.out.row.lt
   have hca11 := fun i => Ra11.out.cell i
   have hla11 := Ra11.out.lt
   have hcb11 := fun i => Rb11.out.cell i
   have hlb11 := Rb11.out.lt
   have hcr11 := fun i => RN11.out.cell i
   have hlr11 := RN11.out.lt
   refine bodyPost_ret (v := .agg #[.int .i64 14, .int .i64 0, .string ⟨#[]⟩, .string ⟨#[]⟩, .slice A2 2 c2]) (by simp [results, Tryz.results85, go_sem, hcr11]) rfl ?_
   exact ⟨A2, c2, rfl, D211.out.keep fun b hb => ⟨⟨by have h1 := hb.1; have h2 := hb.2; omega, by have h1 := hb.1; have h2 := hb.2; omega⟩, rfl⟩, M11.out⟩
 ·
  simp [hs] at hp1
  obtain ⟨n1, hq, rfl⟩ := hp1
  go_wp2_with fail
  refine (l3Next ts g L cl V cv s0 w4 (M4.out.cur HC.out)).mono ?_
  clear hlu4 hcr4 hlr4 hca4 hla4
  rintro e w5 ⟨rfl, hm5⟩
  replace hm5 : Mv ts g L cl V cv s0.vars (pNext ts s0) w4 w5 := hm5
  have hz5 := hm5.size
  have K5 := LH hm5.bx
  have Rr5 := LH (K5.out.row Rr4.out (by omega))
  have Ra5 := LH (K5.out.row Ra4.out (by omega))
  have D05 := LH (D04.out.keep fun b hb => K5.out.kq hb (by have h1 := hb.1; have h2 := hb.2; omega))
  have M5 := LH (M4.out.trans hm5)
  clear Rr4 Ra4 D04 M4
  clear hm5
  have hlu5 := M5.out.row.lt
  have hcr5 := fun i => Rr5.out.cell i
  have hfr5 := fun i => Rr5.out.frozen i
  have hlr5 := Rr5.out.lt
  have hca5 := fun i => Ra5.out.cell i
  have hla5 := Ra5.out.lt
  go_wp2_with fail
  refine (HA.out k (Nat.le_refl _) ts g L cl V cv (pNext ts s0) w5 (M5.out.cur HC.out) n1 st' hq).mono ?_
  clear hlu5 hcr5 hfr5 hlr5 hca5 hla5
  rintro e w6 ⟨A1, c1, rfl, ha6, hm6⟩
  have hz6 := hm6.size
  have K6 := LH hm6.bx
  have DN6 := LH ha6
  have Rr6 := LH (K6.out.row Rr5.out (by omega))
  have Ra6 := LH (K6.out.row Ra5.out (by omega))
  have D06 := LH (D05.out.keep fun b hb => K6.out.kq hb (by have h1 := hb.1; have h2 := hb.2; omega))
  have M6 := LH (M5.out.trans hm6)
  clear Rr5 Ra5 D05 M5
  clear hm6 ha6
  have hlu6 := M6.out.row.lt
  have hcr6 := fun i => Rr6.out.cell i
  have hlr6 := Rr6.out.lt
  have hca6 := fun i => Ra6.out.cell i
  have hla6 := Ra6.out.lt
  clear hq
  go_wp2_with fail
  clear hlu6 hcr6 hlr6 hca6 hla6
  obtain ⟨w7, e7, Rb7, hz7, K7⟩ := boxed w6 39 #[.int .i64 n1.op, .int .i64 n1.n, .string n1.s, .string n1.t, .slice A1 n1.kids.length c1]
  have Rr7 := LH (K7.out.row Rr6.out (by omega))
  have Ra7 := LH (K7.out.row Ra6.out (by omega))
  have D07 := LH (D06.out.keep fun b hb => K7.out.kq hb (by have h1 := hb.1; have h2 := hb.2; omega))
  have D17 := LH (DN6.out.keep fun b hb => K7.out.kq hb (by have h1 := hb.1; have h2 := hb.2; omega))
  have M7 := LH (M6.out.chg K7.out (by omega) (by omega))
  clear Rr6 Ra6 D06 DN6 M6
  obtain ⟨w8, e8, Rrow8, hz8, K8⟩ := boxed w7 39 #[.int .i64 n0.op, .int .i64 n0.n, .string n0.s, .string n0.t, .slice A0 n0.kids.length c0, .int .i64 n1.op, .int .i64 n1.n, .string n1.s, .string n1.t, .slice A1 n1.kids.length c1]
  have hy8 : w7.heap.size = (w6.heap.size + 1) := by omega
  rw [hy8] at Rrow8 K8
  have Rr8 := LH (K8.out.row Rr7.out (by omega))
  have Ra8 := LH (K8.out.row Ra7.out (by omega))
  have Rb8 := LH (K8.out.row Rb7.out (by omega))
  have D08 := LH (D07.out.keep fun b hb => K8.out.kq hb (by have h1 := hb.1; have h2 := hb.2; omega))
  have D18 := LH (D17.out.keep fun b hb => K8.out.kq hb (by have h1 := hb.1; have h2 := hb.2; omega))
  have M8 := LH (M7.out.chg K8.out (by omega) (by omega))
  clear Rr7 Ra7 Rb7 D07 D17 M7
  have SL8 := LH (show Sl w8 (fun b => b < w8.heap.size ∧ w.heap.size ≤ b ∧ b ≠ w.heap.size) 5 (some ⟨(w6.heap.size + 1), 0, none⟩) 2 ([n0, n1].map GNode.toD) from Sl.ofRow Rrow8.out (rdC_cons (GNode.rd_mk (D08.out.keep (w' := w8) (S' := fun b => b < w8.heap.size ∧ w.heap.size ≤ b ∧ b ≠ w.heap.size) fun b hb => ⟨⟨by have h1 := hb.1; have h2 := hb.2; omega, by have h1 := hb.1; have h2 := hb.2; omega⟩, rfl⟩)) rfl (rdC_one1 (GNode.rd_mk (D18.out.keep (w' := w8) (S' := fun b => b < w8.heap.size ∧ w.heap.size ≤ b ∧ b ≠ w.heap.size) fun b hb => ⟨⟨by have h1 := hb.1; have h2 := hb.2; omega, by have h1 := hb.1; have h2 := hb.2; omega⟩, rfl⟩)) rfl)) ⟨by omega, by omega⟩ (by simp) (by unfold maxLen; omega))
  rw [← e7, ← e8]
  clear e7 e8
  have hlu8 := M8.out.row.lt
  have hcr8 := fun i => Rr8.out.cell i
  have hlr8 := Rr8.out.lt
  have hca8 := fun i => Ra8.out.cell i
  have hla8 := Ra8.out.lt
  have hcb8 := fun i => Rb8.out.cell i
  have hlb8 := Rb8.out.lt
  have hcrow8 := fun i => Rrow8.out.cell i
  have hlrow8 := Rrow8.out.lt
  refine (l3Node (fun b => w.heap.size ≤ b ∧ b ≠ w.heap.size) (13) [n0, n1] (some ⟨(w6.heap.size + 1), 0, none⟩) 2 w8 SL8.out (by simp)).mono ?_
  clear hlu8 hcr8 hlr8 hca8 hla8 hcb8 hlb8 hcrow8 hlrow8
  rintro e w9 ⟨A2, c2, rfl, hG9, hb9⟩
  have hz9 := hb9.size
  have K9 := LH (Bx.of_below (g := g) hb9 (Nat.le_refl _))
  have GN9 := LH hG9
  have Rr9 := LH (K9.out.row Rr8.out (by omega))
  have Ra9 := LH (K9.out.row Ra8.out (by omega))
  have Rb9 := LH (K9.out.row Rb8.out (by omega))
  have Rrow9 := LH (K9.out.row Rrow8.out (by omega))
  have D09 := LH (D08.out.keep fun b hb => K9.out.kq hb (by have h1 := hb.1; have h2 := hb.2; omega))
  have D19 := LH (D18.out.keep fun b hb => K9.out.kq hb (by have h1 := hb.1; have h2 := hb.2; omega))
  have M9 := LH (M8.out.below hb9)
  clear Rr8 Ra8 Rb8 Rrow8 D08 D18 M8
  clear hb9 hG9
  have hlu9 := M9.out.row.lt
  have hcr9 := fun i => Rr9.out.cell i
  have hfr9 := fun i => Rr9.out.frozen i
  have hlr9 := Rr9.out.lt
  have hca9 := fun i => Ra9.out.cell i
  have hla9 := Ra9.out.lt
  have hcb9 := fun i => Rb9.out.cell i
  have hlb9 := Rb9.out.lt
  have hcrow9 := fun i => Rrow9.out.cell i
  have hlrow9 := Rrow9.out.lt
  have DD2 := LH (ndOf (op := 13) GN9.out (fun b h => by omega) (by decide))
  go_wp2_with fail
  clear hlu9 hcr9 hfr9 hlr9 hca9 hla9 hcb9 hlb9 hcrow9 hlrow9
  obtain ⟨w10, e10, RN10, hz10, K10⟩ := stored5 Rr9.out (.int .i64 13) (.int .i64 0) (.string ⟨#[]⟩) (.string ⟨#[]⟩) (.slice A2 2 c2)
  have Ra10 := LH (K10.out.row Ra9.out (by omega))
  have Rb10 := LH (K10.out.row Rb9.out (by omega))
  have D210 := LH (DD2.out.keep fun b hb => K10.out.kq hb (by have h1 := hb.1; have h2 := hb.2; omega))
  have M10 := LH (M9.out.chg K10.out (by omega) (by omega))
  clear Ra9 Rb9 DD2 M9
  clear Rr9
  rw [← e10]
  clear e10
  have hlu10 := M10.out.row.lt
  have hca10 := fun i => Ra10.out.cell i
  have hla10 := Ra10.out.lt
  have hcb10 := fun i => Rb10.out.cell i
  have hlb10 := Rb10.out.lt
  have hcr10 := fun i => RN10.out.cell i
  have hlr10 := RN10.out.lt
  refine bodyPost_ret (v := .agg #[.int .i64 13, .int .i64 0, .string ⟨#[]⟩, .string ⟨#[]⟩, .slice A2 2 c2]) (by simp [results, Tryz.results85, go_sem, hcr10]) rfl ?_
  exact ⟨A2, c2, rfl, D210.out.keep fun b hb => ⟨⟨by have h1 := hb.1; have h2 := hb.2; omega, by have h1 := hb.1; have h2 := hb.2; omega⟩, rfl⟩, M10.out⟩
def hidQ (Q : Exit → Act → World → Prop) (R : Act → World → Prop) : Exit → Act → World → Prop
 | .ret, a, w => R a w
 | e, a, w => Q e a w
theorem wp_hide {P : Program} {c : Code} {Q : Exit → Act → World → Prop} {a : Act} {w : World} (h : ∀ BP : Act → World → Prop, BP = Q .ret → c.wp P (hidQ Q BP) a w) : c.wp P Q a w := by
 have e : hidQ Q (Q .ret) = Q := by funext e a w; cases e <;> rfl
 have := h _ rfl
 rwa [e] at this
def pLet (ts : List GToken) (k : Nat) (st : PSt) : Option (GNode × PSt) := let a := pText ts false (pNext ts st); (pE ts k (pTake ts [61] a.2)).bind fun e => (pE ts k (pWord ts [105, 110] e.2)).map fun b => (.mk 5 0 a.1 ⟨#[]⟩ [e.1, b.1], b.2)
def pRec (ts : List GToken) (k : Nat) (st : PSt) : Option (GNode × PSt) := let a := pText ts false (pNext ts st); let a2 := pText ts false a.2; (pE ts k (pTake ts [61] a2.2)).bind fun e => (pE ts k (pWord ts [105, 110] e.2)).map fun b => (.mk 6 0 a.1 a2.1 [e.1, b.1], b.2)
def pCase (ts : List GToken) (k : Nat) (st : PSt) : Option (GNode × PSt) := (pE ts k (pNext ts st)).bind fun e => (pCaseAlts ts k (pTake ts [123] (pWord ts [111, 102] e.2)) [e.1]).map fun r => (nd 7 r.1, pTake ts [125] r.2)
theorem pE_succ (ts : List GToken) (k : Nat) (st : PSt) : pE ts (k + 1) st =
 (if pIs ts [102, 117, 110] st then let a := pText ts false (pNext ts st); (pE ts k (pTake ts [45, 62] a.2)).map fun e => (.mk 3 0 a.1 ⟨#[]⟩ [e.1], e.2)
 else if pIs ts [108, 101, 116] st then pLet ts k st
 else if pIs ts [114, 101, 99] st then pRec ts k st
 else if pIs ts [99, 97, 115, 101] st then pCase ts k st
 else if pIs ts [105, 102] st then (pE ts k (pNext ts st)).bind fun a => (pE ts k (pWord ts [116, 104, 101, 110] a.2)).bind fun b => (pE ts k (pWord ts [101, 108, 115, 101] b.2)).map fun d => (nd 9 [a.1, b.1, d.1], d.2)
 else pCompare ts k st) := by
 simp only [pE, pLet, pRec, pCase]
inductive GValue where
 | mk (kind : Int) (n : Int) (s : ByteArray) (kids : List GValue)
def GValue.kind : GValue → Int | .mk x _ _ _ => x
def GValue.n : GValue → Int | .mk _ x _ _ => x
def GValue.s : GValue → ByteArray | .mk _ _ x _ => x
def GValue.kids : GValue → List GValue | .mk _ _ _ x => x
mutual
def GValue.toD : GValue → D | .mk kind n s kids => .agg [.num .i64 kind, .num .i64 n, .str s, .sl 4 (GValue.toDs kids)]
def GValue.toDs : List GValue → List D | [] => [] | t :: r => t.toD :: GValue.toDs r
end
theorem GValue.toDs_map : ∀ l : List GValue, GValue.toDs l = l.map GValue.toD
 | [] => rfl
 | t :: r => by simp only [GValue.toDs, List.map_cons, GValue.toDs_map r]
mutual
def GValue.bulk : GValue → Nat | .mk _ _ s kids => s.size + GValue.bulks kids
def GValue.bulks : List GValue → Nat | [] => 0 | t :: r => 1 + t.bulk + GValue.bulks r
end
theorem GValue.bulks_eq : ∀ l : List GValue, GValue.bulks l = bulkL GValue.bulk l
 | [] => rfl
 | t :: r => by simp only [GValue.bulks, bulkL, GValue.bulks_eq r]
theorem GValue.bulk_eq (t : GValue) : t.bulk = t.s.size + bulkL GValue.bulk t.kids := by
 cases t; simp only [GValue.bulk, GValue.bulks_eq, GValue.kind, GValue.n, GValue.s, GValue.kids]
def GValue.At (w : World) (S : Nat → Prop) (A1 : Option Addr) (c1 : Nat) (t : GValue) : Prop :=
 (Lit.int .i64 t.kind).wf = true ∧ (Lit.int .i64 t.n).wf = true ∧ t.s.size ≤ maxLen ∧ Sl w S 4 A1 c1 (t.kids.map GValue.toD)
theorem GValue.rd {w : World} {S : Nat → Prop} {t : GValue} {cs : List Value} (h : t.toD.rd w S cs) : ∃ A1 c1, cs = [.int .i64 t.kind, .int .i64 t.n, .string t.s, .slice A1 t.kids.length c1] ∧ GValue.At w S A1 c1 t := by
 cases t with
 | mk kind n s kids =>
 simp only [GValue.toD, GValue.toDs_map] at h
 rw [D.rd_agg] at h
 rw [D.rdF_cons] at h
 obtain ⟨x0, r0, rfl, k0, h⟩ := h
 obtain ⟨rfl, h0⟩ := D.rd_num.1 k0
 rw [D.rdF_cons] at h
 obtain ⟨x1, r1, rfl, k1, h⟩ := h
 obtain ⟨rfl, h1⟩ := D.rd_num.1 k1
 rw [D.rdF_cons] at h
 obtain ⟨x2, r2, rfl, k2, h⟩ := h
 obtain ⟨rfl, h2⟩ := D.rd_str.1 k2
 rw [D.rdF_cons] at h
 obtain ⟨x3, r3, rfl, k3, h⟩ := h
 obtain ⟨A1, c1, rfl, h3⟩ := D.rd_sl.1 k3
 obtain rfl := D.rdF_nil.1 h
 exact ⟨A1, c1, by simp [GValue.kind, GValue.n, GValue.s, GValue.kids], h0, h1, h2, h3⟩
theorem GValue.rd_mk {w : World} {S : Nat → Prop} {t : GValue} {A1 : Option Addr} {c1 : Nat} (h : GValue.At w S A1 c1 t) : t.toD.rd w S [.int .i64 t.kind, .int .i64 t.n, .string t.s, .slice A1 t.kids.length c1] := by
 cases t with
 | mk kind n s kids =>
 simp only [GValue.toD, GValue.toDs_map]
 unfold GValue.At at h
 obtain ⟨h0, h1, h2, h3⟩ := h
 rw [D.rd_agg]
 exact D.rdF_cons.2 ⟨[_], [_, _, _], rfl, D.rd_num.2 ⟨rfl, h0⟩, D.rdF_cons.2 ⟨[_], [_, _], rfl, D.rd_num.2 ⟨rfl, h1⟩, D.rdF_cons.2 ⟨[_], [_], rfl, D.rd_str.2 ⟨rfl, h2⟩, D.rdF_cons.2 ⟨[_], [], rfl, D.rd_sl.2 ⟨A1, c1, by simp [GValue.kids], h3⟩, D.rdF_nil.2 rfl⟩⟩⟩⟩
theorem GValue.elem {w : World} {S : Nat → Prop} {A : Option Addr} {c : Nat} {l : List GValue} (h : Sl w S 4 A c (l.map GValue.toD)) (i : Nat) (hi : i < l.length) :
 ∃ b off A1 c1, A = some ⟨b, off, none⟩ ∧ S b ∧ w.cell? ⟨b, off + i * 4, none⟩ = some (.int .i64 l[i].kind) ∧ w.cell? ⟨b, off + i * 4 + 1, none⟩ = some (.int .i64 l[i].n) ∧ w.cell? ⟨b, off + i * 4 + 2, none⟩ = some (.string l[i].s) ∧ w.cell? ⟨b, off + i * 4 + 3, none⟩ = some (.slice A1 l[i].kids.length c1) ∧ GValue.At w S A1 c1 l[i] := by
 obtain ⟨b, off, cs, e, hb, hl, hc, hr⟩ := Sl.get h i (by simpa using hi)
 rw [List.getElem_map] at hr
 obtain ⟨A1, c1, rfl, h1⟩ := GValue.rd hr
 exact ⟨b, off, A1, c1, e, hb, hc 0 _ rfl, hc 1 _ rfl, hc 2 _ rfl, hc 3 _ rfl, h1⟩
theorem GValue.At.keep {w w' : World} {S S' : Nat → Prop} {t : GValue} {A1 : Option Addr} {c1 : Nat} (h : GValue.At w S A1 c1 t) (hk : ∀ b, S b → S' b ∧ w'.heap[b]? = w.heap[b]?) : GValue.At w' S' A1 c1 t := by
 unfold GValue.At at h ⊢
 obtain ⟨h0, h1, h2, h3⟩ := h
 exact ⟨h0, h1, h2, h3.keep hk⟩
theorem GValue.At.below {w w' : World} {B B' : Nat} {t : GValue} {A1 : Option Addr} {c1 : Nat} (h : GValue.At w (Lt B) A1 c1 t) (hb : Below B w w') (hB : B ≤ B') : GValue.At w' (Lt B') A1 c1 t :=
 h.keep (keep_below hb hB)
def GValue.Ow (w : World) (S : Nat → Prop) (A1 : Option Addr) (c1 : Nat) (t : GValue) : Prop :=
 (Lit.int .i64 t.kind).wf = true ∧ (Lit.int .i64 t.n).wf = true ∧ t.s.size ≤ maxLen ∧ Osl w S 4 A1 c1 (t.kids.map GValue.toD)
theorem GValue.own_mk {w : World} {S : Nat → Prop} {t : GValue} {A1 : Option Addr} {c1 : Nat} (h : GValue.Ow w S A1 c1 t) : t.toD.own w S [.int .i64 t.kind, .int .i64 t.n, .string t.s, .slice A1 t.kids.length c1] := by
 cases t with
 | mk kind n s kids =>
 simp only [GValue.toD, GValue.toDs_map]
 unfold GValue.Ow at h
 obtain ⟨h0, h1, h2, h3⟩ := h
 rw [D.own_agg]
 exact D.ownF_plain (c1 := [_]) (c2 := [_, _, _]) (D.own_num.2 ⟨rfl, h0⟩) (D.ownF_plain (c1 := [_]) (c2 := [_, _]) (D.own_num.2 ⟨rfl, h1⟩) (D.ownF_plain (c1 := [_]) (c2 := [_]) (D.own_str.2 ⟨rfl, h2⟩) (D.ownF_last (D.own_sl.2 ⟨A1, c1, by simp [GValue.kids], h3⟩))))
theorem GValue.Ow.keep {w w' : World} {S S' : Nat → Prop} {t : GValue} {A1 : Option Addr} {c1 : Nat} (h : GValue.Ow w S A1 c1 t) (hk : ∀ b, S b → S' b ∧ w'.heap[b]? = w.heap[b]?) : GValue.Ow w' S' A1 c1 t := by
 unfold GValue.Ow at h ⊢
 obtain ⟨h0, h1, h2, h3⟩ := h
 exact ⟨h0, h1, h2, h3.keep hk⟩
set_option maxHeartbeats 1000000
structure Dm (l : List Int) (A : Option Addr) (c : Nat) (g : Nat) (w w' : World) : Prop where
 cur : ∃ (i : Nat) (h : Int), Cur l A c w' g i h
 bx : Bx g w w'
theorem Turned.bx {g : Nat} {w w' : World} (h : Turned g w w') : Bx g w w' := ⟨h.os, h.tape, h.output, h.size, h.block⟩
theorem Bx.turned {g : Nat} {w w' : World} (h : Bx g w w') : Turned g w w' := ⟨h.os, h.tape, h.output, h.size, h.block⟩
section
variable {l : List Int} {A : Option Addr} {c : Nat} {g : Nat} {w a b d : World}
theorem Dm.start {i : Nat} {h : Int} (hc : Cur l A c w g i h) : Dm l A c g w w := ⟨⟨i, h, hc⟩, Bx.refl _ _⟩
theorem Dm.lt (h : Dm l A c g a b) : g < b.heap.size := by obtain ⟨i, k, hc⟩ := h.cur; exact hc.row.lt
theorem Dm.size (h : Dm l A c g a b) : a.heap.size ≤ b.heap.size := h.bx.size
theorem Dm.trans (h : Dm l A c g a b) (k : Dm l A c g b d) : Dm l A c g a d := ⟨k.cur, h.bx.trans k.bx⟩
theorem Dm.below (h : Dm l A c g a b) (k : Below b.heap.size b d) : Dm l A c g a d := by
 obtain ⟨i, x, hc⟩ := h.cur
 exact ⟨⟨i, x, hc.below k hc.row.lt⟩, h.bx.trans (Bx.of_below k (Nat.le_refl _))⟩
theorem Dm.again (h : Dm l A c g a b) : Dm l A c g b b := ⟨h.cur, Bx.refl _ _⟩
theorem Dm.chg {q : Nat} (h : Dm l A c g a b) (k : Bx q b d) (hq : a.heap.size ≤ q) (hg : g < a.heap.size) : Dm l A c g a d := by
 obtain ⟨i, x, hc⟩ := h.cur
 have hz := h.size
 exact ⟨⟨i, x, hc.turned k.turned (by omega)⟩, ⟨k.os.trans h.bx.os, k.tape.trans h.bx.tape, k.output.trans h.bx.output, Nat.le_trans hz k.size, fun y hy hyg => (k.block y (by omega) (by omega)).trans (h.bx.block y hy hyg)⟩⟩
end
theorem drawBelowD {l : List Int} {A : Option Addr} {c : Nat} {g : Nat} {a w : World} (m : Dm l A c g a w) (n : Int) (h1 : 1 ≤ n) (h2 : n ≤ 256) :
 Calls Tryz.prog 12 #[.pointer (some ⟨g, 0, none⟩), .int .i64 n] w fun e w' => ∃ x : Int, e = .returned (.int .i64 x) ∧ (0 ≤ x ∧ x < n) ∧ Dm l A c g w w' := by
 obtain ⟨i, h, hc⟩ := m.cur
 refine (drawBelow hc n h1 h2).mono ?_
 rintro e w1 ⟨x, i1, k1, rfl, hx, hc1, ht⟩
 exact ⟨x, rfl, hx, ⟨⟨i1, k1, hc1⟩, ht.bx⟩⟩
theorem drawOnceD {l : List Int} {A : Option Addr} {c : Nat} {g : Nat} {a w : World} (m : Dm l A c g a w) (n : Int) (h1 : 1 ≤ n) (h2 : n ≤ 256) :
 Calls Tryz.prog 28 #[.pointer (some ⟨g, 0, none⟩), .int .i64 n] w fun e w' => ∃ b : Bool, e = .returned (.bool b) ∧ Dm l A c g w w' := by
 have M := LH m
 clear m
 go_enter Tryz.func28, Tryz.ntmps28
 go_wp2_with fail
 refine (drawBelowD M.out n h1 h2).mono ?_
 rintro e w1 ⟨x, rfl, hx, hm⟩
 have M1 := LH hm
 clear hm hx
 go_wp2_with fail
 go_ret
 exact ⟨_, rfl, M1.out⟩
def DrawnN (l : List Int) (A : Option Addr) (c : Nat) (g : Nat) (P : GNode → Prop) (w : World) (e : Ending) (w' : World) : Prop :=
 ∃ n A1 c1, e = .returned (.agg #[.int .i64 n.op, .int .i64 n.n, .string n.s, .string n.t, .slice A1 n.kids.length c1]) ∧ P n ∧ GNode.At w' (fun b => w.heap.size ≤ b ∧ b < w'.heap.size) A1 c1 n ∧ Dm l A c g w w'
def DrawnV (l : List Int) (A : Option Addr) (c : Nat) (g : Nat) (P : GValue → Prop) (w : World) (e : Ending) (w' : World) : Prop :=
 ∃ n A1 c1, e = .returned (.agg #[.int .i64 n.kind, .int .i64 n.n, .string n.s, .slice A1 n.kids.length c1]) ∧ P n ∧ GValue.At w' (fun b => w.heap.size ≤ b ∧ b < w'.heap.size) A1 c1 n ∧ Dm l A c g w w'
def sNil : ByteArray := ⟨#[78, 105, 108]⟩
def sCons : ByteArray := ⟨#[67, 111, 110, 115]⟩
def sNone : ByteArray := ⟨#[78, 111, 110, 101]⟩
def sSome : ByteArray := ⟨#[83, 111, 109, 101]⟩
def patD : Nat → GNode → Prop
 | 0, p => p = .mk 17 0 ⟨#[]⟩ ⟨#[]⟩ []
 | d + 1, p => p = .mk 17 0 ⟨#[]⟩ ⟨#[]⟩ [] ∨ (∃ x : Int, (0 ≤ x ∧ x < 3) ∧ p = .mk 19 x ⟨#[]⟩ ⟨#[]⟩ []) ∨ p = .mk 20 0 sNil ⟨#[]⟩ [] ∨ p = .mk 20 0 sNone ⟨#[]⟩ [] ∨
  (∃ a b, patD d a ∧ patD d b ∧ p = .mk 20 0 sCons ⟨#[]⟩ [a, b]) ∨ (∃ a, patD d a ∧ p = .mk 20 0 sSome ⟨#[]⟩ [a])
def valI (v : GValue) : Prop := ∃ x : Int, (0 ≤ x ∧ x < 4) ∧ v = .mk 1 x ⟨#[]⟩ []
def valO (v : GValue) : Prop := v = .mk 2 0 sNone [] ∨ ∃ a, valI a ∧ v = .mk 2 0 sSome [a]
def valL : Nat → GValue → Prop
 | 0, v => v = .mk 2 0 sNil []
 | d + 1, v => v = .mk 2 0 sNil [] ∨ ∃ a b, valO a ∧ valL d b ∧ v = .mk 2 0 sCons [a, b]
theorem short_le {s : ByteArray} (h : s.size ≤ 8) : s.size ≤ maxLen := by unfold maxLen; omega
theorem int_wfS {n : Int} (h : -1000 ≤ n ∧ n ≤ 1000) : (Lit.int .i64 n).wf = true := by
 simp [Lit.wf, IntKind.min, IntKind.max, IntKind.signed, IntKind.bits]; omega
theorem GValue.leaf {w : World} {S : Nat → Prop} {k n : Int} {s : ByteArray} (h1 : (Lit.int .i64 k).wf = true) (h2 : (Lit.int .i64 n).wf = true) (h3 : s.size ≤ maxLen) : GValue.At w S none 0 (.mk k n s []) := ⟨h1, h2, h3, Sl.nil (by unfold maxLen; omega)⟩
end Go.Proofs.YtjjikciggbnjmaaGreat
