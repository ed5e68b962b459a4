/- Several texts of this claim in one: Open Draw CoverU CoverT. Conditions: none but bounds on sizes. -/
import Derived.Test.YtgbcdfeflgnogaaGreatMg0
import Derived.ProofKit
import Derived.OpenShut
import Derived.Deep.Slices
import Derived.ChangeSame
import Derived.Test.YtgbcdfeflgnogaaGreatRows
import Derived.Lib.Hide
import Derived.Deep.RegionHeld3
import Derived.Test.YtgbcdfeflgnogaaGreatMg9
/- How the arguments of a law, as the statement reads them, are data in memory; and the step from a walk to the statement's post. Conditions: none. -/
namespace Go.Proofs.YtgbcdfeflgnogaaGreat
open Go.ChangeShapes Go.WideShapes Go.ChangeAt Go.RowKit Go.Deep
set_option linter.unusedVariables false

section
variable {H : Type} {enc : TypeId × Value → H} {P : Program} {w : World} {sp : Nat → Bool} {held : Bool}

theorem cell_addr {w : World} {a : Addr} {v : Value} (h : w.cell? a = some v) : a = ⟨a.block, a.off, none⟩ ∧ a.block < w.heap.size := by
  unfold World.cell? at h
  split at h
  · rename_i c _ _ hb
    split at h
    · cases h
    · rename_i hs
      refine ⟨?_, ?_⟩
      · cases a with
        | mk b o s => cases s with
          | none => rfl
          | some x => simp at hs
      · rcases Nat.lt_or_ge a.block w.heap.size with hlt | hge
        · exact hlt
        · rw [Array.getElem?_eq_none hge] at hb; cases hb
  · cases h

/-- a slice that is read is a list of data -/
theorem open_sl {α : Type} {t e : TypeId} {fuel : Nat} {cs : List Value} {x : DataW H × List MemPlace} (size : Nat) (hsz : 0 < size) (ht : P.underlying t = some (.slice e)) (hc : P.cellsOf e = size) (toD : α → D)
    (hel : ∀ n cs x, n < fuel → DataW.trod enc P w 0 sp held n e cs = some x → ∃ a : α, (toD a).rd w (Lt w.heap.size) cs)
    (h : DataW.trod enc P w 0 sp held fuel t cs = some x) : ∃ l : List α, (D.sl size (l.map toD)).rd w (Lt w.heap.size) cs := by
  rcases DataW.trod_slice ht h with ⟨rfl, _⟩ | ⟨a, len, cap, elems, rest, n, rfl, rfl, _, _, hl, hm, hlen, hg, _, _⟩
  · exact ⟨[], D.rd_sl.2 ⟨none, 0, by simp, Sl.nil (by unfold maxLen; omega)⟩⟩
  · rw [hc] at hg
    have hex : ∀ i, i < len → ∃ (u : α) (cs' : List Value), cs'.length = size ∧ (∀ j, j < size → w.cell? ((a.add (i * size)).add j) = cs'[j]?) ∧ (toD u).rd w (Lt w.heap.size) cs' := by
      intro i hi
      have h1 := hg i hi
      rw [List.getElem?_eq_getElem (by omega)] at h1
      obtain ⟨cs', h2, h3⟩ := Option.bind_eq_some_iff.1 h1
      obtain ⟨_, h4, h5⟩ := World.cells?_some h2
      obtain ⟨u, hu⟩ := hel n cs' _ (by omega) h3
      exact ⟨u, cs', h4, h5, hu⟩
    -- the list
    have hlist : ∀ k, k ≤ len → ∃ l : List α, l.length = k ∧ ∀ i (hi : i < l.length), ∃ cs' : List Value, cs'.length = size ∧ (∀ j, j < size → w.cell? ((a.add (i * size)).add j) = cs'[j]?) ∧ (toD l[i]).rd w (Lt w.heap.size) cs' := by
      intro k
      induction k with
      | zero => intro _; exact ⟨[], rfl, fun i hi => by simp at hi⟩
      | succ k ih =>
        intro hk
        obtain ⟨l, h1, h2⟩ := ih (by omega)
        obtain ⟨u, cs', h3⟩ := hex k (by omega)
        refine ⟨l ++ [u], by simp [h1], fun i hi => ?_⟩
        rcases Nat.lt_or_ge i l.length with h | h
        · rw [List.getElem_append_left h]; exact h2 i h
        · have he : i = k := by simp at hi; omega
          subst he
          refine ⟨cs', h3.1, h3.2.1, ?_⟩
          have : (l ++ [u])[i] = u := by simp [h1]
          rw [this]; exact h3.2.2
    obtain ⟨l, h1, h2⟩ := hlist len (Nat.le_refl _)
    refine ⟨l, D.rd_sl.2 ⟨some a, cap, by simp [h1], by simp [h1]; omega, hm, ?_⟩⟩
    rcases Nat.eq_zero_or_pos len with h0 | h0
    · have hn : l = [] := List.eq_nil_of_length_eq_zero (by omega)
      exact .inl (by simp [hn])
    · have haddr : a = ⟨a.block, a.off, none⟩ ∧ a.block < w.heap.size := by
        obtain ⟨cs', k1, k2, _⟩ := h2 0 (by omega)
        have k3 := k2 0 hsz
        rw [List.getElem?_eq_getElem (by omega)] at k3
        simp only [Nat.zero_mul, Addr.add, if_true] at k3
        exact cell_addr k3
      obtain ⟨ha, hlt⟩ := haddr
      refine .inr ⟨a.block, a.off, by rw [← ha], hlt, D.rdR_mk fun i hi => ?_⟩
      obtain ⟨cs', k1, k2, k3⟩ := h2 i (by simpa using hi)
      refine ⟨cs', k1, fun j v hj => ?_, by simpa using k3⟩
      have hjl : j < cs'.length := (List.getElem?_eq_some_iff.1 hj).1
      have k4 := k2 j (by omega)
      rw [hj] at k4
      rw [← k4]
      congr 1
      rw [ha]
      unfold Addr.add
      split <;> split <;> simp <;> omega

theorem fld {n : Nat} {fs : Array Field} {cs : List Value} {xs : List (DataW H × List MemPlace)} (hf : ∀ (i : Nat) (f : Field), fs[i]? = some f → DataW.trod enc P w 0 sp held n f.type ((cs.drop f.offset).take (P.cellsOf f.type)) = xs[i]?)
    (hxl : xs.length = fs.size) (i ft off k : Nat) (h : fs[i]?.map (fun f => (f.type, f.offset)) = some (ft, off)) (hk : P.cellsOf ft = k) : ∃ y, DataW.trod enc P w 0 sp held n ft ((cs.drop off).take k) = some y := by
  obtain ⟨f, h1, h2⟩ := Option.map_eq_some_iff.1 h
  simp only [Prod.mk.injEq] at h2
  have h3 := hf i f h1
  rw [h2.1, h2.2, hk] at h3
  have hi : i < xs.length := by rw [hxl]; exact (Array.getElem?_eq_some_iff.1 h1).1
  exact ⟨xs[i], h3.trans (List.getElem?_eq_getElem hi)⟩

theorem open_int_el {e : TypeId} (he : P.underlying e = some (.int .i64)) {n : Nat} {cs : List Value} {x : DataW H × List MemPlace} (h : DataW.trod enc P w 0 sp held n e cs = some x) : ∃ a : Int, (D.num .i64 a).rd w (Lt w.heap.size) cs := by
  obtain ⟨a, rfl, _, hw⟩ := DataW.trod_int he h
  exact ⟨a, D.rd_num.2 ⟨rfl, hw⟩⟩

theorem trodAll_stays (hl : laidOutB P = true) {W W' : World} {sp' : Nat → Bool} : ∀ {ts : List TypeId} {vs : List Value} {ds : List (DataW H)} {ps : List MemPlace},
    (ts.all fun t => P.readableRec t && decide (t < P.types.size)) = true → DataW.TrodAll enc P W 0 (fun _ => true) true ts vs ds ps → Below W.heap.size W W' → (∀ x ∈ ps, x.block < W.heap.size) → (∀ p ∈ ps, sp' p.block = true) →
    DataW.TrodAll enc P W' 0 sp' true ts vs ds ps
  | [], vs, ds, ps, _, h, _, _, _ => by
    obtain ⟨rfl, rfl, rfl⟩ := trodAll_nil h
    exact trodAll_mk0
  | t :: ts, vs, ds, ps, hr, h, hb, hlt, hs => by
    obtain ⟨v, vs', d, ds', p, q, rfl, rfl, rfl, h1, h2⟩ := trodAll_cons h
    simp only [List.all_cons, Bool.and_eq_true, decide_eq_true_eq] at hr
    refine trodAll_cons_mk (WideElems.Trod_stays hl hr.1.1 hr.1.2 h1 (fun x hx => hb.same (hlt x (by simp [hx]))) (fun x hx => hs x (by simp [hx]))) (trodAll_stays hl ?_ h2 hb (fun x hx => hlt x (by simp [hx])) (fun x hx => hs x (by simp [hx])))
    simpa using hr.2

theorem post_of_below {f : Func} {s : ChangeSpec} {apart fresh handsOn again : Bool} {W W' : World} {args : Array Value} {v : Value} {ds gs : List (DataW H)} {before pa pv : List MemPlace}
    (hW : DataW.Whole enc P f.params.toList s.vars apart W args.toList ds gs before)
    (hres : ∀ (b : Nat) (sp : Nat → Bool) (hd : Bool), DataW.TrodAll enc P W' b sp hd f.resultTypes.toList (v.resultList f.resultTypes.size) (s.fn H (ds ++ gs)).results [])
    (hargs : ∀ sp : Nat → Bool, (∀ p ∈ before, sp p.block = true) → DataW.TrodAll enc P W' 0 sp true f.params.toList args.toList (s.fn H (ds ++ gs)).args pa)
    (hvars : ∀ sp : Nat → Bool, (∀ p ∈ before, sp p.block = true) → DataW.TrodVars enc P W' sp s.vars (s.fn H (ds ++ gs)).vars pv)
    (hps : before = pa ++ pv) (hb : Below W.heap.size W W')
    (hok : ∀ (j : Nat) (t : TypeId) (r : Value), f.resultTypes[j]? = some t → (v.resultList f.resultTypes.size)[j]? = some r → Value.okWide P W' .any 0 t r) :
    s.post enc P f apart fresh handsOn again W args v W' := by
  have hlt : ∀ p ∈ before, p.block < W.heap.size := fun p hp => hW.lt p hp
  have hold : ∀ p ∈ before, (fun b => decide (b < W.heap.size)) p.block = true := fun p hp => by simpa using hlt p hp
  refine ⟨ds, gs, before, [], pa, pv, hW, hres _ _ _, hargs _ hold, hvars _ hold, World.keptBut_mono (fun p hp => ⟨hp, ?_⟩) (hb.frame (· ∈ before)), fun _ => ?_⟩
  · rw [hps, List.mem_append] at hp
    exact Or.inr hp
  · obtain ⟨_, _, _, _, _, hz, hn⟩ := hW
    refine ⟨hok, _, _, ([] ++ pa) ++ pv, ⟨[] ++ pa, pv, trodAll_append (hargs _ (fun _ _ => rfl)) (hres _ _ _), hvars _ (fun _ _ => rfl), rfl, ?_, ?_⟩, ?_⟩
    · intro b off hp
      have hin : MemPlace.cell b off ∈ before := by rw [hps]; simpa using hp
      rw [hb.frozen (hlt _ hin)]
      exact hz b off hin
    · intro ha
      have := hn ha
      rw [hps] at this
      simpa using this
    · intro p hp _
      rw [hps]
      simpa using hp
end
end Go.Proofs.YtgbcdfeflgnogaaGreat

/- The cursor with which the laws draw their inputs from a row of bytes. Conditions: none. -/
namespace Go.Proofs.YtgbcdfeflgnogaaGreat
open Go.ChangeShapes Go.WideShapes Go.ChangeAt Go.RowKit Go.Deep
set_option linter.unusedVariables false
set_option linter.unusedSimpArgs false
set_option maxHeartbeats 1000000

theorem i64_and255 (n : Int) : bits .and .i64 n 255 = n % 256 := by
  have h127 : (BitVec.ofInt 64 255).toNat = 2 ^ 8 - 1 := by decide
  have key : (BitVec.ofInt 64 n &&& BitVec.ofInt 64 255).toNat = (n % ((2 ^ 64 : Nat) : Int)).toNat % 2 ^ 8 := by
    rw [BitVec.toNat_and, BitVec.toNat_ofInt, h127, Nat.and_two_pow_sub_one_eq_mod]
  show IntKind.i64.wrap ((BitVec.ofInt 64 n &&& BitVec.ofInt 64 255).toNat : Nat) = n % 256
  rw [key, IntKind.wrap_i64]
  omega

theorem i64_and30 (n : Int) : bits .and .i64 n 1073741823 = n % 1073741824 := by
  have h127 : (BitVec.ofInt 64 1073741823).toNat = 2 ^ 30 - 1 := by decide
  have key : (BitVec.ofInt 64 n &&& BitVec.ofInt 64 1073741823).toNat = (n % ((2 ^ 64 : Nat) : Int)).toNat % 2 ^ 30 := by
    rw [BitVec.toNat_and, BitVec.toNat_ofInt, h127, Nat.and_two_pow_sub_one_eq_mod]
  show IntKind.i64.wrap ((BitVec.ofInt 64 n &&& BitVec.ofInt 64 1073741823).toNat : Nat) = n % 1073741824
  rw [key, IntKind.wrap_i64]
  omega

theorem wf8 {a : Int} (h : (Lit.int .u8 a).wf = true) : 0 ≤ a ∧ a ≤ 255 := by
  simpa [Lit.wf, IntKind.min, IntKind.max, IntKind.signed, IntKind.bits] using h

/-- an element of a row of bytes -/
theorem byteElem {w : World} {S : Nat → Prop} {A : Option Addr} {c : Nat} {l : List Int} (h : Sl w S 1 A c (l.map (D.num .u8))) (i : Nat) (hi : i < l.length) :
    ∃ b off, A = some ⟨b, off, none⟩ ∧ S b ∧ w.cell? ⟨b, off + i, none⟩ = some (.int .u8 l[i]) ∧ 0 ≤ l[i] ∧ l[i] ≤ 255 := by
  obtain ⟨b, off, cs, e, hb, hl, hc, hr⟩ := Sl.get h i (by simpa using hi)
  rw [List.getElem_map] at hr
  obtain ⟨rfl, h1⟩ := D.rd_num.1 hr
  have h2 := hc 0 _ rfl
  rw [Nat.mul_one, Nat.add_zero] at h2
  exact ⟨b, off, e, hb, h2, wf8 h1⟩

theorem open_byte_el {H : Type} {enc : TypeId × Value → H} {P : Program} {w : World} {sp : Nat → Bool} {held : Bool} {e : TypeId} (he : P.underlying e = some (.int .u8)) {n : Nat} {cs : List Value} {x : DataW H × List MemPlace} (h : DataW.trod enc P w 0 sp held n e cs = some x) : ∃ a : Int, (D.num .u8 a).rd w (Lt w.heap.size) cs := by
  obtain ⟨a, rfl, _, hw⟩ := DataW.trod_int he h
  exact ⟨a, D.rd_num.2 ⟨rfl, hw⟩⟩

/-- only block g may have turned -/
structure Turned (g : Nat) (w w' : World) : Prop where
  os : w'.os = w.os
  tape : w'.tape = w.tape
  output : w'.output = w.output
  size : w.heap.size ≤ w'.heap.size
  block : ∀ k, k < w.heap.size → k ≠ g → w'.heap[k]? = w.heap[k]?
theorem Turned.refl (g : Nat) (w : World) : Turned g w w := ⟨rfl, rfl, rfl, Nat.le_refl _, fun _ _ _ => rfl⟩
theorem Turned.trans {g : Nat} {a b c : World} (h : Turned g a b) (k : Turned g b c) : Turned g a c :=
  ⟨k.os.trans h.os, k.tape.trans h.tape, k.output.trans h.output, Nat.le_trans h.size k.size, fun i hi hg => (k.block i (Nat.lt_of_lt_of_le hi h.size) hg).trans (h.block i hi hg)⟩
theorem Turned.setCell {g : Nat} {a w : World} (h : Turned g a w) (i : Nat) (u : Value) : Turned g a (w.setCell ⟨g, i, none⟩ u) :=
  h.trans ⟨rfl, rfl, rfl, by simp [World.setCell], fun k _ hg => Below.heap_setCell _ _ _ _ hg⟩
theorem Turned.drew {g : Nat} {a w : World} (h : Turned g a w) : Turned g a w.drew := ⟨h.os, h.tape, h.output, h.size, h.block⟩
theorem Turned.alloc {g : Nat} {a w : World} (h : Turned g a w) (o : Obj) : Turned g a (w.alloc o) :=
  h.trans ⟨rfl, rfl, rfl, by simp, fun k hk _ => Below.heap_alloc _ _ _ hk⟩
theorem Turned.below {g B : Nat} {w w' : World} (h : Turned g w w') (hB : B ≤ w.heap.size) (hg : B ≤ g) : Below B w w' :=
  ⟨h.os, h.tape, h.output, h.size, fun k hk => h.block k (by omega) (by omega)⟩
theorem Row.turned {g : Nat} {w w' : World} {k : Nat} {t : TypeId} {cs : Array Value} (h : Row w k t cs) (ht : Turned g w w') (hk : k ≠ g) : Row w' k t cs := (ht.block k h.lt hk).trans h

theorem wrap_fit (n : Int) : -9223372036854775808 ≤ IntKind.i64.wrap n ∧ IntKind.i64.wrap n ≤ 9223372036854775807 := by
  rw [IntKind.wrap_i64]; omega

end Go.Proofs.YtgbcdfeflgnogaaGreat

/- Coverage: is a row useful behind others, in the program. Conditions: the sizes are bounded. -/
namespace Go.Proofs.YtgbcdfeflgnogaaGreat
open Go.RowKit
set_option linter.unusedVariables false
set_option linter.unusedSimpArgs false
set_option maxHeartbeats 1000000

theorem useF_over {ds : List GData} {f s : Nat} {rows : List (List GNode)} {row : List GNode} (h : 4000 < s + 1) : useF ds f s rows row = (true, s + 1) := by
  cases f with
  | zero => rfl
  | succ f => unfold useF; rw [if_pos h]
theorem useF_nil {ds : List GData} {f s : Nat} {rows : List (List GNode)} (h : ¬ 4000 < s + 1) : useF ds (f + 1) s rows [] = (rows.isEmpty, s + 1) := by rw [useF, if_neg h]
theorem useF_con {ds : List GData} {f s : Nat} {rows : List (List GNode)} {p : GNode} {t : List GNode} (h : ¬ 4000 < s + 1) (hp : isAnyB p = false) : useF ds (f + 1) s rows (p :: t) = useF ds f (s + 1) (intoR p rows) (p.kids ++ t) := by
  rw [useF, if_neg h]; simp only [hp]; rfl
theorem useF_none {ds : List GData} {f s : Nat} {rows : List (List GNode)} {p : GNode} {t : List GNode} (h : ¬ 4000 < s + 1) (hp : isAnyB p = true) (ha : allR ds rows = none) : useF ds (f + 1) s rows (p :: t) = useF ds f (s + 1) (restR rows) t := by
  rw [useF, if_neg h]; simp only [hp, ha, if_true]
theorem useF_all {ds : List GData} {f s : Nat} {rows : List (List GNode)} {p : GNode} {t all : List GNode} (h : ¬ 4000 < s + 1) (hp : isAnyB p = true) (ha : allR ds rows = some all) : useF ds (f + 1) s rows (p :: t) = useAll (useF ds f) rows t all (s + 1) := by
  rw [useF, if_neg h]; simp only [hp, ha, if_true]
theorem useAll_hit {g : Nat → List (List GNode) → List GNode → Bool × Nat} {rows : List (List GNode)} {t r : List GNode} {a : GNode} {s : Nat} (h : (g s (intoR a rows) (List.replicate a.kids.length anyN ++ t)).1 = true) : useAll g rows t (a :: r) s = g s (intoR a rows) (List.replicate a.kids.length anyN ++ t) := by rw [useAll, if_pos h]
theorem useAll_miss {g : Nat → List (List GNode) → List GNode → Bool × Nat} {rows : List (List GNode)} {t r : List GNode} {a : GNode} {s : Nat} (h : (g s (intoR a rows) (List.replicate a.kids.length anyN ++ t)).1 = false) : useAll g rows t (a :: r) s = useAll g rows t r (g s (intoR a rows) (List.replicate a.kids.length anyN ++ t)).2 := by rw [useAll, if_neg (by rw [h]; simp)]
def UseOk (s : Nat) (r : Bool × Nat) : Prop := s ≤ r.2 ∧ (r.1 = false → r.2 ≤ 4000)
theorem useAll_ok {g : Nat → List (List GNode) → List GNode → Bool × Nat} {rows : List (List GNode)} {t : List GNode} {s0 : Nat} (hg : ∀ s rows row, s0 ≤ s → UseOk s (g s rows row)) : ∀ (l : List GNode) (s : Nat), s0 ≤ s → s ≤ 4000 → UseOk s (useAll g rows t l s)
  | [], s, h0, h => ⟨Nat.le_refl _, fun _ => h⟩
  | a :: r, s, h0, h => by
    have h1 := hg s (intoR a rows) (List.replicate a.kids.length anyN ++ t) h0
    cases hr : (g s (intoR a rows) (List.replicate a.kids.length anyN ++ t)).1 with
    | true => rw [useAll_hit hr]; exact h1
    | false =>
      rw [useAll_miss hr]
      have h2 := useAll_ok (rows := rows) (t := t) hg r _ (Nat.le_trans h0 h1.1) (h1.2 hr)
      exact ⟨Nat.le_trans h1.1 h2.1, h2.2⟩
theorem useF_ok (ds : List GData) : ∀ (f s : Nat) (rows : List (List GNode)) (row : List GNode), 4001 ≤ f + s → UseOk s (useF ds f s rows row)
  | 0, s, rows, row, h => ⟨Nat.le_succ _, fun e => by simp [useF] at e⟩
  | f + 1, s, rows, row, h => by
    by_cases ho : 4000 < s + 1
    · rw [useF_over ho]; exact ⟨Nat.le_succ _, fun e => by simp at e⟩
    · cases row with
      | nil => rw [useF_nil ho]; exact ⟨Nat.le_succ _, fun _ => by simp; omega⟩
      | cons p t =>
        cases hp : isAnyB p with
        | false =>
          rw [useF_con ho hp]
          have h1 := useF_ok ds f (s + 1) (intoR p rows) (p.kids ++ t) (by omega)
          exact ⟨by have := h1.1; omega, h1.2⟩
        | true =>
          cases ha : allR ds rows with
          | none =>
            rw [useF_none ho hp ha]
            have h1 := useF_ok ds f (s + 1) (restR rows) t (by omega)
            exact ⟨by have := h1.1; omega, h1.2⟩
          | some all =>
            rw [useF_all ho hp ha]
            have h1 := useAll_ok (g := useF ds f) (rows := rows) (t := t) (s0 := s + 1) (fun s' r' w' hs => useF_ok ds f s' r' w' (by omega)) all (s + 1) (Nat.le_refl _) (by omega)
            exact ⟨by have := h1.1; omega, h1.2⟩
theorem intoR_len {p : GNode} {rows : List (List GNode)} : (intoR p rows).length ≤ rows.length := List.length_filterMap_le _ _
theorem restR_len {rows : List (List GNode)} : (restR rows).length ≤ rows.length := List.length_filterMap_le _ _
theorem conN_kids (k : GCon) : (conN k).kids = List.replicate k.args.length anyN := rfl
theorem allR_kids {ds : List GData} {rows : List (List GNode)} {all : List GNode} {M : Nat} (hM : ∀ d ∈ ds, d.cons.length ≤ M ∧ ∀ k ∈ d.cons, k.args.length ≤ M) (h : allR ds rows = some all) : all.length ≤ M ∧ ∀ a ∈ all, a.kids.length ≤ M := by
  rcases dataAt_range ds rows with hr | ⟨j, hj, hr⟩
  · rw [allR_neg (by omega)] at h; cases h
  · rw [allR_at hr hj] at h
    split at h
    · simp only [Option.some.injEq] at h
      subst h
      have := hM _ (List.getElem_mem hj)
      refine ⟨by simpa using this.1, fun a ha => ?_⟩
      obtain ⟨k, hk, rfl⟩ := List.mem_map.1 ha
      rw [conN_kids]; simpa using this.2 k hk
    · cases h

/-- the counter in block g turned, and nothing else that was there -/
def UseTo (T : TypeId) (g : Nat) (L : Value) (r : Bool × Nat) (w : World) (e : Ending) (w' : World) : Prop := e = .returned (.bool r.1) ∧ Row w' g T #[L, .int .i64 (r.2 : Int)] ∧ Turned g w w'
/-- where data may lie beside the counter -/
def Ng (g : Nat) : Nat → Prop := fun b => b ≠ g
theorem Sl.turned {g : Nat} {w w' : World} {size : Nat} {A : Option Addr} {c : Nat} {xs : List D} (h : Sl w (Lx (Ng g) w) size A c xs) (ht : Turned g w w') : Sl w' (Lx (Ng g) w') size A c xs := h.keep fun b hb => ⟨⟨Nat.lt_of_lt_of_le hb.1 ht.size, hb.2⟩, ht.block b hb.1 hb.2⟩
theorem Turned.ofBelow {g : Nat} {a w w' : World} (h : Turned g a w) (hb : Below w.heap.size w w') : Turned g a w' := h.trans ⟨hb.os, hb.tape, hb.output, hb.size, fun k hk _ => hb.block k hk⟩

set_option maxRecDepth 20000 in
theorem implUseful (ds : List GData) (A0 : Option Addr) (c0 g : Nat) (hM : ∀ d ∈ ds, d.cons.length ≤ 1048576 ∧ ∀ k ∈ d.cons, k.args.length ≤ 1048576) : ∀ (f s : Nat) (rows : List (List GNode)) (row : List GNode) (A : Option Addr) (c : Nat) (A2 : Option Addr) (c2 : Nat) (w : World), 4001 ≤ f + s → s ≤ 4000 → rows.length ≤ 1048576 → row.length ≤ (s + 1) * 1048576 → RowsB 1048576 row.length rows → (∀ x ∈ row, nodeB 1048576 x) →
    Row w g 100 #[.slice A0 ds.length c0, .int .i64 (s : Int)] → Sl w (Lx (Ng g) w) 3 A0 c0 (ds.map GData.toD) → Sl w (Lx (Ng g) w) 1 A c (rows.map rowD) → Sl w (Lx (Ng g) w) 5 A2 c2 (row.map GNode.toD) →
    Calls Tryz.prog 80 #[.pointer (some ⟨g, 0, none⟩), .slice A rows.length c, .slice A2 row.length c2] w (UseTo 100 g (.slice A0 ds.length c0) (useF ds f s rows row) w) := by
  intro f
  induction f with
  | zero => intros; omega
  | succ f ih =>
    intro s rows row A c A2 c2 w hf hs hrl hwl hRB hNB hR hds hrs hws
    have HR := Lib.hid hR
    have hcg := fun i => hR.cell i
    have hfg := fun i => hR.frozen i
    have hgl := hR.lt
    obtain ⟨w1, e1⟩ : ∃ w1, w1 = w.setCell ⟨g, 1, none⟩ (.int .i64 ((s : Int) + 1)) := ⟨_, rfl⟩
    have R1 := Lib.hid (show Row w1 g 100 #[.slice A0 ds.length c0, .int .i64 ((s + 1 : Nat) : Int)] by rw [e1]; exact hR.set 1 (.int .i64 ((s : Int) + 1)))
    have T1 := Lib.hid (show Turned g w w1 by rw [e1]; exact (Turned.refl g w).setCell 1 _)
    have D1 := Lib.hid (hds.turned T1.out)
    have S1 := Lib.hid (hrs.turned T1.out)
    have W1 := Lib.hid (hws.turned T1.out)
    have hc1 := fun i => R1.out.cell i
    have HRB := Lib.hid hRB
    have HNB := Lib.hid hNB
    have IH := Lib.hid ih
    have HM := Lib.hid hM
    have hrlm : rows.length ≤ 9223372036854775807 := by omega
    clear hR hds hrs hws hRB hNB ih hM
    by_cases ho : 4000 < s + 1
    · obtain rfl : s = 4000 := by omega
      have HV := Lib.hid (useF_over (ds := ds) (f := f + 1) (rows := rows) (row := row) ho)
      clear ho
      go_enter Tryz.func80, Tryz.ntmps80
      go_wp2_with fail
      go_ret
      rw [HV.out]
      refine ⟨rfl, ?_, ?_⟩
      · have := R1.out; rw [e1] at this; exact this
      · have := T1.out; rw [e1] at this; exact this
    · have hov : ¬ (4000 < (s : Int) + 1) := by omega
      have hs1 : s + 1 ≤ 4000 := by omega
      cases row with
      | nil =>
        have HV := Lib.hid (useF_nil (ds := ds) (f := f) (rows := rows) ho)
        have HE := Lib.hid (show rows.isEmpty = (((rows.length : Nat) : Int) == 0) by
          cases rows with
          | nil => rfl
          | cons a b => simp only [List.isEmpty_cons, List.length_cons]; exact (beq_eq_false_iff_ne.2 (by omega)).symm)
        clear ho
        go_enter Tryz.func80, Tryz.ntmps80
        go_wp2_with fail
        go_ret
        rw [HV.out]
        refine ⟨ret_bool (by rw [HE.out]), ?_, ?_⟩
        · have := R1.out; rw [e1] at this; exact this
        · have := T1.out; rw [e1] at this; exact this
      | cons p t =>
        obtain ⟨b1, off1, A3, c3, rfl, hSb1, hlc, hcm, q0, q1, q2, q3, q4, hat, -, -⟩ := row_head W1.out
        have HTL := Lib.hid (rowTail W1.out)
        have HKL := Lib.hid hat.2.2.2.2
        have hpM : p.kids.length ≤ 1048576 := (HNB.out p (by simp)).len
        have hwl2 : t.length + 1 ≤ (s + 1) * 1048576 := by simpa using hwl
        have HNR := Lib.hid (show ∀ r ∈ rows, 0 < r.length ∧ r.length + 1048576 ≤ 1099511627776 from fun r hr => by have := (HRB.out r hr).1; simp at this; omega)
        have HRBI := Lib.hid (fun (x : GNode) => (show RowsB 1048576 (t.length + 1) rows from HRB.out).into x)
        have HRBR := Lib.hid ((show RowsB 1048576 (t.length + 1) rows from HRB.out).rest)
        have HNT := Lib.hid (show ∀ x ∈ t, nodeB 1048576 x from fun x hx => HNB.out x (by simp [hx]))
        have HNK := Lib.hid (HNB.out p (by simp)).kids
        have htl := fun (wx : World) => run_tail (P := Tryz.prog) 31 33 5 Tryz.underlying31 (by kernel_rfl) b1 off1 t.length c2 (by omega) wx
        obtain ⟨w2, e2⟩ : ∃ w2, w2 = w1.alloc (.cells #[.int .i64 p.op, .int .i64 p.n, .string p.s, .string p.t, .slice A3 p.kids.length c3] 33) := ⟨_, rfl⟩
        have E2 := Lib.hid (show Below w1.heap.size w1 w2 by rw [e2]; exact (Below.refl _ _).alloc (Nat.le_refl _) _)
        have P2 := Lib.hid (show Row w2 w.heap.size 33 #[.int .i64 p.op, .int .i64 p.n, .string p.s, .string p.t, .slice A3 p.kids.length c3] by rw [e2]; exact Row.new' _ _ _ (by rw [e1]; simp [World.setCell]))
        have EQ1 := Lib.hid e1
        have EQ2 := Lib.hid e2
        have g1 : w.heap.size = w1.heap.size := by rw [e1]; simp [World.setCell]
        rw [e1] at q0 q1 q2 q3 q4
        have G1 := Lib.hid g1
        clear hat e1 e2 hc1 hwl g1
        go_enter Tryz.func80, Tryz.ntmps80
        go_wp2_with fail
        clear q0 q1 q2 q3 q4 hcg hfg
        rw [← EQ1.out, ← EQ2.out]
        refine (implIsAny p A3 c3 w2).mono ?_
        rintro e w3 ⟨rfl, hb3⟩
        have T3 := Lib.hid ((T1.out.ofBelow E2.out).ofBelow hb3)
        have E3 := Lib.hid (E2.out.trans (hb3.mono E2.out.size))
        have hgl1 : g < w1.heap.size := by rw [← G1.out]; exact hgl
        have R3 := Lib.hid (R1.out.below E3.out hgl1)
        have P3 := Lib.hid (P2.out.below hb3 P2.out.lt)
        have hgl3 := R3.out.lt
        have HROWS := Lib.hid (fun (wx : World) (hb : Below w3.heap.size w3 wx) => (S1.out.lx E3.out).lx hb)
        have HDS := Lib.hid (fun (wx : World) (hb : Below w3.heap.size w3 wx) => (D1.out.lx E3.out).lx hb)
        have HKT := Lib.hid (fun (wx : World) (hb : Below w3.heap.size w3 wx) => (HKL.out.lx E3.out).lx hb)
        have HTT := Lib.hid (fun (wx : World) (hb : Below w3.heap.size w3 wx) => (HTL.out.lx E3.out).lx hb)
        have HNG := Lib.hid (fun (wx : World) (hb : Below w3.heap.size w3 wx) (b : Nat) (h : wx.heap.size ≤ b) => show Ng g b from fun e => by have := hb.size; omega)
        have HRG := Lib.hid (fun (wx : World) (hb : Below w3.heap.size w3 wx) => R3.out.below hb hgl3)
        have HPP := Lib.hid (fun (wx : World) (hb : Below w3.heap.size w3 wx) => P3.out.below hb P3.out.lt)
        have HTN := Lib.hid (fun (wx : World) (hb : Below w3.heap.size w3 wx) => T3.out.ofBelow hb)
        have BO := Lib.hid (show Below w3.heap.size w3 w3.drew from (Below.refl _ _).drew)
        have hcp := fun i => P3.out.cell i
        clear hb3 HTL HKL P2 P3
        cases hp : isAnyB p
        · have HV := Lib.hid (useF_con (ds := ds) (f := f) (rows := rows) (t := t) ho hp)
          clear hp
          have HOP := Lib.hid (fun (wx : World) (hb : Below w3.heap.size w3 wx) => implOpened (Ng g) 1048576 p A3 c3 rows A c wx (HNG.out wx hb) hrl HNR.out hpM (HROWS.out wx hb))
          have HCO := Lib.hid (fun (wx : World) (blk : Nat) (hb : Below w3.heap.size w3 wx) (hs : Sl wx (Lx (Ng g) wx) 1 (some ⟨blk, 0, none⟩) 2 ([p.kids, t].map rowD)) => show Calls Tryz.prog 97 #[.slice (some ⟨blk, 0, none⟩) 2 2] wx (LTo (Ng g) (p.kids ++ t) wx) from by
            have h := implConcat (Ng g) [p.kids, t] (some ⟨blk, 0, none⟩) 2 wx (HNG.out wx hb) (by simp; omega) hs
            rw [show [p.kids, t].flatten = p.kids ++ t by simp] at h
            exact h)
          have HUS := Lib.hid (fun (wx : World) (A5 : Option Addr) (c5 : Nat) (A7 : Option Addr) (c7 : Nat) (hb : Below w3.heap.size w3 wx) (h1 : Sl wx (Lx (Ng g) wx) 1 A5 c5 ((intoR p rows).map rowD)) (h2 : Sl wx (Lx (Ng g) wx) 5 A7 c7 ((p.kids ++ t).map GNode.toD)) =>
            show Calls Tryz.prog 80 #[.pointer (some ⟨g, 0, none⟩), .slice A5 (intoR p rows).length c5, .slice A7 (p.kids.length + t.length) c7] wx (UseTo 100 g (.slice A0 ds.length c0) (useF ds f (s + 1) (intoR p rows) (p.kids ++ t)) wx) from by
              have h := IH.out (s + 1) (intoR p rows) (p.kids ++ t) A5 c5 A7 c7 wx (by omega) hs1 (Nat.le_trans intoR_len hrl) (by simp; omega) (by rw [List.length_append]; exact HRBI.out p) (fun x hx => by
                rcases List.mem_append.1 hx with h | h
                · exact HNK.out x h
                · exact HNT.out x h) (HRG.out _ hb) (HDS.out _ hb) h1 h2
              rw [List.length_append] at h
              exact h)
          have Bo0 := BO
          go_wp2_with fail
          obtain ⟨xo1, eo1⟩ : ∃ x, x = (w3.alloc (.cells #[.slice A3 p.kids.length c3, .slice (tailA b1 off1 5 c2) t.length (c2 - 1)] 31)).drew := ⟨_, rfl⟩
          have Eo1 := Lib.hid (show Below w3.heap.size w3 xo1 by rw [eo1]; exact ((Below.refl _ _).alloc (Nat.le_refl _) _).drew)
          have Bo1 := Lib.hid (Eo1.out)
          have SB_1 := Lib.hid (slTwoRows (X := Ng g) (w := w3) (w' := xo1) (g := w3.heap.size) (T := 31) (r1 := p.kids) (r2 := t) (by rw [eo1]; exact Row.new w3 _ _) (HNG.out w3 (Below.refl _ _) _ (Nat.le_refl _)) (HKT.out _ Bo1.out) (HTT.out _ Bo1.out))
          have kb1 := fun i => (HPP.out _ Bo1.out).cell i
          rw [eo1] at kb1
          go_region_held3 (fun w' => ∀ i, w'.cell? ⟨w.heap.size, i, none⟩ = (#[.int .i64 p.op, .int .i64 p.n, .string p.s, .string p.t, .slice A3 p.kids.length c3] : Array Value)[i]?) (first | exact hcp | exact kz | exact kb1 | exact kc2 | exact kc3 | exact kc5 | exact kc6 | exact kc8 | exact kb9 | exact kc10) (first
            | (go_at_call 96
               rw [← eo1]
               with_reducible refine (HOP.out xo1 Bo1.out).mono ?_
               rintro e xo2 ⟨AA2, cc2, rfl, hs2, hb2⟩
               have Bo2 := Lib.hid (Bo1.out.trans (hb2.mono Bo1.out.size))
               have SB_2 := Lib.hid (SB_1.out.lx hb2)
               have OP_2 := Lib.hid hs2
               have kc2 := fun i => (HPP.out _ Bo2.out).cell i
               clear hs2 hb2)
            | (go_at_call 97
               with_reducible refine (HCO.out xo2 (w3.heap.size) Bo2.out SB_2.out).mono ?_
               rintro e xo3 ⟨AA3, cc3, rfl, hs3, hb3⟩
               have Bo3 := Lib.hid (Bo2.out.trans (hb3.mono Bo2.out.size))
               have SB_3 := Lib.hid (SB_2.out.lx hb3)
               have OP_3 := Lib.hid (OP_2.out.lx hb3)
               have CO_3 := Lib.hid hs3
               have kc3 := fun i => (HPP.out _ Bo3.out).cell i
               clear hs3 hb3)
            | (go_at_call 80
               with_reducible refine (HUS.out xo3 AA2 cc2 AA3 cc3 Bo3.out OP_3.out CO_3.out).mono ?_
               rintro e w9 ⟨rfl, hR9, hT9⟩
               have R9 := Lib.hid hR9
               have kz := fun i => ((HPP.out _ Bo3.out).turned hT9 (by omega)).cell i
               have T9 := Lib.hid ((HTN.out _ Bo3.out).trans hT9)
               clear hR9 hT9)
            | (go_at_call 97
               rw [← eo1]
               with_reducible refine (HCO.out xo1 (w3.heap.size) Bo1.out SB_1.out).mono ?_
               rintro e xo5 ⟨AA5, cc5, rfl, hs5, hb5⟩
               have Bo5 := Lib.hid (Bo1.out.trans (hb5.mono Bo1.out.size))
               have SB_5 := Lib.hid (SB_1.out.lx hb5)
               have CO_5 := Lib.hid hs5
               have kc5 := fun i => (HPP.out _ Bo5.out).cell i
               clear hs5 hb5)
            | (go_at_call 96
               with_reducible refine (HOP.out xo5 Bo5.out).mono ?_
               rintro e xo6 ⟨AA6, cc6, rfl, hs6, hb6⟩
               have Bo6 := Lib.hid (Bo5.out.trans (hb6.mono Bo5.out.size))
               have SB_6 := Lib.hid (SB_5.out.lx hb6)
               have CO_6 := Lib.hid (CO_5.out.lx hb6)
               have OP_6 := Lib.hid hs6
               have kc6 := fun i => (HPP.out _ Bo6.out).cell i
               clear hs6 hb6)
            | (go_at_call 80
               with_reducible refine (HUS.out xo6 AA6 cc6 AA5 cc5 Bo6.out OP_6.out CO_6.out).mono ?_
               rintro e w9 ⟨rfl, hR9, hT9⟩
               have R9 := Lib.hid hR9
               have kz := fun i => ((HPP.out _ Bo6.out).turned hT9 (by omega)).cell i
               have T9 := Lib.hid ((HTN.out _ Bo6.out).trans hT9)
               clear hR9 hT9)
            | (go_at_call 96
               with_reducible refine (HOP.out w3.drew Bo0.out).mono ?_
               rintro e xo8 ⟨AA8, cc8, rfl, hs8, hb8⟩
               have Bo8 := Lib.hid (Bo0.out.trans (hb8.mono Bo0.out.size))
               have OP_8 := Lib.hid hs8
               have kc8 := fun i => (HPP.out _ Bo8.out).cell i
               obtain ⟨xo9, eo9⟩ : ∃ x, x = xo8.alloc (.cells #[.slice A3 p.kids.length c3, .slice (tailA b1 off1 5 c2) t.length (c2 - 1)] 31) := ⟨_, rfl⟩
               have Eo9 := Lib.hid (show Below xo8.heap.size xo8 xo9 by rw [eo9]; exact (Below.refl _ _).alloc (Nat.le_refl _) _)
               have Bo9 := Lib.hid (Bo8.out.trans (Eo9.out.mono Bo8.out.size))
               have OP_9 := Lib.hid (OP_8.out.lx Eo9.out)
               have SB_9 := Lib.hid (slTwoRows (X := Ng g) (w := xo8) (w' := xo9) (g := xo8.heap.size) (T := 31) (r1 := p.kids) (r2 := t) (by rw [eo9]; exact Row.new xo8 _ _) (HNG.out xo8 Bo8.out _ (Nat.le_refl _)) (HKT.out _ Bo9.out) (HTT.out _ Bo9.out))
               have kb9 := fun i => (HPP.out _ Bo9.out).cell i
               rw [eo9] at kb9
               clear hs8 hb8)
            | (go_at_call 97
               rw [← eo9]
               with_reducible refine (HCO.out xo9 (xo8.heap.size) Bo9.out SB_9.out).mono ?_
               rintro e xo10 ⟨AA10, cc10, rfl, hs10, hb10⟩
               have Bo10 := Lib.hid (Bo9.out.trans (hb10.mono Bo9.out.size))
               have OP_10 := Lib.hid (OP_9.out.lx hb10)
               have SB_10 := Lib.hid (SB_9.out.lx hb10)
               have CO_10 := Lib.hid hs10
               have kc10 := fun i => (HPP.out _ Bo10.out).cell i
               clear hs10 hb10)
            | (go_at_call 80
               with_reducible refine (HUS.out xo10 AA8 cc8 AA10 cc10 Bo10.out OP_10.out CO_10.out).mono ?_
               rintro e w9 ⟨rfl, hR9, hT9⟩
               have R9 := Lib.hid hR9
               have kz := fun i => ((HPP.out _ Bo10.out).turned hT9 (by omega)).cell i
               have T9 := Lib.hid ((HTN.out _ Bo10.out).trans hT9)
               clear hR9 hT9))
          all_goals
            go_wp2_with fail
            go_ret
            rw [HV.out]
            exact ⟨rfl, R9.out, T9.out⟩
        · cases ha : allR ds rows with
          | none =>
            have HV := Lib.hid (useF_none (ds := ds) (f := f) (rows := rows) (t := t) ho hp ha)
            have HWH := Lib.hid (implWhole (Ng g) g ((s + 1 : Nat) : Int) ds A0 c0 rows A c w3 (HNG.out _ (Below.refl _ _)) R3.out (HDS.out _ (Below.refl _ _)) (fun r hr => (HNR.out r hr).1) HM.out (HROWS.out _ (Below.refl _ _)))
            rw [ha] at HWH
            clear hp ha BO
            go_wp2_with fail
            refine HWH.out.mono ?_
            rintro e w4 ⟨hb4, A4, n4, c4, rfl⟩
            have BO := Lib.hid (show Below w3.heap.size w3 w4.drew from hb4.drew)
            clear hb4 hcp
            go_wp2_with fail
            go_region_held3 (fun w' => True) (exact trivial) (first
              | (go_at_call 99
                 go_must (
                   refine (implOthers (Ng g) rows A c _ ?_ hrl (fun r hr => (HNR.out r hr).1) ?_).mono ?_
                   · exact HNG.out _ BO.out
                   · exact HROWS.out _ BO.out
                   rintro e w5 ⟨A5, c5, rfl, hs5, hb5⟩
                   have OP := Lib.hid hs5
                   have BO := Lib.hid (BO.out.trans (hb5.mono BO.out.size))
                   clear hs5 hb5))
              | (go_at_call 80
                 go_must (
                   refine (IH.out (s + 1) (restR rows) t A5 c5 (tailA b1 off1 5 c2) (c2 - 1) _ (by omega) hs1 (Nat.le_trans restR_len hrl) (by omega) HRBR.out HNT.out (HRG.out _ BO.out) (HDS.out _ BO.out) OP.out (HTT.out _ BO.out)).mono ?_
                   rintro e w9 ⟨rfl, hR9, hT9⟩
                   have R9 := Lib.hid hR9
                   have T9 := Lib.hid ((HTN.out _ BO.out).trans hT9)
                   clear hR9 hT9)))
            all_goals
              go_wp2_with fail
              go_ret
              rw [HV.out]
              exact ⟨rfl, R9.out, T9.out⟩
          | some all =>
            have HV := Lib.hid (useF_all (ds := ds) (f := f) (rows := rows) (t := t) ho hp ha)
            have hak := allR_kids HM.out ha
            have hal := hak.1
            have HAK := Lib.hid hak.2
            have HWH := Lib.hid (implWhole (Ng g) g ((s + 1 : Nat) : Int) ds A0 c0 rows A c w3 (HNG.out _ (Below.refl _ _)) R3.out (HDS.out _ (Below.refl _ _)) (fun r hr => (HNR.out r hr).1) HM.out (HROWS.out _ (Below.refl _ _)))
            rw [ha] at HWH
            have halm : all.length ≤ 9223372036854775807 := by omega
            clear hp ha BO hak
            go_wp2_with fail
            refine HWH.out.mono ?_
            rintro e w4 ⟨hb4, A4, c4, rfl, hs4⟩
            have B4 := Lib.hid hb4
            have S4 := Lib.hid hs4
            clear hb4 hs4 hcp
            go_wp2_with fail
            go_loopw [63] (fun i wq => ∃ (j s' : Nat), j ≤ all.length ∧ i = .int .i64 j ∧ s' ≤ 4000 ∧ s + 1 ≤ s' ∧ Hid (useAll (useF ds f) rows t all (s + 1) = useAll (useF ds f) rows t (all.drop j) s') ∧ Hid (Row wq g 100 #[.slice A0 ds.length c0, .int .i64 (s' : Int)]) ∧ Hid (Turned g w4 wq)) (fun i _ => all.length - (intOf i).toNat)
            case atStart => exact ⟨0, s + 1, by omega, by go_num, hs1, Nat.le_refl _, Lib.hid rfl, Lib.hid (HRG.out _ B4.out), Lib.hid (Turned.refl _ _)⟩
            case round =>
              obtain ⟨j, s', hj, rfl, hs4, hss, HU, HRq, HTq⟩ := hrel
              have hgq := HRq.out.lt
              by_cases hlt : j < all.length
              · obtain ⟨b6, off6, A6, c6, rfl, hSb6, q0, q1, q2, q3, q4, hat⟩ := GNode.elem (S4.out.turned HTq.out) j hlt
                clear hat
                have hka := HAK.out _ (List.getElem_mem hlt)
                obtain ⟨w5, e5⟩ : ∃ w5, w5 = wr.alloc (.cells #[.int .i64 (all[j]).op, .int .i64 (all[j]).n, .string (all[j]).s, .string (all[j]).t, .slice A6 (all[j]).kids.length c6] 33) := ⟨_, rfl⟩
                have E5 := Lib.hid (show Below wr.heap.size wr w5 by rw [e5]; exact (Below.refl _ _).alloc (Nat.le_refl _) _)
                have P5 := Lib.hid (show Row w5 wr.heap.size 33 #[.int .i64 (all[j]).op, .int .i64 (all[j]).n, .string (all[j]).s, .string (all[j]).t, .slice A6 (all[j]).kids.length c6] by rw [e5]; exact Row.new' _ _ _ rfl)
                have HROWS5 := Lib.hid (fun (wx : World) (hb : Below w5.heap.size w5 wx) => (((HROWS.out _ B4.out).turned HTq.out).lx E5.out).lx hb)
                have HDS5 := Lib.hid (fun (wx : World) (hb : Below w5.heap.size w5 wx) => (((HDS.out _ B4.out).turned HTq.out).lx E5.out).lx hb)
                have HTT5 := Lib.hid (fun (wx : World) (hb : Below w5.heap.size w5 wx) => (((HTT.out _ B4.out).turned HTq.out).lx E5.out).lx hb)
                have HRG5 := Lib.hid (fun (wx : World) (hb : Below w5.heap.size w5 wx) => (HRq.out.below E5.out hgq).below hb (Nat.lt_of_lt_of_le hgq E5.out.size))
                have HPP5 := Lib.hid (fun (wx : World) (hb : Below w5.heap.size w5 wx) => P5.out.below hb P5.out.lt)
                have HNG5 := Lib.hid (fun (wx : World) (hb : Below w5.heap.size w5 wx) (b : Nat) (h : wx.heap.size ≤ b) => show Ng g b from fun e => by have := hb.size; have := E5.out.size; omega)
                have HTN5 := Lib.hid (fun (wx : World) (hb : Below w5.heap.size w5 wx) => (HTq.out.ofBelow E5.out).ofBelow hb)
                have HUH := Lib.hid (fun (h : (useF ds f s' (intoR all[j] rows) (List.replicate (all[j]).kids.length anyN ++ t)).1 = true) => show useAll (useF ds f) rows t all (s + 1) = useF ds f s' (intoR all[j] rows) (List.replicate (all[j]).kids.length anyN ++ t) by rw [HU.out, List.drop_eq_getElem_cons hlt, useAll_hit h])
                have HUM := Lib.hid (fun (h : (useF ds f s' (intoR all[j] rows) (List.replicate (all[j]).kids.length anyN ++ t)).1 = false) => show useAll (useF ds f) rows t all (s + 1) = useAll (useF ds f) rows t (all.drop (j + 1)) (useF ds f s' (intoR all[j] rows) (List.replicate (all[j]).kids.length anyN ++ t)).2 by rw [HU.out, List.drop_eq_getElem_cons hlt, useAll_miss h])
                have HOK := Lib.hid (useF_ok ds f s' (intoR all[j] rows) (List.replicate (all[j]).kids.length anyN ++ t) (by omega))
                have BO := Lib.hid (show Below w5.heap.size w5 w5.drew from (Below.refl _ _).drew)
                have hcp := fun i => P5.out.cell i
                have HOP := Lib.hid (fun (wx : World) (hb : Below w5.heap.size w5 wx) => implOpened (Ng g) 1048576 all[j] A6 c6 rows A c wx (HNG5.out wx hb) hrl HNR.out hka (HROWS5.out wx hb))
                have HAN := Lib.hid (fun (wx : World) (hb : Below w5.heap.size w5 wx) => implAnything (Ng g) (all[j]).kids.length wx (HNG5.out wx hb) (by omega))
                have HCO := Lib.hid (fun (wx : World) (blk : Nat) (hb : Below w5.heap.size w5 wx) (hs : Sl wx (Lx (Ng g) wx) 1 (some ⟨blk, 0, none⟩) 2 ([List.replicate (all[j]).kids.length anyN, t].map rowD)) => show Calls Tryz.prog 97 #[.slice (some ⟨blk, 0, none⟩) 2 2] wx (LTo (Ng g) (List.replicate (all[j]).kids.length anyN ++ t) wx) from by
                  have h := implConcat (Ng g) [List.replicate (all[j]).kids.length anyN, t] (some ⟨blk, 0, none⟩) 2 wx (HNG5.out wx hb) (by simp; omega) hs
                  rw [show [List.replicate (all[j]).kids.length anyN, t].flatten = List.replicate (all[j]).kids.length anyN ++ t by simp] at h
                  exact h)
                have HUS := Lib.hid (fun (wx : World) (A5 : Option Addr) (c5 : Nat) (A7 : Option Addr) (c7 : Nat) (hb : Below w5.heap.size w5 wx) (h1 : Sl wx (Lx (Ng g) wx) 1 A5 c5 ((intoR all[j] rows).map rowD)) (h2 : Sl wx (Lx (Ng g) wx) 5 A7 c7 ((List.replicate (all[j]).kids.length anyN ++ t).map GNode.toD)) =>
                  show Calls Tryz.prog 80 #[.pointer (some ⟨g, 0, none⟩), .slice A5 (intoR all[j] rows).length c5, .slice A7 ((all[j]).kids.length + t.length) c7] wx (UseTo 100 g (.slice A0 ds.length c0) (useF ds f s' (intoR all[j] rows) (List.replicate (all[j]).kids.length anyN ++ t)) wx) from by
                    have h := IH.out s' (intoR all[j] rows) (List.replicate (all[j]).kids.length anyN ++ t) A5 c5 A7 c7 wx (by omega) hs4 (Nat.le_trans intoR_len hrl) (by simp; omega) (by rw [List.length_append, List.length_replicate]; exact HRBI.out all[j]) (fun x hx => by
                      rcases List.mem_append.1 hx with h | h
                      · rw [(List.mem_replicate.1 h).2]; exact anyN_B _
                      · exact HNT.out x h) (HRG5.out _ hb) (HDS5.out _ hb) h1 h2
                    rw [List.length_append, List.length_replicate] at h
                    exact h)
                have HPP := HPP5
                have Bo0 := BO
                go_wp2_with fail
                rw [← e5]
                clear e5 q0 q1 q2 q3 q4
                go_region_held3 (fun w' => ∀ i, w'.cell? ⟨wr.heap.size, i, none⟩ = (#[.int .i64 (all[j]).op, .int .i64 (all[j]).n, .string (all[j]).s, .string (all[j]).t, .slice A6 (all[j]).kids.length c6] : Array Value)[i]?) (first | exact hcp | exact kz | exact kc1 | exact kc2 | exact kb3 | exact kc4 | exact kc6 | exact kb7 | exact kc8 | exact kc9 | exact kc11 | exact kc12 | exact kc14 | exact kb15 | exact kc16) (first
                  | (go_at_call 96
                     with_reducible refine (HOP.out w5.drew Bo0.out).mono ?_
                     rintro e xo1 ⟨AA1, cc1, rfl, hs1, hb1⟩
                     have Bo1 := Lib.hid (Bo0.out.trans (hb1.mono Bo0.out.size))
                     have OP_1 := Lib.hid hs1
                     have kc1 := fun i => (HPP.out _ Bo1.out).cell i
                     clear hs1 hb1)
                  | (go_at_call 100
                     with_reducible refine (HAN.out xo1 Bo1.out).mono ?_
                     rintro e xo2 ⟨AA2, cc2, rfl, hs2, hb2⟩
                     have Bo2 := Lib.hid (Bo1.out.trans (hb2.mono Bo1.out.size))
                     have OP_2 := Lib.hid (OP_1.out.lx hb2)
                     have AN_2 := Lib.hid hs2
                     have kc2 := fun i => (HPP.out _ Bo2.out).cell i
                     obtain ⟨xo3, eo3⟩ : ∃ x, x = xo2.alloc (.cells #[.slice AA2 (all[j]).kids.length cc2, .slice (tailA b1 off1 5 c2) t.length (c2 - 1)] 31) := ⟨_, rfl⟩
                     have Eo3 := Lib.hid (show Below xo2.heap.size xo2 xo3 by rw [eo3]; exact (Below.refl _ _).alloc (Nat.le_refl _) _)
                     have Bo3 := Lib.hid (Bo2.out.trans (Eo3.out.mono Bo2.out.size))
                     have OP_3 := Lib.hid (OP_2.out.lx Eo3.out)
                     have AN_3 := Lib.hid (AN_2.out.lx Eo3.out)
                     have SB_3 := Lib.hid (slTwoRows (X := Ng g) (w := xo2) (w' := xo3) (g := xo2.heap.size) (T := 31) (r1 := List.replicate (all[j]).kids.length anyN) (r2 := t) (by rw [List.length_replicate, eo3]; exact Row.new xo2 _ _) (HNG5.out xo2 Bo2.out _ (Nat.le_refl _)) AN_3.out (HTT5.out _ Bo3.out))
                     have kb3 := fun i => (HPP.out _ Bo3.out).cell i
                     rw [eo3] at kb3
                     clear hs2 hb2)
                  | (go_at_call 97
                     rw [← eo3]
                     with_reducible refine (HCO.out xo3 (xo2.heap.size) Bo3.out SB_3.out).mono ?_
                     rintro e xo4 ⟨AA4, cc4, rfl, hs4, hb4⟩
                     have Bo4 := Lib.hid (Bo3.out.trans (hb4.mono Bo3.out.size))
                     have OP_4 := Lib.hid (OP_3.out.lx hb4)
                     have AN_4 := Lib.hid (AN_3.out.lx hb4)
                     have SB_4 := Lib.hid (SB_3.out.lx hb4)
                     have CO_4 := Lib.hid hs4
                     have kc4 := fun i => (HPP.out _ Bo4.out).cell i
                     clear hs4 hb4)
                  | (go_at_call 80
                     with_reducible refine (HUS.out xo4 AA1 cc1 AA4 cc4 Bo4.out OP_4.out CO_4.out).mono ?_
                     rintro e w9 ⟨rfl, hR9, hT9⟩
                     have R9 := Lib.hid hR9
                     have kz := fun i => ((HPP5.out _ Bo4.out).turned hT9 (by omega)).cell i
                     have T9 := Lib.hid ((HTN5.out _ Bo4.out).trans hT9)
                     clear hR9 hT9)
                  | (go_at_call 100
                     with_reducible refine (HAN.out w5.drew Bo0.out).mono ?_
                     rintro e xo6 ⟨AA6, cc6, rfl, hs6, hb6⟩
                     have Bo6 := Lib.hid (Bo0.out.trans (hb6.mono Bo0.out.size))
                     have AN_6 := Lib.hid hs6
                     have kc6 := fun i => (HPP.out _ Bo6.out).cell i
                     obtain ⟨xo7, eo7⟩ : ∃ x, x = xo6.alloc (.cells #[.slice AA6 (all[j]).kids.length cc6, .slice (tailA b1 off1 5 c2) t.length (c2 - 1)] 31) := ⟨_, rfl⟩
                     have Eo7 := Lib.hid (show Below xo6.heap.size xo6 xo7 by rw [eo7]; exact (Below.refl _ _).alloc (Nat.le_refl _) _)
                     have Bo7 := Lib.hid (Bo6.out.trans (Eo7.out.mono Bo6.out.size))
                     have AN_7 := Lib.hid (AN_6.out.lx Eo7.out)
                     have SB_7 := Lib.hid (slTwoRows (X := Ng g) (w := xo6) (w' := xo7) (g := xo6.heap.size) (T := 31) (r1 := List.replicate (all[j]).kids.length anyN) (r2 := t) (by rw [List.length_replicate, eo7]; exact Row.new xo6 _ _) (HNG5.out xo6 Bo6.out _ (Nat.le_refl _)) AN_7.out (HTT5.out _ Bo7.out))
                     have kb7 := fun i => (HPP.out _ Bo7.out).cell i
                     rw [eo7] at kb7
                     clear hs6 hb6)
                  | (go_at_call 96
                     rw [← eo7]
                     with_reducible refine (HOP.out xo7 Bo7.out).mono ?_
                     rintro e xo8 ⟨AA8, cc8, rfl, hs8, hb8⟩
                     have Bo8 := Lib.hid (Bo7.out.trans (hb8.mono Bo7.out.size))
                     have AN_8 := Lib.hid (AN_7.out.lx hb8)
                     have SB_8 := Lib.hid (SB_7.out.lx hb8)
                     have OP_8 := Lib.hid hs8
                     have kc8 := fun i => (HPP.out _ Bo8.out).cell i
                     clear hs8 hb8)
                  | (go_at_call 97
                     with_reducible refine (HCO.out xo8 (xo6.heap.size) Bo8.out SB_8.out).mono ?_
                     rintro e xo9 ⟨AA9, cc9, rfl, hs9, hb9⟩
                     have Bo9 := Lib.hid (Bo8.out.trans (hb9.mono Bo8.out.size))
                     have AN_9 := Lib.hid (AN_8.out.lx hb9)
                     have SB_9 := Lib.hid (SB_8.out.lx hb9)
                     have OP_9 := Lib.hid (OP_8.out.lx hb9)
                     have CO_9 := Lib.hid hs9
                     have kc9 := fun i => (HPP.out _ Bo9.out).cell i
                     clear hs9 hb9)
                  | (go_at_call 80
                     with_reducible refine (HUS.out xo9 AA8 cc8 AA9 cc9 Bo9.out OP_9.out CO_9.out).mono ?_
                     rintro e w9 ⟨rfl, hR9, hT9⟩
                     have R9 := Lib.hid hR9
                     have kz := fun i => ((HPP5.out _ Bo9.out).turned hT9 (by omega)).cell i
                     have T9 := Lib.hid ((HTN5.out _ Bo9.out).trans hT9)
                     clear hR9 hT9)
                  | (go_at_call 97
                     rw [← eo7]
                     with_reducible refine (HCO.out xo7 (xo6.heap.size) Bo7.out SB_7.out).mono ?_
                     rintro e xo11 ⟨AA11, cc11, rfl, hs11, hb11⟩
                     have Bo11 := Lib.hid (Bo7.out.trans (hb11.mono Bo7.out.size))
                     have AN_11 := Lib.hid (AN_7.out.lx hb11)
                     have SB_11 := Lib.hid (SB_7.out.lx hb11)
                     have CO_11 := Lib.hid hs11
                     have kc11 := fun i => (HPP.out _ Bo11.out).cell i
                     clear hs11 hb11)
                  | (go_at_call 96
                     with_reducible refine (HOP.out xo11 Bo11.out).mono ?_
                     rintro e xo12 ⟨AA12, cc12, rfl, hs12, hb12⟩
                     have Bo12 := Lib.hid (Bo11.out.trans (hb12.mono Bo11.out.size))
                     have AN_12 := Lib.hid (AN_11.out.lx hb12)
                     have SB_12 := Lib.hid (SB_11.out.lx hb12)
                     have CO_12 := Lib.hid (CO_11.out.lx hb12)
                     have OP_12 := Lib.hid hs12
                     have kc12 := fun i => (HPP.out _ Bo12.out).cell i
                     clear hs12 hb12)
                  | (go_at_call 80
                     with_reducible refine (HUS.out xo12 AA12 cc12 AA11 cc11 Bo12.out OP_12.out CO_12.out).mono ?_
                     rintro e w9 ⟨rfl, hR9, hT9⟩
                     have R9 := Lib.hid hR9
                     have kz := fun i => ((HPP5.out _ Bo12.out).turned hT9 (by omega)).cell i
                     have T9 := Lib.hid ((HTN5.out _ Bo12.out).trans hT9)
                     clear hR9 hT9)
                  | (go_at_call 96
                     with_reducible refine (HOP.out xo6 Bo6.out).mono ?_
                     rintro e xo14 ⟨AA14, cc14, rfl, hs14, hb14⟩
                     have Bo14 := Lib.hid (Bo6.out.trans (hb14.mono Bo6.out.size))
                     have AN_14 := Lib.hid (AN_6.out.lx hb14)
                     have OP_14 := Lib.hid hs14
                     have kc14 := fun i => (HPP.out _ Bo14.out).cell i
                     obtain ⟨xo15, eo15⟩ : ∃ x, x = xo14.alloc (.cells #[.slice AA6 (all[j]).kids.length cc6, .slice (tailA b1 off1 5 c2) t.length (c2 - 1)] 31) := ⟨_, rfl⟩
                     have Eo15 := Lib.hid (show Below xo14.heap.size xo14 xo15 by rw [eo15]; exact (Below.refl _ _).alloc (Nat.le_refl _) _)
                     have Bo15 := Lib.hid (Bo14.out.trans (Eo15.out.mono Bo14.out.size))
                     have AN_15 := Lib.hid (AN_14.out.lx Eo15.out)
                     have OP_15 := Lib.hid (OP_14.out.lx Eo15.out)
                     have SB_15 := Lib.hid (slTwoRows (X := Ng g) (w := xo14) (w' := xo15) (g := xo14.heap.size) (T := 31) (r1 := List.replicate (all[j]).kids.length anyN) (r2 := t) (by rw [List.length_replicate, eo15]; exact Row.new xo14 _ _) (HNG5.out xo14 Bo14.out _ (Nat.le_refl _)) AN_15.out (HTT5.out _ Bo15.out))
                     have kb15 := fun i => (HPP.out _ Bo15.out).cell i
                     rw [eo15] at kb15
                     clear hs14 hb14)
                  | (go_at_call 97
                     rw [← eo15]
                     with_reducible refine (HCO.out xo15 (xo14.heap.size) Bo15.out SB_15.out).mono ?_
                     rintro e xo16 ⟨AA16, cc16, rfl, hs16, hb16⟩
                     have Bo16 := Lib.hid (Bo15.out.trans (hb16.mono Bo15.out.size))
                     have AN_16 := Lib.hid (AN_15.out.lx hb16)
                     have OP_16 := Lib.hid (OP_15.out.lx hb16)
                     have SB_16 := Lib.hid (SB_15.out.lx hb16)
                     have CO_16 := Lib.hid hs16
                     have kc16 := fun i => (HPP.out _ Bo16.out).cell i
                     clear hs16 hb16)
                  | (go_at_call 80
                     with_reducible refine (HUS.out xo16 AA14 cc14 AA16 cc16 Bo16.out OP_16.out CO_16.out).mono ?_
                     rintro e w9 ⟨rfl, hR9, hT9⟩
                     have R9 := Lib.hid hR9
                     have kz := fun i => ((HPP5.out _ Bo16.out).turned hT9 (by omega)).cell i
                     have T9 := Lib.hid ((HTN5.out _ Bo16.out).trans hT9)
                     clear hR9 hT9))
                all_goals
                  cases hr : (useF ds f s' (intoR all[j] rows) (List.replicate (all[j]).kids.length anyN ++ t)).1
                  · have HW := Lib.hid (HUM.out hr)
                    have hok := HOK.out.2 hr
                    have hok1 := HOK.out.1
                    clear hr
                    go_wp2_with fail
                    go_roundw
                    case rel => exact ⟨j + 1, _, by omega, by go_num, hok, by omega, HW, R9, T9⟩
                    case measure => simp [intOf]; omega
                  · have HW := Lib.hid (HUH.out hr)
                    have Hr := Lib.hid hr
                    clear hr
                    go_wp2_with fail
                    go_ret
                    rw [HV.out, HW.out]
                    exact ⟨ret_bool Hr.out.symm, R9.out, (HTN.out _ B4.out).trans T9.out⟩
              · have HE := Lib.hid (show useAll (useF ds f) rows t all (s + 1) = (false, s') by rw [HU.out, show j = all.length by omega, List.drop_length]; rfl)
                go_wp2_with fail
                go_ret
                rw [HV.out, HE.out]
                exact ⟨rfl, HRq.out, (HTN.out _ B4.out).trans HTq.out⟩
end Go.Proofs.YtgbcdfeflgnogaaGreat

/- Coverage: is a row useful behind others, in the reference. Conditions: the sizes are bounded. -/
namespace Go.Proofs.YtgbcdfeflgnogaaGreat
open Go.RowKit
set_option linter.unusedVariables false
set_option linter.unusedSimpArgs false
set_option maxHeartbeats 1000000

set_option maxRecDepth 20000 in
theorem specUseful (ds : List GData) (A0 : Option Addr) (c0 g : Nat) (hM : ∀ d ∈ ds, d.cons.length ≤ 1048576 ∧ ∀ k ∈ d.cons, k.args.length ≤ 1048576) : ∀ (f s : Nat) (rows : List (List GNode)) (row : List GNode) (A : Option Addr) (c : Nat) (A2 : Option Addr) (c2 : Nat) (w : World), 4001 ≤ f + s → s ≤ 4000 → rows.length ≤ 1048576 → row.length ≤ (s + 1) * 1048576 → RowsB 1048576 row.length rows → (∀ x ∈ row, nodeB 1048576 x) →
    Row w g 92 #[.slice A0 ds.length c0, .int .i64 (s : Int)] → Sl w (Lx (Ng g) w) 3 A0 c0 (ds.map GData.toD) → Sl w (Lx (Ng g) w) 1 A c (rows.map rowD) → Sl w (Lx (Ng g) w) 5 A2 c2 (row.map GNode.toD) →
    Calls Tryz.prog 69 #[.pointer (some ⟨g, 0, none⟩), .slice A rows.length c, .slice A2 row.length c2] w (UseTo 92 g (.slice A0 ds.length c0) (useF ds f s rows row) w) := by
  intro f
  induction f with
  | zero => intros; omega
  | succ f ih =>
    intro s rows row A c A2 c2 w hf hs hrl hwl hRB hNB hR hds hrs hws
    have HR := Lib.hid hR
    have hcg := fun i => hR.cell i
    have hfg := fun i => hR.frozen i
    have hgl := hR.lt
    obtain ⟨w1, e1⟩ : ∃ w1, w1 = w.setCell ⟨g, 1, none⟩ (.int .i64 ((s : Int) + 1)) := ⟨_, rfl⟩
    have R1 := Lib.hid (show Row w1 g 92 #[.slice A0 ds.length c0, .int .i64 ((s + 1 : Nat) : Int)] by rw [e1]; exact hR.set 1 (.int .i64 ((s : Int) + 1)))
    have T1 := Lib.hid (show Turned g w w1 by rw [e1]; exact (Turned.refl g w).setCell 1 _)
    have D1 := Lib.hid (hds.turned T1.out)
    have S1 := Lib.hid (hrs.turned T1.out)
    have W1 := Lib.hid (hws.turned T1.out)
    have hc1 := fun i => R1.out.cell i
    have HRB := Lib.hid hRB
    have HNB := Lib.hid hNB
    have IH := Lib.hid ih
    have HM := Lib.hid hM
    have hrlm : rows.length ≤ 9223372036854775807 := by omega
    clear hR hds hrs hws hRB hNB ih hM
    by_cases ho : 4000 < s + 1
    · obtain rfl : s = 4000 := by omega
      have HV := Lib.hid (useF_over (ds := ds) (f := f + 1) (rows := rows) (row := row) ho)
      clear ho
      go_enter Tryz.func69, Tryz.ntmps69
      go_wp2_with fail
      go_ret
      rw [HV.out]
      refine ⟨rfl, ?_, ?_⟩
      · have := R1.out; rw [e1] at this; exact this
      · have := T1.out; rw [e1] at this; exact this
    · have hov : ¬ (4000 < (s : Int) + 1) := by omega
      have hs1 : s + 1 ≤ 4000 := by omega
      cases row with
      | nil =>
        have HV := Lib.hid (useF_nil (ds := ds) (f := f) (rows := rows) ho)
        have HE := Lib.hid (show rows.isEmpty = (((rows.length : Nat) : Int) == 0) by
          cases rows with
          | nil => rfl
          | cons a b => simp only [List.isEmpty_cons, List.length_cons]; exact (beq_eq_false_iff_ne.2 (by omega)).symm)
        clear ho
        go_enter Tryz.func69, Tryz.ntmps69
        go_wp2_with fail
        go_ret
        rw [HV.out]
        refine ⟨ret_bool (by rw [HE.out]), ?_, ?_⟩
        · have := R1.out; rw [e1] at this; exact this
        · have := T1.out; rw [e1] at this; exact this
      | cons p t =>
        obtain ⟨b1, off1, A3, c3, rfl, hSb1, hlc, hcm, q0, q1, q2, q3, q4, hat, -, -⟩ := row_head W1.out
        have HTL := Lib.hid (rowTail W1.out)
        have HKL := Lib.hid hat.2.2.2.2
        have hpM : p.kids.length ≤ 1048576 := (HNB.out p (by simp)).len
        have hwl2 : t.length + 1 ≤ (s + 1) * 1048576 := by simpa using hwl
        have HNR := Lib.hid (show ∀ r ∈ rows, 0 < r.length ∧ r.length + 1048576 ≤ 1099511627776 from fun r hr => by have := (HRB.out r hr).1; simp at this; omega)
        have HRBI := Lib.hid (fun (x : GNode) => (show RowsB 1048576 (t.length + 1) rows from HRB.out).into x)
        have HRBR := Lib.hid ((show RowsB 1048576 (t.length + 1) rows from HRB.out).rest)
        have HNT := Lib.hid (show ∀ x ∈ t, nodeB 1048576 x from fun x hx => HNB.out x (by simp [hx]))
        have HNK := Lib.hid (HNB.out p (by simp)).kids
        have htl := fun (wx : World) => run_tail (P := Tryz.prog) 31 33 5 Tryz.underlying31 (by kernel_rfl) b1 off1 t.length c2 (by omega) wx
        obtain ⟨w2, e2⟩ : ∃ w2, w2 = w1.alloc (.cells #[.int .i64 p.op, .int .i64 p.n, .string p.s, .string p.t, .slice A3 p.kids.length c3] 33) := ⟨_, rfl⟩
        have E2 := Lib.hid (show Below w1.heap.size w1 w2 by rw [e2]; exact (Below.refl _ _).alloc (Nat.le_refl _) _)
        have P2 := Lib.hid (show Row w2 w.heap.size 33 #[.int .i64 p.op, .int .i64 p.n, .string p.s, .string p.t, .slice A3 p.kids.length c3] by rw [e2]; exact Row.new' _ _ _ (by rw [e1]; simp [World.setCell]))
        have EQ1 := Lib.hid e1
        have EQ2 := Lib.hid e2
        have g1 : w.heap.size = w1.heap.size := by rw [e1]; simp [World.setCell]
        rw [e1] at q0 q1 q2 q3 q4
        have G1 := Lib.hid g1
        clear hat e1 e2 hc1 hwl g1
        have T3 := Lib.hid (T1.out.ofBelow E2.out)
        have E3 := Lib.hid E2.out
        have hgl1 : g < w1.heap.size := by rw [← G1.out]; exact hgl
        have R3 := Lib.hid (R1.out.below E3.out hgl1)
        have P3 := Lib.hid P2.out
        have hgl3 := R3.out.lt
        have HROWS := Lib.hid (fun (wx : World) (hb : Below w2.heap.size w2 wx) => (S1.out.lx E3.out).lx hb)
        have HDS := Lib.hid (fun (wx : World) (hb : Below w2.heap.size w2 wx) => (D1.out.lx E3.out).lx hb)
        have HKT := Lib.hid (fun (wx : World) (hb : Below w2.heap.size w2 wx) => (HKL.out.lx E3.out).lx hb)
        have HTT := Lib.hid (fun (wx : World) (hb : Below w2.heap.size w2 wx) => (HTL.out.lx E3.out).lx hb)
        have HNG := Lib.hid (fun (wx : World) (hb : Below w2.heap.size w2 wx) (b : Nat) (h : wx.heap.size ≤ b) => show Ng g b from fun e => by have := hb.size; omega)
        have HRG := Lib.hid (fun (wx : World) (hb : Below w2.heap.size w2 wx) => R3.out.below hb hgl3)
        have HPP := Lib.hid (fun (wx : World) (hb : Below w2.heap.size w2 wx) => P3.out.below hb P3.out.lt)
        have HTN := Lib.hid (fun (wx : World) (hb : Below w2.heap.size w2 wx) => T3.out.ofBelow hb)
        have hcp := fun i => P3.out.cell i
        have hcps := fun i => P3.out.cell i
        rw [EQ2.out, EQ1.out] at hcps
        clear HTL HKL P2 P3
        cases hp : isAnyB p
        · have HV := Lib.hid (useF_con (ds := ds) (f := f) (rows := rows) (t := t) ho hp)
          have hc : (p.op == 20) = true ∨ ((p.op == 20) = false ∧ (p.op == 19) = true) := by
            cases h1 : (p.op == 20)
            · cases h2 : (p.op == 19)
              · rw [isAny_ne h1 h2] at hp; cases hp
              · exact .inr ⟨rfl, rfl⟩
            · exact .inl rfl
          have HUS := Lib.hid (fun (wx : World) (A5 : Option Addr) (c5 : Nat) (A7 : Option Addr) (c7 : Nat) (hb : Below w2.heap.size w2 wx) (h1 : Sl wx (Lx (Ng g) wx) 1 A5 c5 ((intoR p rows).map rowD)) (h2 : Sl wx (Lx (Ng g) wx) 5 A7 c7 ((p.kids ++ t).map GNode.toD)) =>
            show Calls Tryz.prog 69 #[.pointer (some ⟨g, 0, none⟩), .slice A5 (intoR p rows).length c5, .slice A7 (p.kids.length + t.length) c7] wx (UseTo 92 g (.slice A0 ds.length c0) (useF ds f (s + 1) (intoR p rows) (p.kids ++ t)) wx) from by
              have h := IH.out (s + 1) (intoR p rows) (p.kids ++ t) A5 c5 A7 c7 wx (by omega) hs1 (Nat.le_trans intoR_len hrl) (by simp; omega) (by rw [List.length_append]; exact HRBI.out p) (fun x hx => by
                rcases List.mem_append.1 hx with h | h
                · exact HNK.out x h
                · exact HNT.out x h) (HRG.out _ hb) (HDS.out _ hb) h1 h2
              rw [List.length_append] at h
              exact h)
          obtain ⟨w4, e4⟩ : ∃ w4, w4 = w2.alloc (.cells #[] 33) := ⟨_, rfl⟩
          have E4 := Lib.hid (show Below w2.heap.size w2 w4 by rw [e4]; exact (Below.refl _ _).alloc (Nat.le_refl _) _)
          have hw2 : w2.heap.size = w.heap.size + 1 := by rw [EQ2.out, EQ1.out]; simp [World.setCell]
          have HW2 := Lib.hid hw2
          have G4 := Lib.hid (show Grx (Ng g) w4 w2.heap.size 33 5 (.slice (some ⟨w.heap.size + 1, 0, none⟩) 0 0) 0 [] from Grx.made (by rw [e4]; exact Row.new' _ _ _ hw2.symm) (by omega))
          have hs4 := E4.out.size
          have K4 := Lib.hid (show Sl w4 (fun b => b < w4.heap.size ∧ (Value.slice (some ⟨w.heap.size + 1, 0, none⟩) 0 0).ownBlock ≠ some b ∧ Ng g b) 5 A3 c3 (p.kids.map GNode.toD) from
            (HKT.out _ (Below.refl _ _)).keep fun b hb => ⟨⟨Nat.lt_of_lt_of_le hb.1 hs4, fun e => by simp [Value.ownBlock] at e; have := hb.1; omega, hb.2⟩, E4.out.block b hb.1⟩)
          have kp4 := fun i => (HPP.out _ E4.out).cell i
          rw [e4, EQ2.out, EQ1.out] at kp4
          have hkm : p.kids.length ≤ 9223372036854775807 := by omega
          have HC := Lib.hid hc
          clear hp hw2 hcp hc
          rcases HC.out with h20 | ⟨h20, h19⟩
          all_goals
            clear HC
            go_enter Tryz.func69, Tryz.ntmps69
            go_wp2_with (first
              | (at_builtin; rw [← EQ1.out, ← EQ2.out, ← e4]; refine wpList_append_X w4 rfl (.tmp 41) (.tmp 43) 31 rfl 33 zNode 5 72 Tryz.underlying31 (by kernel_rfl) rfl (by omega) w2.heap.size (.slice (some ⟨w.heap.size + 1, 0, none⟩) 0 0) 0 _ G4.out A3 c3 p.kids.length _ (by simp) K4.out hs4 (by unfold maxLen; omega) (by omega) rfl rfl ?_
                 intro An cn w5 Gn hGr5
                 rw [Nat.zero_add] at Gn hGr5 ⊢
                 have G5 := Lib.hid (show Grx (Ng g) w5 w2.heap.size 33 5 (.slice An p.kids.length cn) p.kids.length (p.kids.map GNode.toD) from Gn)
                 have E5 := Lib.hid (show Below w2.heap.size w2 w5 from E4.out.trans (hGr5.below hs4 (fun g hg => by have := HW2.out; simp [Value.ownBlock] at hg; omega)))
                 have hs5 := E5.out.size
                 have V5 := Lib.hid (fun b (hb : (Value.slice An p.kids.length cn).ownBlock = some b) => G5.out.own b hb)
                 have X5 := Lib.hid (Xo.mk (v := Value.slice An p.kids.length cn) (X := Ng g) (n := w5.heap.size) (fun b hb => (V5.out b hb).2) (fun b hb => HNG.out _ E5.out b hb))
                 have hcp := fun i => (HPP.out _ E5.out).cell i
                 clear Gn hGr5))
            clear kp4 hcps q0 q1 q2 q3 q4
            have D5 := Lib.hid (show Below w2.heap.size w2 w5.drew from E5.out.drew)
            have TT5 := Lib.hid (fun (wx : World) (hb : Below w2.heap.size w2 wx) => show Sl wx (fun b => b < wx.heap.size ∧ (Value.slice An p.kids.length cn).ownBlock ≠ some b ∧ Ng g b) 5 (tailA b1 off1 5 c2) (c2 - 1) (t.map GNode.toD) from
              (HTT.out w2 (Below.refl _ _)).keep fun b hb' => ⟨⟨Nat.lt_of_lt_of_le hb'.1 hb.size, fun e => by have := (V5.out b e).1; have := hb'.1; omega, hb'.2⟩, hb.block b hb'.1⟩)
            have RR5 := Lib.hid (show Sl w5.drew (Lx (Xo (Value.slice An p.kids.length cn) (Ng g)) w5.drew) 1 A c (rows.map rowD) from
              (HROWS.out w2 (Below.refl _ _)).keep fun b hb' => ⟨⟨Nat.lt_of_lt_of_le hb'.1 hs5, fun e => by have := (V5.out b e).1; have := hb'.1; omega, hb'.2⟩, E5.out.block b hb'.1⟩)
            have GD5 := Lib.hid (G5.out.below (show Below w5.heap.size w5 w5.drew from (Below.refl _ _).drew))
            go_region_held3 (fun w' => ∀ i, w'.cell? ⟨w.heap.size, i, none⟩ = (#[.int .i64 p.op, .int .i64 p.n, .string p.s, .string p.t, .slice A3 p.kids.length c3] : Array Value)[i]?) (first | exact hcp | exact kz | exact kx1 | exact kx2 | exact ky1 | exact ky2) (first
              | (go_at_call 86
                 refine (specInto (Xo (Value.slice An p.kids.length cn) (Ng g)) 1048576 p A3 c3 rows A c w5.drew X5.out hrl HNR.out hpM RR5.out).mono ?_
                 rintro e x1 ⟨AA1, cc1, rfl, hs1x, hb1x⟩
                 have Bx1 := Lib.hid (D5.out.trans (hb1x.mono D5.out.size))
                 have OP1 := Lib.hid hs1x
                 have Gx1 := Lib.hid (GD5.out.below hb1x)
                 have kx1 := fun i => (HPP.out _ Bx1.out).cell i
                 have hx1 := Bx1.out.size
                 have Tx1 := Lib.hid (TT5.out x1 Bx1.out)
                 clear hs1x hb1x)
              | (refine step_append_X x1 rfl (.tmp 49) (.tmp 51) 31 rfl 33 zNode 5 72 Tryz.underlying31 (by kernel_rfl) rfl (by omega) w2.heap.size (.slice An p.kids.length cn) p.kids.length _ Gx1.out (tailA b1 off1 5 c2) (c2 - 1) t.length _ (by simp) Tx1.out hx1 (by unfold maxLen; omega) (by omega) rfl rfl ?_
                 intro AA2 cc2 x2 G2 hGr2
                 have Bx2 := Lib.hid (Bx1.out.trans (hGr2.below hx1 (fun b hb => (V5.out b hb).1)))
                 have CO2 := Lib.hid (show Sl x2 (Lx (Ng g) x2) 5 AA2 cc2 ((p.kids ++ t).map GNode.toD) from by
                   rw [← List.map_append] at G2
                   obtain ⟨A4, c4, e4, h4⟩ := G2.sl (X := Ng g) (fun b hb => HNG.out w2 (Below.refl _ _) b hb)
                   obtain ⟨rfl, rfl⟩ : AA2 = A4 ∧ cc2 = c4 := by simpa using e4
                   exact h4)
                 have OP2 := Lib.hid (show Sl x2 (Lx (Ng g) x2) 1 AA1 cc1 ((intoR p rows).map rowD) from OP1.out.keep fun b hb => ⟨⟨Nat.lt_of_lt_of_le hb.1 hGr2.size, hb.2.2⟩, hGr2.grow.block b hb.1 fun e => hb.2.1 e.symm⟩)
                 have kx2 := fun i => (HPP.out _ Bx2.out).cell i
                 clear G2 hGr2)
              | (go_at_call 69
                 with_reducible refine (HUS.out x2 AA1 cc1 AA2 cc2 Bx2.out OP2.out CO2.out).mono ?_
                 rintro e w9 ⟨rfl, hR9, hT9⟩
                 have R9 := Lib.hid hR9
                 have kz := fun i => ((HPP.out _ Bx2.out).turned hT9 (by omega)).cell i
                 have T9 := Lib.hid ((HTN.out _ Bx2.out).trans hT9)
                 clear hR9 hT9)
              | (refine step_append_X w5.drew rfl (.tmp 49) (.tmp 51) 31 rfl 33 zNode 5 72 Tryz.underlying31 (by kernel_rfl) rfl (by omega) w2.heap.size (.slice An p.kids.length cn) p.kids.length _ GD5.out (tailA b1 off1 5 c2) (c2 - 1) t.length _ (by simp) (TT5.out _ D5.out) hs5 (by unfold maxLen; omega) (by omega) rfl rfl ?_
                 intro AA3 cc3 y1 G3 hGr3
                 have By1 := Lib.hid (D5.out.trans (hGr3.below hs5 (fun b hb => (V5.out b hb).1)))
                 have CO3 := Lib.hid (show Sl y1 (Lx (Ng g) y1) 5 AA3 cc3 ((p.kids ++ t).map GNode.toD) from by
                   rw [← List.map_append] at G3
                   obtain ⟨A4, c4, e4, h4⟩ := G3.sl (X := Ng g) (fun b hb => HNG.out w2 (Below.refl _ _) b hb)
                   obtain ⟨rfl, rfl⟩ : AA3 = A4 ∧ cc3 = c4 := by simpa using e4
                   exact h4)
                 have ky1 := fun i => (HPP.out _ By1.out).cell i
                 clear G3 hGr3)
              | (go_at_call 86
                 with_reducible refine (specInto (Ng g) 1048576 p A3 c3 rows A c y1 (HNG.out _ By1.out) hrl HNR.out hpM (HROWS.out _ By1.out)).mono ?_
                 rintro e y2 ⟨AA4, cc4, rfl, hs4x, hb4x⟩
                 have By2 := Lib.hid (By1.out.trans (hb4x.mono By1.out.size))
                 have OP4 := Lib.hid hs4x
                 have CO4 := Lib.hid (CO3.out.lx hb4x)
                 have ky2 := fun i => (HPP.out _ By2.out).cell i
                 clear hs4x hb4x)
              | (go_at_call 69
                 with_reducible refine (HUS.out y2 AA4 cc4 AA3 cc3 By2.out OP4.out CO4.out).mono ?_
                 rintro e w9 ⟨rfl, hR9, hT9⟩
                 have R9 := Lib.hid hR9
                 have kz := fun i => ((HPP.out _ By2.out).turned hT9 (by omega)).cell i
                 have T9 := Lib.hid ((HTN.out _ By2.out).trans hT9)
                 clear hR9 hT9))
            all_goals
              go_wp2_with fail
              go_ret
              rw [HV.out]
              exact ⟨rfl, R9.out, T9.out⟩
        · have h20 : (p.op == 20) = false := by
            cases h : (p.op == 20)
            · rfl
            · rw [isAny_con h] at hp; cases hp
          have h19 : (p.op == 19) = false := by
            cases h : (p.op == 19)
            · rfl
            · rw [isAny_num h] at hp; cases hp
          have HWH := Lib.hid (specAll (Ng g) g ((s + 1 : Nat) : Int) ds A0 c0 rows A c w2 (HNG.out _ (Below.refl _ _)) R3.out (HDS.out _ (Below.refl _ _)) (fun r hr => (HNR.out r hr).1) HM.out (HROWS.out _ (Below.refl _ _)))
          cases ha : allR ds rows with
          | none =>
            have HV := Lib.hid (useF_none (ds := ds) (f := f) (rows := rows) (t := t) ho hp ha)
            rw [ha] at HWH
            clear hp ha hcp
            go_enter Tryz.func69, Tryz.ntmps69
            go_wp2_with fail
            clear q0 q1 q2 q3 q4 hcg hfg hcps
            rw [← EQ1.out, ← EQ2.out]
            refine HWH.out.mono ?_
            rintro e w4 ⟨hb4, A4, n4, c4, rfl⟩
            have BO := Lib.hid (show Below w2.heap.size w2 w4.drew from hb4.drew)
            clear hb4
            go_wp2_with fail
            go_region_held3 (fun w' => True) (exact trivial) (first
              | (go_at_call 88
                 refine (specRest (Ng g) rows A c _ ?_ hrl (fun r hr => ⟨(HNR.out r hr).1, by have := (HNR.out r hr).2; omega⟩) ?_).mono ?_
                 · exact HNG.out _ BO.out
                 · exact HROWS.out _ BO.out
                 rintro e w5 ⟨A5, c5, rfl, hs5, hb5⟩
                 have OP := Lib.hid hs5
                 have BO := Lib.hid (BO.out.trans (hb5.mono BO.out.size))
                 clear hs5 hb5)
              | (go_at_call 69
                 refine (IH.out (s + 1) (restR rows) t A5 c5 (tailA b1 off1 5 c2) (c2 - 1) _ (by omega) hs1 (Nat.le_trans restR_len hrl) (by omega) HRBR.out HNT.out (HRG.out _ BO.out) (HDS.out _ BO.out) OP.out (HTT.out _ BO.out)).mono ?_
                 rintro e w9 ⟨rfl, hR9, hT9⟩
                 have R9 := Lib.hid hR9
                 have T9 := Lib.hid ((HTN.out _ BO.out).trans hT9)
                 clear hR9 hT9))
            all_goals
              go_wp2_with fail
              go_ret
              rw [HV.out]
              exact ⟨rfl, R9.out, T9.out⟩
          | some all =>
            have HV := Lib.hid (useF_all (ds := ds) (f := f) (rows := rows) (t := t) ho hp ha)
            have hak := allR_kids HM.out ha
            have hal := hak.1
            have HAK := Lib.hid hak.2
            rw [ha] at HWH
            have halm : all.length ≤ 9223372036854775807 := by omega
            clear hp ha hak hcp
            go_enter Tryz.func69, Tryz.ntmps69
            go_wp2_with fail
            clear q0 q1 q2 q3 q4 hcg hfg hcps
            rw [← EQ1.out, ← EQ2.out]
            refine HWH.out.mono ?_
            rintro e w4 ⟨hb4, A4, c4, rfl, hs4⟩
            have B4 := Lib.hid hb4
            have S4 := Lib.hid hs4
            clear hb4 hs4
            go_wp2_with fail
            go_loopw [11] (fun i wr => ∃ (j s' : Nat), j ≤ all.length ∧ i = .int .i64 j ∧ s' ≤ 4000 ∧ s + 1 ≤ s' ∧ Hid (useAll (useF ds f) rows t all (s + 1) = useAll (useF ds f) rows t (all.drop j) s') ∧ Hid (Row wr g 92 #[.slice A0 ds.length c0, .int .i64 (s' : Int)]) ∧ Hid (Turned g w4 wr)) (fun i _ => all.length - (intOf i).toNat)
            case atStart => exact ⟨0, s + 1, by omega, by go_num, hs1, Nat.le_refl _, Lib.hid rfl, Lib.hid (HRG.out _ B4.out), Lib.hid (Turned.refl _ _)⟩
            case round =>
              obtain ⟨j, s', hj, rfl, hs4, hss, HU, HRq, HTq⟩ := hrel
              have hgq := HRq.out.lt
              by_cases hlt : j < all.length
              · obtain ⟨b6, off6, A6, c6, rfl, hSb6, q0, q1, q2, q3, q4, hat⟩ := GNode.elem (S4.out.turned HTq.out) j hlt
                clear hat
                have hka := HAK.out _ (List.getElem_mem hlt)
                have HROWS5 := Lib.hid (fun (wx : World) (hb : Below wr.heap.size wr wx) => ((HROWS.out _ B4.out).turned HTq.out).lx hb)
                have HDS5 := Lib.hid (fun (wx : World) (hb : Below wr.heap.size wr wx) => ((HDS.out _ B4.out).turned HTq.out).lx hb)
                have HTT5 := Lib.hid (fun (wx : World) (hb : Below wr.heap.size wr wx) => ((HTT.out _ B4.out).turned HTq.out).lx hb)
                have HRG5 := Lib.hid (fun (wx : World) (hb : Below wr.heap.size wr wx) => HRq.out.below hb hgq)
                have HNG5 := Lib.hid (fun (wx : World) (hb : Below wr.heap.size wr wx) (b : Nat) (h : wx.heap.size ≤ b) => show Ng g b from fun e => by have := hb.size; omega)
                have HTN5 := Lib.hid (fun (wx : World) (hb : Below wr.heap.size wr wx) => HTq.out.ofBelow hb)
                have HEL := Lib.hid (fun (wx : World) (hb : Below wr.heap.size wr wx) => show wx.cell? ⟨b6, off6 + j * 5, none⟩ = some (.int .i64 (all[j]).op) ∧ wx.cell? ⟨b6, off6 + j * 5 + 1, none⟩ = some (.int .i64 (all[j]).n) ∧ wx.cell? ⟨b6, off6 + j * 5 + 2, none⟩ = some (.string (all[j]).s) ∧ wx.cell? ⟨b6, off6 + j * 5 + 3, none⟩ = some (.string (all[j]).t) ∧ wx.cell? ⟨b6, off6 + j * 5 + 4, none⟩ = some (.slice A6 (all[j]).kids.length c6) from
                  ⟨(hb.cell (p := ⟨b6, off6 + j * 5, none⟩) hSb6.1).trans q0, (hb.cell (p := ⟨b6, off6 + j * 5 + 1, none⟩) hSb6.1).trans q1, (hb.cell (p := ⟨b6, off6 + j * 5 + 2, none⟩) hSb6.1).trans q2, (hb.cell (p := ⟨b6, off6 + j * 5 + 3, none⟩) hSb6.1).trans q3, (hb.cell (p := ⟨b6, off6 + j * 5 + 4, none⟩) hSb6.1).trans q4⟩)
                have HEL2 := Lib.hid (fun (wx wy : World) (hb : Below wr.heap.size wr wx) (ht : Turned g wx wy) => show wy.cell? ⟨b6, off6 + j * 5, none⟩ = some (.int .i64 (all[j]).op) ∧ wy.cell? ⟨b6, off6 + j * 5 + 1, none⟩ = some (.int .i64 (all[j]).n) ∧ wy.cell? ⟨b6, off6 + j * 5 + 2, none⟩ = some (.string (all[j]).s) ∧ wy.cell? ⟨b6, off6 + j * 5 + 3, none⟩ = some (.string (all[j]).t) ∧ wy.cell? ⟨b6, off6 + j * 5 + 4, none⟩ = some (.slice A6 (all[j]).kids.length c6) from by
                  have hk := ht.block b6 (Nat.lt_of_lt_of_le hSb6.1 hb.size) hSb6.2
                  obtain ⟨h0, h1, h2, h3, h4⟩ := HEL.out wx hb
                  exact ⟨(World.cell?_of_block hk).trans h0, (World.cell?_of_block hk).trans h1, (World.cell?_of_block hk).trans h2, (World.cell?_of_block hk).trans h3, (World.cell?_of_block hk).trans h4⟩)
                have HUH := Lib.hid (fun (h : (useF ds f s' (intoR all[j] rows) (List.replicate (all[j]).kids.length anyN ++ t)).1 = true) => show useAll (useF ds f) rows t all (s + 1) = useF ds f s' (intoR all[j] rows) (List.replicate (all[j]).kids.length anyN ++ t) by rw [HU.out, List.drop_eq_getElem_cons hlt, useAll_hit h])
                have HUM := Lib.hid (fun (h : (useF ds f s' (intoR all[j] rows) (List.replicate (all[j]).kids.length anyN ++ t)).1 = false) => show useAll (useF ds f) rows t all (s + 1) = useAll (useF ds f) rows t (all.drop (j + 1)) (useF ds f s' (intoR all[j] rows) (List.replicate (all[j]).kids.length anyN ++ t)).2 by rw [HU.out, List.drop_eq_getElem_cons hlt, useAll_miss h])
                have HOK := Lib.hid (useF_ok ds f s' (intoR all[j] rows) (List.replicate (all[j]).kids.length anyN ++ t) (by omega))
                have Bo0 := Lib.hid (show Below wr.heap.size wr wr.drew from (Below.refl _ _).drew)
                have hcp := HEL.out _ (Below.refl _ _)
                have HOP := Lib.hid (fun (wx : World) (hb : Below wr.heap.size wr wx) => specInto (Ng g) 1048576 all[j] A6 c6 rows A c wx (HNG5.out wx hb) hrl HNR.out hka (HROWS5.out wx hb))
                have HAN := Lib.hid (fun (wx : World) (hb : Below wr.heap.size wr wx) => specAny (Ng g) (all[j]).kids.length t (tailA b1 off1 5 c2) (c2 - 1) wx (HNG5.out wx hb) (by omega) (HTT5.out wx hb))
                have HUS := Lib.hid (fun (wx : World) (A5 : Option Addr) (c5 : Nat) (A7 : Option Addr) (c7 : Nat) (hb : Below wr.heap.size wr wx) (h1 : Sl wx (Lx (Ng g) wx) 1 A5 c5 ((intoR all[j] rows).map rowD)) (h2 : Sl wx (Lx (Ng g) wx) 5 A7 c7 ((List.replicate (all[j]).kids.length anyN ++ t).map GNode.toD)) =>
                  show Calls Tryz.prog 69 #[.pointer (some ⟨g, 0, none⟩), .slice A5 (intoR all[j] rows).length c5, .slice A7 ((all[j]).kids.length + t.length) c7] wx (UseTo 92 g (.slice A0 ds.length c0) (useF ds f s' (intoR all[j] rows) (List.replicate (all[j]).kids.length anyN ++ t)) wx) from by
                    have h := IH.out s' (intoR all[j] rows) (List.replicate (all[j]).kids.length anyN ++ t) A5 c5 A7 c7 wx (by omega) hs4 (Nat.le_trans intoR_len hrl) (by simp; omega) (by rw [List.length_append, List.length_replicate]; exact HRBI.out all[j]) (fun x hx => by
                      rcases List.mem_append.1 hx with h | h
                      · rw [(List.mem_replicate.1 h).2]; exact anyN_B _
                      · exact HNT.out x h) (HRG5.out _ hb) (HDS5.out _ hb) h1 h2
                    rw [List.length_append, List.length_replicate] at h
                    exact h)
                clear q0 q1 q2 q3 q4
                go_wp2_with fail
                go_region_held3 (fun w' => w'.cell? ⟨b6, off6 + j * 5, none⟩ = some (.int .i64 (all[j]).op) ∧ w'.cell? ⟨b6, off6 + j * 5 + 1, none⟩ = some (.int .i64 (all[j]).n) ∧ w'.cell? ⟨b6, off6 + j * 5 + 2, none⟩ = some (.string (all[j]).s) ∧ w'.cell? ⟨b6, off6 + j * 5 + 3, none⟩ = some (.string (all[j]).t) ∧ w'.cell? ⟨b6, off6 + j * 5 + 4, none⟩ = some (.slice A6 (all[j]).kids.length c6)) (first | exact hcp | exact kz | exact kc1 | exact kc2 | exact kc4 | exact kc5) (first
                  | (go_at_call 86
                     with_reducible refine (HOP.out wr.drew Bo0.out).mono ?_
                     rintro e xo1 ⟨AA1, cc1, rfl, hs1, hb1⟩
                     have Bo1 := Lib.hid (Bo0.out.trans (hb1.mono Bo0.out.size))
                     have OP_1 := Lib.hid hs1
                     have kc1 := HEL.out _ Bo1.out
                     clear hs1 hb1)
                  | (go_at_call 89
                     with_reducible refine (HAN.out xo1 Bo1.out).mono ?_
                     rintro e xo2 ⟨AA2, cc2, rfl, hs2, hb2⟩
                     have Bo2 := Lib.hid (Bo1.out.trans (hb2.mono Bo1.out.size))
                     have OP_2 := Lib.hid (OP_1.out.lx hb2)
                     have CO_2 := Lib.hid hs2
                     have kc2 := HEL.out _ Bo2.out
                     clear hs2 hb2)
                  | (go_at_call 69
                     with_reducible refine (HUS.out xo2 AA1 cc1 AA2 cc2 Bo2.out OP_2.out CO_2.out).mono ?_
                     rintro e w9 ⟨rfl, hR9, hT9⟩
                     have R9 := Lib.hid hR9
                     have kz := HEL2.out _ _ Bo2.out hT9
                     have T9 := Lib.hid ((HTN5.out _ Bo2.out).trans hT9)
                     clear hR9 hT9)
                  | (go_at_call 89
                     with_reducible refine (HAN.out wr.drew Bo0.out).mono ?_
                     rintro e xo4 ⟨AA4, cc4, rfl, hs4, hb4⟩
                     have Bo4 := Lib.hid (Bo0.out.trans (hb4.mono Bo0.out.size))
                     have CO_4 := Lib.hid hs4
                     have kc4 := HEL.out _ Bo4.out
                     clear hs4 hb4)
                  | (go_at_call 86
                     with_reducible refine (HOP.out xo4 Bo4.out).mono ?_
                     rintro e xo5 ⟨AA5, cc5, rfl, hs5, hb5⟩
                     have Bo5 := Lib.hid (Bo4.out.trans (hb5.mono Bo4.out.size))
                     have CO_5 := Lib.hid (CO_4.out.lx hb5)
                     have OP_5 := Lib.hid hs5
                     have kc5 := HEL.out _ Bo5.out
                     clear hs5 hb5)
                  | (go_at_call 69
                     with_reducible refine (HUS.out xo5 AA5 cc5 AA4 cc4 Bo5.out OP_5.out CO_5.out).mono ?_
                     rintro e w9 ⟨rfl, hR9, hT9⟩
                     have R9 := Lib.hid hR9
                     have kz := HEL2.out _ _ Bo5.out hT9
                     have T9 := Lib.hid ((HTN5.out _ Bo5.out).trans hT9)
                     clear hR9 hT9))
                all_goals
                  cases hr : (useF ds f s' (intoR all[j] rows) (List.replicate (all[j]).kids.length anyN ++ t)).1
                  · have HW := Lib.hid (HUM.out hr)
                    have hok := HOK.out.2 hr
                    have hok1 := HOK.out.1
                    clear hr
                    go_wp2_with fail
                    go_roundw
                    case rel => exact ⟨j + 1, _, by omega, by go_num, hok, by omega, HW, R9, T9⟩
                    case measure => simp [intOf]; omega
                  · have HW := Lib.hid (HUH.out hr)
                    have Hr := Lib.hid hr
                    clear hr
                    go_wp2_with fail
                    go_ret
                    rw [HV.out, HW.out]
                    exact ⟨ret_bool Hr.out.symm, R9.out, (HTN.out _ B4.out).trans T9.out⟩
              · have HE := Lib.hid (show useAll (useF ds f) rows t all (s + 1) = (false, s') by rw [HU.out, show j = all.length by omega, List.drop_length]; rfl)
                go_wp2_with fail
                go_ret
                rw [HV.out, HE.out]
                exact ⟨rfl, HRq.out, (HTN.out _ B4.out).trans HTq.out⟩
end Go.Proofs.YtgbcdfeflgnogaaGreat
