/- Texts of the claim LExactTrees in one: Draw CoverU CoverT CoverN CoverL CoverM TrH TrJ TrK. Conditions: none but bounds on sizes. -/
import Derived.Test.YtnpkmebnmklcfaaRows
import Derived.Test.YtnpkmebnmklcfaaZLExactTrees0
import Derived.Test.YtnpkmebnmklcfaaZLExactTrees1
import Derived.Test.YtnpkmebnmklcfaaZLExactTrees6
import Derived.Lib.Hide
import Derived.Deep.RegionHeld3
import Derived.Test.YtnpkmebnmklcfaaZLExactTrees5
import Derived.Test.YtnpkmebnmklcfaaZLExactTrees4
import Derived.Deep.CutRange
/- The cursor with which the laws draw their inputs from a row of bytes. Conditions: none. -/
namespace Go.Proofs.Ytnpkmebnmklcfaa
open Go.ChangeShapes Go.WideShapes Go.ChangeAt Go.RowKit Go.Deep
set_option linter.unusedVariables false
set_option linter.unusedSimpArgs false
set_option maxHeartbeats 1000000

theorem i64_and255 (n : Int) : bits .and .i64 n 255 = n % 256 := by
  have h127 : (BitVec.ofInt 64 255).toNat = 2 ^ 8 - 1 := by decide
  have key : (BitVec.ofInt 64 n &&& BitVec.ofInt 64 255).toNat = (n % ((2 ^ 64 : Nat) : Int)).toNat % 2 ^ 8 := by
    rw [BitVec.toNat_and, BitVec.toNat_ofInt, h127, Nat.and_two_pow_sub_one_eq_mod]
  show IntKind.i64.wrap ((BitVec.ofInt 64 n &&& BitVec.ofInt 64 255).toNat : Nat) = n % 256
  rw [key, IntKind.wrap_i64]
  omega

theorem i64_and30 (n : Int) : bits .and .i64 n 1073741823 = n % 1073741824 := by
  have h127 : (BitVec.ofInt 64 1073741823).toNat = 2 ^ 30 - 1 := by decide
  have key : (BitVec.ofInt 64 n &&& BitVec.ofInt 64 1073741823).toNat = (n % ((2 ^ 64 : Nat) : Int)).toNat % 2 ^ 30 := by
    rw [BitVec.toNat_and, BitVec.toNat_ofInt, h127, Nat.and_two_pow_sub_one_eq_mod]
  show IntKind.i64.wrap ((BitVec.ofInt 64 n &&& BitVec.ofInt 64 1073741823).toNat : Nat) = n % 1073741824
  rw [key, IntKind.wrap_i64]
  omega

theorem wf8 {a : Int} (h : (Lit.int .u8 a).wf = true) : 0 ≤ a ∧ a ≤ 255 := by
  simpa [Lit.wf, IntKind.min, IntKind.max, IntKind.signed, IntKind.bits] using h

/-- an element of a row of bytes -/
theorem byteElem {w : World} {S : Nat → Prop} {A : Option Addr} {c : Nat} {l : List Int} (h : Sl w S 1 A c (l.map (D.num .u8))) (i : Nat) (hi : i < l.length) :
    ∃ b off, A = some ⟨b, off, none⟩ ∧ S b ∧ w.cell? ⟨b, off + i, none⟩ = some (.int .u8 l[i]) ∧ 0 ≤ l[i] ∧ l[i] ≤ 255 := by
  obtain ⟨b, off, cs, e, hb, hl, hc, hr⟩ := Sl.get h i (by simpa using hi)
  rw [List.getElem_map] at hr
  obtain ⟨rfl, h1⟩ := D.rd_num.1 hr
  have h2 := hc 0 _ rfl
  rw [Nat.mul_one, Nat.add_zero] at h2
  exact ⟨b, off, e, hb, h2, wf8 h1⟩

theorem open_byte_el {H : Type} {enc : TypeId × Value → H} {P : Program} {w : World} {sp : Nat → Bool} {held : Bool} {e : TypeId} (he : P.underlying e = some (.int .u8)) {n : Nat} {cs : List Value} {x : DataW H × List MemPlace} (h : DataW.trod enc P w 0 sp held n e cs = some x) : ∃ a : Int, (D.num .u8 a).rd w (Lt w.heap.size) cs := by
  obtain ⟨a, rfl, _, hw⟩ := DataW.trod_int he h
  exact ⟨a, D.rd_num.2 ⟨rfl, hw⟩⟩

set_option maxRecDepth 20000 in
/-- an argument that is a row of bytes -/
theorem argBytes {H : Type} {enc : TypeId × Value → H} {w : World} {r : Go.Reach} {base : Nat} {sp : Nat → Bool} {held : Bool} {v : Value} {d : DataW H} {p : List MemPlace} (hv : Value.okWide Try.prog w r base 106 v) (h : DataW.Trod enc Try.prog w 0 sp held 106 v d p) :
    ∃ (l : List Int) (A : Option Addr) (c : Nat), v = .slice A l.length c ∧ Sl w (Lt w.heap.size) 1 A c (l.map (D.num .u8)) := by
  obtain ⟨a, len, cap, rfl⟩ := okWide_slice Try.underlying106 hv
  obtain ⟨fuel, hf⟩ := h
  obtain ⟨l, hl⟩ := open_sl 1 (by decide) Try.underlying106 (by kernel_rfl) (D.num .u8) (fun n2 cs x hn h => open_byte_el Try.underlying5 h) hf
  obtain ⟨A, c, e, hs⟩ := D.rd_sl.1 hl
  simp only [Value.cells, List.cons.injEq, List.length_map, and_true] at e
  exact ⟨l, A, c, e, hs⟩

/-- only block g may have turned -/
structure Turned (g : Nat) (w w' : World) : Prop where
  os : w'.os = w.os
  tape : w'.tape = w.tape
  output : w'.output = w.output
  size : w.heap.size ≤ w'.heap.size
  block : ∀ k, k < w.heap.size → k ≠ g → w'.heap[k]? = w.heap[k]?
theorem Turned.refl (g : Nat) (w : World) : Turned g w w := ⟨rfl, rfl, rfl, Nat.le_refl _, fun _ _ _ => rfl⟩
theorem Turned.trans {g : Nat} {a b c : World} (h : Turned g a b) (k : Turned g b c) : Turned g a c :=
  ⟨k.os.trans h.os, k.tape.trans h.tape, k.output.trans h.output, Nat.le_trans h.size k.size, fun i hi hg => (k.block i (Nat.lt_of_lt_of_le hi h.size) hg).trans (h.block i hi hg)⟩
theorem Turned.setCell {g : Nat} {a w : World} (h : Turned g a w) (i : Nat) (u : Value) : Turned g a (w.setCell ⟨g, i, none⟩ u) :=
  h.trans ⟨rfl, rfl, rfl, by simp [World.setCell], fun k _ hg => Below.heap_setCell _ _ _ _ hg⟩
theorem Turned.drew {g : Nat} {a w : World} (h : Turned g a w) : Turned g a w.drew := ⟨h.os, h.tape, h.output, h.size, h.block⟩
theorem Turned.alloc {g : Nat} {a w : World} (h : Turned g a w) (o : Obj) : Turned g a (w.alloc o) :=
  h.trans ⟨rfl, rfl, rfl, by simp, fun k hk _ => Below.heap_alloc _ _ _ hk⟩
theorem Turned.below {g B : Nat} {w w' : World} (h : Turned g w w') (hB : B ≤ w.heap.size) (hg : B ≤ g) : Below B w w' :=
  ⟨h.os, h.tape, h.output, h.size, fun k hk => h.block k (by omega) (by omega)⟩
theorem Row.turned {g : Nat} {w w' : World} {k : Nat} {t : TypeId} {cs : Array Value} (h : Row w k t cs) (ht : Turned g w w') (hk : k ≠ g) : Row w' k t cs := (ht.block k h.lt hk).trans h

theorem wrap_fit (n : Int) : -9223372036854775808 ≤ IntKind.i64.wrap n ∧ IntKind.i64.wrap n ≤ 9223372036854775807 := by
  rw [IntKind.wrap_i64]; omega

end Go.Proofs.Ytnpkmebnmklcfaa

/- Coverage: is a row useful behind others, in the program. Conditions: the sizes are bounded. -/
namespace Go.Proofs.Ytnpkmebnmklcfaa
open Go.RowKit
set_option linter.unusedVariables false
set_option linter.unusedSimpArgs false
set_option maxHeartbeats 1000000

theorem useF_over {ds : List GData} {f s : Nat} {rows : List (List GNode)} {row : List GNode} (h : 4000 < s + 1) : useF ds f s rows row = (true, s + 1) := by
  cases f with
  | zero => rfl
  | succ f => unfold useF; rw [if_pos h]
theorem useF_nil {ds : List GData} {f s : Nat} {rows : List (List GNode)} (h : ¬ 4000 < s + 1) : useF ds (f + 1) s rows [] = (rows.isEmpty, s + 1) := by rw [useF, if_neg h]
theorem useF_con {ds : List GData} {f s : Nat} {rows : List (List GNode)} {p : GNode} {t : List GNode} (h : ¬ 4000 < s + 1) (hp : isAnyB p = false) : useF ds (f + 1) s rows (p :: t) = useF ds f (s + 1) (intoR p rows) (p.kids ++ t) := by
  rw [useF, if_neg h]; simp only [hp]; rfl
theorem useF_none {ds : List GData} {f s : Nat} {rows : List (List GNode)} {p : GNode} {t : List GNode} (h : ¬ 4000 < s + 1) (hp : isAnyB p = true) (ha : allR ds rows = none) : useF ds (f + 1) s rows (p :: t) = useF ds f (s + 1) (restR rows) t := by
  rw [useF, if_neg h]; simp only [hp, ha, if_true]
theorem useF_all {ds : List GData} {f s : Nat} {rows : List (List GNode)} {p : GNode} {t all : List GNode} (h : ¬ 4000 < s + 1) (hp : isAnyB p = true) (ha : allR ds rows = some all) : useF ds (f + 1) s rows (p :: t) = useAll (useF ds f) rows t all (s + 1) := by
  rw [useF, if_neg h]; simp only [hp, ha, if_true]
theorem useAll_hit {g : Nat → List (List GNode) → List GNode → Bool × Nat} {rows : List (List GNode)} {t r : List GNode} {a : GNode} {s : Nat} (h : (g s (intoR a rows) (List.replicate a.kids.length anyN ++ t)).1 = true) : useAll g rows t (a :: r) s = g s (intoR a rows) (List.replicate a.kids.length anyN ++ t) := by rw [useAll, if_pos h]
theorem useAll_miss {g : Nat → List (List GNode) → List GNode → Bool × Nat} {rows : List (List GNode)} {t r : List GNode} {a : GNode} {s : Nat} (h : (g s (intoR a rows) (List.replicate a.kids.length anyN ++ t)).1 = false) : useAll g rows t (a :: r) s = useAll g rows t r (g s (intoR a rows) (List.replicate a.kids.length anyN ++ t)).2 := by rw [useAll, if_neg (by rw [h]; simp)]
def UseOk (s : Nat) (r : Bool × Nat) : Prop := s ≤ r.2 ∧ (r.1 = false → r.2 ≤ 4000)
theorem useAll_ok {g : Nat → List (List GNode) → List GNode → Bool × Nat} {rows : List (List GNode)} {t : List GNode} {s0 : Nat} (hg : ∀ s rows row, s0 ≤ s → UseOk s (g s rows row)) : ∀ (l : List GNode) (s : Nat), s0 ≤ s → s ≤ 4000 → UseOk s (useAll g rows t l s)
  | [], s, h0, h => ⟨Nat.le_refl _, fun _ => h⟩
  | a :: r, s, h0, h => by
    have h1 := hg s (intoR a rows) (List.replicate a.kids.length anyN ++ t) h0
    cases hr : (g s (intoR a rows) (List.replicate a.kids.length anyN ++ t)).1 with
    | true => rw [useAll_hit hr]; exact h1
    | false =>
      rw [useAll_miss hr]
      have h2 := useAll_ok (rows := rows) (t := t) hg r _ (Nat.le_trans h0 h1.1) (h1.2 hr)
      exact ⟨Nat.le_trans h1.1 h2.1, h2.2⟩
theorem useF_ok (ds : List GData) : ∀ (f s : Nat) (rows : List (List GNode)) (row : List GNode), 4001 ≤ f + s → UseOk s (useF ds f s rows row)
  | 0, s, rows, row, h => ⟨Nat.le_succ _, fun e => by simp [useF] at e⟩
  | f + 1, s, rows, row, h => by
    by_cases ho : 4000 < s + 1
    · rw [useF_over ho]; exact ⟨Nat.le_succ _, fun e => by simp at e⟩
    · cases row with
      | nil => rw [useF_nil ho]; exact ⟨Nat.le_succ _, fun _ => by simp; omega⟩
      | cons p t =>
        cases hp : isAnyB p with
        | false =>
          rw [useF_con ho hp]
          have h1 := useF_ok ds f (s + 1) (intoR p rows) (p.kids ++ t) (by omega)
          exact ⟨by have := h1.1; omega, h1.2⟩
        | true =>
          cases ha : allR ds rows with
          | none =>
            rw [useF_none ho hp ha]
            have h1 := useF_ok ds f (s + 1) (restR rows) t (by omega)
            exact ⟨by have := h1.1; omega, h1.2⟩
          | some all =>
            rw [useF_all ho hp ha]
            have h1 := useAll_ok (g := useF ds f) (rows := rows) (t := t) (s0 := s + 1) (fun s' r' w' hs => useF_ok ds f s' r' w' (by omega)) all (s + 1) (Nat.le_refl _) (by omega)
            exact ⟨by have := h1.1; omega, h1.2⟩
theorem intoR_len {p : GNode} {rows : List (List GNode)} : (intoR p rows).length ≤ rows.length := List.length_filterMap_le _ _
theorem restR_len {rows : List (List GNode)} : (restR rows).length ≤ rows.length := List.length_filterMap_le _ _
theorem conN_kids (k : GCon) : (conN k).kids = List.replicate k.args.length anyN := rfl
theorem allR_kids {ds : List GData} {rows : List (List GNode)} {all : List GNode} {M : Nat} (hM : ∀ d ∈ ds, d.cons.length ≤ M ∧ ∀ k ∈ d.cons, k.args.length ≤ M) (h : allR ds rows = some all) : all.length ≤ M ∧ ∀ a ∈ all, a.kids.length ≤ M := by
  rcases dataAt_range ds rows with hr | ⟨j, hj, hr⟩
  · rw [allR_neg (by omega)] at h; cases h
  · rw [allR_at hr hj] at h
    split at h
    · simp only [Option.some.injEq] at h
      subst h
      have := hM _ (List.getElem_mem hj)
      refine ⟨by simpa using this.1, fun a ha => ?_⟩
      obtain ⟨k, hk, rfl⟩ := List.mem_map.1 ha
      rw [conN_kids]; simpa using this.2 k hk
    · cases h

/-- the counter in block g turned, and nothing else that was there -/
def UseTo (T : TypeId) (g : Nat) (L : Value) (r : Bool × Nat) (w : World) (e : Ending) (w' : World) : Prop := e = .returned (.bool r.1) ∧ Row w' g T #[L, .int .i64 (r.2 : Int)] ∧ Turned g w w'
/-- where data may lie beside the counter -/
def Ng (g : Nat) : Nat → Prop := fun b => b ≠ g
theorem Sl.turned {g : Nat} {w w' : World} {size : Nat} {A : Option Addr} {c : Nat} {xs : List D} (h : Sl w (Lx (Ng g) w) size A c xs) (ht : Turned g w w') : Sl w' (Lx (Ng g) w') size A c xs := h.keep fun b hb => ⟨⟨Nat.lt_of_lt_of_le hb.1 ht.size, hb.2⟩, ht.block b hb.1 hb.2⟩
theorem Turned.ofBelow {g : Nat} {a w w' : World} (h : Turned g a w) (hb : Below w.heap.size w w') : Turned g a w' := h.trans ⟨hb.os, hb.tape, hb.output, hb.size, fun k hk _ => hb.block k hk⟩

end Go.Proofs.Ytnpkmebnmklcfaa

/- Coverage: is a row useful behind others, in the reference. Conditions: the sizes are bounded. -/
namespace Go.Proofs.Ytnpkmebnmklcfaa
open Go.RowKit
set_option linter.unusedVariables false
set_option linter.unusedSimpArgs false
set_option maxHeartbeats 1000000

end Go.Proofs.Ytnpkmebnmklcfaa

/- Coverage: what begins with anything is alike, whatever it is called (no program in sight). Conditions: none. -/
namespace Go.Proofs.Ytnpkmebnmklcfaa
open Go.RowKit
set_option linter.unusedVariables false
set_option linter.unusedSimpArgs false

def nrm (x : GNode) : GNode := if isAnyB x = true then anyN else x
theorem anyN_any : isAnyB anyN = true := rfl
theorem nrm_any {x : GNode} (h : isAnyB x = true) : nrm x = anyN := if_pos h
theorem nrm_con {x : GNode} (h : isAnyB x = false) : nrm x = x := if_neg (by rw [h]; simp)
theorem nrm_isAny (x : GNode) : isAnyB (nrm x) = isAnyB x := by
  cases h : isAnyB x
  · rw [nrm_con h, h]
  · rw [nrm_any h]; rfl
/-- two patterns that are one but for what anything is called -/
theorem nrm_cases {x y : GNode} (h : nrm x = nrm y) : (isAnyB x = true ∧ isAnyB y = true) ∨ (isAnyB x = false ∧ x = y) := by
  have h1 : isAnyB x = isAnyB y := by rw [← nrm_isAny x, h, nrm_isAny]
  cases hx : isAnyB x
  · rw [hx] at h1
    rw [nrm_con hx, nrm_con h1.symm] at h
    exact .inr ⟨rfl, h⟩
  · rw [hx] at h1
    exact .inl ⟨rfl, h1.symm⟩
abbrev nr (r : List GNode) : List GNode := r.map nrm
theorem isAny_op {x : GNode} (h : isAnyB x = true) : x.op ≠ 20 := fun e => by rw [isAny_con (by simp [e])] at h; cases h
theorem nr_cons {x : GNode} {t r : List GNode} (h : nr (x :: t) = nr r) : ∃ y u, r = y :: u ∧ nrm x = nrm y ∧ nr t = nr u := by
  cases r with
  | nil => simp at h
  | cons y u => simp only [nr, List.map_cons, List.cons.injEq] at h; exact ⟨y, u, rfl, h.1, h.2⟩
theorem into1_nr (p : GNode) {r r' : List GNode} (h : nr r = nr r') : (into1 p r).map nr = (into1 p r').map nr := by
  cases r with
  | nil =>
    cases r' with
    | nil => rfl
    | cons y u => simp at h
  | cons x t =>
    obtain ⟨y, u, rfl, h1, h2⟩ := nr_cons h
    rw [into1_cons, into1_cons]
    rcases nrm_cases h1 with ⟨a, b⟩ | ⟨a, rfl⟩
    · rw [if_pos a, if_pos b]; simp [nr, h2]
    · simp only [a, Bool.false_eq_true, if_false]
      cases alikeB x p
      · rfl
      · simp [nr, h2]
theorem rest1_nr {r r' : List GNode} (h : nr r = nr r') : (rest1 r).map nr = (rest1 r').map nr := by
  cases r with
  | nil =>
    cases r' with
    | nil => rfl
    | cons y u => simp at h
  | cons x t =>
    obtain ⟨y, u, rfl, h1, h2⟩ := nr_cons h
    rw [rest1_cons, rest1_cons]
    rcases nrm_cases h1 with ⟨a, b⟩ | ⟨a, rfl⟩
    · rw [if_pos a, if_pos b]; simp [nr, h2]
    · simp only [a, Bool.false_eq_true, if_false]
theorem fm_nr {f g : List GNode → Option (List GNode)} (hf : ∀ r r', nr r = nr r' → (f r).map nr = (g r').map nr) : ∀ {rows rows' : List (List GNode)}, rows.map nr = rows'.map nr → (rows.filterMap f).map nr = (rows'.filterMap g).map nr
  | [], [], _ => rfl
  | [], b :: l, h => by simp at h
  | a :: l, [], h => by simp at h
  | a :: l, b :: k, h => by
    simp only [List.map_cons, List.cons.injEq] at h
    have h1 := hf a b h.1
    have h2 := fm_nr hf h.2
    rw [List.filterMap_cons, List.filterMap_cons]
    cases ha : f a <;> cases hb : g b <;> rw [ha, hb] at h1 <;> simp at h1
    · exact h2
    · simp only [List.map_cons, h2]; rw [show nr _ = nr _ from h1]
theorem hd_nr {r r' : List GNode} (h : nr r = nr r') : ((hd r).op = 20 ↔ (hd r').op = 20) ∧ ((hd r).op = 20 → (hd r).s = (hd r').s) := by
  cases r with
  | nil =>
    cases r' with
    | nil => exact ⟨Iff.rfl, fun _ => rfl⟩
    | cons y u => simp at h
  | cons x t =>
    obtain ⟨y, u, rfl, h1, h2⟩ := nr_cons h
    rcases nrm_cases h1 with ⟨a, b⟩ | ⟨a, rfl⟩
    · exact ⟨⟨fun e => absurd e (isAny_op a), fun e => absurd e (isAny_op b)⟩, fun e => absurd e (isAny_op a)⟩
    · exact ⟨Iff.rfl, fun _ => rfl⟩
theorem dataStep_nr (ds : List GData) (a : Int) {r r' : List GNode} (h : nr r = nr r') : dataStep ds a r = dataStep ds a r' := by
  obtain ⟨h1, h2⟩ := hd_nr h
  unfold dataStep
  by_cases hc : a < 0 ∧ (hd r).op = 20
  · rw [if_pos hc, if_pos ⟨hc.1, h1.1 hc.2⟩, h2 hc.2]
  · rw [if_neg hc, if_neg (fun e => hc ⟨e.1, h1.2 e.2⟩)]
theorem dataFold_nr (ds : List GData) : ∀ {rows rows' : List (List GNode)} (a : Int), rows.map nr = rows'.map nr → rows.foldl (dataStep ds) a = rows'.foldl (dataStep ds) a
  | [], [], _, _ => rfl
  | [], b :: l, _, h => by simp at h
  | a :: l, [], _, h => by simp at h
  | x :: l, y :: k, a, h => by
    simp only [List.map_cons, List.cons.injEq] at h
    rw [List.foldl_cons, List.foldl_cons, dataStep_nr ds a h.1, dataFold_nr ds _ h.2]
theorem headIs_nr (s : ByteArray) {r r' : List GNode} (h : nr r = nr r') : headIs s r = headIs s r' := by
  obtain ⟨h1, h2⟩ := hd_nr h
  unfold headIs
  by_cases hc : (hd r).op = 20
  · rw [h2 hc]; simp [hc, h1.1 hc]
  · have : ¬ (hd r').op = 20 := fun e => hc (h1.2 e)
    rw [show ((hd r).op == 20) = false from beq_eq_false_iff_ne.2 hc, show ((hd r').op == 20) = false from beq_eq_false_iff_ne.2 this]; rfl
theorem any_nr (s : ByteArray) : ∀ {rows rows' : List (List GNode)}, rows.map nr = rows'.map nr → rows.any (headIs s) = rows'.any (headIs s)
  | [], [], _ => rfl
  | [], b :: l, h => by simp at h
  | a :: l, [], h => by simp at h
  | x :: l, y :: k, h => by
    simp only [List.map_cons, List.cons.injEq] at h
    rw [List.any_cons, List.any_cons, headIs_nr s h.1, any_nr s h.2]
theorem allR_nr (ds : List GData) {rows rows' : List (List GNode)} (h : rows.map nr = rows'.map nr) : allR ds rows = allR ds rows' := by
  have h1 : dataAt ds rows = dataAt ds rows' := dataFold_nr ds (-1) h
  have h2 : ∀ cs, allIn rows cs = allIn rows' cs := fun cs => by unfold allIn; congr 1; funext k; exact any_nr k.name h
  unfold allR
  rw [h1]
  split
  · rfl
  · split
    · rfl
    · rw [h2]
theorem intoR_nr (p : GNode) {rows rows' : List (List GNode)} (h : rows.map nr = rows'.map nr) : (intoR p rows).map nr = (intoR p rows').map nr := fm_nr (fun _ _ h => into1_nr p h) h
theorem restR_nr {rows rows' : List (List GNode)} (h : rows.map nr = rows'.map nr) : (restR rows).map nr = (restR rows').map nr := fm_nr (fun _ _ h => rest1_nr h) h
theorem empty_nr {rows rows' : List (List GNode)} (h : rows.map nr = rows'.map nr) : rows.isEmpty = rows'.isEmpty := by
  cases rows <;> cases rows' <;> first | rfl | simp at h
theorem useAll_nr {g : Nat → List (List GNode) → List GNode → Bool × Nat} (hg : ∀ s rows rows' row row', rows.map nr = rows'.map nr → nr row = nr row' → g s rows row = g s rows' row') {rows rows' : List (List GNode)} {t t' : List GNode} (h1 : rows.map nr = rows'.map nr) (h2 : nr t = nr t') : ∀ (l : List GNode) (s : Nat), useAll g rows t l s = useAll g rows' t' l s
  | [], s => rfl
  | a :: r, s => by
    have h := hg s (intoR a rows) (intoR a rows') (List.replicate a.kids.length anyN ++ t) (List.replicate a.kids.length anyN ++ t') (intoR_nr a h1) (by simp [nr, h2])
    cases hc : (g s (intoR a rows) (List.replicate a.kids.length anyN ++ t)).1 with
    | true => rw [useAll_hit hc, useAll_hit (by rw [← h]; exact hc), h]
    | false => rw [useAll_miss hc, useAll_miss (by rw [← h]; exact hc), h, useAll_nr hg h1 h2 r _]
theorem useF_nr (ds : List GData) : ∀ (f s : Nat) (rows rows' : List (List GNode)) (row row' : List GNode), rows.map nr = rows'.map nr → nr row = nr row' → useF ds f s rows row = useF ds f s rows' row'
  | 0, _, _, _, _, _, _, _ => rfl
  | f + 1, s, rows, rows', row, row', h1, h2 => by
    by_cases ho : 4000 < s + 1
    · rw [useF_over ho, useF_over ho]
    · cases row with
      | nil =>
        cases row' with
        | nil => rw [useF_nil ho, useF_nil ho, empty_nr h1]
        | cons y u => simp at h2
      | cons p t =>
        obtain ⟨q, u, rfl, e1, e2⟩ := nr_cons h2
        rcases nrm_cases e1 with ⟨a, b⟩ | ⟨a, rfl⟩
        · have ha := allR_nr ds h1
          cases hr : allR ds rows with
          | none => rw [useF_none ho a hr, useF_none ho b (by rw [← ha]; exact hr)]; exact useF_nr ds f _ _ _ _ _ (restR_nr h1) e2
          | some all => rw [useF_all ho a hr, useF_all ho b (by rw [← ha]; exact hr)]; exact useAll_nr (fun s r r' w w' => useF_nr ds f s r r' w w') h1 e2 all _
        · rw [useF_con ho a, useF_con ho a]
          exact useF_nr ds f _ _ _ _ _ (intoR_nr p h1) (by simp [nr, e2])
theorem usefulV_nr (ds : List GData) {rows rows' : List (List GNode)} {row row' : List GNode} (h1 : rows.map nr = rows'.map nr) (h2 : nr row = nr row') : usefulV ds rows row = usefulV ds rows' row' := by
  have hl : row.length = row'.length := by have := congrArg List.length h2; simpa using this
  have ha : ∀ {rows rows' : List (List GNode)}, rows.map nr = rows'.map nr → (rows.all fun r => r.length == row'.length) = (rows'.all fun r => r.length == row'.length) := by
    intro rows
    induction rows with
    | nil => intro rows' h; cases rows' with
      | nil => rfl
      | cons y u => simp at h
    | cons x l ih => intro rows' h; cases rows' with
      | nil => simp at h
      | cons y k =>
        simp only [List.map_cons, List.cons.injEq] at h
        have e : x.length = y.length := by have := congrArg List.length h.1; simpa using this
        rw [List.all_cons, List.all_cons, ih h.2, e]
  unfold usefulV
  rw [hl, ha h1, useF_nr ds 4001 0 rows rows' row row' h1 h2]

/-- the pattern of an alternative, as the program has it -/
def zeroN : GNode := .mk 0 0 ByteArray.empty ByteArray.empty []
def patI (a : GNode) : GNode := a.kids.headD zeroN
theorem nrm_pat (a : GNode) : nrm (patI a) = nrm (patOf a) := by
  unfold patI patOf hd
  cases a.kids <;> rfl
def rowsOf (f : GNode → GNode) (alts : List GNode) : List (List GNode) := alts.map fun a => [f a]
def missingG (f : GNode → GNode) (ds : List GData) (alts : List GNode) : Bool := usefulV ds (rowsOf f alts) [anyN]
def idleG (f : GNode → GNode) (ds : List GData) (alts : List GNode) : Int := idxI (fun i => !usefulV ds ((rowsOf f alts).take i) [f (alts.getD i anyN)]) (List.range alts.length)
theorem rowsOf_nr (alts : List GNode) : (rowsOf patI alts).map nr = (rowsOf patOf alts).map nr := by
  unfold rowsOf; simp [nr, nrm_pat]
theorem missing_eq (ds : List GData) (alts : List GNode) : missingG patI ds alts = missingG patOf ds alts := usefulV_nr ds (rowsOf_nr alts) rfl
theorem idle_eq (ds : List GData) (alts : List GNode) : idleG patI ds alts = idleG patOf ds alts := by
  unfold idleG
  congr 1
  funext i
  rw [usefulV_nr ds (rows' := (rowsOf patOf alts).take i) (row' := [patOf (alts.getD i anyN)]) (by rw [List.map_take, List.map_take, rowsOf_nr]) (by simp [nr, nrm_pat])]
end Go.Proofs.Ytnpkmebnmklcfaa

/- Coverage: Useful, Missing and Idle of both, against what they compute. Conditions: the sizes are bounded. -/
namespace Go.Proofs.Ytnpkmebnmklcfaa
open Go.RowKit
set_option linter.unusedVariables false
set_option linter.unusedSimpArgs false
set_option maxHeartbeats 1000000

theorem dsM {ds : List GData} (h : bulkL GData.bulk ds ≤ 1048576) : ∀ d ∈ ds, d.cons.length ≤ 1048576 ∧ ∀ k ∈ d.cons, k.args.length ≤ 1048576 := fun d hd => by
  have h1 := bulkL_mem GData.bulk ds d hd
  have h2 := d.bulk_eq
  have h3 := bulkL_len GCon.bulk d.cons
  refine ⟨by omega, fun k hk => ?_⟩
  have h4 := bulkL_mem GCon.bulk d.cons k hk
  have h5 := k.bulk_eq
  have h6 := bulkL_len GTy.bulk k.args
  omega
theorem len_ne {r row : List GNode} (h : r.length ≠ row.length) : ((r.length : Int) != (row.length : Int)) = true := by simp [bne]; omega
/-- what Useful asks of its arguments -/
structure UseIn (ds : List GData) (A0 : Option Addr) (c0 : Nat) (rows : List (List GNode)) (A : Option Addr) (c : Nat) (row : List GNode) (A2 : Option Addr) (c2 : Nat) (w : World) : Prop where
  ds : Sl w (Lt w.heap.size) 3 A0 c0 (ds.map GData.toD)
  rows : Sl w (Lt w.heap.size) 1 A c (rows.map rowD)
  row : Sl w (Lt w.heap.size) 5 A2 c2 (row.map GNode.toD)
theorem UseIn.lx {ds : List GData} {A0 : Option Addr} {c0 : Nat} {rows : List (List GNode)} {A : Option Addr} {c : Nat} {row : List GNode} {A2 : Option Addr} {c2 : Nat} {w w' : World} (h : UseIn ds A0 c0 rows A c row A2 c2 w) (hb : Below w.heap.size w w') (g : Nat) (hg : w.heap.size ≤ g) :
    Sl w' (Lx (Ng g) w') 3 A0 c0 (ds.map GData.toD) ∧ Sl w' (Lx (Ng g) w') 1 A c (rows.map rowD) ∧ Sl w' (Lx (Ng g) w') 5 A2 c2 (row.map GNode.toD) := by
  have hk : ∀ b, Lt w.heap.size b → Lx (Ng g) w' b ∧ w'.heap[b]? = w.heap[b]? := fun b h => ⟨⟨Nat.lt_of_lt_of_le h hb.size, fun e => by unfold Lt at h; omega⟩, hb.block b h⟩
  exact ⟨h.ds.keep hk, h.rows.keep hk, h.row.keep hk⟩
theorem rowsB_of {rows : List (List GNode)} {n : Nat} (h : (rows.all fun r => r.length == n) = true) (hB : ∀ r ∈ rows, ∀ x ∈ r, nodeB 1048576 x) : RowsB 1048576 n rows := fun r hr => by
  rw [List.all_eq_true] at h
  exact ⟨by simpa using h r hr, hB r hr⟩

end Go.Proofs.Ytnpkmebnmklcfaa

/- Coverage: the rows of alternatives, in both. Conditions: the sizes are bounded. -/
namespace Go.Proofs.Ytnpkmebnmklcfaa
open Go.RowKit
set_option linter.unusedVariables false
set_option linter.unusedSimpArgs false
set_option maxHeartbeats 1000000

/-- rows that both hand back -/
def RowsTo (rows : List (List GNode)) (w : World) (e : Ending) (w' : World) : Prop := ∃ A c, e = .returned (.slice A rows.length c) ∧ Sl w' (Lt w'.heap.size) 1 A c (rows.map rowD) ∧ Below w.heap.size w w'
theorem anyN_cells (w : World) (S : Nat → Prop) : anyN.toD.rd w S [.int .i64 17, .int .i64 0, .string ⟨#[]⟩, .string ⟨#[]⟩, .slice none 0 0] := anyN_rd w S 0 (Nat.zero_le _) none
def TrX : Nat → Prop := fun _ => True
theorem rowsOf_take {f : GNode → GNode} {alts : List GNode} {j : Nat} (h : j < alts.length) : rowsOf f (alts.take (j + 1)) = rowsOf f (alts.take j) ++ [[f alts[j]]] := by
  unfold rowsOf; rw [take_snoc' alts j h, List.map_append]; rfl
theorem patOf_cons {a k : GNode} {r : List GNode} (h : a.kids = k :: r) : patOf a = k := by unfold patOf hd; rw [h]; rfl
theorem patOf_nil {a : GNode} (h : a.kids = []) : patOf a = anyN := by unfold patOf hd; rw [h]; rfl
theorem patI_cons {a k : GNode} {r : List GNode} (h : a.kids = k :: r) : patI a = k := by unfold patI; rw [h]; rfl
theorem patI_nil {a : GNode} (h : a.kids = []) : patI a = zeroN := by unfold patI; rw [h]; rfl

/-- a pattern that is handed back -/
def PatTo (S : Nat → Prop) (p : GNode) (w : World) (e : Ending) (w' : World) : Prop := ∃ A c, e = .returned (.agg #[.int .i64 p.op, .int .i64 p.n, .string p.s, .string p.t, .slice A p.kids.length c]) ∧ GNode.At w' S A c p ∧ Below w.heap.size w w'
set_option maxRecDepth 20000 in
theorem implPatternOf (S : Nat → Prop) (a : GNode) (A1 : Option Addr) (c1 : Nat) (w : World) (hS : ∀ b, S b → b < w.heap.size) (hat : GNode.At w S A1 c1 a) :
    Calls Try.prog 25 #[.agg #[.int .i64 a.op, .int .i64 a.n, .string a.s, .string a.t, .slice A1 a.kids.length c1]] w (PatTo S (patI a) w) := by
  have HSS := Lib.hid hS
  clear hS
  obtain ⟨w0, e0⟩ : ∃ w0, w0 = (w.alloc (.cells #[.int .i64 a.op, .int .i64 a.n, .string a.s, .string a.t, .slice A1 a.kids.length c1] 55)).alloc (.cells #[.int .i64 0, .int .i64 0, .string ⟨#[]⟩, .string ⟨#[]⟩, .slice none 0 0] 55) := ⟨_, rfl⟩
  have E0 := Lib.hid (show Below w.heap.size w w0 by rw [e0]; exact ((Below.refl _ _).alloc (Nat.le_refl _) _).alloc (by simp) _)
  have hkm : a.kids.length ≤ 9223372036854775807 := by simpa using hat.2.2.2.2.len
  cases hks : a.kids with
  | nil =>
    have HV := Lib.hid (patI_nil hks)
    have EQ := Lib.hid e0
    rw [hks] at EQ
    clear hks hat e0
    go_enter Try.func25, Try.ntmps25
    go_wp2_with fail
    refine bodyPost_ret (v := .agg #[.int .i64 0, .int .i64 0, .string ⟨#[]⟩, .string ⟨#[]⟩, .slice none 0 0]) (by simp [results, Try.results25, go_sem]) rfl ?_
    rw [HV.out]
    refine ⟨none, 0, rfl, ⟨(show (Lit.int IntKind.i64 0).wf = true by decide), (show (Lit.int IntKind.i64 0).wf = true by decide), (show ByteArray.empty.size ≤ maxLen by unfold maxLen; simp), (show ByteArray.empty.size ≤ maxLen by unfold maxLen; simp), Sl.nil (Nat.zero_le _)⟩, ?_⟩
    have := E0.out
    rw [EQ.out] at this
    exact this
  | cons k r =>
    have hat2 := hat.2.2.2.2
    rw [hks] at hat2
    obtain ⟨b, off, A2, c2, rfl, hSb, q0, q1, q2, q3, q4, hk⟩ := GNode.elem hat2 0 (by simp)
    simp only [Nat.zero_mul, Nat.add_zero, List.getElem_cons_zero] at q0 q1 q2 q3 q4 hk
    have HV := Lib.hid (patI_cons hks)
    have HK := Lib.hid hk
    have k0 := (E0.out.cell (p := ⟨b, off, none⟩) (HSS.out b hSb)).trans q0
    have k1 := (E0.out.cell (p := ⟨b, off + 1, none⟩) (HSS.out b hSb)).trans q1
    have k2 := (E0.out.cell (p := ⟨b, off + 2, none⟩) (HSS.out b hSb)).trans q2
    have k3 := (E0.out.cell (p := ⟨b, off + 3, none⟩) (HSS.out b hSb)).trans q3
    have k4 := (E0.out.cell (p := ⟨b, off + 4, none⟩) (HSS.out b hSb)).trans q4
    rw [e0] at k0 k1 k2 k3 k4
    have EQ := Lib.hid e0
    have hl : a.kids.length = r.length + 1 := by rw [hks]; rfl
    rw [hl] at hkm EQ k0 k1 k2 k3 k4
    rw [List.length_cons]
    clear hks hat e0 hat2 hk q0 q1 q2 q3 q4 hl
    go_enter Try.func25, Try.ntmps25
    go_wp2_with fail
    refine bodyPost_ret (v := .agg #[.int .i64 k.op, .int .i64 k.n, .string k.s, .string k.t, .slice A2 k.kids.length c2]) (by simp [results, Try.results25, go_sem]) rfl ?_
    rw [HV.out]
    exact (fun (BB : Below w.heap.size w _) => ⟨A2, c2, rfl, HK.out.keep fun x hx => ⟨hx, BB.block x (HSS.out x hx)⟩, BB⟩) (((Below.refl _ _).alloc (Nat.le_refl _) _).alloc (by simp) _)

set_option maxRecDepth 20000 in
theorem specRows (alts : List GNode) (A : Option Addr) (c : Nat) (w : World) (hl : alts.length ≤ 1048576) (hs : Sl w (Lt w.heap.size) 5 A c (alts.map GNode.toD)) :
    Calls Try.prog 19 #[.slice A alts.length c] w (RowsTo (rowsOf patOf alts) w) := by
  have HS := Lib.hid hs
  have hlm : alts.length ≤ 9223372036854775807 := by omega
  obtain ⟨w0, e0⟩ : ∃ w0, w0 = w.alloc (.cells #[] 34) := ⟨_, rfl⟩
  have E0 := Lib.hid (show Below w.heap.size w w0 by rw [e0]; exact (Below.refl _ _).alloc (Nat.le_refl _) _)
  have G0 := Lib.hid (show Grx TrX w0 w.heap.size 34 1 (.slice (some ⟨w.heap.size, 0, none⟩) 0 0) 0 [] from Grx.made (by rw [e0]; exact Row.new' _ _ _ rfl) (Nat.le_refl _))
  clear hs
  go_enter Try.func19, Try.ntmps19
  go_wp2_with fail
  rw [← e0]
  clear e0
  go_loopw [3, 4] (fun v i wr => ∃ (j : Nat) (A : Option Addr) (c : Nat), j ≤ alts.length ∧ i = .int .i64 j ∧ v = .slice A j c ∧ Hid (Grx TrX wr w.heap.size 34 1 (.slice A j c) j ((rowsOf patOf (alts.take j)).map rowD)) ∧ Hid (Below w.heap.size w wr)) (fun _ i _ => alts.length - (intOf i).toNat)
  case atStart => exact ⟨0, _, _, by omega, by go_num, rfl, G0, E0⟩
  case round =>
    clear G0 E0
    obtain ⟨j, A', c', hj, rfl, rfl, HG, HB⟩ := hrel
    have hsz := HB.out.size
    have HOW := Lib.hid (fun g (hg : (Value.slice A' j c').ownBlock = some g) => HG.out.own g hg)
    by_cases hlt : j < alts.length
    · obtain ⟨b, off, A1, c1, rfl, hSb, q0, q1, q2, q3, q4, hat⟩ := GNode.elem (HS.out.keep (w' := wr) (S' := Lt w.heap.size) fun k hk => ⟨hk, HB.out.block k hk⟩) j hlt
      have HT := Lib.hid (rowsOf_take (f := patOf) hlt)
      have hkm : (alts[j]).kids.length ≤ 9223372036854775807 := by simpa using hat.2.2.2.2.len
      obtain ⟨wa, ea⟩ : ∃ wa, wa = wr.alloc (.cells #[.int .i64 17, .int .i64 0, .string ⟨#[]⟩, .string ⟨#[]⟩, .slice none 0 0] 55) := ⟨_, rfl⟩
      have EA := Lib.hid (show Below wr.heap.size wr wa by rw [ea]; exact (Below.refl _ _).alloc (Nat.le_refl _) _)
      have RA := Lib.hid (show Row wa wr.heap.size 55 #[.int .i64 17, .int .i64 0, .string ⟨#[]⟩, .string ⟨#[]⟩, .slice none 0 0] by rw [ea]; exact Row.new' _ _ _ rfl)
      have hsa := Nat.le_trans hsz EA.out.size
      have k4 := (EA.out.cell (p := ⟨b, off + j * 5 + 4, none⟩) (Nat.lt_of_lt_of_le hSb hsz)).trans q4
      cases hks : (alts[j]).kids with
      | nil =>
        have HV := Lib.hid (show patOf alts[j] = anyN from patOf_nil hks)
        rw [hks] at k4
        rw [ea] at k4
        have hwa : wa.heap.size = wr.heap.size + 1 := by rw [ea]; simp
        obtain ⟨w3, e3⟩ : ∃ w3, w3 = wa.alloc (.cells #[.slice (some ⟨wr.heap.size, 0, none⟩) 1 1] 34) := ⟨_, rfl⟩
        have E3 := Lib.hid (show Below wa.heap.size wa w3 by rw [e3]; exact (Below.refl _ _).alloc (Nat.le_refl _) _)
        have T3 := Lib.hid (oneRow (X := TrX) (r := [anyN]) (w' := w3) (T := 34) (Value.slice A' j c') (fun g hg => Nat.lt_of_lt_of_le (HOW.out g hg).2 EA.out.size) trivial e3
          (slOne RA.out (anyN_cells _ _) rfl ⟨RA.out.lt, fun e => by have := (HOW.out _ e).2; omega, trivial⟩))
        have T3x := Lib.hid (show Sl w3 (fun b => b < w3.heap.size ∧ (Value.slice A' j c').ownBlock ≠ some b ∧ TrX b) 1 (some ⟨wr.heap.size + 1, 0, none⟩) 1 ([[anyN]].map rowD) from by have h := T3.out; rw [hwa] at h; exact h)
        clear hwa
        have G3 := Lib.hid ((HG.out.below EA.out).below E3.out)
        have hs3 := Nat.le_trans hsa E3.out.size
        have B3 := Lib.hid ((HB.out.trans (EA.out.mono hsz)).trans (E3.out.mono hsa))
        clear hat hks q0 q1 q2 q3 q4
        go_wp2_with (first | (at_builtin; rw [← ea, ← e3]; refine wpList_append_X w3 rfl (.tmp 30) (.tmp 32) 51 rfl 34 zRow 1 24 Try.underlying51 (by kernel_rfl) rfl (by omega) w.heap.size (.slice A' j c') j _ G3.out (some ⟨wr.heap.size + 1, 0, none⟩) 1 1 _ rfl T3x.out hs3 (by unfold maxLen; omega) (by omega) rfl rfl ?_; intro A4 c4 w4 G4 hGr4; have G4h := Lib.hid G4; have B4 := Lib.hid (B3.out.trans (hGr4.below hs3 (fun g hg => (HOW.out g hg).1))); clear G4 hGr4))
        go_roundw
        case rel => exact ⟨j + 1, A4, c4, by omega, by go_num, rfl, Lib.hid (by rw [HT.out, HV.out, List.map_append]; exact G4h.out), B4⟩
        case measure => simp [intOf]; omega
      | cons k r =>
        have hl : (alts[j]).kids.length = r.length + 1 := by rw [hks]; rfl
        have HV := Lib.hid (show patOf alts[j] = k from patOf_cons hks)
        have hat2 := hat.2.2.2.2
        rw [hks] at hat2
        obtain ⟨bk, offk, A2, c2, rfl, hSk, p0, p1, p2, p3, p4, hk⟩ := GNode.elem hat2 0 (by simp)
        simp only [Nat.zero_mul, Nat.add_zero, List.getElem_cons_zero] at p0 p1 p2 p3 p4 hk
        rw [hl] at k4 hkm
        have m0 := (EA.out.cell (p := ⟨bk, offk, none⟩) (Nat.lt_of_lt_of_le hSk hsz)).trans p0
        have m1 := (EA.out.cell (p := ⟨bk, offk + 1, none⟩) (Nat.lt_of_lt_of_le hSk hsz)).trans p1
        have m2 := (EA.out.cell (p := ⟨bk, offk + 2, none⟩) (Nat.lt_of_lt_of_le hSk hsz)).trans p2
        have m3 := (EA.out.cell (p := ⟨bk, offk + 3, none⟩) (Nat.lt_of_lt_of_le hSk hsz)).trans p3
        have m4 := (EA.out.cell (p := ⟨bk, offk + 4, none⟩) (Nat.lt_of_lt_of_le hSk hsz)).trans p4
        rw [ea] at k4 m0 m1 m2 m3 m4
        have hwa : wa.heap.size = wr.heap.size + 1 := by rw [ea]; simp
        obtain ⟨wb, eb⟩ : ∃ wb, wb = wa.alloc (.cells #[.int .i64 k.op, .int .i64 k.n, .string k.s, .string k.t, .slice A2 k.kids.length c2] 55) := ⟨_, rfl⟩
        have EB := Lib.hid (show Below wa.heap.size wa wb by rw [eb]; exact (Below.refl _ _).alloc (Nat.le_refl _) _)
        have RB := Lib.hid (show Row wb (wr.heap.size + 1) 55 #[.int .i64 k.op, .int .i64 k.n, .string k.s, .string k.t, .slice A2 k.kids.length c2] by rw [eb]; exact Row.new' _ _ _ hwa.symm)
        have hwb : wb.heap.size = wr.heap.size + 2 := by rw [eb]; simp; omega
        obtain ⟨w3, e3⟩ : ∃ w3, w3 = wb.alloc (.cells #[.slice (some ⟨wr.heap.size + 1, 0, none⟩) 1 1] 34) := ⟨_, rfl⟩
        have E3 := Lib.hid (show Below wb.heap.size wb w3 by rw [e3]; exact (Below.refl _ _).alloc (Nat.le_refl _) _)
        have T3 := Lib.hid (oneRow (X := TrX) (r := [k]) (w' := w3) (T := 34) (Value.slice A' j c') (fun g hg => Nat.lt_of_lt_of_le (HOW.out g hg).2 (Nat.le_trans EA.out.size EB.out.size)) trivial e3
          (slOne RB.out (GNode.rd_mk (t := k) (hk.keep (w' := wb) (S' := fun b => b < wb.heap.size ∧ (Value.slice A' j c').ownBlock ≠ some b ∧ TrX b) fun b hb => ⟨⟨by have : b < w.heap.size := hb; omega, fun e => by have := (HOW.out _ e).1; have : b < w.heap.size := hb; omega, trivial⟩, (EB.out.block b (by have : b < w.heap.size := hb; omega)).trans (EA.out.block b (by have : b < w.heap.size := hb; omega))⟩)) rfl ⟨RB.out.lt, fun e => by have := (HOW.out _ e).2; omega, trivial⟩))
        have T3x := Lib.hid (show Sl w3 (fun b => b < w3.heap.size ∧ (Value.slice A' j c').ownBlock ≠ some b ∧ TrX b) 1 (some ⟨wr.heap.size + 2, 0, none⟩) 1 ([[k]].map rowD) from by have h := T3.out; rw [hwb] at h; exact h)
        have G3 := Lib.hid (((HG.out.below EA.out).below EB.out).below E3.out)
        have hs3 : w.heap.size ≤ w3.heap.size := Nat.le_trans hsa (Nat.le_trans EB.out.size E3.out.size)
        have B3 := Lib.hid (((HB.out.trans (EA.out.mono hsz)).trans (EB.out.mono hsa)).trans (E3.out.mono (Nat.le_trans hsa EB.out.size)))
        rw [hl] at q4
        clear hat hat2 hks hk p0 p1 p2 p3 p4 hwa hwb hl q0 q1 q2 q3
        go_wp2_with (first | (at_builtin; rw [← ea, ← eb, ← e3]; refine wpList_append_X w3 rfl (.tmp 30) (.tmp 32) 51 rfl 34 zRow 1 24 Try.underlying51 (by kernel_rfl) rfl (by omega) w.heap.size (.slice A' j c') j _ G3.out (some ⟨wr.heap.size + 2, 0, none⟩) 1 1 _ rfl T3x.out hs3 (by unfold maxLen; omega) (by omega) rfl rfl ?_; intro A4 c4 w4 G4 hGr4; have G4h := Lib.hid G4; have B4 := Lib.hid (B3.out.trans (hGr4.below hs3 (fun g hg => (HOW.out g hg).1))); clear G4 hGr4))
        go_roundw
        case rel => exact ⟨j + 1, A4, c4, by omega, by go_num, rfl, Lib.hid (by rw [HT.out, HV.out, List.map_append]; exact G4h.out), B4⟩
        case measure => simp [intOf]; omega
    · have hje : j = alts.length := by omega
      have HLE := Lib.hid (show alts.take j = alts by rw [hje, List.take_length])
      clear hje
      go_wp2_with fail
      go_ret
      have hG := HG.out
      rw [HLE.out] at hG
      obtain ⟨A5, c5, e5, hs5⟩ := hG.sl (fun _ _ => trivial)
      have hl5 := hG.1
      obtain ⟨rfl, rfl⟩ : A' = A5 ∧ c' = c5 := by simpa using e5
      exact ⟨A', c', ret_sl (by rw [← hl5]; simp), hs5.keep fun b hb => ⟨hb.1, rfl⟩, HB.out⟩

theorem rowsOf_B {f : GNode → GNode} {alts : List GNode} (h : ∀ a ∈ alts, nodeB 1048576 (f a)) : ∀ r ∈ rowsOf f alts, ∀ x ∈ r, nodeB 1048576 x := fun r hr x hx => by
  unfold rowsOf at hr
  obtain ⟨a, ha, rfl⟩ := List.mem_map.1 hr
  rw [List.mem_singleton.1 hx]; exact h a ha
theorem pat_B {alts : List GNode} (h : bulkL GNode.bulk alts ≤ 1048576) : (∀ a ∈ alts, nodeB 1048576 (patOf a)) ∧ ∀ a ∈ alts, nodeB 1048576 (patI a) := by
  have key : ∀ a ∈ alts, ∀ k ∈ a.kids, nodeB 1048576 k := fun a ha k hk => by
    have h1 := bulkL_mem GNode.bulk alts a ha
    have h2 := bulkL_mem GNode.bulk a.kids k hk
    have h3 := a.bulk_eq
    unfold nodeB; omega
  refine ⟨fun a ha => ?_, fun a ha => ?_⟩
  · cases hk : a.kids with
    | nil => rw [patOf_nil hk]; exact anyN_B _
    | cons k r => rw [patOf_cons hk]; exact key a ha k (by rw [hk]; simp)
  · cases hk : a.kids with
    | nil => rw [patI_nil hk]; unfold nodeB; rw [GNode.bulk_eq]; decide
    | cons k r => rw [patI_cons hk]; exact key a ha k (by rw [hk]; simp)
theorem rowsOf_length (f : GNode → GNode) (alts : List GNode) : (rowsOf f alts).length = alts.length := by unfold rowsOf; simp
end Go.Proofs.Ytnpkmebnmklcfaa

/- Trees of cases: the tree of rows, in the reference: an ask. Conditions: the sizes are bounded. -/
namespace Go.Proofs.Ytnpkmebnmklcfaa
open Go.RowKit
set_option linter.unusedVariables false
set_option linter.unusedSimpArgs false
set_option maxHeartbeats 2000000

set_option maxRecDepth 20000 in
theorem specMadeAsk (g : Nat) (dv : Value) (k many : Nat) (rows : List GTrow) (A : Option Addr) (c : Nat) (w : World) (hIH : MadeOk g dv k) (h : ¬ 300 < many + 1) (hk : 300 < many + (k + 1)) (hk2 : k ≤ 1000) (hok : RowsOk many rows) (hl : 0 < rows.length) (hl2 : rows.length ≤ 1048576) (ha : 0 < rows[0].asks.length) (hrow : Row w g 64 #[dv, .int .i64 many, .bool (decide (many ≤ 300))]) (hs : Sl w (fun b => b < w.heap.size ∧ b ≠ g) 2 A c (rows.map GTrow.toD)) :
    Calls Try.prog 22 #[.pointer (some ⟨g, 0, none⟩), .slice A rows.length c] w (ToMade g dv (growV (k + 1) many rows) w) := by
  have hv := growV_ask (k := k) h hl ha
  have RW := Lib.hid (show Row w g 64 #[dv, .int .i64 many, .bool true] by rw [show decide (many ≤ 300) = true from decide_eq_true (by omega)] at hrow; exact hrow)
  have hgl := hrow.lt
  have hcw := fun i => RW.out.cell i
  have hfw := fun i => RW.out.frozen i
  have hwr : IntKind.i64.wrap ((many : Int) + 1) = (many : Int) + 1 := (IntWalk.i64_left _).trans (IntWalk.wrap64_in ((many : Int) + 1) (by omega))
  have dm : decide ((300 : Int) < (many : Int) + 1) = false := decide_eq_false (by omega)
  have HF := Lib.hid (show decide (many + 1 ≤ 300) = true from decide_eq_true (by omega))
  have HS := Lib.hid hs
  have HOK := Lib.hid hok
  have HIH := Lib.hid hIH
  obtain ⟨b, off, B1, d1, rfl, hSb, g0, g1, hat⟩ := GTrow.elem hs 0 hl
  obtain ⟨b2, off2, A1, c1, A2, c2, rfl, hSb2, q0, q1, q2, q3, q4, q5, hatk⟩ := GAsk.elem hat.2 0 ha
  have hbl := hSb.1
  have hbg := hSb.2
  have hbl2 := hSb2.1
  have hbg2 := hSb2.2
  have dl : ((rows.length : Int) == 0) = false := by rw [beq_eq_false_iff_ne]; omega
  have dl2 : ((rows[0].asks.length : Int) == 0) = false := by rw [beq_eq_false_iff_ne]; omega
  have hla2 : rows[0].asks.length ≤ 1048576 := Nat.le_trans (asksM_len _) (hok _ (List.getElem_mem hl)).1
  have hap := ((hok _ (List.getElem_mem hl)).2 _ (List.getElem_mem ha)).2
  obtain ⟨n1, hn1⟩ : ∃ n1, rows[0].asks.length = n1 := ⟨_, rfl⟩
  obtain ⟨a, hea⟩ : ∃ a, rows[0].asks[0] = a := ⟨_, rfl⟩
  rw [hea] at q0 q1 q2 q3 q4 q5 hatk hap hv
  rw [hn1] at g1 dl2 ha hla2
  obtain ⟨p, hp⟩ : ∃ p, growV k (many + 1) (yesR a rows) = p := ⟨_, rfl⟩
  rw [hp] at hv
  obtain ⟨q, hq⟩ : ∃ q, growV k p.2 (noR a rows) = q := ⟨_, rfl⟩
  rw [hq] at hv
  have HV := Lib.hid hv
  have HP := Lib.hid hp
  have HQ := Lib.hid hq
  have HA := Lib.hid hatk
  simp only [Nat.zero_mul, Nat.add_zero] at g0 g1 q0 q1 q2 q3 q4 q5
  clear hrow hs hat hatk hSb hSb2 hv hp hq hea hn1 hok hIH g0
  go_enter Try.func22, Try.ntmps22
  go_upto_region 11 with (fail)
  obtain ⟨w2, e2⟩ : ∃ w2, w2 = ((w.setCell ⟨g, 1, none⟩ (.int .i64 ((many : Int) + 1))).alloc (.cells #[.int .i64 0, .int .i64 0, .slice none 0 0, .string ⟨#[]⟩, .slice none 0 0] 29)).alloc (.cells #[.slice A1 a.path.length c1, .int .i64 a.pat.op, .int .i64 a.pat.n, .string a.pat.s, .string a.pat.t, .slice A2 a.pat.kids.length c2] 61) := ⟨_, rfl⟩
  rw [← e2]
  have X2 := Lib.hid (show Bx g w w2 by rw [e2]; exact (((Bx.refl g w).set (p := ⟨g, 1, none⟩) (.inl rfl) _).alloc _).alloc _)
  have RG2 := Lib.hid (show Row w2 g 64 #[dv, .int .i64 ((many : Int) + 1), .bool true] by rw [e2]; exact ((RW.out.set 1 _).alloc _).alloc _)
  have RB2 := Lib.hid (show Row w2 w.heap.size 29 #[.int .i64 0, .int .i64 0, .slice none 0 0, .string ⟨#[]⟩, .slice none 0 0] by rw [e2]; exact (Row.new' _ _ _ (by simp [World.setCell])).alloc _)
  have RA2 := Lib.hid (show Row w2 (w.heap.size + 1) 61 #[.slice A1 a.path.length c1, .int .i64 a.pat.op, .int .i64 a.pat.n, .string a.pat.s, .string a.pat.t, .slice A2 a.pat.kids.length c2] by rw [e2]; exact Row.new' _ _ _ (by simp [World.setCell]))
  have hz2 : w.heap.size + 2 = w2.heap.size := by rw [e2]; simp [World.setCell]
  have HZ2 := Lib.hid hz2
  have hz2' : w.heap.size + 2 ≤ w2.heap.size := Nat.le_of_eq hz2
  have HA2 := Lib.hid (HA.out.keep (w' := w2) (S' := fun b => b < w2.heap.size ∧ b ≠ g) fun q hq => ⟨⟨Nat.lt_of_lt_of_le hq.1 X2.out.size, hq.2⟩, X2.out.block q hq.1 hq.2⟩)
  have hca := fun i => RA2.out.cell i
  have hla := RA2.out.lt
  have HF5 := Lib.hid (fun (x : World) (hx : Below w2.heap.size w2 x) => show ∀ i, x.cell? ⟨w.heap.size + 1, i, none⟩ = (#[.slice A1 a.path.length c1, .int .i64 a.pat.op, .int .i64 a.pat.n, .string a.pat.s, .string a.pat.t, .slice A2 a.pat.kids.length c2] : Array Value)[i]? from fun i => (RA2.out.below hx RA2.out.lt).cell i)
  have HT5 := Lib.hid (fun (x : World) (be : Nat) (hx : Below w2.heap.size w2 x) (hbe : w2.heap.size ≤ be) => show Sl x (fun b => b < x.heap.size ∧ (Value.slice (some ⟨be, 0, none⟩) 0 0).ownBlock ≠ some b ∧ AnyB b) 1 A1 c1 (a.path.map (D.num .i64)) from
    HA2.out.1.keep fun q hq => ⟨⟨Nat.lt_of_lt_of_le hq.1 hx.size, fun e => by have := own_ge e; have := hq.1; omega, trivial⟩, hx.block q hq.1⟩)
  clear hcw hfw e2 hz2
  have GA5 := Lib.hid (show Grx AnyB (w2.alloc (.cells #[] 3)).drew w2.heap.size 3 1 (.slice (some ⟨w2.heap.size, 0, none⟩) 0 0) 0 [] from Grx.made (Row.new w2 _ _) (Nat.le_refl _))
  have GB5 := Lib.hid (show Grx AnyB ((w2.alloc (.cells #[] 3)).alloc (.cells #[.int .i64 0, .int .i64 0, .slice none 0 0, .string ⟨#[]⟩, .slice none 0 0] 29)).drew w2.heap.size 3 1 (.slice (some ⟨w2.heap.size, 0, none⟩) 0 0) 0 [] from Grx.made ((Row.new w2 _ _).alloc _) (Nat.le_refl _))
  have GC5 := Lib.hid (show Grx AnyB ((w2.alloc (.cells #[.int .i64 0, .int .i64 0, .slice none 0 0, .string ⟨#[]⟩, .slice none 0 0] 29)).alloc (.cells #[] 3)).drew w2.heap.size 3 1 (.slice (some ⟨w2.heap.size + 1, 0, none⟩) 0 0) 0 [] from Grx.made (show Row ((w2.alloc (.cells #[.int .i64 0, .int .i64 0, .slice none 0 0, .string ⟨#[]⟩, .slice none 0 0] 29)).alloc (.cells #[] 3)) (w2.heap.size + 1) 3 #[] from Row.new' _ _ _ (by simp)) (Nat.le_succ _))
  have RB5 := Lib.hid (show Row ((w2.alloc (.cells #[] 3)).alloc (.cells #[.int .i64 0, .int .i64 0, .slice none 0 0, .string ⟨#[]⟩, .slice none 0 0] 29)).drew (w2.heap.size + 1) 29 #[.int .i64 0, .int .i64 0, .slice none 0 0, .string ⟨#[]⟩, .slice none 0 0] from (show Row ((w2.alloc (.cells #[] 3)).alloc (.cells #[.int .i64 0, .int .i64 0, .slice none 0 0, .string ⟨#[]⟩, .slice none 0 0] 29)) (w2.heap.size + 1) 29 #[.int .i64 0, .int .i64 0, .slice none 0 0, .string ⟨#[]⟩, .slice none 0 0] from Row.new' _ _ _ (by simp)))
  have RC5 := Lib.hid (show Row ((w2.alloc (.cells #[.int .i64 0, .int .i64 0, .slice none 0 0, .string ⟨#[]⟩, .slice none 0 0] 29)).alloc (.cells #[] 3)).drew w2.heap.size 29 #[.int .i64 0, .int .i64 0, .slice none 0 0, .string ⟨#[]⟩, .slice none 0 0] from (Row.new w2 _ _).alloc _)
  have NB5 := Lib.hid (show (Value.slice (some ⟨w2.heap.size, 0, none⟩) 0 0).ownBlock ≠ some (w2.heap.size + 1) by simp [Value.ownBlock])
  have NC5 := Lib.hid (show (Value.slice (some ⟨w2.heap.size + 1, 0, none⟩) 0 0).ownBlock ≠ some w2.heap.size by simp [Value.ownBlock])
  obtain ⟨oe, hoe⟩ : ∃ oe, oe = Obj.cells #[] 3 := ⟨_, rfl⟩
  obtain ⟨on, hon⟩ : ∃ on, on = Obj.cells #[.int .i64 0, .int .i64 0, .slice none 0 0, .string ⟨#[]⟩, .slice none 0 0] 29 := ⟨_, rfl⟩
  have EA := Lib.hid (show Below w2.heap.size w2 (w2.alloc oe).drew from ((Below.refl _ _).alloc (Nat.le_refl _) _).drew)
  have EB := Lib.hid (show Below w2.heap.size w2 ((w2.alloc oe).alloc on).drew from (((Below.refl _ _).alloc (Nat.le_refl _) _).alloc (by simp) _).drew)
  have EC := Lib.hid (show Below w2.heap.size w2 ((w2.alloc on).alloc oe).drew from (((Below.refl _ _).alloc (Nat.le_refl _) _).alloc (by simp) _).drew)
  have ED := Lib.hid (show Below w2.heap.size w2 (w2.alloc on).drew from ((Below.refl _ _).alloc (Nat.le_refl _) _).drew)
  rw [hoe] at EA EB EC
  rw [hon] at EB EC ED
  clear hoe hon
  go_cut [6] from 51 to 58 (fun v x => ∃ (n3 : Nat) (A6 : Option Addr) (c6 : Nat), v = .pointer (some ⟨n3, 0, none⟩) ∧ Hid (Below w2.heap.size w2 x) ∧ Hid (Row x n3 29 #[.int .i64 4, .int .i64 a.pat.n, .slice A6 a.path.length c6, .string ⟨#[]⟩, .slice none 0 0]) ∧ Hid (Osl x (fun b => (w2.heap.size ≤ b ∧ b < x.heap.size) ∧ b ≠ n3) 1 A6 c6 (a.path.map (D.num .i64))) ∧ w2.heap.size ≤ n3)
  case first =>
    refine wp_region_T (fun x => ∀ i, x.cell? ⟨w.heap.size + 1, i, none⟩ = (#[.slice A1 a.path.length c1, .int .i64 a.pat.op, .int .i64 a.pat.n, .string a.pat.s, .string a.pat.t, .slice A2 a.pat.kids.length c2] : Array Value)[i]?) 9 (by kernel_rfl) ?_
    have hS1 := HF5.out _ ((Below.refl w2.heap.size w2).drew)
    refine wpAnyT_take (i := 0) (oi := _) (v := ?tv1) rfl (by kernel_rfl) (by kernel_rfl) (by kernel_rfl) (by kernel_rfl) (fun _ _ _ h => h) (Or.inl ⟨by rfl, ?th1⟩) hS1 ?_
    case th1 => (intro x hSx; (try dsimp only at hSx); go_simp; (try with_reducible rfl))
    try simp only [List.getElem_toArray, List.getElem_cons_succ, List.getElem_cons_zero, Act.put, List.setIfInBounds_toArray, List.set_cons_zero, List.set_cons_succ]
    refine wpAnyT_take (i := 1) (oi := _) (v := ?tv2) rfl (by kernel_rfl) (by kernel_rfl) (by kernel_rfl) (by kernel_rfl) (fun _ _ _ h => h) (Or.inl ⟨by rfl, ?th2⟩) hS1 ?_
    case th2 => (intro x hSx; (try dsimp only at hSx); go_simp; (try with_reducible rfl))
    try simp only [List.getElem_toArray, List.getElem_cons_succ, List.getElem_cons_zero, Act.put, List.setIfInBounds_toArray, List.set_cons_zero, List.set_cons_succ]
    refine wpAnyT_take (i := 2) (oi := _) (v := ?tv3) rfl (by kernel_rfl) (by kernel_rfl) (by kernel_rfl) (by kernel_rfl) (fun _ _ _ h => h) (Or.inl ⟨by rfl, ?th3⟩) hS1 ?_
    case th3 => (intro x hSx; (try dsimp only at hSx); go_simp; (try with_reducible rfl))
    try simp only [List.getElem_toArray, List.getElem_cons_succ, List.getElem_cons_zero, Act.put, List.setIfInBounds_toArray, List.set_cons_zero, List.set_cons_succ]
    refine wpAnyT_take (i := 4) (oi := _) (v := ?tv4) rfl (by kernel_rfl) (by kernel_rfl) (by kernel_rfl) (by kernel_rfl) (fun _ _ _ h => h) (Or.inl ⟨by rfl, ?th4⟩) hS1 ?_
    case th4 => (intro x hSx; (try dsimp only at hSx); go_simp; (try with_reducible rfl))
    try simp only [List.getElem_toArray, List.getElem_cons_succ, List.getElem_cons_zero, Act.put, List.setIfInBounds_toArray, List.set_cons_zero, List.set_cons_succ]
    refine wpAnyT_take (i := 5) (oi := _) (v := ?tv5) rfl (by kernel_rfl) (by kernel_rfl) (by kernel_rfl) (by kernel_rfl) (fun _ _ _ h => h) (Or.inl ⟨by rfl, ?th5⟩) hS1 ?_
    case th5 => (intro x hSx; (try dsimp only at hSx); go_simp; (try with_reducible rfl))
    try simp only [List.getElem_toArray, List.getElem_cons_succ, List.getElem_cons_zero, Act.put, List.setIfInBounds_toArray, List.set_cons_zero, List.set_cons_succ]
    refine wpAnyT_two (i := 3) (j := 8) (by kernel_rfl) rfl rfl (fun K hK => ?_) (fun K hK => ?_)
    · try simp only [List.getElem_toArray, List.getElem_cons_succ, List.getElem_cons_zero]
      go_simp
      refine hK.out _ _ (HF5.out _ EA.out) (fun hS2 => ?_)
      clear hK K hS1
      try simp only [List.getElem_toArray, List.getElem_cons_succ, List.getElem_cons_zero, Act.put, List.setIfInBounds_toArray, List.set_cons_zero, List.set_cons_succ]
      refine wpAnyT_two (i := 6) (j := 8) (by kernel_rfl) rfl rfl (fun K hK => ?_) (fun K hK => ?_)
      · skip
        refine step_append_X _ rfl (.tmp 54) (.tmp 56) 26 rfl 3 (.int .i64 0) 1 8 Try.underlying26 (by kernel_rfl) rfl (by omega) w2.heap.size (.slice (some ⟨w2.heap.size, 0, none⟩) 0 0) 0 [] GA5.out A1 c1 a.path.length _ (by simp) (HT5.out _ _ EA.out (by omega)) EA.out.size (by unfold maxLen; omega) (by omega) rfl rfl ?_
        intro A6 c6 w6 G6 hGr6
        have HG6 := Lib.hid (show Grx AnyB w6 w2.heap.size 3 1 (.slice A6 a.path.length c6) a.path.length (a.path.map (D.num .i64)) by simpa using G6)
        have HE6 := Lib.hid (show Value.slice A6 (0 + a.path.length) c6 = .slice A6 a.path.length c6 by rw [Nat.zero_add])
        have E6 := Lib.hid (EA.out.trans (hGr6.below EA.out.size (fun g hg => Nat.le_trans (by omega) (own_ge hg))))
        clear G6 hGr6
        rw [HE6.out]
        refine hK.out _ _ (HF5.out _ E6.out) (fun hS3 => ?_)
        clear hK K hS2
        try simp only [List.getElem_toArray, List.getElem_cons_succ, List.getElem_cons_zero, Act.put, List.setIfInBounds_toArray, List.set_cons_zero, List.set_cons_succ]
        refine wpAnyT_take (i := 7) (oi := _) (v := ?tv6) rfl (by kernel_rfl) (by kernel_rfl) (by kernel_rfl) (by kernel_rfl) (fun _ _ _ h => h) (Or.inl ⟨by rfl, ?th6⟩) hS3 ?_
        case th6 => (intro x hSx; (try dsimp only at hSx); go_simp; (try with_reducible rfl))
        try simp only [List.getElem_toArray, List.getElem_cons_succ, List.getElem_cons_zero, Act.put, List.setIfInBounds_toArray, List.set_cons_zero, List.set_cons_succ]
        refine wpAnyT_step (i := 8) (by kernel_rfl) rfl (fun K hK => ?_)
        try simp only [List.getElem_toArray, List.getElem_cons_succ, List.getElem_cons_zero]
        go_simp
        refine hK.out _ _ (HF5.out _ (E6.out.alloc E6.out.size _)) (fun hS4 => ?_)
        clear hK K hS3
        try simp only [List.getElem_toArray, List.getElem_cons_succ, List.getElem_cons_zero, Act.put, List.setIfInBounds_toArray, List.set_cons_zero, List.set_cons_succ]
        refine wpAnyT_last (by kernel_rfl) (by kernel_rfl) rfl (fun K hK => ?_)
        try simp only [List.getElem_toArray, List.getElem_cons_succ, List.getElem_cons_zero]
        go_simp
        refine hK.out _ _ ?_
        clear hK K
        try simp only [List.getElem_toArray, List.getElem_cons_succ, List.getElem_cons_zero, Act.put, List.setIfInBounds_toArray, List.set_cons_zero, List.set_cons_succ]
        obtain ⟨w7, e7⟩ : ∃ w7, w7 = w6.alloc (.cells #[.int .i64 4, .int .i64 a.pat.n, .slice A6 a.path.length c6, .string ⟨#[]⟩, .slice none 0 0] 29) := ⟨_, rfl⟩
        rw [← e7]
        have K7 := fun b (hb : (Value.slice A6 a.path.length c6).ownBlock = some b) => show ((w2.heap.size ≤ b ∧ b < w7.heap.size) ∧ b ≠ w6.heap.size) ∧ w7.heap[b]? = w6.heap[b]? from by
          have h1 := HG6.out.own b hb
          rw [e7]
          exact ⟨⟨⟨h1.1, by simp; omega⟩, by omega⟩, Below.heap_alloc _ _ _ h1.2⟩
        have O7 := Lib.hid (show Osl w7 (fun b => (w2.heap.size ≤ b ∧ b < w7.heap.size) ∧ b ≠ w6.heap.size) 1 A6 c6 (a.path.map (D.num .i64)) by
          obtain ⟨A5, c5, e5, h5⟩ := HG6.out.oslOwn
          obtain ⟨rfl, rfl⟩ : A6 = A5 ∧ c6 = c5 := by simpa using e5
          exact h5.keep fun b hb => K7 b hb)
        have E7 := Lib.hid (show Below w2.heap.size w2 w7 by rw [e7]; exact E6.out.alloc E6.out.size _)
        have R7 := Lib.hid (show Row w7 w6.heap.size 29 #[.int .i64 4, .int .i64 a.pat.n, .slice A6 a.path.length c6, .string ⟨#[]⟩, .slice none 0 0] by rw [e7]; exact Row.new w6 _ _)
        have hn7 := E6.out.size
        clear e7 K7
        go_wp2_with fail
        go_meet
        exact ⟨w6.heap.size, A6, c6, rfl, E7, R7, O7, hn7⟩
      · try simp only [List.getElem_toArray, List.getElem_cons_succ, List.getElem_cons_zero]
        go_simp
        refine hK.out _ _ (HF5.out _ EB.out) (fun hS3 => ?_)
        clear hK K hS2
        try simp only [List.getElem_toArray, List.getElem_cons_succ, List.getElem_cons_zero, Act.put, List.setIfInBounds_toArray, List.set_cons_zero, List.set_cons_succ]
        refine wpAnyT_step (i := 6) (by kernel_rfl) rfl (fun K hK => ?_)
        refine step_append_X _ rfl (.tmp 54) (.tmp 56) 26 rfl 3 (.int .i64 0) 1 8 Try.underlying26 (by kernel_rfl) rfl (by omega) w2.heap.size (.slice (some ⟨w2.heap.size, 0, none⟩) 0 0) 0 [] GB5.out A1 c1 a.path.length _ (by simp) (HT5.out _ _ EB.out (by omega)) EB.out.size (by unfold maxLen; omega) (by omega) rfl rfl ?_
        intro A6 c6 w6 G6 hGr6
        have HG6 := Lib.hid (show Grx AnyB w6 w2.heap.size 3 1 (.slice A6 a.path.length c6) a.path.length (a.path.map (D.num .i64)) by simpa using G6)
        have HE6 := Lib.hid (show Value.slice A6 (0 + a.path.length) c6 = .slice A6 a.path.length c6 by rw [Nat.zero_add])
        have E6 := Lib.hid (EB.out.trans (hGr6.below EB.out.size (fun g hg => Nat.le_trans (by omega) (own_ge hg))))
        have RN6 := Lib.hid (hGr6.row RB5.out NB5.out)
        have NN6 := Lib.hid (show (Value.slice A6 a.path.length c6).ownBlock ≠ some (w2.heap.size + 1) by rw [← HE6.out]; exact hGr6.ne NB5.out RB5.out.lt)
        have hcn6 := fun i => RN6.out.cell i
        have hfn6 := fun i => RN6.out.frozen i
        clear G6 hGr6
        rw [HE6.out]
        refine hK.out _ _ (HF5.out _ E6.out) (fun hS4 => ?_)
        clear hK K hS3
        try simp only [List.getElem_toArray, List.getElem_cons_succ, List.getElem_cons_zero, Act.put, List.setIfInBounds_toArray, List.set_cons_zero, List.set_cons_succ]
        refine wpAnyT_take (i := 7) (oi := _) (v := ?tv7) rfl (by kernel_rfl) (by kernel_rfl) (by kernel_rfl) (by kernel_rfl) (fun _ _ _ h => h) (Or.inl ⟨by rfl, ?th7⟩) hS4 ?_
        case th7 => (intro x hSx; (try dsimp only at hSx); go_simp; (try with_reducible rfl))
        try simp only [List.getElem_toArray, List.getElem_cons_succ, List.getElem_cons_zero, Act.put, List.setIfInBounds_toArray, List.set_cons_zero, List.set_cons_succ]
        refine wpAnyT_last (by kernel_rfl) (by kernel_rfl) rfl (fun K hK => ?_)
        try simp only [List.getElem_toArray, List.getElem_cons_succ, List.getElem_cons_zero]
        go_simp
        refine hK.out _ _ ?_
        clear hK K
        try simp only [List.getElem_toArray, List.getElem_cons_succ, List.getElem_cons_zero, Act.put, List.setIfInBounds_toArray, List.set_cons_zero, List.set_cons_succ]
        obtain ⟨w7, e7⟩ : ∃ w7, w7 = ((((w6.setCell ⟨w2.heap.size + 1, 0, none⟩ (.int .i64 4)).setCell ⟨w2.heap.size + 1, 1, none⟩ (.int .i64 a.pat.n)).setCell ⟨w2.heap.size + 1, 2, none⟩ (.slice A6 a.path.length c6)).setCell ⟨w2.heap.size + 1, 3, none⟩ (.string ⟨#[]⟩)).setCell ⟨w2.heap.size + 1, 4, none⟩ (.slice none 0 0) := ⟨_, rfl⟩
        rw [← e7]
        have Q7 := Lib.hid (show ∀ b, b ≠ w2.heap.size + 1 → w7.heap[b]? = w6.heap[b]? from fun b hb => by rw [e7]; simp only [Below.heap_setCell _ _ _ b (show b ≠ (⟨w2.heap.size + 1, _, none⟩ : Addr).block from hb)])
        have hz7 : w7.heap.size = w6.heap.size := by rw [e7]; simp [World.setCell]
        have K7 := fun b (hb : (Value.slice A6 a.path.length c6).ownBlock = some b) => show ((w2.heap.size ≤ b ∧ b < w7.heap.size) ∧ b ≠ w2.heap.size + 1) ∧ w7.heap[b]? = w6.heap[b]? from by
          have h1 := HG6.out.own b hb
          have h2 : b ≠ w2.heap.size + 1 := fun e => NN6.out (by rw [← e]; exact hb)
          exact ⟨⟨⟨h1.1, by omega⟩, h2⟩, Q7.out b h2⟩
        have O7 := Lib.hid (show Osl w7 (fun b => (w2.heap.size ≤ b ∧ b < w7.heap.size) ∧ b ≠ w2.heap.size + 1) 1 A6 c6 (a.path.map (D.num .i64)) by
          obtain ⟨A5, c5, e5, h5⟩ := HG6.out.oslOwn
          obtain ⟨rfl, rfl⟩ : A6 = A5 ∧ c6 = c5 := by simpa using e5
          exact h5.keep fun b hb => K7 b hb)
        have E7 := Lib.hid (show Below w2.heap.size w2 w7 by rw [e7]; exact ((((E6.out.setCell (p := ⟨w2.heap.size + 1, 0, none⟩) (by simp) _).setCell (p := ⟨w2.heap.size + 1, 1, none⟩) (by simp) _).setCell (p := ⟨w2.heap.size + 1, 2, none⟩) (by simp) _).setCell (p := ⟨w2.heap.size + 1, 3, none⟩) (by simp) _).setCell (p := ⟨w2.heap.size + 1, 4, none⟩) (by simp) _)
        have R7 := Lib.hid (show Row w7 (w2.heap.size + 1) 29 #[.int .i64 4, .int .i64 a.pat.n, .slice A6 a.path.length c6, .string ⟨#[]⟩, .slice none 0 0] by rw [e7]; exact ((((RN6.out.set 0 _).set 1 _).set 2 _).set 3 _).set 4 _)
        clear e7 K7 Q7 hz7 hcn6 hfn6
        go_wp2_with fail
        go_meet
        exact ⟨w2.heap.size + 1, A6, c6, rfl, E7, R7, O7, by omega⟩
    · try simp only [List.getElem_toArray, List.getElem_cons_succ, List.getElem_cons_zero]
      go_simp
      refine hK.out _ _ (HF5.out _ ED.out) (fun hS2 => ?_)
      clear hK K hS1
      try simp only [List.getElem_toArray, List.getElem_cons_succ, List.getElem_cons_zero, Act.put, List.setIfInBounds_toArray, List.set_cons_zero, List.set_cons_succ]
      refine wpAnyT_step (i := 3) (by kernel_rfl) rfl (fun K hK => ?_)
      try simp only [List.getElem_toArray, List.getElem_cons_succ, List.getElem_cons_zero]
      go_simp
      refine hK.out _ _ (HF5.out _ EC.out) (fun hS3 => ?_)
      clear hK K hS2
      try simp only [List.getElem_toArray, List.getElem_cons_succ, List.getElem_cons_zero, Act.put, List.setIfInBounds_toArray, List.set_cons_zero, List.set_cons_succ]
      refine wpAnyT_step (i := 6) (by kernel_rfl) rfl (fun K hK => ?_)
      refine step_append_X _ rfl (.tmp 54) (.tmp 56) 26 rfl 3 (.int .i64 0) 1 8 Try.underlying26 (by kernel_rfl) rfl (by omega) w2.heap.size (.slice (some ⟨w2.heap.size + 1, 0, none⟩) 0 0) 0 [] GC5.out A1 c1 a.path.length _ (by simp) (HT5.out _ _ EC.out (by omega)) EC.out.size (by unfold maxLen; omega) (by omega) rfl rfl ?_
      intro A6 c6 w6 G6 hGr6
      have HG6 := Lib.hid (show Grx AnyB w6 w2.heap.size 3 1 (.slice A6 a.path.length c6) a.path.length (a.path.map (D.num .i64)) by simpa using G6)
      have HE6 := Lib.hid (show Value.slice A6 (0 + a.path.length) c6 = .slice A6 a.path.length c6 by rw [Nat.zero_add])
      have E6 := Lib.hid (EC.out.trans (hGr6.below EC.out.size (fun g hg => Nat.le_trans (by omega) (own_ge hg))))
      have RN6 := Lib.hid (hGr6.row RC5.out NC5.out)
      have NN6 := Lib.hid (show (Value.slice A6 a.path.length c6).ownBlock ≠ some w2.heap.size by rw [← HE6.out]; exact hGr6.ne NC5.out RC5.out.lt)
      have hcn6 := fun i => RN6.out.cell i
      have hfn6 := fun i => RN6.out.frozen i
      clear G6 hGr6
      rw [HE6.out]
      refine hK.out _ _ (HF5.out _ E6.out) (fun hS4 => ?_)
      clear hK K hS3
      try simp only [List.getElem_toArray, List.getElem_cons_succ, List.getElem_cons_zero, Act.put, List.setIfInBounds_toArray, List.set_cons_zero, List.set_cons_succ]
      refine wpAnyT_take (i := 7) (oi := _) (v := ?tv8) rfl (by kernel_rfl) (by kernel_rfl) (by kernel_rfl) (by kernel_rfl) (fun _ _ _ h => h) (Or.inl ⟨by rfl, ?th8⟩) hS4 ?_
      case th8 => (intro x hSx; (try dsimp only at hSx); go_simp; (try with_reducible rfl))
      try simp only [List.getElem_toArray, List.getElem_cons_succ, List.getElem_cons_zero, Act.put, List.setIfInBounds_toArray, List.set_cons_zero, List.set_cons_succ]
      refine wpAnyT_last (by kernel_rfl) (by kernel_rfl) rfl (fun K hK => ?_)
      try simp only [List.getElem_toArray, List.getElem_cons_succ, List.getElem_cons_zero]
      go_simp
      refine hK.out _ _ ?_
      clear hK K
      try simp only [List.getElem_toArray, List.getElem_cons_succ, List.getElem_cons_zero, Act.put, List.setIfInBounds_toArray, List.set_cons_zero, List.set_cons_succ]
      obtain ⟨w7, e7⟩ : ∃ w7, w7 = ((((w6.setCell ⟨w2.heap.size, 0, none⟩ (.int .i64 4)).setCell ⟨w2.heap.size, 1, none⟩ (.int .i64 a.pat.n)).setCell ⟨w2.heap.size, 2, none⟩ (.slice A6 a.path.length c6)).setCell ⟨w2.heap.size, 3, none⟩ (.string ⟨#[]⟩)).setCell ⟨w2.heap.size, 4, none⟩ (.slice none 0 0) := ⟨_, rfl⟩
      rw [← e7]
      have Q7 := Lib.hid (show ∀ b, b ≠ w2.heap.size → w7.heap[b]? = w6.heap[b]? from fun b hb => by rw [e7]; simp only [Below.heap_setCell _ _ _ b (show b ≠ (⟨w2.heap.size, _, none⟩ : Addr).block from hb)])
      have hz7 : w7.heap.size = w6.heap.size := by rw [e7]; simp [World.setCell]
      have K7 := fun b (hb : (Value.slice A6 a.path.length c6).ownBlock = some b) => show ((w2.heap.size ≤ b ∧ b < w7.heap.size) ∧ b ≠ w2.heap.size) ∧ w7.heap[b]? = w6.heap[b]? from by
        have h1 := HG6.out.own b hb
        have h2 : b ≠ w2.heap.size := fun e => NN6.out (by rw [← e]; exact hb)
        exact ⟨⟨⟨h1.1, by omega⟩, h2⟩, Q7.out b h2⟩
      have O7 := Lib.hid (show Osl w7 (fun b => (w2.heap.size ≤ b ∧ b < w7.heap.size) ∧ b ≠ w2.heap.size) 1 A6 c6 (a.path.map (D.num .i64)) by
        obtain ⟨A5, c5, e5, h5⟩ := HG6.out.oslOwn
        obtain ⟨rfl, rfl⟩ : A6 = A5 ∧ c6 = c5 := by simpa using e5
        exact h5.keep fun b hb => K7 b hb)
      have E7 := Lib.hid (show Below w2.heap.size w2 w7 by rw [e7]; exact ((((E6.out.setCell (p := ⟨w2.heap.size, 0, none⟩) (by simp) _).setCell (p := ⟨w2.heap.size, 1, none⟩) (by simp) _).setCell (p := ⟨w2.heap.size, 2, none⟩) (by simp) _).setCell (p := ⟨w2.heap.size, 3, none⟩) (by simp) _).setCell (p := ⟨w2.heap.size, 4, none⟩) (by simp) _)
      have R7 := Lib.hid (show Row w7 (w2.heap.size) 29 #[.int .i64 4, .int .i64 a.pat.n, .slice A6 a.path.length c6, .string ⟨#[]⟩, .slice none 0 0] by rw [e7]; exact ((((RN6.out.set 0 _).set 1 _).set 2 _).set 3 _).set 4 _)
      clear e7 K7 Q7 hz7 hcn6 hfn6
      go_wp2_with fail
      go_meet
      exact ⟨w2.heap.size, A6, c6, rfl, E7, R7, O7, by omega⟩
  case rest =>
    clear GA5 GB5 GC5 RB5 RC5 NB5 NC5 EA EB EC ED oe on HT5 HF5
    obtain ⟨n3, A6, c6, rfl, C1, C2, C3, hn3⟩ := hcut
    have hcn3 := fun i => C2.out.cell i
    have hfn3 := fun i => C2.out.frozen i
    have RAc := Lib.hid (RA2.out.below C1.out RA2.out.lt)
    have hcac := fun i => RAc.out.cell i
    clear hca
    go_upto_if 62 with (fail)
    go_cut [6] from 59 to 68 (fun v x => v = .pointer (some ⟨n3, 0, none⟩) ∧ Hid (Below w2.heap.size w2 x) ∧ Hid (Row x n3 29 #[.int .i64 (askO a), .int .i64 (askN a), .slice A6 a.path.length c6, .string (askS a), .slice none 0 0]) ∧ Hid (Osl x (fun b => (w2.heap.size ≤ b ∧ b < x.heap.size) ∧ b ≠ n3) 1 A6 c6 (a.path.map (D.num .i64))) ∧ wc.heap.size ≤ x.heap.size)
    case first =>
      cases h20 : (a.pat.op == 20)
      case true =>
        have e20 : a.pat.op = 20 := by simpa using h20
        have HO := Lib.hid (show askO a = 3 ∧ askN a = 0 ∧ askS a = a.pat.s by unfold askO askN askS; simp [e20])
        clear e20
        go_wp2_with fail
        go_meet
        refine ⟨rfl, Lib.hid (((C1.out.setCell (p := ⟨n3, 0, none⟩) hn3 _).setCell (p := ⟨n3, 3, none⟩) hn3 _).setCell (p := ⟨n3, 1, none⟩) hn3 _), Lib.hid ?_, Lib.hid ?_, by simp [World.setCell]⟩
        · rw [HO.out.1, HO.out.2.1, HO.out.2.2]; exact ((C2.out.set 0 _).set 3 _).set 1 _
        · exact C3.out.keep fun b hb => ⟨⟨⟨hb.1.1, by simp [World.setCell]; exact hb.1.2⟩, hb.2⟩, (Below.heap_setCell _ ⟨n3, 1, none⟩ _ b hb.2).trans ((Below.heap_setCell _ ⟨n3, 3, none⟩ _ b hb.2).trans (Below.heap_setCell _ ⟨n3, 0, none⟩ _ b hb.2))⟩
      case false =>
        have e20 : ¬ a.pat.op = 20 := by simpa using h20
        have HO := Lib.hid (show askO a = 4 ∧ askN a = a.pat.n ∧ askS a = ⟨#[]⟩ by unfold askO askN askS; simp [e20])
        clear e20
        go_wp2_with fail
        go_meet
        exact ⟨rfl, C1, Lib.hid (by rw [HO.out.1, HO.out.2.1, HO.out.2.2]; exact C2.out), C3, Nat.le_refl _⟩
    case rest =>
      clear hcn3 hfn3 hcac RAc C2 C3
      obtain ⟨rfl, D1, D2, D3, hcd⟩ := hcut
      have hnd := D2.out.lt
      have hzd := D1.out.size
      have Xd := Lib.hid (X2.out.trans (Bx.of_below D1.out (Nat.le_refl _)))
      have RAd := Lib.hid (RA2.out.below D1.out RA2.out.lt)
      have hcad := fun i => RAd.out.cell i
      have RGd := Lib.hid (RG2.out.below D1.out RG2.out.lt)
      have RBd := Lib.hid (RB2.out.below D1.out RB2.out.lt)
      have hgw2 : g < w2.heap.size := by omega
      have HAd := Lib.hid (HA.out.keep (w' := wc) (S' := Lt wc.heap.size) fun x hx => ⟨Nat.lt_of_lt_of_le hx.1 Xd.out.size, Xd.out.block x hx.1 hx.2⟩)
      have hyy := specYes (fun b => b < w.heap.size ∧ b ≠ g) a rows (some ⟨b, off, none⟩) c A1 c1 A2 c2 wc hl2 many (by omega) hap HOK.out (fun x hx => Nat.lt_of_lt_of_le hx.1 Xd.out.size) (HS.out.keep fun x hx => ⟨hx, Xd.out.block x hx.1 hx.2⟩) HAd.out
      unfold askC at hyy
      have HYY := Lib.hid hyy
      clear hyy
      go_wp2_with fail
      refine HYY.out.mono ?_
      rintro e wy ⟨Ay, cy, rfl, hsy, hby⟩
      have EY := Lib.hid hby
      have Xy := Lib.hid (Xd.out.trans (Bx.of_below hby (Nat.le_refl _)))
      have hzy := hby.size
      have RGy := Lib.hid (RGd.out.below EY.out RGd.out.lt)
      have hia := HIH.out (many + 1) (yesR a rows) Ay cy wy (by omega) (by omega) (HOK.out.yes a hap) (Nat.le_trans (yesR_len a rows) hl2) (by rw [HF.out]; exact RGy.out) (hsy.keep fun x hx => ⟨⟨hx.2, by rcases hx.1 with h1 | h1; exact h1.2; omega⟩, rfl⟩)
      rw [HP.out] at hia
      have HIA := Lib.hid hia
      clear hia hsy hby HYY hcad
      go_wp2_with fail
      refine HIA.out.mono ?_
      rintro e wa ⟨P1, pc1, P2, pc2, rfl, hoa, hga, hxa⟩
      have OA := Lib.hid hoa
      have GA := Lib.hid hga
      have XA := Lib.hid hxa
      have hza := hxa.size
      clear hoa hga hxa HIA
      obtain ⟨wb, eb⟩ : ∃ wb, wb = wa.alloc (.cells #[.int .i64 p.1.op, .int .i64 p.1.n, .slice P1 p.1.path.length pc1, .string p.1.s, .slice P2 p.1.kids.length pc2] 29) := ⟨_, rfl⟩
      have Eb := Lib.hid (show Below wa.heap.size wa wb by rw [eb]; exact (Below.refl _ _).alloc (Nat.le_refl _) _)
      have hzb : wa.heap.size + 1 ≤ wb.heap.size := by rw [eb]; simp
      have Xb := Lib.hid ((Xy.out.trans XA.out).trans (Bx.of_below Eb.out (Nat.le_refl _)))
      have RPb := Lib.hid (show Row wb wa.heap.size 29 #[.int .i64 p.1.op, .int .i64 p.1.n, .slice P1 p.1.path.length pc1, .string p.1.s, .slice P2 p.1.kids.length pc2] by rw [eb]; exact Row.new _ _ _)
      have RAa := Lib.hid (XA.out.row (RAd.out.below EY.out RAd.out.lt) (by omega))
      have RAb := Lib.hid (RAa.out.below Eb.out RAa.out.lt)
      have RNa := Lib.hid (XA.out.row (D2.out.below EY.out D2.out.lt) (by omega))
      have RNb := Lib.hid (RNa.out.below Eb.out RNa.out.lt)
      have RBa := Lib.hid (XA.out.row (RBd.out.below EY.out RBd.out.lt) (by omega))
      have RBb := Lib.hid (RBa.out.below Eb.out RBa.out.lt)
      have RGb := Lib.hid (GA.out.below Eb.out GA.out.lt)
      have hcab := fun i => RAb.out.cell i
      have hp2 : many + 1 < p.2 ∧ p.2 ≤ max (many + 1 + 1) (301 + k) := by rw [← HP.out]; exact ⟨growV_less k _ _, growV_le k _ _⟩
      have HAb := Lib.hid (HA.out.keep (w' := wb) (S' := Lt wb.heap.size) fun x hx => ⟨Nat.lt_of_lt_of_le hx.1 Xb.out.size, Xb.out.block x hx.1 hx.2⟩)
      have hnn := specNo (fun b => b < w.heap.size ∧ b ≠ g) a rows (some ⟨b, off, none⟩) c A1 c1 A2 c2 wb hl2 (fun r hr => Nat.le_trans (asksM_len _) (HOK.out r hr).1) (fun x hx => Nat.lt_of_lt_of_le hx.1 Xb.out.size) (HS.out.keep fun x hx => ⟨hx, Xb.out.block x hx.1 hx.2⟩) HAb.out
      unfold askC at hnn
      have HNN := Lib.hid hnn
      clear hnn
      go_upto_region 17 with (fail)
      rw [← eb]
      clear eb
      go_wp2_with fail
      refine HNN.out.mono ?_
      rintro e wn ⟨An, cn, rfl, hsn, hbn⟩
      have EN := Lib.hid hbn
      have hzn := hbn.size
      have Xn' := Lib.hid (Xb.out.trans (Bx.of_below hbn (Nat.le_refl _)))
      have RGn := Lib.hid (RGb.out.below EN.out RGb.out.lt)
      have hzwb := Xb.out.size
      have hiq := HIH.out p.2 (noR a rows) An cn wn (by omega) (by omega) ((HOK.out.no a).mono (by omega)) (Nat.le_trans (noR_len a rows) hl2) RGn.out (hsn.keep fun x hx => ⟨⟨hx.2, by rcases hx.1 with h1 | h1; exact h1.2; omega⟩, rfl⟩)
      rw [HQ.out] at hiq
      have HIQ := Lib.hid hiq
      clear hiq hsn hbn HNN hcab
      go_wp2_with fail
      refine HIQ.out.mono ?_
      rintro e wq ⟨Q1, qc1, Q2, qc2, rfl, hoq, hgq, hxq⟩
      have OQ := Lib.hid hoq
      have GQ := Lib.hid hgq
      have XQ := Lib.hid hxq
      have hzq := hxq.size
      clear hoq hgq hxq HIQ
      obtain ⟨wz, ez⟩ : ∃ wz, wz = wq.alloc (.cells #[.int .i64 q.1.op, .int .i64 q.1.n, .slice Q1 q.1.path.length qc1, .string q.1.s, .slice Q2 q.1.kids.length qc2] 29) := ⟨_, rfl⟩
      have Ez := Lib.hid (show Below wq.heap.size wq wz by rw [ez]; exact (Below.refl _ _).alloc (Nat.le_refl _) _)
      have hzz : wq.heap.size + 1 = wz.heap.size := by rw [ez]; simp
      have Xz := Lib.hid ((Xn'.out.trans XQ.out).trans (Bx.of_below Ez.out (Nat.le_refl _)))
      have RQz := Lib.hid (show Row wz wq.heap.size 29 #[.int .i64 q.1.op, .int .i64 q.1.n, .slice Q1 q.1.path.length qc1, .string q.1.s, .slice Q2 q.1.kids.length qc2] by rw [ez]; exact Row.new _ _ _)
      have RPq := Lib.hid (XQ.out.row (RPb.out.below EN.out RPb.out.lt) (by omega))
      have RPz := Lib.hid (RPq.out.below Ez.out RPq.out.lt)
      have RNq := Lib.hid (XQ.out.row (RNb.out.below EN.out RNb.out.lt) (by omega))
      have RNz := Lib.hid (RNq.out.below Ez.out RNq.out.lt)
      have RBq := Lib.hid (XQ.out.row (RBb.out.below EN.out RBb.out.lt) (by omega))
      have RBz := Lib.hid (RBq.out.below Ez.out RBq.out.lt)
      have RGz := Lib.hid (GQ.out.below Ez.out GQ.out.lt)
      have hzc2 := Nat.le_trans hzd hzy
      have c1z := fun i => RQz.out.cell i
      have c2z := fun i => RPz.out.cell i
      have c3z := fun i => RNz.out.cell i
      have f3z := fun i => RNz.out.frozen i
      have c4z := fun i => RBz.out.cell i
      have f4z := fun i => RBz.out.frozen i
      have l1z := RQz.out.lt
      have l2z := RPz.out.lt
      have l3z := RNz.out.lt
      have l4z := RBz.out.lt
      have hne34 : n3 ≠ w.heap.size := by omega
      have hne43 : w.heap.size ≠ n3 := by omega
      go_upto_region 18 with (fail)
      rw [← ez]
      clear ez
      go_wp2_with fail
      obtain ⟨wm, em⟩ : ∃ wm, wm = (((((wz.setCell ⟨n3, 4, none⟩ (.slice (some ⟨wz.heap.size, 0, none⟩) 2 2)).setCell ⟨w.heap.size, 0, none⟩ (.int .i64 (askO a))).setCell ⟨w.heap.size, 1, none⟩ (.int .i64 (askN a))).setCell ⟨w.heap.size, 2, none⟩ (.slice A6 a.path.length c6)).setCell ⟨w.heap.size, 3, none⟩ (.string (askS a))).setCell ⟨w.heap.size, 4, none⟩ (.slice (some ⟨wz.heap.size, 0, none⟩) 2 2) := ⟨_, rfl⟩
      rw [← em]
      obtain ⟨wf, ef⟩ : ∃ wf, wf = wm.alloc (.cells #[.int .i64 p.1.op, .int .i64 p.1.n, .slice P1 p.1.path.length pc1, .string p.1.s, .slice P2 p.1.kids.length pc2, .int .i64 q.1.op, .int .i64 q.1.n, .slice Q1 q.1.path.length qc1, .string q.1.s, .slice Q2 q.1.kids.length qc2] 29) := ⟨_, rfl⟩
      rw [← ef]
      have hzm : wm.heap.size = wz.heap.size := by rw [em]; simp [World.setCell]
      have hwn3 : w.heap.size ≤ n3 := by omega
      have Qm := Lib.hid (fun b (h1 : b ≠ n3) (h2 : b ≠ w.heap.size) (h3 : b < wz.heap.size) => show wf.heap[b]? = wz.heap[b]? from by
        rw [ef, Below.heap_alloc wm _ b (by omega), em]
        rw [Below.heap_setCell _ ⟨w.heap.size, 4, none⟩ _ b h2, Below.heap_setCell _ ⟨w.heap.size, 3, none⟩ _ b h2, Below.heap_setCell _ ⟨w.heap.size, 2, none⟩ _ b h2, Below.heap_setCell _ ⟨w.heap.size, 1, none⟩ _ b h2, Below.heap_setCell _ ⟨w.heap.size, 0, none⟩ _ b h2, Below.heap_setCell _ ⟨n3, 4, none⟩ _ b h1])
      have hzf : wz.heap.size + 1 = wf.heap.size := by rw [ef]; simp [hzm]
      have RKf := Lib.hid (show Row wf wz.heap.size 29 #[.int .i64 p.1.op, .int .i64 p.1.n, .slice P1 p.1.path.length pc1, .string p.1.s, .slice P2 p.1.kids.length pc2, .int .i64 q.1.op, .int .i64 q.1.n, .slice Q1 q.1.path.length qc1, .string q.1.s, .slice Q2 q.1.kids.length qc2] by rw [ef]; exact Row.new' _ _ _ hzm.symm)
      have RBf := Lib.hid (show Row wf w.heap.size 29 #[.int .i64 (askO a), .int .i64 (askN a), .slice A6 a.path.length c6, .string (askS a), .slice (some ⟨wz.heap.size, 0, none⟩) 2 2] by
        rw [ef, em]
        exact ((((((RBz.out.far (p := ⟨n3, 4, none⟩) hne43 _).set 0 _).set 1 _).set 2 _).set 3 _).set 4 _).alloc _)
      have RGf := Lib.hid (show Row wf g 64 #[dv, .int .i64 q.2, .bool (decide (q.2 ≤ 300))] from (Qm.out g (by omega) (by omega) (by omega)).trans RGz.out)
      have XF := Lib.hid (show Bx g w wf by
        rw [ef, em]
        exact ((((((Xz.out.set (p := ⟨n3, 4, none⟩) (.inr hwn3) _).set (p := ⟨w.heap.size, 0, none⟩) (.inr (Nat.le_refl _)) _).set (p := ⟨w.heap.size, 1, none⟩) (.inr (Nat.le_refl _)) _).set (p := ⟨w.heap.size, 2, none⟩) (.inr (Nat.le_refl _)) _).set (p := ⟨w.heap.size, 3, none⟩) (.inr (Nat.le_refl _)) _).set (p := ⟨w.heap.size, 4, none⟩) (.inr (Nat.le_refl _)) _).alloc _)
      have QQ := Lib.hid (fun b (h1 : wn.heap.size ≤ b) (h2 : b < wq.heap.size) => show wf.heap[b]? = wq.heap[b]? from (Qm.out b (by omega) (by omega) (by omega)).trans (Ez.out.block b h2))
      have QA := Lib.hid (fun b (h1 : b ≠ n3) (h2 : b ≠ w.heap.size) (h3 : b ≠ g) (h4 : b < wa.heap.size) => show wf.heap[b]? = wa.heap[b]? from
        (Qm.out b h1 h2 (by omega)).trans ((Ez.out.block b (by omega)).trans ((XQ.out.block b (by omega) h3).trans ((EN.out.block b (by omega)).trans (Eb.out.block b h4)))))
      have OAf := Lib.hid (OA.out.keep (w' := wf) (S' := Btw wy.heap.size wa.heap.size) fun b hb => ⟨hb, QA.out b (by have := hb.1; omega) (by have := hb.1; omega) (by have := hb.1; omega) hb.2⟩)
      have OQf := Lib.hid (OQ.out.keep (w' := wf) (S' := Btw wn.heap.size wq.heap.size) fun b hb => ⟨hb, QQ.out b hb.1 hb.2⟩)
      have D3f := Lib.hid (D3.out.keep (w' := wf) (S' := fun b => (w2.heap.size ≤ b ∧ b < wc.heap.size) ∧ b ≠ n3) fun b hb => ⟨hb, (QA.out b hb.2 (by have := hb.1.1; omega) (by have := hb.1.1; omega) (by have := hb.1.2; omega)).trans ((XA.out.block b (by have := hb.1.2; omega) (by have := hb.1.1; omega)).trans (EY.out.block b hb.1.2))⟩)
      have OK := Lib.hid (oslTwoTree (S := fun b => wc.heap.size ≤ b ∧ b < wf.heap.size) (t1 := p.1) (t2 := q.1) RKf.out OAf.out OQf.out (fun x hx => ⟨⟨⟨by have := hx.1; omega, by have := hx.2; omega⟩, by have := hx.2; omega⟩, fun h2 => by have := hx.2; have := h2.1; omega⟩) (fun x hx => ⟨⟨by have := hx.1; omega, by have := hx.2; omega⟩, by have := hx.2; omega⟩) ⟨by omega, by omega⟩)
      have hwfs : (Lit.int .i64 (askO a)).wf = true ∧ (Lit.int .i64 (askN a)).wf = true ∧ (askS a).size ≤ maxLen := by
        unfold askO askN askS
        split
        · exact ⟨by decide, by decide, HA.out.2.2.2.1⟩
        · exact ⟨by decide, HA.out.2.2.1, by simp [ByteArray.size, maxLen]⟩
      have hczf := fun i => RBf.out.cell i
      have HVT := Lib.hid (show growV (k + 1) many rows = (.mk (askO a) (askN a) a.path (askS a) [p.1, q.1], q.2) by rw [HV.out, askT_eq])
      rw [HVT.out]
      clear ef em c1z c2z c3z c4z f3z f4z
      exact bodyPost_ret (v := .agg #[.int .i64 (askO a), .int .i64 (askN a), .slice A6 a.path.length c6, .string (askS a), .slice (some ⟨wz.heap.size, 0, none⟩) 2 2]) (by simp [results, Try.results22, go_sem, hczf]) rfl ⟨A6, c6, some ⟨wz.heap.size, 0, none⟩, 2, rfl, ⟨fun b => (w2.heap.size ≤ b ∧ b < wc.heap.size) ∧ b ≠ n3, fun b => wc.heap.size ≤ b ∧ b < wf.heap.size, fun x hx => ⟨by have := hx.1.1; omega, by have := hx.1.2; omega⟩, fun x hx => ⟨by have := hx.1; omega, hx.2⟩, fun x hx h2 => by have := hx.1.2; have := h2.1; omega, hwfs.1, hwfs.2.1, D3f.out, hwfs.2.2, OK.out⟩, RGf.out, XF.out⟩
theorem specMade (g : Nat) (dv : Value) : ∀ (k : Nat), k ≤ 1000 → MadeOk g dv k
  | 0, _, many, rows, A, c, w, h, hm, hok, hl, hrow, hs => specMadeOver g dv 0 many rows A c w (by omega) hm hrow
  | k + 1, hk, many, rows, A, c, w, h, hm, hok, hl, hrow, hs => by
    by_cases ho : 300 < many + 1
    · exact specMadeOver g dv (k + 1) many rows A c w ho hm hrow
    · by_cases h0 : 0 < rows.length
      · by_cases ha : 0 < rows[0].asks.length
        · exact specMadeAsk g dv k many rows A c w (specMade g dv k (by omega)) ho h (by omega) hok h0 hl ha hrow hs
        · exact specMadeDone g dv k many rows A c w ho h0 hl (by omega) hrow hs
      · exact specMadeNone g dv k many rows A c w ho (by omega) hrow
end Go.Proofs.Ytnpkmebnmklcfaa

/- Trees of cases: the whole, in the reference. Conditions: the sizes are bounded. -/
namespace Go.Proofs.Ytnpkmebnmklcfaa
open Go.RowKit
set_option linter.unusedVariables false
set_option linter.unusedSimpArgs false
set_option maxHeartbeats 1000000

/-- rows of patterns that are handed back; they lie where the argument lay, or in new blocks -/
def RowsToS (S : Nat → Prop) (rows : List (List GNode)) (w : World) (e : Ending) (w' : World) : Prop := ∃ A c, e = .returned (.slice A rows.length c) ∧ Sl w' (fun b => Xs S w.heap.size b ∧ b < w'.heap.size) 1 A c (rows.map rowD) ∧ Below w.heap.size w w'
set_option maxRecDepth 20000 in
theorem specRowsS (S : Nat → Prop) (alts : List GNode) (A : Option Addr) (c : Nat) (w : World) (hl : alts.length ≤ 1048576) (hS : ∀ b, S b → b < w.heap.size) (hs : Sl w S 5 A c (alts.map GNode.toD)) :
    Calls Try.prog 19 #[.slice A alts.length c] w (RowsToS S (rowsOf patOf alts) w) := by
  have HS := Lib.hid hs
  have HSL := Lib.hid hS
  have hlm : alts.length ≤ 9223372036854775807 := by omega
  obtain ⟨w0, e0⟩ : ∃ w0, w0 = w.alloc (.cells #[] 34) := ⟨_, rfl⟩
  have E0 := Lib.hid (show Below w.heap.size w w0 by rw [e0]; exact (Below.refl _ _).alloc (Nat.le_refl _) _)
  have G0 := Lib.hid (show Grx (Xs S w.heap.size) w0 w.heap.size 34 1 (.slice (some ⟨w.heap.size, 0, none⟩) 0 0) 0 [] from Grx.made (by rw [e0]; exact Row.new' _ _ _ rfl) (Nat.le_refl _))
  clear hs hS
  go_enter Try.func19, Try.ntmps19
  go_wp2_with fail
  rw [← e0]
  clear e0
  go_loopw [3, 4] (fun v i wr => ∃ (j : Nat) (A : Option Addr) (c : Nat), j ≤ alts.length ∧ i = .int .i64 j ∧ v = .slice A j c ∧ Hid (Grx (Xs S w.heap.size) wr w.heap.size 34 1 (.slice A j c) j ((rowsOf patOf (alts.take j)).map rowD)) ∧ Hid (Below w.heap.size w wr)) (fun _ i _ => alts.length - (intOf i).toNat)
  case atStart => exact ⟨0, _, _, by omega, by go_num, rfl, G0, E0⟩
  case round =>
    clear G0 E0
    obtain ⟨j, A', c', hj, rfl, rfl, HG, HB⟩ := hrel
    have hsz := HB.out.size
    have HOW := Lib.hid (fun g (hg : (Value.slice A' j c').ownBlock = some g) => HG.out.own g hg)
    by_cases hlt : j < alts.length
    · obtain ⟨b, off, A1, c1, rfl, hSb, q0, q1, q2, q3, q4, hat⟩ := GNode.elem (HS.out.keep (w' := wr) (S' := S) fun k hk => ⟨hk, HB.out.block k (HSL.out k hk)⟩) j hlt
      have HT := Lib.hid (rowsOf_take (f := patOf) hlt)
      have hkm : (alts[j]).kids.length ≤ 9223372036854775807 := by simpa using hat.2.2.2.2.len
      obtain ⟨wa, ea⟩ : ∃ wa, wa = wr.alloc (.cells #[.int .i64 17, .int .i64 0, .string ⟨#[]⟩, .string ⟨#[]⟩, .slice none 0 0] 55) := ⟨_, rfl⟩
      have EA := Lib.hid (show Below wr.heap.size wr wa by rw [ea]; exact (Below.refl _ _).alloc (Nat.le_refl _) _)
      have RA := Lib.hid (show Row wa wr.heap.size 55 #[.int .i64 17, .int .i64 0, .string ⟨#[]⟩, .string ⟨#[]⟩, .slice none 0 0] by rw [ea]; exact Row.new' _ _ _ rfl)
      have hsa := Nat.le_trans hsz EA.out.size
      have k4 := (EA.out.cell (p := ⟨b, off + j * 5 + 4, none⟩) (Nat.lt_of_lt_of_le (HSL.out _ hSb) hsz)).trans q4
      cases hks : (alts[j]).kids with
      | nil =>
        have HV := Lib.hid (show patOf alts[j] = anyN from patOf_nil hks)
        rw [hks] at k4
        rw [ea] at k4
        have hwa : wa.heap.size = wr.heap.size + 1 := by rw [ea]; simp
        obtain ⟨w3, e3⟩ : ∃ w3, w3 = wa.alloc (.cells #[.slice (some ⟨wr.heap.size, 0, none⟩) 1 1] 34) := ⟨_, rfl⟩
        have E3 := Lib.hid (show Below wa.heap.size wa w3 by rw [e3]; exact (Below.refl _ _).alloc (Nat.le_refl _) _)
        have T3 := Lib.hid (oneRow (X := Xs S w.heap.size) (r := [anyN]) (w' := w3) (T := 34) (Value.slice A' j c') (fun g hg => Nat.lt_of_lt_of_le (HOW.out g hg).2 EA.out.size) (.inr (by have := EA.out.size; omega)) e3
          (slOne RA.out (anyN_cells _ _) rfl ⟨RA.out.lt, fun e => by have := (HOW.out _ e).2; omega, .inr (by omega)⟩))
        have T3x := Lib.hid (show Sl w3 (fun b => b < w3.heap.size ∧ (Value.slice A' j c').ownBlock ≠ some b ∧ Xs S w.heap.size b) 1 (some ⟨wr.heap.size + 1, 0, none⟩) 1 ([[anyN]].map rowD) from by have h := T3.out; rw [hwa] at h; exact h)
        clear hwa
        have G3 := Lib.hid ((HG.out.below EA.out).below E3.out)
        have hs3 := Nat.le_trans hsa E3.out.size
        have B3 := Lib.hid ((HB.out.trans (EA.out.mono hsz)).trans (E3.out.mono hsa))
        clear hat hks q0 q1 q2 q3 q4
        go_wp2_with (first | (at_builtin; rw [← ea, ← e3]; refine wpList_append_X w3 rfl (.tmp 30) (.tmp 32) 51 rfl 34 zRow 1 24 Try.underlying51 (by kernel_rfl) rfl (by omega) w.heap.size (.slice A' j c') j _ G3.out (some ⟨wr.heap.size + 1, 0, none⟩) 1 1 _ rfl T3x.out hs3 (by unfold maxLen; omega) (by omega) rfl rfl ?_; intro A4 c4 w4 G4 hGr4; have G4h := Lib.hid G4; have B4 := Lib.hid (B3.out.trans (hGr4.below hs3 (fun g hg => (HOW.out g hg).1))); clear G4 hGr4))
        go_roundw
        case rel => exact ⟨j + 1, A4, c4, by omega, by go_num, rfl, Lib.hid (by rw [HT.out, HV.out, List.map_append]; exact G4h.out), B4⟩
        case measure => simp [intOf]; omega
      | cons k r =>
        have hl : (alts[j]).kids.length = r.length + 1 := by rw [hks]; rfl
        have HV := Lib.hid (show patOf alts[j] = k from patOf_cons hks)
        have hat2 := hat.2.2.2.2
        rw [hks] at hat2
        obtain ⟨bk, offk, A2, c2, rfl, hSk, p0, p1, p2, p3, p4, hk⟩ := GNode.elem hat2 0 (by simp)
        simp only [Nat.zero_mul, Nat.add_zero, List.getElem_cons_zero] at p0 p1 p2 p3 p4 hk
        rw [hl] at k4 hkm
        have m0 := (EA.out.cell (p := ⟨bk, offk, none⟩) (Nat.lt_of_lt_of_le (HSL.out _ hSk) hsz)).trans p0
        have m1 := (EA.out.cell (p := ⟨bk, offk + 1, none⟩) (Nat.lt_of_lt_of_le (HSL.out _ hSk) hsz)).trans p1
        have m2 := (EA.out.cell (p := ⟨bk, offk + 2, none⟩) (Nat.lt_of_lt_of_le (HSL.out _ hSk) hsz)).trans p2
        have m3 := (EA.out.cell (p := ⟨bk, offk + 3, none⟩) (Nat.lt_of_lt_of_le (HSL.out _ hSk) hsz)).trans p3
        have m4 := (EA.out.cell (p := ⟨bk, offk + 4, none⟩) (Nat.lt_of_lt_of_le (HSL.out _ hSk) hsz)).trans p4
        rw [ea] at k4 m0 m1 m2 m3 m4
        have hwa : wa.heap.size = wr.heap.size + 1 := by rw [ea]; simp
        obtain ⟨wb, eb⟩ : ∃ wb, wb = wa.alloc (.cells #[.int .i64 k.op, .int .i64 k.n, .string k.s, .string k.t, .slice A2 k.kids.length c2] 55) := ⟨_, rfl⟩
        have EB := Lib.hid (show Below wa.heap.size wa wb by rw [eb]; exact (Below.refl _ _).alloc (Nat.le_refl _) _)
        have RB := Lib.hid (show Row wb (wr.heap.size + 1) 55 #[.int .i64 k.op, .int .i64 k.n, .string k.s, .string k.t, .slice A2 k.kids.length c2] by rw [eb]; exact Row.new' _ _ _ hwa.symm)
        have hwb : wb.heap.size = wr.heap.size + 2 := by rw [eb]; simp; omega
        obtain ⟨w3, e3⟩ : ∃ w3, w3 = wb.alloc (.cells #[.slice (some ⟨wr.heap.size + 1, 0, none⟩) 1 1] 34) := ⟨_, rfl⟩
        have E3 := Lib.hid (show Below wb.heap.size wb w3 by rw [e3]; exact (Below.refl _ _).alloc (Nat.le_refl _) _)
        have T3 := Lib.hid (oneRow (X := Xs S w.heap.size) (r := [k]) (w' := w3) (T := 34) (Value.slice A' j c') (fun g hg => Nat.lt_of_lt_of_le (HOW.out g hg).2 (Nat.le_trans EA.out.size EB.out.size)) (.inr (by have := EA.out.size; omega)) e3
          (slOne RB.out (GNode.rd_mk (t := k) (hk.keep (w' := wb) (S' := fun b => b < wb.heap.size ∧ (Value.slice A' j c').ownBlock ≠ some b ∧ Xs S w.heap.size b) fun b hb => ⟨⟨by have := HSL.out b hb; omega, fun e => by have := (HOW.out _ e).1; have := HSL.out b hb; omega, .inl hb⟩, (EB.out.block b (by have := HSL.out b hb; omega)).trans (EA.out.block b (by have := HSL.out b hb; omega))⟩)) rfl ⟨RB.out.lt, fun e => by have := (HOW.out _ e).2; omega, .inr (by omega)⟩))
        have T3x := Lib.hid (show Sl w3 (fun b => b < w3.heap.size ∧ (Value.slice A' j c').ownBlock ≠ some b ∧ Xs S w.heap.size b) 1 (some ⟨wr.heap.size + 2, 0, none⟩) 1 ([[k]].map rowD) from by have h := T3.out; rw [hwb] at h; exact h)
        have G3 := Lib.hid (((HG.out.below EA.out).below EB.out).below E3.out)
        have hs3 : w.heap.size ≤ w3.heap.size := Nat.le_trans hsa (Nat.le_trans EB.out.size E3.out.size)
        have B3 := Lib.hid (((HB.out.trans (EA.out.mono hsz)).trans (EB.out.mono hsa)).trans (E3.out.mono (Nat.le_trans hsa EB.out.size)))
        rw [hl] at q4
        clear hat hat2 hks hk p0 p1 p2 p3 p4 hwa hwb hl q0 q1 q2 q3
        go_wp2_with (first | (at_builtin; rw [← ea, ← eb, ← e3]; refine wpList_append_X w3 rfl (.tmp 30) (.tmp 32) 51 rfl 34 zRow 1 24 Try.underlying51 (by kernel_rfl) rfl (by omega) w.heap.size (.slice A' j c') j _ G3.out (some ⟨wr.heap.size + 2, 0, none⟩) 1 1 _ rfl T3x.out hs3 (by unfold maxLen; omega) (by omega) rfl rfl ?_; intro A4 c4 w4 G4 hGr4; have G4h := Lib.hid G4; have B4 := Lib.hid (B3.out.trans (hGr4.below hs3 (fun g hg => (HOW.out g hg).1))); clear G4 hGr4))
        go_roundw
        case rel => exact ⟨j + 1, A4, c4, by omega, by go_num, rfl, Lib.hid (by rw [HT.out, HV.out, List.map_append]; exact G4h.out), B4⟩
        case measure => simp [intOf]; omega
    · have hje : j = alts.length := by omega
      have HLE := Lib.hid (show alts.take j = alts by rw [hje, List.take_length])
      clear hje
      go_wp2_with fail
      go_ret
      have hG := HG.out
      rw [HLE.out] at hG
      obtain ⟨A5, c5, e5, hs5⟩ := hG.slY (Y := Xs S w.heap.size) (fun _ h => h) (fun b h => .inr h)
      have hl5 := hG.1
      obtain ⟨rfl, rfl⟩ : A' = A5 ∧ c' = c5 := by simpa using e5
      exact ⟨A', c', ret_sl (by rw [← hl5]; simp), hs5, HB.out⟩
end Go.Proofs.Ytnpkmebnmklcfaa

/- Trees of cases: the whole, in the reference. Conditions: the sizes are bounded. -/
namespace Go.Proofs.Ytnpkmebnmklcfaa
open Go.RowKit
set_option linter.unusedVariables false
set_option linter.unusedSimpArgs false
set_option maxHeartbeats 2000000

def rowA (i : Nat) (p : GNode) : GTrow := ⟨(i : Int), bareA [⟨[], p⟩]⟩
/-- the first rows -/
def rowsA : Nat → List GNode → List GTrow
  | _, [] => []
  | i, p :: r => rowA i p :: rowsA (i + 1) r
theorem rowsA_len : ∀ (i : Nat) (l : List GNode), (rowsA i l).length = l.length
  | _, [] => rfl
  | i, p :: r => by simp only [rowsA, List.length_cons, rowsA_len (i + 1) r]
theorem rowsA_snoc (x : GNode) : ∀ (i : Nat) (l : List GNode), rowsA i (l ++ [x]) = rowsA i l ++ [rowA (i + l.length) x]
  | i, [] => rfl
  | i, p :: r => by
    simp only [List.cons_append, rowsA, rowsA_snoc x (i + 1) r, List.length_cons]
    rw [show i + 1 + r.length = i + (r.length + 1) by omega]
theorem rowsA_take (l : List GNode) (j : Nat) (h : j < l.length) : rowsA 0 (l.take (j + 1)) = rowsA 0 (l.take j) ++ [rowA j l[j]] := by
  rw [take_snoc' l j h, rowsA_snoc, List.length_take, Nat.min_eq_left (by omega), Nat.zero_add]
theorem rowsA_ok : ∀ (i : Nat) (l : List GNode), (∀ p ∈ l, p.bulk + 1 ≤ 1048576) → RowsOk 0 (rowsA i l)
  | _, [], _ => fun r hr => by simp [rowsA] at hr
  | i, p :: rest, h => fun r hr => by
    simp only [rowsA] at hr
    rcases List.mem_cons.1 hr with rfl | hr
    · have hp := h p (List.mem_cons_self ..)
      refine ⟨?_, fun x hx => ?_⟩
      · have h1 := asksM_bare [⟨[], p⟩]
        have h2 : asksM [⟨[], p⟩] = 1 + p.bulk := by simp [asksM_cons, asksM_nil]
        show asksM (bareA [⟨[], p⟩]) ≤ 1048576
        omega
      · have hx2 : x ∈ bareA [⟨[], p⟩] := hx
        unfold bareA at hx2
        obtain ⟨h1, h2⟩ := List.mem_filter.1 hx2
        obtain rfl := List.mem_singleton.1 h1
        exact ⟨by simpa using h2, by simp⟩
    · exact rowsA_ok (i + 1) rest (fun q hq => h q (List.mem_cons_of_mem _ hq)) r hr
/-- the tree of patterns, if all their cons are some and it is not too big -/
def treesV (ds : List GData) (l : List GNode) : GTree × Bool :=
  if l.all (conOk ds) = true then (if (growV 301 0 (rowsA 0 l)).2 ≤ 300 then ((growV 301 0 (rowsA 0 l)).1, true) else (zeroT, false)) else (zeroT, false)
/-- a tree that is handed back, and a word -/
def ToTreeB (r : GTree × Bool) (w : World) (e : Ending) (w' : World) : Prop := ∃ A1 c1 A2 c2, e = .returned (.tuple #[.agg #[.int .i64 r.1.op, .int .i64 r.1.n, .slice A1 r.1.path.length c1, .string r.1.s, .slice A2 r.1.kids.length c2], .bool r.2]) ∧ GTree.Ow w' (Btw w.heap.size w'.heap.size) A1 c1 A2 c2 r.1 ∧ Below w.heap.size w w'
theorem treeBad {r : GTree × Bool} {w w' : World} (hr : r = (zeroT, false)) (hb : Below w.heap.size w w') : ToTreeB r w (.returned (.tuple #[.agg #[.int .i64 0, .int .i64 0, .slice none 0 0, .string ⟨#[]⟩, .slice none 0 0], .bool false])) w' := by
  subst hr
  exact ⟨none, 0, none, 0, rfl, owLeaf (by decide) (by decide), hb⟩

set_option maxRecDepth 20000 in
theorem specTrees (ds : List GData) (alts : List GNode) (A : Option Addr) (c : Nat) (B : Option Addr) (d : Nat) (w : World) (hl : alts.length ≤ 1048576) (hbk : ∀ p ∈ alts.map patOf, p.bulk + 1 ≤ 1048576) (hs : Sl w (Lt w.heap.size) 3 A c (ds.map GData.toD)) (hs2 : Sl w (Lt w.heap.size) 5 B d (alts.map GNode.toD)) :
    Calls Try.prog 6 #[.slice A ds.length c, .slice B alts.length d] w (ToTreeB (treesV ds (alts.map patOf)) w) := by
  have HD := Lib.hid hs
  obtain ⟨w0, e0⟩ : ∃ w0, w0 = (w.alloc (.cells #[.int .i64 0, .int .i64 0, .slice none 0 0, .string ⟨#[]⟩, .slice none 0 0] 29)).alloc (.cells #[] 58) := ⟨_, rfl⟩
  have E0 := Lib.hid (show Below w.heap.size w w0 by rw [e0]; exact ((Below.refl _ _).alloc (Nat.le_refl _) _).alloc (by simp) _)
  have RZ0 := Lib.hid (show Row w0 w.heap.size 29 #[.int .i64 0, .int .i64 0, .slice none 0 0, .string ⟨#[]⟩, .slice none 0 0] by rw [e0]; exact (Row.new' _ _ _ rfl).alloc _)
  have RR0 := Lib.hid (show Row w0 (w.heap.size + 1) 58 #[] by rw [e0]; exact Row.new' _ _ _ (by simp))
  have hz0 : w.heap.size + 2 = w0.heap.size := by rw [e0]; simp
  have hrr := specRowsS (fun b => b < w.heap.size) alts B d w0 hl (fun b hb => by omega) (hs2.keep fun q hq => ⟨hq, E0.out.block q hq⟩)
  obtain ⟨l, hll⟩ : ∃ l, alts.map patOf = l := ⟨_, rfl⟩
  have hln : alts.length = l.length := by rw [← hll]; simp
  rw [show rowsOf patOf alts = l.map (fun p => [p]) by rw [← hll]; unfold rowsOf; simp] at hrr
  rw [hll] at hbk ⊢
  have HRR := Lib.hid hrr
  have HBK := Lib.hid hbk
  have hl2 : l.length ≤ 1048576 := by omega
  have HOKR := Lib.hid (rowsA_ok 0 l hbk)
  clear hs hs2 hrr hbk hll hln
  go_enter Try.func6, Try.ntmps6
  go_wp2_with fail
  rw [← e0]
  clear e0
  refine HRR.out.mono ?_
  rintro e w1 ⟨P, cp, rfl, hsp, hb1⟩
  have HP := Lib.hid hsp
  have B1 := Lib.hid hb1
  have hz1 := hb1.size
  have G1 := Lib.hid (show Grx AnyB w1 (w.heap.size + 1) 58 2 (.slice (some ⟨w.heap.size + 1, 0, none⟩) 0 0) 0 [] from Grx.made (RR0.out.below hb1 RR0.out.lt) (Nat.le_refl _))
  have RZ1 := Lib.hid (RZ0.out.below hb1 RZ0.out.lt)
  have BW1 := Lib.hid (E0.out.trans (hb1.mono E0.out.size))
  have HO1 := Lib.hid (fun g (hg : (Value.slice (some ⟨w.heap.size + 1, 0, none⟩) 0 0).ownBlock = some g) => show g = w.heap.size + 1 ∨ w1.heap.size ≤ g from .inl (by simpa [Value.ownBlock] using hg.symm))
  clear hsp hb1 HRR RR0 RZ0
  simp only [List.length_map]
  go_wp2_with fail
  go_loopw [6, 8] (fun v i wr => ∃ (j : Nat) (A' : Option Addr) (c' : Nat), j ≤ l.length ∧ i = .int .i64 j ∧ v = .slice A' j c' ∧ Hid (Grx AnyB wr (w.heap.size + 1) 58 2 (.slice A' j c') j ((rowsA 0 (l.take j)).map GTrow.toD)) ∧ Hid (conOkL ds (l.take j) = true) ∧ Hid (∀ g, (Value.slice A' j c').ownBlock = some g → g = w.heap.size + 1 ∨ w1.heap.size ≤ g) ∧ Hid (Bx (w.heap.size + 1) w1 wr)) (fun _ i _ => l.length - (intOf i).toNat)
  case atStart => exact ⟨0, _, _, by omega, by go_num, rfl, G1, Lib.hid rfl, HO1, Lib.hid (Bx.refl _ _)⟩
  case round =>
    clear G1 HO1
    obtain ⟨j, A', c', hj, rfl, rfl, HG, HL, HO, HX⟩ := hrel
    have hsz := HX.out.size
    have BW := Lib.hid (BW1.out.trans (HX.out.below (B := w.heap.size) (by omega) (by omega)))
    have RZ := Lib.hid (HX.out.row RZ1.out (by omega))
    by_cases hlt : j < l.length
    · obtain ⟨b, off, A2, c2, rfl, hSb, g0, hrow⟩ := rowD_elem (HP.out.keep (w' := wr) (S' := fun q => q < w1.heap.size ∧ q ≠ w.heap.size + 1) fun q hq => ⟨⟨hq.2, by rcases hq.1 with h | h <;> omega⟩, HX.out.block q hq.2 (by rcases hq.1 with h | h <;> omega)⟩) j (by simpa using hlt)
      simp only [List.getElem_map, List.length_cons, List.length_nil, Nat.zero_add] at g0 hrow
      obtain ⟨b3, off3, A3, c3, rfl, hSb3, q0, q1, q2, q3, q4, hat⟩ := GNode.elem (l := [l[j]]) hrow 0 (by simp)
      simp only [Nat.zero_mul, Nat.add_zero, List.getElem_cons_zero] at q0 q1 q2 q3 q4 hat
      have hbl := Nat.lt_of_lt_of_le hSb.1 hsz
      have hbl3 := Nat.lt_of_lt_of_le hSb3.1 hsz
      have dl : decide ((j : Int) < (l.length : Int)) = true := decide_eq_true (by omega)
      have HT := Lib.hid (rowsA_take l j hlt)
      have HTC := Lib.hid (conOkL_take (ds := ds) hlt)
      have HM := Lib.hid (List.getElem_mem hlt)
      obtain ⟨p, hp⟩ : ∃ p, l[j] = p := ⟨_, rfl⟩
      rw [hp] at q0 q1 q2 q3 q4 hat HT HTC HM
      have HAT := Lib.hid hat
      have HC := Lib.hid (specCons ds A c (p.bulk + 1) p A3 c3 wr (by omega) (HD.out.below BW.out BW.out.size) (hat.keep fun q hq => ⟨Nat.lt_of_lt_of_le hq.1 hsz, rfl⟩))
      have HOW := Lib.hid (fun g (hg : (Value.slice A' j c').ownBlock = some g) => HG.out.own g hg)
      clear hat hrow hp
      go_wp2_with fail
      refine HC.out.mono ?_
      rintro e w2 ⟨rfl, hb2⟩
      have E2 := Lib.hid hb2
      have hz2 := hb2.size
      have m := (E2.out.cell (p := ⟨b, off + j, none⟩) hbl).trans g0
      have m0 := (E2.out.cell (p := ⟨b3, off3, none⟩) hbl3).trans q0
      have m1 := (E2.out.cell (p := ⟨b3, off3 + 1, none⟩) hbl3).trans q1
      have m2 := (E2.out.cell (p := ⟨b3, off3 + 2, none⟩) hbl3).trans q2
      have m3 := (E2.out.cell (p := ⟨b3, off3 + 3, none⟩) hbl3).trans q3
      have m4 := (E2.out.cell (p := ⟨b3, off3 + 4, none⟩) hbl3).trans q4
      clear hb2 g0 q0 q1 q2 q3 q4 HC
      cases hc : conOk ds p
      · have HV := Lib.hid (show treesV ds l = (zeroT, false) by
          unfold treesV
          rw [if_neg]
          intro h
          rw [List.all_eq_true] at h
          rw [h p HM.out] at hc
          cases hc)
        have RZ2 := Lib.hid (RZ.out.below E2.out RZ.out.lt)
        have hcz := fun i => RZ2.out.cell i
        have hfz := fun i => RZ2.out.frozen i
        have BF := Lib.hid (BW.out.trans (E2.out.mono BW.out.size))
        clear hc m m0 m1 m2 m3 m4
        go_wp2_with fail
        obtain ⟨wf, ef⟩ : ∃ wf, wf = ((((w2.setCell ⟨w.heap.size, 0, none⟩ (.int .i64 0)).setCell ⟨w.heap.size, 1, none⟩ (.int .i64 0)).setCell ⟨w.heap.size, 2, none⟩ (.slice none 0 0)).setCell ⟨w.heap.size, 3, none⟩ (.string ⟨#[]⟩)).setCell ⟨w.heap.size, 4, none⟩ (.slice none 0 0) := ⟨_, rfl⟩
        rw [← ef]
        have RF := Lib.hid (show Row wf w.heap.size 29 #[.int .i64 0, .int .i64 0, .slice none 0 0, .string ⟨#[]⟩, .slice none 0 0] by rw [ef]; exact ((((RZ2.out.set 0 _).set 1 _).set 2 _).set 3 _).set 4 _)
        have BF2 := Lib.hid (show Below w.heap.size w wf by rw [ef]; exact ((((BF.out.setCell (p := ⟨w.heap.size, 0, none⟩) (Nat.le_refl _) _).setCell (p := ⟨w.heap.size, 1, none⟩) (Nat.le_refl _) _).setCell (p := ⟨w.heap.size, 2, none⟩) (Nat.le_refl _) _).setCell (p := ⟨w.heap.size, 3, none⟩) (Nat.le_refl _) _).setCell (p := ⟨w.heap.size, 4, none⟩) (Nat.le_refl _) _)
        have hcf := fun i => RF.out.cell i
        clear hcz hfz ef
        exact bodyPost_ret (v := .tuple #[.agg #[.int .i64 0, .int .i64 0, .slice none 0 0, .string ⟨#[]⟩, .slice none 0 0], .bool false]) (by simp [results, Try.results6, go_sem, hcf]) rfl (treeBad HV.out BF2.out)
      · have HL2 := Lib.hid (show conOkL ds (l.take (j + 1)) = true by rw [HTC.out, HL.out, hc]; rfl)
        obtain ⟨w3, e3⟩ : ∃ w3, w3 = w2.alloc (.cells #[.slice none 0 0, .int .i64 p.op, .int .i64 p.n, .string p.s, .string p.t, .slice A3 p.kids.length c3] 61) := ⟨_, rfl⟩
        have E3 := Lib.hid (show Below w2.heap.size w2 w3 by rw [e3]; exact (Below.refl _ _).alloc (Nat.le_refl _) _)
        have hz3 : w2.heap.size < w3.heap.size := by rw [e3]; simp
        have T3 := Lib.hid (show Sl w3 (fun q => (Value.slice A' j c').ownBlock ≠ some q ∧ q < w3.heap.size) 6 (some ⟨w2.heap.size, 0, none⟩) 1 ([(⟨[], p⟩ : GAsk)].map GAsk.toD) from
          slOne (T := 61) (cs := [.slice none 0 0, .int .i64 p.op, .int .i64 p.n, .string p.s, .string p.t, .slice A3 p.kids.length c3]) (by rw [e3]; exact Row.new _ _ _) (GAsk.rd_mk (t := ⟨[], p⟩) (A1 := none) (c1 := 0) ⟨Sl.nil (Nat.zero_le _), HAT.out.keep fun q hq => ⟨⟨fun e => by have h1 := HO.out _ e; have h2 := hq.1; have h3 := hq.2; omega, by have := hq.1; omega⟩, (E3.out.block q (by have := hq.1; omega)).trans (E2.out.block q (by have := hq.1; omega))⟩⟩) rfl ⟨fun e => by have := (HOW.out _ e).2; omega, hz3⟩)
        obtain ⟨L, hL⟩ : ∃ L, bareA [⟨[], p⟩] = L := ⟨_, rfl⟩
        have hbb := specBareS (fun q => (Value.slice A' j c').ownBlock ≠ some q ∧ q < w3.heap.size) ⟨(j : Int), [⟨[], p⟩]⟩ (some ⟨w2.heap.size, 0, none⟩) 1 w3 (by simp) (fun q hq => hq.2) T3.out
        have HBB := Lib.hid (show Calls Try.prog 21 #[.agg #[.int .i64 (j : Int), .slice (some ⟨w2.heap.size, 0, none⟩) 1 1]] w3 (ToRowS (fun q => (Value.slice A' j c').ownBlock ≠ some q ∧ q < w3.heap.size) ⟨(j : Int), L⟩ w3) by rw [← hL]; exact hbb)
        have HLR := Lib.hid (show rowA j p = ⟨(j : Int), L⟩ by unfold rowA; rw [hL])
        clear hc hL hbb
        go_wp2_with fail
        rw [← e3]
        clear e3
        refine HBB.out.mono ?_
        rintro e w4 ⟨A5, c5, rfl, hs5, hb4⟩
        have E4 := Lib.hid ((E2.out.trans (E3.out.mono hz2)).trans (hb4.mono (by omega)))
        have hz4 := hb4.size
        obtain ⟨w5, e5⟩ : ∃ w5, w5 = w4.alloc (.cells #[.int .i64 (j : Int), .slice A5 L.length c5] 58) := ⟨_, rfl⟩
        have E5 := Lib.hid (show Below wr.heap.size wr w5 by rw [e5]; exact E4.out.alloc E4.out.size _)
        have hz5 : w4.heap.size < w5.heap.size := by rw [e5]; simp
        have G5 := Lib.hid (HG.out.below E5.out)
        have hj3 : (Lit.int .i64 (j : Int)).wf = true := wf_i64 (by omega) (by omega)
        have T5 := Lib.hid (show Sl w5 (fun q => q < w5.heap.size ∧ (Value.slice A' j c').ownBlock ≠ some q ∧ AnyB q) 2 (some ⟨w4.heap.size, 0, none⟩) 1 [(⟨(j : Int), L⟩ : GTrow).toD] from
          slOne (T := 58) (cs := [.int .i64 (j : Int), .slice A5 L.length c5]) (by rw [e5]; exact Row.new _ _ _) (GTrow.rd_mk (t := ⟨(j : Int), L⟩) ⟨hj3, hs5.keep fun q hq => ⟨⟨by have := hq.2; omega, fun e => by rcases hq.1 with h | h; exact h.1 e; have := (HOW.out _ e).2; omega, trivial⟩, by rw [e5]; exact Below.heap_alloc _ _ _ hq.2⟩⟩) rfl ⟨hz5, fun e => by have := (HOW.out _ e).2; omega, trivial⟩)
        have hs1 : w.heap.size + 1 ≤ w5.heap.size := by omega
        clear hs5 hb4 m m0 m1 m2 m3 m4 hj3
        go_wp2_with (first
          | (at_builtin
             rw [← e5]
             refine wpList_append_X w5 rfl (.tmp 30) (.tmp 42) 50 rfl 58 zTrow 2 32 Try.underlying50 (by kernel_rfl) rfl (by omega) (w.heap.size + 1) (.slice A' j c') j _ G5.out (some ⟨w4.heap.size, 0, none⟩) 1 1 _ rfl T5.out hs1 (by unfold maxLen; omega) (by omega) rfl rfl ?_
             intro A6 c6 w6 G6 hGr6
             have G6h := Lib.hid G6
             have HX6 := Lib.hid (HX.out.trans ((Bx.of_below E5.out (Nat.le_refl _)).trans (Bx.refl _ _)))
             have HX7 := Lib.hid (show Bx (w.heap.size + 1) w1 w6 from ⟨hGr6.grow.os.trans HX6.out.os, hGr6.grow.tape.trans HX6.out.tape, hGr6.grow.output.trans HX6.out.output, Nat.le_trans HX6.out.size hGr6.size, fun q hq hq2 => (hGr6.grow.block q (Nat.lt_of_lt_of_le hq HX6.out.size) fun e => by have := HO.out q e.symm; omega).trans (HX6.out.block q hq hq2)⟩)
             have HO6 := Lib.hid (fun g (hg : (Value.slice A6 (j + 1) c6).ownBlock = some g) => show g = w.heap.size + 1 ∨ w1.heap.size ≤ g from by
               rcases hGr6.own with h1 | ⟨g2, h1, h2⟩
               · exact HO.out g (h1.symm.trans hg)
               · rw [h1] at hg; cases hg; exact .inr (by omega))
             clear G6 hGr6))
        go_roundw
        case rel => exact ⟨j + 1, A6, c6, by omega, by go_num, rfl, Lib.hid (by rw [HT.out, HLR.out, List.map_append]; exact G6h.out), HL2, HO6, HX7⟩
        case measure => simp [intOf]; omega
    · obtain rfl : j = l.length := by omega
      have dl : decide ((l.length : Int) < (l.length : Int)) = false := decide_eq_false (by omega)
      have hG := HG.out
      rw [List.take_length] at hG
      have hL := HL.out
      rw [List.take_length, conOkL_all] at hL
      obtain ⟨A5, c5, e5, hs5⟩ := hG.slX
      obtain ⟨rfl, rfl⟩ : A' = A5 ∧ c' = c5 := by simpa using e5
      obtain ⟨wg, eg⟩ : ∃ wg, wg = wr.alloc (.cells #[.slice A ds.length c, .int .i64 0, .bool true] 64) := ⟨_, rfl⟩
      have EG := Lib.hid (show Below wr.heap.size wr wg by rw [eg]; exact (Below.refl _ _).alloc (Nat.le_refl _) _)
      have hzg : wr.heap.size + 1 = wg.heap.size := by rw [eg]; simp
      have hmm := specMade wr.heap.size (.slice A ds.length c) 301 (by omega) 0 (rowsA 0 l) A' c' wg (by omega) (by omega) HOKR.out (by rw [rowsA_len]; exact hl2) (by rw [eg]; exact Row.new _ _ _) (hs5.keep fun q hq => ⟨⟨by have h1 : q < wr.heap.size := hq; omega, by have h1 : q < wr.heap.size := hq; omega⟩, EG.out.block q hq⟩)
      rw [rowsA_len] at hmm
      obtain ⟨p, hp⟩ : ∃ p, growV 301 0 (rowsA 0 l) = p := ⟨_, rfl⟩
      rw [hp] at hmm
      have HMM := Lib.hid hmm
      have HVT := Lib.hid (show treesV ds l = (if p.2 ≤ 300 then (p.1, true) else (zeroT, false)) by unfold treesV; rw [if_pos hL, hp])
      clear hmm hs5 hG hL e5 hp
      go_wp2_with fail
      rw [← eg]
      clear eg
      refine HMM.out.mono ?_
      rintro e w6 ⟨P1, pc1, P2, pc2, rfl, ho6, hg6, hx6⟩
      have O6 := Lib.hid ho6
      have X6 := Lib.hid hx6
      have hz6 := hx6.size
      have RZg := Lib.hid (RZ.out.below EG.out RZ.out.lt)
      have RZ6 := Lib.hid (hx6.row RZg.out (by have := RZ.out.lt; omega))
      have BG := Lib.hid (BW.out.trans (EG.out.mono BW.out.size))
      have hwz := BW.out.size
      have B6 := Lib.hid (BG.out.trans (hx6.below (B := w.heap.size) (by omega) (by omega)))
      obtain ⟨w7, e7⟩ : ∃ w7, w7 = w6.alloc (.cells #[.int .i64 p.1.op, .int .i64 p.1.n, .slice P1 p.1.path.length pc1, .string p.1.s, .slice P2 p.1.kids.length pc2] 29) := ⟨_, rfl⟩
      have E7 := Lib.hid (show Below w6.heap.size w6 w7 by rw [e7]; exact (Below.refl _ _).alloc (Nat.le_refl _) _)
      have hz7 : w6.heap.size < w7.heap.size := by rw [e7]; simp
      have RP7 := Lib.hid (show Row w7 w6.heap.size 29 #[.int .i64 p.1.op, .int .i64 p.1.n, .slice P1 p.1.path.length pc1, .string p.1.s, .slice P2 p.1.kids.length pc2] by rw [e7]; exact Row.new _ _ _)
      have RZ7 := Lib.hid (RZ6.out.below E7.out RZ6.out.lt)
      have B7 := Lib.hid (B6.out.trans (E7.out.mono (by omega)))
      have RG7 := Lib.hid (hg6.below E7.out hg6.lt)
      have O7 := Lib.hid (O6.out.keep (w' := w7) (S' := fun q => (w.heap.size < q ∧ q < w7.heap.size)) fun q hq => ⟨⟨by have := hq.1; omega, by have := hq.2; omega⟩, E7.out.block q hq.2⟩)
      clear ho6 hg6 hx6 HMM
      go_upto_region 11 with (fail)
      rw [← e7]
      clear e7
      have hcz := fun i => RZ7.out.cell i
      have hfz := fun i => RZ7.out.frozen i
      have hcp := fun i => RP7.out.cell i
      have hnp : w.heap.size ≠ w6.heap.size := by omega
      have hnp2 : w6.heap.size ≠ w.heap.size := by omega
      by_cases hok : p.2 ≤ 300
      · have HV := Lib.hid (show treesV ds l = (p.1, true) by rw [HVT.out, if_pos hok])
        have RG8 := Lib.hid (show Row w7 wr.heap.size 64 #[.slice A ds.length c, .int .i64 p.2, .bool true] by have h := RG7.out; rw [decide_eq_true hok] at h; exact h)
        have hcg := fun i => RG8.out.cell i
        clear hok
        go_wp2_with fail
        obtain ⟨wf, ef⟩ : ∃ wf, wf = (((((w7).setCell ⟨w.heap.size, 0, none⟩ (.int .i64 p.1.op)).setCell ⟨w.heap.size, 1, none⟩ (.int .i64 p.1.n)).setCell ⟨w.heap.size, 2, none⟩ (.slice P1 p.1.path.length pc1)).setCell ⟨w.heap.size, 3, none⟩ (.string p.1.s)).setCell ⟨w.heap.size, 4, none⟩ (.slice P2 p.1.kids.length pc2) := ⟨_, rfl⟩
        rw [← ef]
        have RF := Lib.hid (show Row wf w.heap.size 29 #[.int .i64 p.1.op, .int .i64 p.1.n, .slice P1 p.1.path.length pc1, .string p.1.s, .slice P2 p.1.kids.length pc2] by rw [ef]; exact (((((RZ7.out).set 0 _).set 1 _).set 2 _).set 3 _).set 4 _)
        have BF := Lib.hid (show Below w.heap.size w wf by rw [ef]; exact (((((B7.out).setCell (p := ⟨w.heap.size, 0, none⟩) (Nat.le_refl _) _).setCell (p := ⟨w.heap.size, 1, none⟩) (Nat.le_refl _) _).setCell (p := ⟨w.heap.size, 2, none⟩) (Nat.le_refl _) _).setCell (p := ⟨w.heap.size, 3, none⟩) (Nat.le_refl _) _).setCell (p := ⟨w.heap.size, 4, none⟩) (Nat.le_refl _) _)
        have hcf := fun i => RF.out.cell i
        have QF := Lib.hid (fun q (hq : q ≠ w.heap.size) => show wf.heap[q]? = w7.heap[q]? from by
          rw [ef, Below.heap_setCell _ ⟨w.heap.size, 4, none⟩ _ q hq, Below.heap_setCell _ ⟨w.heap.size, 3, none⟩ _ q hq, Below.heap_setCell _ ⟨w.heap.size, 2, none⟩ _ q hq, Below.heap_setCell _ ⟨w.heap.size, 1, none⟩ _ q hq, Below.heap_setCell _ ⟨w.heap.size, 0, none⟩ _ q hq])
        have hzf : wf.heap.size = w7.heap.size := by rw [ef]; simp [World.setCell]
        have OF := Lib.hid (O7.out.keep (w' := wf) (S' := Btw w.heap.size wf.heap.size) fun q hq => ⟨⟨by have := hq.1; omega, by have := hq.2; omega⟩, QF.out q (by have := hq.1; omega)⟩)
        clear hcz hfz hcp hcg ef
        exact bodyPost_ret (v := .tuple #[.agg #[.int .i64 p.1.op, .int .i64 p.1.n, .slice P1 p.1.path.length pc1, .string p.1.s, .slice P2 p.1.kids.length pc2], .bool true]) (by simp [results, Try.results6, go_sem, hcf]) rfl (by rw [HV.out]; exact ⟨P1, pc1, P2, pc2, rfl, OF.out, BF.out⟩)
      · have HV := Lib.hid (show treesV ds l = (zeroT, false) by rw [HVT.out, if_neg hok])
        have RG8 := Lib.hid (show Row w7 wr.heap.size 64 #[.slice A ds.length c, .int .i64 p.2, .bool false] by have h := RG7.out; rw [decide_eq_false hok] at h; exact h)
        have hcg := fun i => RG8.out.cell i
        clear hok
        go_wp2_with fail
        obtain ⟨wf, ef⟩ : ∃ wf, wf = (((((w7).setCell ⟨w.heap.size, 0, none⟩ (.int .i64 0)).setCell ⟨w.heap.size, 1, none⟩ (.int .i64 0)).setCell ⟨w.heap.size, 2, none⟩ (.slice none 0 0)).setCell ⟨w.heap.size, 3, none⟩ (.string ⟨#[]⟩)).setCell ⟨w.heap.size, 4, none⟩ (.slice none 0 0) := ⟨_, rfl⟩
        rw [← ef]
        have RF := Lib.hid (show Row wf w.heap.size 29 #[.int .i64 0, .int .i64 0, .slice none 0 0, .string ⟨#[]⟩, .slice none 0 0] by rw [ef]; exact (((((RZ7.out).set 0 _).set 1 _).set 2 _).set 3 _).set 4 _)
        have BF := Lib.hid (show Below w.heap.size w wf by rw [ef]; exact (((((B7.out).setCell (p := ⟨w.heap.size, 0, none⟩) (Nat.le_refl _) _).setCell (p := ⟨w.heap.size, 1, none⟩) (Nat.le_refl _) _).setCell (p := ⟨w.heap.size, 2, none⟩) (Nat.le_refl _) _).setCell (p := ⟨w.heap.size, 3, none⟩) (Nat.le_refl _) _).setCell (p := ⟨w.heap.size, 4, none⟩) (Nat.le_refl _) _)
        have hcf := fun i => RF.out.cell i
        clear hcz hfz hcp hcg ef
        exact bodyPost_ret (v := .tuple #[.agg #[.int .i64 0, .int .i64 0, .slice none 0 0, .string ⟨#[]⟩, .slice none 0 0], .bool false]) (by simp [results, Try.results6, go_sem, hcf]) rfl (treeBad HV.out BF.out)
end Go.Proofs.Ytnpkmebnmklcfaa
