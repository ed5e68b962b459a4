/- Several texts of this claim in one: ConOf Focus MarkText Int. Conditions: none but bounds on sizes. -/
import Derived.Test.YtgbcdfeflgnogaaGreatMg5
import Derived.Test.YtgbcdfeflgnogaaGreatMg0
import Derived.Test.YtgbcdfeflgnogaaGreatRows
import Derived.BigQuiet
import Derived.Lib.Hide
/- ConOf: the place of a con: which data, which of its cons. Conditions: none. -/
namespace Go.Proofs.YtgbcdfeflgnogaaGreat
open Go.RowKit
set_option linter.unusedVariables false
set_option linter.unusedSimpArgs false
set_option maxHeartbeats 1000000

theorem ret_ii {a b c d : Int} (h : a = b) (h2 : c = d) : Ending.returned (.tuple #[.int .i64 a, .int .i64 c]) = .returned (.tuple #[.int .i64 b, .int .i64 d]) := by rw [h, h2]

/-- which data, from number j on, and which con of it, bears a name -/
def conOf (s : ByteArray) : List GData → Nat → Option (Nat × Nat)
  | [], _ => none
  | d :: r, j => match tagIn s d.cons 0 with
    | some k => some (j, k)
    | none => conOf s r (j + 1)
def conI : Option (Nat × Nat) → Int × Int
  | some (j, k) => (j, k)
  | none => (-1, -1)
theorem conOf_hit {s : ByteArray} {l : List GData} {j n m : Nat} (h : j < l.length) (e : tagIn s l[j].cons 0 = some m) : conOf s (l.drop j) n = some (n, m) := by
  rw [List.drop_eq_getElem_cons h, conOf, e]
theorem conOf_miss {s : ByteArray} {l : List GData} {j n : Nat} (h : j < l.length) (e : tagIn s l[j].cons 0 = none) : conOf s (l.drop j) n = conOf s (l.drop (j + 1)) (n + 1) := by
  rw [List.drop_eq_getElem_cons h, conOf, e]

set_option maxRecDepth 20000 in
theorem specConOf (l : List GData) (A : Option Addr) (c : Nat) (s : ByteArray) (w : World) (hs : Sl w (Lt w.heap.size) 3 A c (l.map GData.toD)) :
    Calls Tryz.prog 103 #[.slice A l.length c, .string s] w fun e w' => e = .returned (.tuple #[.int .i64 (conI (conOf s l 0)).1, .int .i64 (conI (conOf s l 0)).2]) ∧ Below w.heap.size w w' := by
  have hlen : l.length ≤ 9223372036854775807 := by simpa using hs.len
  have S0 := Lib.hid hs
  clear hs
  go_enter Tryz.func103, Tryz.ntmps103
  go_wp2_with fail
  go_loopw [6] (fun i wr => ∃ (j : Nat), j ≤ l.length ∧ i = .int .i64 j ∧ Hid (conOf s l 0 = conOf s (l.drop j) j) ∧ Below w.heap.size w wr) (fun i _ => l.length - (intOf i).toNat)
  case atStart => exact ⟨0, by omega, by go_num, Lib.hid rfl, Below.refl _ _⟩
  case round =>
    obtain ⟨j, hj, rfl, HT, hbl⟩ := hrel
    have hsz := hbl.size
    by_cases hlt : j < l.length
    · obtain ⟨b, off, A1, c1, rfl, hSb, g0, g1, g2, hat⟩ := GData.elem (S0.out.below hbl (Nat.le_refl _)) j hlt
      have hcl : (l[j]).cons.length ≤ 9223372036854775807 := by simpa using hat.2.2.len
      clear hat
      go_wp2_with fail
      go_loopw [7] (fun i wr2 => ∃ (k : Nat), k ≤ (l[j]).cons.length ∧ i = .int .i64 k ∧ Hid (tagIn s (l[j]).cons 0 = tagIn s ((l[j]).cons.drop k) k) ∧ Below w.heap.size w wr2) (fun i _ => (l[j]).cons.length - (intOf i).toNat)
      case atStart => exact ⟨0, by omega, by go_num, Lib.hid rfl, hbl⟩
      case round =>
        obtain ⟨k, hk, rfl, HI, hbk⟩ := hrel
        obtain ⟨b', off', A1', c1', eA, hSb', q0, q1, q2, hat'⟩ := GData.elem (S0.out.below hbk (Nat.le_refl _)) j hlt
        obtain ⟨rfl, rfl⟩ : b = b' ∧ off = off' := by simpa using eA
        by_cases hkt : k < (l[j]).cons.length
        · obtain ⟨b2, off2, A2, c2, rfl, hSb2, p0, p1, hat2⟩ := GCon.elem hat'.2.2 k hkt
          by_cases he : ((l[j]).cons[k]).name = s
          · have HV := Lib.hid (show conOf s l 0 = some (j, k) from HT.out.trans (conOf_hit hlt (HI.out.trans (tagIn_hit hkt he))))
            have hbe : (((l[j]).cons[k]).name.toList == s.toList) = true := by rw [he]; simp
            clear he
            go_wp2_with fail
            go_ret2
            exact ⟨ret_ii (by rw [HV.out]; rfl) (by rw [HV.out]; rfl), hbk⟩
          · have HI2 := Lib.hid (HI.out.trans (tagIn_miss hkt he))
            have hbe : (((l[j]).cons[k]).name.toList == s.toList) = false := name_ne he
            clear he
            go_wp2_with fail
            go_roundw
            case rel => exact ⟨k + 1, by omega, by go_num, HI2, hbk⟩
            case measure => simp [intOf]; omega
        · have hkl : k = (l[j]).cons.length := by omega
          have HO := Lib.hid (conOf_miss (s := s) (n := j) hlt (HI.out.trans (by rw [hkl, List.drop_length]; rfl)))
          go_wp2_with fail
          go_roundw
          case rel => exact ⟨j + 1, by omega, by go_num, Lib.hid (HT.out.trans HO.out), hbk⟩
          case measure => simp [intOf]; omega
    · have hjl : j = l.length := by omega
      have Hj := Lib.hid hjl
      clear hjl
      go_wp2_with fail
      go_ret2
      exact ⟨ret_ii (by rw [HT.out, Hj.out, List.drop_length]; rfl) (by rw [HT.out, Hj.out, List.drop_length]; rfl), hbl⟩

/-- the con that bears a name, found by a predicate -/
theorem idxI_tagIn (s : ByteArray) (l : List GCon) (n : Nat) : (match tagIn s l n with | some k => idxI (fun x : GCon => x.name.toList == s.toList) l = (k : Int) - n ∧ n ≤ k | none => idxI (fun x : GCon => x.name.toList == s.toList) l = -1) := by
  induction l generalizing n with
  | nil => simp [tagIn, idxI]
  | cons x r ih =>
    by_cases h : x.name = s
    · have e : (x.name.toList == s.toList) = true := by rw [h]; simp
      simp [tagIn, idxI, h]
    · have e := name_ne h
      have := ih (n + 1)
      simp only [tagIn, idxI, if_neg h, e]
      cases hc : tagIn s r (n + 1) <;> rw [hc] at this <;> simp only at this ⊢
      · rw [this]; rfl
      · rw [if_neg (by simp), if_neg (by omega)]; omega

/-- the closure of ConOf: does a con bear the name -/
theorem implConOf1 (s : ByteArray) (b : Nat) (x : GCon) (A1 : Option Addr) (c1 : Nat) (w : World) (hc : w.cell? ⟨b, 0, none⟩ = some (.string s)) (hb : b < w.heap.size) :
    Calls Tryz.prog 112 #[.agg #[.string x.name, .slice A1 x.args.length c1], .pointer (some ⟨b, 0, none⟩)] w fun e w' => e = .returned (.bool (x.name.toList == s.toList)) ∧ Below w.heap.size w w' := by
  have E : Below w.heap.size w (w.alloc (.cells #[.string x.name, .slice A1 x.args.length c1] 58)) := (Below.refl _ _).alloc (Nat.le_refl _) _
  have hc2 := (E.cell (p := ⟨b, 0, none⟩) hb).trans hc
  go_enter Tryz.func112, Tryz.ntmps112
  go_wp2_with fail
  go_ret
  exact ⟨rfl, E⟩

set_option maxRecDepth 20000 in
theorem implConOf (l : List GData) (A : Option Addr) (c : Nat) (s : ByteArray) (w : World) (hs : Sl w (Lt w.heap.size) 3 A c (l.map GData.toD)) :
    Calls Tryz.prog 108 #[.slice A l.length c, .string s] w fun e w' => e = .returned (.tuple #[.int .i64 (conI (conOf s l 0)).1, .int .i64 (conI (conOf s l 0)).2]) ∧ Below w.heap.size w w' := by
  have hlen : l.length ≤ 9223372036854775807 := by simpa using hs.len
  have S0 := Lib.hid hs
  clear hs
  have E0 := Lib.hid (show Below w.heap.size w (w.alloc (.cells #[.string s] 9)) from (Below.refl _ _).alloc (Nat.le_refl _) _)
  have R0 := Lib.hid (Row.new w 9 #[.string s])
  go_enter Tryz.func108, Tryz.ntmps108
  go_wp2_with fail
  go_loopw [11] (fun i wr => ∃ (j : Nat), j ≤ l.length ∧ i = .int .i64 j ∧ Hid (conOf s l 0 = conOf s (l.drop j) j) ∧ Hid (Row wr w.heap.size 9 #[.string s]) ∧ Below w.heap.size w wr) (fun i _ => l.length - (intOf i).toNat)
  case atStart => exact ⟨0, by omega, by go_num, Lib.hid rfl, R0, E0.out⟩
  case round =>
    obtain ⟨j, hj, rfl, HT, HR, hbl⟩ := hrel
    have hsz := hbl.size
    by_cases hlt : j < l.length
    · obtain ⟨b, off, A1, c1, rfl, hSb, g0, g1, g2, hat⟩ := GData.elem (S0.out.below hbl (Nat.le_refl _)) j hlt
      have S1 := Lib.hid hat.2.2
      have hcl : (l[j]).cons.length ≤ 9223372036854775807 := by simpa using hat.2.2.len
      clear hat
      have HX := Lib.hid (idxI_tagIn s (l[j]).cons 0)
      go_wp2_with fail
      refine (indexFuncCon 112 (enters Tryz.func112 (by kernel_rfl) (by kernel_rfl)) #[.pointer (some ⟨w.heap.size, 0, none⟩)] (fun x => x.name.toList == s.toList) (l[j]).cons A1 c1 _ (S1.out.keep (fun k hk => ⟨Nat.lt_of_lt_of_le (Nat.lt_of_lt_of_le hk hsz) (by simp), Below.heap_alloc _ _ _ (Nat.lt_of_lt_of_le hk hsz)⟩))
        (fun x hx A2 c2 w2 hb2 hat2 => by
          have R2 := (HR.out.alloc _).below hb2 (HR.out.alloc _).lt
          exact implConOf1 s w.heap.size x A2 c2 w2 (R2.cell 0) R2.lt)).mono ?_
      rintro e w2 ⟨rfl, hb2⟩
      have B2 := Lib.hid ((hbl.alloc hsz _).trans (hb2.mono (hbl.alloc hsz _).size))
      have R3 := Lib.hid ((HR.out.alloc _).below hb2 (HR.out.alloc _).lt)
      clear hb2
      have hx := HX.out
      cases hct : tagIn s (l[j]).cons 0 with
      | some k =>
        rw [hct] at hx
        obtain ⟨hx1, _⟩ := hx
        have hx2 : idxI (fun x : GCon => x.name.toList == s.toList) (l[j]).cons = (k : Int) := by simpa using hx1
        have HV := Lib.hid (HT.out.trans (conOf_hit (n := j) hlt hct))
        rw [hx2]
        clear hx1 hx2 hct
        go_wp2_with fail
        go_ret2
        exact ⟨ret_ii (by rw [HV.out]; rfl) (by rw [HV.out]; rfl), B2.out⟩
      | none =>
        rw [hct] at hx
        have hx2 : idxI (fun x : GCon => x.name.toList == s.toList) (l[j]).cons = -1 := hx
        have HV := Lib.hid (HT.out.trans (conOf_miss (n := j) hlt hct))
        rw [hx2]
        clear hx hx2 hct
        go_wp2_with fail
        go_roundw
        case rel => exact ⟨j + 1, by omega, by go_num, HV, R3, B2.out⟩
        case measure => simp [intOf]; omega
    · have hjl : j = l.length := by omega
      have Hj := Lib.hid hjl
      clear hjl
      go_wp2_with fail
      go_ret2
      exact ⟨ret_ii (by rw [HT.out, Hj.out, List.drop_length]; rfl) (by rw [HT.out, Hj.out, List.drop_length]; rfl), hbl⟩

end Go.Proofs.YtgbcdfeflgnogaaGreat

/- One element of what is owned, written anew: the rest stays (no program in sight). Conditions: none. -/
namespace Go.Proofs.YtgbcdfeflgnogaaGreat
open Go.RowKit
set_option linter.unusedVariables false
set_option linter.unusedSimpArgs false

/-- a world behind writes to the blocks of S, and new blocks -/
structure Touch (S : Nat → Prop) (w w' : World) : Prop where
  os : w'.os = w.os
  tape : w'.tape = w.tape
  output : w'.output = w.output
  size : w.heap.size ≤ w'.heap.size
  block : ∀ b, b < w.heap.size → ¬ S b → w'.heap[b]? = w.heap[b]?
  frozen : ∀ b, S b → ∀ o, w.frozen? ⟨b, o, none⟩ = false → w'.frozen? ⟨b, o, none⟩ = false

theorem Touch.refl (S : Nat → Prop) (w : World) : Touch S w w := ⟨rfl, rfl, rfl, Nat.le_refl _, fun _ _ _ => rfl, fun _ _ _ h => h⟩
theorem Touch.trans {S : Nat → Prop} {a b c : World} (h : Touch S a b) (h' : Touch S b c) : Touch S a c :=
  ⟨h'.os.trans h.os, h'.tape.trans h.tape, h'.output.trans h.output, Nat.le_trans h.size h'.size, fun x hx hS => (h'.block x (Nat.lt_of_lt_of_le hx h.size) hS).trans (h.block x hx hS), fun x hS o e => h'.frozen x hS o (h.frozen x hS o e)⟩
theorem Touch.mono {S T : Nat → Prop} {w w' : World} (h : Touch S w w') (hST : ∀ b, S b → T b) (hT : ∀ b, T b → b < w.heap.size) : Touch T w w' :=
  ⟨h.os, h.tape, h.output, h.size, fun x hx hS => h.block x hx (fun e => hS (hST x e)), fun x hx o e => by
    by_cases hS : S x
    · exact h.frozen x hS o e
    · rw [World.frozen?_of_block (h.block x (hT x hx) hS)]; exact e⟩
theorem Touch.below {S : Nat → Prop} {B : Nat} {w w' : World} (h : Touch S w w') (hS : ∀ b, S b → B ≤ b) (hB : B ≤ w.heap.size) : Below B w w' :=
  ⟨h.os, h.tape, h.output, h.size, fun b hb => h.block b (by omega) (fun e => by have := hS b e; omega)⟩
theorem Below.touch {S : Nat → Prop} {w w' : World} (h : Below w.heap.size w w') (hS : ∀ b, S b → b < w.heap.size) : Touch S w w' :=
  ⟨h.os, h.tape, h.output, h.size, fun b hb _ => h.block b hb, fun b hb o e => (World.frozen?_of_block (h.block b (hS b hb))).trans e⟩
theorem Touch.setCell {S : Nat → Prop} {w : World} {b o : Nat} (hb : S b) (v : Value) : Touch S w (w.setCell ⟨b, o, none⟩ v) :=
  ⟨rfl, rfl, rfl, by simp [World.setCell], fun x _ hS => Below.heap_setCell w ⟨b, o, none⟩ v x (fun e => hS (by subst e; exact hb)), fun x hx o' e => by
    rw [World.frozen?_setCell]; exact e⟩

theorem setCells_size' {w w' : World} {g k : Nat} {vs : List Value} (e : w' = setCells w g k vs) : w'.heap.size = w.heap.size := by rw [e, setCells_size]
theorem setCells_block' {w w' : World} {g k : Nat} {vs : List Value} (e : w' = setCells w g k vs) (b : Nat) (hb : b ≠ g) : w'.heap[b]? = w.heap[b]? := by rw [e]; exact setCells_block _ _ _ _ _ hb
/-- an element of an owned row, and what may be put in its place -/
theorem D.ownR_focus {w : World} {size b : Nat} : ∀ (xs : List D) (S : Nat → Prop) (off i : Nat) (h : i < xs.length), D.ownR w size b xs S off →
    ∃ (T : Nat → Prop) (cs : List Value), (∀ x, T x → S x) ∧ cs.length = size ∧ (∀ j v, cs[j]? = some v → w.cell? ⟨b, off + i * size + j, none⟩ = some v) ∧ (xs[i]).own w T cs ∧
      ∀ (w' : World) (d' : D) (cs' : List Value), (∀ x, S x → ¬ T x → w'.heap[x]? = w.heap[x]?) → (∀ j, (j < off + i * size ∨ off + i * size + size ≤ j) → w'.cell? ⟨b, j, none⟩ = w.cell? ⟨b, j, none⟩) →
        cs'.length = size → (∀ j v, cs'[j]? = some v → w'.cell? ⟨b, off + i * size + j, none⟩ = some v) → d'.own w' T cs' → D.ownR w' size b (xs.set i d') S off
  | [], _, _, i, h, _ => by simp at h
  | d :: r, S, off, 0, h, hr => by
    simp only [D.ownR] at hr
    obtain ⟨S1, S2, cs, g1, g2, hl, hc, hd, hrest⟩ := hr
    refine ⟨S1, cs, fun x hx => (g1 x hx).1, hl, by simpa using hc, by simpa using hd, fun w' d' cs' k1 k2 k3 k4 k5 => ?_⟩
    simp only [List.set_cons_zero, D.ownR]
    refine ⟨S1, S2, cs', g1, g2, k3, by simpa using k4, k5, ?_⟩
    refine ownR_keep' size b r S2 (off + size) (fun x hx => k1 x (g2 x hx) (fun e => (g1 x e).2 hx)) (fun j hj => k2 j (.inr (by simpa using hj))) hrest
  | d :: r, S, off, i + 1, h, hr => by
    simp only [D.ownR] at hr
    obtain ⟨S1, S2, cs, g1, g2, hl, hc, hd, hrest⟩ := hr
    obtain ⟨T, cs1, a1, a2, a3, a4, a5⟩ := D.ownR_focus r S2 (off + size) i (by simpa using h) hrest
    have e : off + size + i * size = off + (i + 1) * size := by rw [Nat.add_mul, Nat.one_mul]; omega
    refine ⟨T, cs1, fun x hx => g2 x (a1 x hx), a2, fun j v hj => by rw [← e]; exact a3 j v hj, by simpa using a4, fun w' d' cs' k1 k2 k3 k4 k5 => ?_⟩
    simp only [List.set_cons_succ, D.ownR]
    have hsz : ∀ j, j < size → w'.cell? ⟨b, off + j, none⟩ = w.cell? ⟨b, off + j, none⟩ := fun j hj => k2 (off + j) (.inl (by rw [← e]; omega))
    refine ⟨S1, S2, cs, g1, g2, hl, fun j v hj => ?_, D.own_keep d S1 S1 cs (fun x hx => ⟨hx, k1 x (g1 x hx).1 (fun e => (g1 x hx).2 (a1 x e))⟩) hd, a5 w' d' cs' (fun x hx hT => k1 x (g2 x hx) hT) (fun j hj => k2 j (by rw [← e]; exact hj)) k3 (fun j v hj => by rw [e]; exact k4 j v hj) k5⟩
    have hjl : j < cs.length := (List.getElem?_eq_some_iff.1 hj).1
    rw [hsz j (by omega)]
    exact hc j v hj
where
  ownR_keep' {w w' : World} (size b : Nat) : ∀ (xs : List D) (S : Nat → Prop) (off : Nat), (∀ x, S x → w'.heap[x]? = w.heap[x]?) → (∀ j, off ≤ j → w'.cell? ⟨b, j, none⟩ = w.cell? ⟨b, j, none⟩) → D.ownR w size b xs S off → D.ownR w' size b xs S off
  | [], _, _, _, _, _ => by simp only [D.ownR]
  | d :: r, S, off, h1, h2, hr => by
    simp only [D.ownR] at hr ⊢
    obtain ⟨S1, S2, cs, g1, g2, hl, hc, hd, hrest⟩ := hr
    exact ⟨S1, S2, cs, g1, g2, hl, fun j v hj => (h2 (off + j) (by omega)).trans (hc j v hj), D.own_keep d S1 S1 cs (fun x hx => ⟨hx, h1 x (g1 x hx).1⟩) hd, ownR_keep' size b r S2 (off + size) (fun x hx => h1 x (g2 x hx)) (fun j hj => h2 j (by omega)) hrest⟩

/-- an element of an owned slice, and what may be put in its place -/
theorem Osl.focus {w : World} {S : Nat → Prop} {size : Nat} {A : Option Addr} {c : Nat} {xs : List D} (h : Osl w S size A c xs) (i : Nat) (hi : i < xs.length) :
    ∃ (b : Nat) (T : Nat → Prop) (cs : List Value), A = some ⟨b, 0, none⟩ ∧ S b ∧ ¬ T b ∧ (∀ o, w.frozen? ⟨b, o, none⟩ = false) ∧ (∀ x, T x → S x) ∧ cs.length = size ∧ (∀ j v, cs[j]? = some v → w.cell? ⟨b, i * size + j, none⟩ = some v) ∧ (xs[i]).own w T cs ∧
      ∀ (w' : World) (d' : D) (cs' : List Value), (∀ x, S x → x ≠ b → ¬ T x → w'.heap[x]? = w.heap[x]?) → (∀ j, (j < i * size ∨ i * size + size ≤ j) → w'.cell? ⟨b, j, none⟩ = w.cell? ⟨b, j, none⟩) → (∀ o, w'.frozen? ⟨b, o, none⟩ = false) →
        cs'.length = size → (∀ j v, cs'[j]? = some v → w'.cell? ⟨b, i * size + j, none⟩ = some v) → d'.own w' T cs' → Osl w' S size A c (xs.set i d') := by
  obtain ⟨h1, h2, h3 | ⟨b, rfl, hS, hf, hr⟩⟩ := h
  · subst h3; simp at hi
  · obtain ⟨T, cs, a1, a2, a3, a4, a5⟩ := D.ownR_focus xs _ 0 i hi hr
    refine ⟨b, T, cs, rfl, hS, fun e => (a1 b e).2 rfl, hf, fun x hx => (a1 x hx).1, a2, by simpa using a3, a4, fun w' d' cs' k1 k2 kf k3 k4 k5 => ⟨by simpa using h1, h2, .inr ⟨b, rfl, hS, kf, ?_⟩⟩⟩
    exact a5 w' d' cs' (fun x hx hT => k1 x hx.1 hx.2 hT) (by simpa using k2) k3 (by simpa using k4) k5

end Go.Proofs.YtgbcdfeflgnogaaGreat

/- The text of a mark, and the numbers of slices of ints. Conditions: the mark is from 1 on. -/
namespace Go.Proofs.YtgbcdfeflgnogaaGreat
open Go.RowKit
set_option linter.unusedVariables false
set_option linter.unusedSimpArgs false
set_option maxHeartbeats 1000000

/-! ### one element's marking, stage by stage -/
/-- the world u: on the way from wr, where the cells from lo to hi of block b, and blocks of T, are written; w: the world at the beginning -/
structure MSt (w wr : World) (S T : Nat → Prop) (b lo hi : Nat) (u : World) : Prop where
  blk : ∀ x, x < wr.heap.size → x ≠ b → ¬ T x → u.heap[x]? = wr.heap[x]?
  out : ∀ o, (o < lo ∨ hi ≤ o) → u.cell? ⟨b, o, none⟩ = wr.cell? ⟨b, o, none⟩
  fr : ∀ o, u.frozen? ⟨b, o, none⟩ = false
  touch : Touch S w u
  size : wr.heap.size ≤ u.heap.size
theorem cell_ne {w : World} {b i k : Nat} {v : Value} (h : i ≠ k) : (w.setCell ⟨b, i, none⟩ v).cell? ⟨b, k, none⟩ = w.cell? ⟨b, k, none⟩ :=
  World.cell?_setCell_other _ _ _ _ (fun e => h (congrArg Addr.off e))
theorem MSt.start {w wr : World} {S T : Nat → Prop} {b lo hi : Nat} (hf : ∀ o, wr.frozen? ⟨b, o, none⟩ = false) (ht : Touch S w wr) : MSt w wr S T b lo hi wr :=
  ⟨fun _ _ _ _ => rfl, fun _ _ => rfl, hf, ht, Nat.le_refl _⟩
theorem MSt.set {w wr u : World} {S T : Nat → Prop} {b lo hi : Nat} (h : MSt w wr S T b lo hi u) (hS : S b) (o : Nat) (h1 : lo ≤ o) (h2 : o < hi) (v : Value) : MSt w wr S T b lo hi (u.setCell ⟨b, o, none⟩ v) :=
  ⟨fun x a1 a2 a3 => (Below.heap_setCell u ⟨b, o, none⟩ v x a2).trans (h.blk x a1 a2 a3), fun q hq => (cell_ne (by omega)).trans (h.out q hq), fun q => (World.frozen?_setCell _ _ _ _).trans (h.fr q), h.touch.trans (Touch.setCell hS v), by have := h.size; simpa [World.setCell] using this⟩
theorem MSt.below {w wr u u' : World} {S T : Nat → Prop} {b lo hi : Nat} (h : MSt w wr S T b lo hi u) (hb : Below u.heap.size u u') (hbl : b < wr.heap.size) (hS : ∀ x, S x → x < w.heap.size) : MSt w wr S T b lo hi u' :=
  ⟨fun x a1 a2 a3 => (hb.block x (Nat.lt_of_lt_of_le a1 h.size)).trans (h.blk x a1 a2 a3), fun q hq => (hb.cell (p := ⟨b, q, none⟩) (Nat.lt_of_lt_of_le hbl h.size)).trans (h.out q hq), fun q => (hb.frozen (p := ⟨b, q, none⟩) (Nat.lt_of_lt_of_le hbl h.size)).trans (h.fr q),
    h.touch.trans (Below.touch hb (fun x hx => Nat.lt_of_lt_of_le (hS x hx) h.touch.size)), Nat.le_trans h.size hb.size⟩
theorem MSt.mark {w wr u u' : World} {S T T' : Nat → Prop} {b lo hi : Nat} (h : MSt w wr S T b lo hi u) (ht : Touch T' u u') (hT : ∀ x, T' x → T x) (hTS : ∀ x, T x → S x) (hTb : ¬ T b) (hbl : b < wr.heap.size) (hS : ∀ x, S x → x < w.heap.size) : MSt w wr S T b lo hi u' :=
  have hu : b < u.heap.size := Nat.lt_of_lt_of_le hbl h.size
  have hbb := ht.block b hu (fun e => hTb (hT b e))
  ⟨fun x a1 a2 a3 => (ht.block x (Nat.lt_of_lt_of_le a1 h.size) (fun e => a3 (hT x e))).trans (h.blk x a1 a2 a3), fun q hq => (World.cell?_of_block hbb).trans (h.out q hq), fun q => (World.frozen?_of_block hbb).trans (h.fr q),
    h.touch.trans (ht.mono (fun x hx => hTS x (hT x hx)) (fun x hx => Nat.lt_of_lt_of_le (hS x hx) h.touch.size)), Nat.le_trans h.size ht.size⟩
theorem MSt.blk2 {w wr u : World} {S T : Nat → Prop} {b lo hi : Nat} (h : MSt w wr S T b lo hi u) (hS : ∀ x, S x → x < w.heap.size) (hl : w.heap.size ≤ wr.heap.size) : ∀ x, S x → x ≠ b → ¬ T x → u.heap[x]? = wr.heap[x]? :=
  fun x a1 a2 a3 => h.blk x (Nat.lt_of_lt_of_le (hS x a1) hl) a2 a3
theorem Osl.set {u : World} {T : Nat → Prop} {size b o c : Nat} {A : Option Addr} {xs : List D} (h : Osl u T size A c xs) (hb : ¬ T b) (v : Value) : Osl (u.setCell ⟨b, o, none⟩ v) T size A c xs :=
  h.keep fun x hx => ⟨hx, Below.heap_setCell u ⟨b, o, none⟩ v x (fun e => hb (by subst e; exact hx))⟩
theorem Osl.belowS {u u' : World} {T : Nat → Prop} {size c : Nat} {A : Option Addr} {xs : List D} (h : Osl u T size A c xs) (hb : Below u.heap.size u u') (hT : ∀ x, T x → x < u.heap.size) : Osl u' T size A c xs :=
  h.keep fun x hx => ⟨hx, hb.block x (hT x hx)⟩
theorem Osl.touched {u u' : World} {T T' : Nat → Prop} {size c : Nat} {A : Option Addr} {xs : List D} (h : Osl u T size A c xs) (ht : Touch T' u u') (hd : ∀ x, T x → ¬ T' x) (hT : ∀ x, T x → x < u.heap.size) : Osl u' T size A c xs :=
  h.keep fun x hx => ⟨hx, ht.block x (hT x hx) (hd x hx)⟩

/-- a list that is marked, from number k on: each element by mk, cn numbers an element -/
def markL {α : Type} (mk : α → Nat → α) (cn : α → Nat) : List α → Nat → List α
  | [], _ => []
  | t :: r, k => mk t k :: markL mk cn r (k + cn t)
def cntL {α : Type} (cn : α → Nat) : List α → Nat
  | [] => 0
  | t :: r => cn t + cntL cn r
theorem markL_length {α : Type} (mk : α → Nat → α) (cn : α → Nat) : ∀ (l : List α) (k : Nat), (markL mk cn l k).length = l.length
  | [], _ => rfl
  | t :: r, k => by simp only [markL, List.length_cons, markL_length mk cn r]
theorem cntL_take_succ {α : Type} (cn : α → Nat) (l : List α) (j : Nat) (h : j < l.length) : cntL cn (l.take (j + 1)) = cntL cn (l.take j) + cn l[j] := by
  induction l generalizing j with
  | nil => simp at h
  | cons t r ih =>
    match j with
    | 0 => simp [cntL]
    | j + 1 => simp only [List.take_succ_cons, cntL, List.getElem_cons_succ]; rw [ih j (by simpa using h)]; omega
theorem markL_take_succ {α : Type} (mk : α → Nat → α) (cn : α → Nat) (l : List α) (j k : Nat) (h : j < l.length) : markL mk cn (l.take (j + 1)) k = markL mk cn (l.take j) k ++ [mk l[j] (k + cntL cn (l.take j))] := by
  induction l generalizing j k with
  | nil => simp at h
  | cons t r ih =>
    match j with
    | 0 => simp [markL, cntL]
    | j + 1 =>
      simp only [List.take_succ_cons, markL, List.getElem_cons_succ, List.cons_append, cntL]
      rw [ih j (k + cn t) (by simpa using h), Nat.add_assoc]
theorem cntL_take_le {α : Type} (cn : α → Nat) (l : List α) (j : Nat) (h : j < l.length) : cntL cn (l.take j) + cn l[j] ≤ cntL cn l := by
  induction l generalizing j with
  | nil => simp at h
  | cons t r ih =>
    match j with
    | 0 => simp [cntL]
    | j + 1 => simp only [List.take_succ_cons, cntL, List.getElem_cons_succ]; have := ih j (by simpa using h); omega
theorem markL_get {α : Type} (mk : α → Nat → α) (cn : α → Nat) (l : List α) (k j : Nat) (h : j < l.length) : (markL mk cn l k)[j]'(by rw [markL_length]; exact h) = mk l[j] (k + cntL cn (l.take j)) := by
  induction l generalizing k j with
  | nil => simp at h
  | cons t r ih =>
    match j with
    | 0 => simp [markL, cntL]
    | j + 1 =>
      simp only [markL, List.getElem_cons_succ, List.take_succ_cons, cntL]
      rw [ih (k + cn t) j (by simpa using h), Nat.add_assoc]
theorem cntL_le {α : Type} (cn f : α → Nat) (l : List α) (H : ∀ t, t ∈ l → cn t ≤ 16 * (1 + f t)) : cntL cn l ≤ 16 * bulkL f l := by
  induction l with
  | nil => simp [cntL]
  | cons t r ih =>
    simp only [cntL, bulkL]
    have := H t (by simp)
    have := ih (fun x hx => H x (by simp [hx]))
    omega
/-- the first j elements are marked -/
def markTo {α : Type} (mk : α → Nat → α) (cn : α → Nat) (l : List α) (k j : Nat) : List α := markL mk cn (l.take j) k ++ l.drop j
theorem markTo_zero {α : Type} (mk : α → Nat → α) (cn : α → Nat) (l : List α) (k : Nat) : markTo mk cn l k 0 = l := by simp [markTo, markL]
theorem markTo_all {α : Type} (mk : α → Nat → α) (cn : α → Nat) (l : List α) (k : Nat) : markTo mk cn l k l.length = markL mk cn l k := by simp [markTo]
theorem markTo_length {α : Type} (mk : α → Nat → α) (cn : α → Nat) (l : List α) (k j : Nat) (h : j ≤ l.length) : (markTo mk cn l k j).length = l.length := by
  simp only [markTo, List.length_append, markL_length, List.length_take, List.length_drop]; omega
theorem markTo_get {α : Type} (mk : α → Nat → α) (cn : α → Nat) (l : List α) (k j : Nat) (h : j < l.length) : (markTo mk cn l k j)[j]'(by rw [markTo_length mk cn l k j (by omega)]; exact h) = l[j] := by
  have e : (markL mk cn (l.take j) k).length = j := by rw [markL_length]; simp; omega
  simp only [markTo]
  rw [List.getElem_append_right (by omega)]
  simp [e]
theorem markTo_set {α : Type} (mk : α → Nat → α) (cn : α → Nat) (l : List α) (k j : Nat) (h : j < l.length) : (markTo mk cn l k j).set j (mk l[j] (k + cntL cn (l.take j))) = markTo mk cn l k (j + 1) := by
  have e : (markL mk cn (l.take j) k).length = j := by rw [markL_length]; simp; omega
  simp only [markTo]
  rw [markL_take_succ mk cn l j k h, List.set_append_right _ _ (by omega), e, Nat.sub_self, List.drop_eq_getElem_cons h, List.set_cons_zero, List.append_assoc]
  rfl

theorem wfNat (n : Nat) (h : n ≤ 9223372036854775807) : (Lit.int .i64 (n : Int)).wf = true := by
  simp [Lit.wf, IntKind.min, IntKind.max, IntKind.signed, IntKind.bits]; omega
/-- the text of a mark -/
def markT (k : Nat) : ByteArray := ⟨#[109]⟩ ++ digU k
theorem markT_size (k : Nat) (h : k ≤ 9223372036854775807) : (markT k).size ≤ 20 := by
  unfold markT
  have := digU_size19 k (by omega)
  rw [ByteArray.size_append]
  have : (⟨#[109]⟩ : ByteArray).size = 1 := rfl
  omega

end Go.Proofs.YtgbcdfeflgnogaaGreat

/- Slices of ints: copies, equality, marks. Conditions: none but a bound on the length. -/
namespace Go.Proofs.YtgbcdfeflgnogaaGreat
open Go.RowKit
set_option linter.unusedVariables false
set_option linter.unusedSimpArgs false
set_option maxHeartbeats 1000000

theorem int_wf {n : Int} (h : (Lit.int .i64 n).wf = true) : -9223372036854775808 ≤ n ∧ n ≤ 9223372036854775807 := by
  simpa [Lit.wf, IntKind.min, IntKind.max, IntKind.signed, IntKind.bits] using h
theorem int_elem {w : World} {S : Nat → Prop} {A : Option Addr} {c : Nat} {l : List Int} (h : Sl w S 1 A c (l.map (D.num .i64))) (i : Nat) (hi : i < l.length) :
    ∃ b off, A = some ⟨b, off, none⟩ ∧ S b ∧ w.cell? ⟨b, off + i, none⟩ = some (.int .i64 l[i]) ∧ (Lit.int .i64 l[i]).wf = true := by
  obtain ⟨b, off, cs, e, hb, hl, hc, hr⟩ := Sl.get h i (by simpa using hi)
  rw [List.getElem_map, D.rd_num] at hr
  obtain ⟨rfl, hw⟩ := hr
  exact ⟨b, off, e, hb, by simpa using hc 0 _ rfl, hw⟩

def ToIntS (l : List Int) (w : World) (e : Ending) (w' : World) : Prop := ∃ A1 c1, e = .returned (.slice A1 l.length c1) ∧ Osl w' (Btw w.heap.size w'.heap.size) 1 A1 c1 (l.map (D.num .i64)) ∧ Below w.heap.size w w'



def mkI (_ : Int) (k : Nat) : Int := k
def cnI (_ : Int) : Nat := 1
theorem cntL_int (l : List Int) : cntL cnI l = l.length := by
  induction l with
  | nil => rfl
  | cons t r ih => simp only [cntL, cnI, ih, List.length_cons]; omega



end Go.Proofs.YtgbcdfeflgnogaaGreat
