/- Generic: the vars of a type that are free in nothing, in the program and in the reference. Conditions: the sizes are bounded. -/
import Derived.Test.YtjcgfbjdailgoaaDelI
import Derived.Test.YtjcgfbjdailgoaaFreeVarsG
import Derived.Test.YtjcgfbjdailgoaaExt
import Derived.Test.YtjcgfbjdailgoaaHas
import Derived.Test.YtjcgfbjdailgoaaFScheme
import Derived.Test.YtjcgfbjdailgoaaWithin
namespace Go.Proofs.Ytjcgfbjdailgoaa
open Go.RowKit Go.BigFrame
set_option linter.unusedVariables false
set_option linter.unusedSimpArgs false
set_option maxHeartbeats 1000000

/-- is a var free in a scheme -/
def genBad (n : Int) (s : GScheme) : Bool := s.ty.has n && !(s.vars.any fun x => x == n)
def genV (env : List GScheme) (t : GTy) : List Int := (t.vs []).filter fun n => !(env.any (genBad n))
/-- the list that both hand back -/
def GenTo (env : List GScheme) (t : GTy) (w : World) (e : Ending) (w' : World) : Prop := ∃ A c, e = .returned (.slice A (genV env t).length c) ∧ Osl w' (Btw w.heap.size w'.heap.size) 1 A c ((genV env t).map (D.num .i64)) ∧ Below w.heap.size w w'

theorem specInI (l : List Int) (A : Option Addr) (c : Nat) (n : Int) (w : World) (hs : Sl w (Lt w.heap.size) 1 A c (l.map (D.num .i64))) :
    Calls Try.prog 148 #[.slice A l.length c, .int .i64 n] w fun e w' => e = .returned (.bool (l.any fun x => x == n)) ∧ Below w.heap.size w w' := by
  have hlen : l.length ≤ 9223372036854775807 := by simpa using hs.len
  have S0 := Lib.hid hs
  clear hs
  go_enter Try.func148, Try.ntmps148
  go_wp2_with fail
  go_loopw [5] (fun i wr => ∃ (j : Nat), j ≤ l.length ∧ i = .int .i64 j ∧ Hid (noneTo (fun x : Int => x == n) l j) ∧ Below w.heap.size w wr) (fun i _ => l.length - (intOf i).toNat)
  case atStart => exact ⟨0, by omega, by go_num, Lib.hid (noneTo_zero _ _), Below.refl _ _⟩
  case round =>
    obtain ⟨j, hj, rfl, HN, hbl⟩ := hrel
    by_cases hlt : j < l.length
    · obtain ⟨b, off, rfl, hSb, g0, _⟩ := int_elem (S0.out.below hbl (Nat.le_refl _)) j hlt
      cases he : (l[j] == n) with
      | true =>
        have HV := Lib.hid (show (l.any fun x => x == n) = true from List.any_eq_true.2 ⟨_, List.getElem_mem hlt, he⟩)
        go_wp2_with fail
        go_ret
        exact ⟨ret_bool HV.out.symm, hbl⟩
      | false =>
        have HN2 := Lib.hid (noneTo_succ HN.out hlt he)
        go_wp2_with fail
        go_roundw
        case rel => exact ⟨j + 1, by omega, by go_num, HN2, hbl⟩
        case measure => simp [intOf]; omega
    · have HV := Lib.hid (show (l.any fun x => x == n) = false from noneTo_any (by have := HN.out; rwa [show j = l.length by omega] at this))
      go_wp2_with fail
      go_ret
      exact ⟨ret_bool HV.out.symm, hbl⟩

theorem implIndexI0 (l : List Int) (A : Option Addr) (c : Nat) (n : Int) (w : World) (hs : Sl w (Lt w.heap.size) 1 A c (l.map (D.num .i64))) :
    Calls Try.prog 223 #[.slice A l.length c, .int .i64 n] w fun e w' => e = .returned (.int .i64 (idxI (fun x => n == x) l)) ∧ w' = w := by
  have hlen : l.length ≤ 9223372036854775807 := by simpa using hs.len
  have S0 := Lib.hid hs
  clear hs
  go_enter Try.func223, Try.ntmps223
  go_wp2_with fail
  go_loopw [8] (fun i wr => ∃ (j : Nat), j ≤ l.length ∧ i = .int .i64 j ∧ Hid (noneTo (fun x : Int => n == x) l j) ∧ wr = w) (fun i _ => l.length - (intOf i).toNat)
  case atStart => exact ⟨0, by omega, by go_num, Lib.hid (noneTo_zero _ _), rfl⟩
  case round =>
    obtain ⟨j, hj, rfl, HN, rfl⟩ := hrel
    by_cases hlt : j < l.length
    · obtain ⟨b, off, rfl, hSb, g0, _⟩ := int_elem S0.out j hlt
      cases he : (n == l[j]) with
      | true =>
        have HV := Lib.hid (idxI_at HN.out hlt he)
        go_wp2_with fail
        go_ret
        exact ⟨ret_int HV.out.symm, rfl⟩
      | false =>
        have HN2 := Lib.hid (noneTo_succ HN.out hlt he)
        go_wp2_with fail
        go_roundw
        case rel => exact ⟨j + 1, by omega, by go_num, HN2, by simp⟩
        case measure => simp [intOf]; omega
    · have HV := Lib.hid (idxI_none (by have := HN.out; rwa [show j = l.length by omega] at this))
      go_wp2_with fail
      go_ret
      exact ⟨ret_int HV.out.symm, rfl⟩
theorem implIntHas0 (l : List Int) (A : Option Addr) (c : Nat) (n : Int) (w : World) (hs : Sl w (Lt w.heap.size) 1 A c (l.map (D.num .i64))) :
    Calls Try.prog 154 #[.slice A l.length c, .int .i64 n] w fun e w' => e = .returned (.bool (l.any fun x => x == n)) ∧ w' = w := by
  have HS := Lib.hid hs
  clear hs
  have HID := Lib.hid (show (decide ((idxI (fun x : Int => n == x) l) ≥ 0)) = l.any (fun x => x == n) by
    rw [← any_flipV]
    cases ha : l.any fun x => n == x with
    | true => have := idxI_any_true ha; simpa using this
    | false => rw [idxI_any_false ha]; rfl)
  go_enter Try.func154, Try.ntmps154
  go_wp2_with fail
  refine (implIndexI0 l A c n _ HS.out).mono ?_
  rintro e w1 ⟨rfl, rfl⟩
  go_wp2_with fail
  go_ret
  exact ⟨ret_bool HID.out, rfl⟩
set_option maxRecDepth 20000 in
theorem implGeneric2 (n : Int) (b : Nat) (x : GScheme) (A1 : Option Addr) (c1 : Nat) (A2 : Option Addr) (c2 : Nat) (w : World) (hc : w.cell? ⟨b, 0, none⟩ = some (.int .i64 n)) (hb : b < w.heap.size) (hm : x.ty.bulk ≤ 1048576) (hat : GScheme.At w (Lt w.heap.size) A1 c1 A2 c2 x) :
    Calls Try.prog 153 #[.agg #[.slice A1 x.vars.length c1, .int .i64 x.ty.op, .int .i64 x.ty.n, .string x.ty.s, .slice A2 x.ty.kids.length c2], .pointer (some ⟨b, 0, none⟩)] w fun e w' => e = .returned (.bool (genBad n x)) ∧ Below w.heap.size w w' := by
  obtain ⟨w0, e0⟩ : ∃ w0, w0 = w.alloc (.cells #[.slice A1 x.vars.length c1, .int .i64 x.ty.op, .int .i64 x.ty.n, .string x.ty.s, .slice A2 x.ty.kids.length c2] 208) := ⟨_, rfl⟩
  have E0 := Lib.hid (show Below w.heap.size w w0 by rw [e0]; exact (Below.refl _ _).alloc (Nat.le_refl _) _)
  have R0 := Lib.hid (show Row w0 w.heap.size 208 #[.slice A1 x.vars.length c1, .int .i64 x.ty.op, .int .i64 x.ty.n, .string x.ty.s, .slice A2 x.ty.kids.length c2] by rw [e0]; exact Row.new' _ _ _ rfl)
  have hc0 := (E0.out.cell (p := ⟨b, 0, none⟩) hb).trans hc
  have E1 := Lib.hid (show Below w.heap.size w w0.drew from Below.drew E0.out)
  have R1 := Lib.hid (show Row w0.drew w.heap.size 208 #[.slice A1 x.vars.length c1, .int .i64 x.ty.op, .int .i64 x.ty.n, .string x.ty.s, .slice A2 x.ty.kids.length c2] from R0.out)
  have S1 := Lib.hid (show Sl w0.drew (Lt w0.drew.heap.size) 1 A1 c1 (x.vars.map (D.num .i64)) from hat.1.keep (keep_below E1.out E1.out.size))
  have T1 := Lib.hid (show GTy.At w0.drew (Lt w0.drew.heap.size) A2 c2 x.ty from hat.2.keep (keep_below E1.out E1.out.size))
  have hq0 := R1.out.cell
  have HSV := Lib.hid hat.1
  have HVS := Lib.hid (show (x.ty.vs []).any (fun m => m == n) = x.ty.has n from by
    rw [Bool.eq_iff_iff, GTy.has_vs, List.any_eq_true]
    exact ⟨fun ⟨y, hy, e⟩ => by simp at e; rw [← e]; exact hy, fun h => ⟨n, h, by simp⟩⟩)
  clear hat hc
  cases hv : (x.vars.any fun y => y == n)
  · have HW := Lib.hid (show genBad n x = x.ty.has n by unfold genBad; rw [hv]; simp)
    have HV := Lib.hid hv
    clear hv
    go_enter Try.func153, Try.ntmps153
    go_wp2_with fail
    rw [← e0]
    clear e0
    go_region_held3 (fun w' => (∀ i, w'.cell? ⟨w.heap.size, i, none⟩ = (#[.slice A1 x.vars.length c1, .int .i64 x.ty.op, .int .i64 x.ty.n, .string x.ty.s, .slice A2 x.ty.kids.length c2] : Array Value)[i]?) ∧ w'.cell? ⟨b, 0, none⟩ = some (.int .i64 n)) (first | exact ⟨hq3, hc3⟩ | exact ⟨hq2, hc2⟩ | exact ⟨hq1, hc1⟩ | exact ⟨hq0, hc0⟩) (first
      | (go_at_call 154
         refine (implIntHas x.vars A1 c1 n _ S1.out).mono ?_
         rintro e w1 ⟨rfl, hb1⟩
         rw [HV.out]
         have B1 := Lib.hid (E1.out.trans (hb1.mono E1.out.size))
         have R2 := Lib.hid (R1.out.below hb1 R1.out.lt)
         have T2 := Lib.hid (T1.out.below hb1 hb1.size)
         have hq1 := fun i => R2.out.cell i
         have hc1 := (hb1.cell (p := ⟨b, 0, none⟩) (Nat.lt_of_lt_of_le hb E1.out.size)).trans hc0
         clear hb1)
      | (go_at_call 46
         refine (implFreeVars x.ty A2 c2 _ hm T2.out).mono ?_
         rintro e w2 ⟨A3, c3, rfl, ho2, hb2⟩
         have O2 := Lib.hid (ho2.sl.keep (S' := Lt w2.heap.size) fun b hb => ⟨hb.2, rfl⟩)
         have B2 := Lib.hid (B1.out.trans (hb2.mono B1.out.size))
         have R3 := Lib.hid (R2.out.below hb2 R2.out.lt)
         have hq2 := fun i => R3.out.cell i
         have hc2 := (hb2.cell (p := ⟨b, 0, none⟩) (Nat.lt_of_lt_of_le hb B1.out.size)).trans hc1
         clear hb2 ho2)
      | (go_at_call 154
         refine (implIntHas (x.ty.vs []) A3 c3 n _ O2.out).mono ?_
         rintro e w3 ⟨rfl, hb3⟩
         rw [HVS.out]
         have B3 := Lib.hid (B2.out.trans (hb3.mono B2.out.size))
         have R4 := Lib.hid (R3.out.below hb3 R3.out.lt)
         have hq3 := fun i => R4.out.cell i
         have hc3 := (hb3.cell (p := ⟨b, 0, none⟩) (Nat.lt_of_lt_of_le hb B2.out.size)).trans hc2
         clear hb3))
    go_wp2_with fail
    go_ret
    exact ⟨ret_bool HW.out.symm, B3.out⟩
  · have HW := Lib.hid (show genBad n x = false by unfold genBad; rw [hv]; simp)
    have HQ := Lib.hid (show ∀ m, Calls Try.prog 154 #[.slice A1 x.vars.length c1, .int .i64 n] (w0.drewN m) fun e w' => e = .returned (.bool true) ∧ w' = w0.drewN m from fun m =>
      (implIntHas0 x.vars A1 c1 n _ (HSV.out.keep (keep_below (belowN E0.out m) (belowN E0.out m).size))).mono fun e w' h => ⟨by rw [h.1, hv], h.2⟩)
    clear hv
    go_enter Try.func153, Try.ntmps153
    go_wp2_with fail
    rw [← e0]
    clear e0
    have hz0 := fun i => R0.out.cell i
    go_quiet (first
      | (go_at_call 154
         exact Calls.quiet_of_same (HQ.out _)))
    go_wp2_with fail
    go_ret
    exact ⟨ret_bool HW.out.symm, belowN E0.out _⟩

set_option maxRecDepth 20000 in
theorem implGeneric1 (env : List GScheme) (A : Option Addr) (c : Nat) (n : Int) (b : Nat) (w : World) (hm : ∀ s ∈ env, s.ty.bulk ≤ 1048576) (hc : w.cell? ⟨b, 0, none⟩ = some (.slice A env.length c)) (hb : b < w.heap.size) (hs : Sl w (Lt w.heap.size) 5 A c (env.map GScheme.toD)) :
    Calls Try.prog 151 #[.int .i64 n, .pointer (some ⟨b, 0, none⟩)] w fun e w' => e = .returned (.bool (env.any (genBad n))) ∧ Below w.heap.size w w' := by
  obtain ⟨w0, e0⟩ : ∃ w0, w0 = w.alloc (.cells #[.int .i64 n] 3) := ⟨_, rfl⟩
  have E0 := Lib.hid (show Below w.heap.size w w0 by rw [e0]; exact (Below.refl _ _).alloc (Nat.le_refl _) _)
  have R0 := Lib.hid (show Row w0 w.heap.size 3 #[.int .i64 n] by rw [e0]; exact Row.new' _ _ _ rfl)
  have hc0 := (E0.out.cell (p := ⟨b, 0, none⟩) hb).trans hc
  have S0 := Lib.hid (hs.below E0.out E0.out.size)
  have HM := Lib.hid hm
  rw [e0] at hc0
  clear hs hc hm
  go_enter Try.func151, Try.ntmps151
  go_wp2_with fail
  rw [← e0]
  clear e0 hc0
  refine (containsFuncScheme 153 (enters Try.func153 (by kernel_rfl) (by kernel_rfl)) #[.pointer (some ⟨w.heap.size, 0, none⟩)] (genBad n) env A c _ S0.out
    (fun x hx A1 c1 A2 c2 w2 hb2 hat2 => by
      have R2 := R0.out.below hb2 R0.out.lt
      exact implGeneric2 n w.heap.size x A1 c1 A2 c2 w2 (R2.cell 0) R2.lt (HM.out x hx) hat2)).mono ?_
  rintro e w2 ⟨rfl, hb2⟩
  go_wp2_with fail
  go_ret
  exact ⟨rfl, E0.out.trans (hb2.mono E0.out.size)⟩

set_option maxRecDepth 20000 in
theorem implGeneric (env : List GScheme) (A : Option Addr) (c : Nat) (t : GTy) (A1 : Option Addr) (c1 : Nat) (w : World) (hm : bulkL GScheme.bulk env ≤ 1048576) (ht : t.bulk ≤ 1048576) (hs : Sl w (Lt w.heap.size) 5 A c (env.map GScheme.toD)) (hat : GTy.At w (Lt w.heap.size) A1 c1 t) :
    Calls Try.prog 74 #[.slice A env.length c, .agg #[.int .i64 t.op, .int .i64 t.n, .string t.s, .slice A1 t.kids.length c1]] w (GenTo env t w) := by
  have HM := Lib.hid (show ∀ s ∈ env, s.ty.bulk ≤ 1048576 from fun s hs => by
    obtain ⟨j, h, rfl⟩ := List.getElem_of_mem hs
    have h1 := (bulkV_next GScheme.bulk h).2; have h2 := (bulkV_next GScheme.bulk h).1; have h3 := (env[j]).bulk_eq; omega)
  obtain ⟨w0, e0⟩ : ∃ w0, w0 = w.alloc (.cells #[.slice A env.length c] 116) := ⟨_, rfl⟩
  have E0 := Lib.hid (show Below w.heap.size w w0 by rw [e0]; exact (Below.refl _ _).alloc (Nat.le_refl _) _)
  have R0 := Lib.hid (show Row w0 w.heap.size 116 #[.slice A env.length c] by rw [e0]; exact Row.new' _ _ _ rfl)
  have S00 : w0.heap.size = w.heap.size + 1 := by rw [e0]; simp
  obtain ⟨w1, e1⟩ : ∃ w1, w1 = w0.alloc (.cells #[.int .i64 t.op, .int .i64 t.n, .string t.s, .slice A1 t.kids.length c1] 36) := ⟨_, rfl⟩
  have E1 := Lib.hid (show Below w.heap.size w w1 by rw [e1]; exact E0.out.alloc (by omega) _)
  have R1 := Lib.hid (show Row w1 w.heap.size 116 #[.slice A env.length c] by rw [e1]; exact R0.out.below ((Below.refl _ _).alloc (Nat.le_refl _) _) R0.out.lt)
  have Q1 := Lib.hid (show Row w1 w0.heap.size 36 #[.int .i64 t.op, .int .i64 t.n, .string t.s, .slice A1 t.kids.length c1] by rw [e1]; exact Row.new' _ _ _ rfl)
  have T1 := Lib.hid (hat.below E1.out E1.out.size)
  have S1 := Lib.hid (hs.below E1.out E1.out.size)
  have hsz1 : w1.heap.size = w.heap.size + 2 := by rw [e1]; simp [S00]
  have hca := fun i => Q1.out.cell i
  rw [S00] at hca
  have HT := Lib.hid ht
  clear hs hat hm ht
  go_enter Try.func74, Try.ntmps74
  go_wp2_with fail
  rw [← e0]
  rw [← e1]
  clear e0 e1
  try go_wp2_with fail
  refine (implFreeVarsG t A1 c1 _ HT.out T1.out).mono ?_
  rintro e w2 ⟨A2, c2, rfl, hG2, hb2⟩
  have G2 := Lib.hid hG2
  have B2 := Lib.hid (E1.out.trans (hb2.mono E1.out.size))
  have R2 := Lib.hid (R1.out.below hb2 R1.out.lt)
  have S2 := Lib.hid (S1.out.keep (S' := Lt w1.heap.size) (w' := w2) fun b hb => ⟨hb, hb2.block b hb⟩)
  have HLN := Lib.hid (show (t.vs []).length ≤ 1048577 by have h1 := t.vs_len []; have h2 := HT.out; simp at h1; omega)
  have hsz2 := hb2.size
  clear hG2 hb2 hca
  go_wp2_with fail
  refine (deleteFuncint w1.heap.size 151 (enters Try.func151 (by kernel_rfl) (by kernel_rfl)) #[.pointer (some ⟨w.heap.size, 0, none⟩)] (fun n => env.any (genBad n)) (t.vs []) A2 c2 _ HLN.out hsz2 G2.out
    (fun x hx w3 hg3 => by
      have hne : (Value.slice A2 (t.vs []).length c2).ownBlock ≠ some w.heap.size := fun e => by have := (G2.out.own _ e).1; omega
      have R3 := hg3.row R2.out hne
      have hb3 := hg3.below (B := w1.heap.size) hsz2 (fun g hg => (G2.out.own g hg).1)
      exact implGeneric1 env A c x w.heap.size w3 HM.out (R3.cell 0) R3.lt (S2.out.keep fun b hb => ⟨Nat.lt_of_lt_of_le hb (Nat.le_trans hsz2 hg3.size), hb3.block b hb⟩))).mono ?_
  rintro e w3 ⟨rfl, hG3, hGr3⟩
  have G3 := Lib.hid hG3
  have B3 := Lib.hid (B2.out.trans (hGr3.below (B := w.heap.size) B2.out.size (fun g hg => by have := (G2.out.own g hg).1; have := E1.out.size; omega)))
  clear hG3 hGr3
  go_wp2_with fail
  go_ret
  exact ⟨A2, c2, rfl, (GI.osl G3.out (GI.wf G3.out)).keep fun b hb => ⟨⟨by have := hb.1; omega, hb.2⟩, rfl⟩, B3.out⟩

theorem int_wf' {w : World} {S : Nat → Prop} {A : Option Addr} {c : Nat} {l : List Int} (h : Sl w S 1 A c (l.map (D.num .i64))) (j : Nat) (hj : j < l.length) : (Lit.int .i64 l[j]).wf = true := by
  obtain ⟨b, off, _, _, _, hw⟩ := int_elem h j hj
  exact hw

set_option maxRecDepth 20000 in
theorem specGeneric (env : List GScheme) (A : Option Addr) (c : Nat) (t : GTy) (A1 : Option Addr) (c1 : Nat) (w : World) (hm : bulkL GScheme.bulk env ≤ 1048576) (ht : t.bulk ≤ 1048576) (hs : Sl w (Lt w.heap.size) 5 A c (env.map GScheme.toD)) (hat : GTy.At w (Lt w.heap.size) A1 c1 t) :
    Calls Try.prog 72 #[.slice A env.length c, .agg #[.int .i64 t.op, .int .i64 t.n, .string t.s, .slice A1 t.kids.length c1]] w (GenTo env t w) := by
  have hel : env.length ≤ 9223372036854775807 := by simpa using hs.len
  have HM := Lib.hid (show ∀ (j : Nat) (h : j < env.length), (env[j]).ty.bulk ≤ 1048576 from fun j h => by
    have h1 := (bulkV_next GScheme.bulk h).2; have h2 := (bulkV_next GScheme.bulk h).1; have h3 := (env[j]).bulk_eq; omega)
  obtain ⟨w0, e0⟩ : ∃ w0, w0 = w.alloc (.cells #[.int .i64 t.op, .int .i64 t.n, .string t.s, .slice A1 t.kids.length c1] 36) := ⟨_, rfl⟩
  have E0 := Lib.hid (show Below w.heap.size w w0 by rw [e0]; exact (Below.refl _ _).alloc (Nat.le_refl _) _)
  have R0 := Lib.hid (show Row w0 w.heap.size 36 #[.int .i64 t.op, .int .i64 t.n, .string t.s, .slice A1 t.kids.length c1] by rw [e0]; exact Row.new' _ _ _ rfl)
  have S00 : w0.heap.size = w.heap.size + 1 := by rw [e0]; simp
  obtain ⟨w1, e1⟩ : ∃ w1, w1 = w0.alloc (.cells #[] 3) := ⟨_, rfl⟩
  have E1 := Lib.hid (show Below w.heap.size w w1 by rw [e1]; exact E0.out.alloc (by omega) _)
  have Q1 := Lib.hid (show Row w1 w.heap.size 36 #[.int .i64 t.op, .int .i64 t.n, .string t.s, .slice A1 t.kids.length c1] by rw [e1]; exact R0.out.below ((Below.refl _ _).alloc (Nat.le_refl _) _) R0.out.lt)
  have N1 := Lib.hid (show Row w1 w0.heap.size 3 #[] by rw [e1]; exact Row.new' _ _ _ rfl)
  have T1 := Lib.hid (hat.below E1.out E1.out.size)
  have hsz1 : w1.heap.size = w.heap.size + 2 := by rw [e1]; simp [S00]
  have hca := fun i => Q1.out.cell i
  have HT := Lib.hid ht
  have HG1 := Lib.hid (show Gre w1 w.heap.size 3 1 (.slice (some ⟨w.heap.size + 1, 0, none⟩) 0 0) 0 (([] : List Int).map (D.num .i64)) from Gre.made (by rw [← S00]; exact N1.out) (by omega))
  have HS := Lib.hid hs
  clear hs hat hm ht
  go_enter Try.func72, Try.ntmps72
  go_wp2_with fail
  rw [← e0]
  rw [← e1]
  clear e0 e1
  try go_wp2_with fail
  refine (specFreeVars t A1 c1 _ HT.out T1.out).mono ?_
  rintro e w2 ⟨A2, c2, rfl, hO2, hb2⟩
  obtain ⟨vs, hvs⟩ : ∃ vs, vs = t.vs [] := ⟨_, rfl⟩
  rw [← hvs] at hO2 ⊢
  have HVS := Lib.hid hvs
  have hvl : vs.length ≤ 1048577 := by have h1 := t.vs_len []; have h2 := HT.out; rw [hvs]; simp at h1; omega
  have V2 := Lib.hid (hO2.sl.keep (w' := w2) (S' := fun b => b < w2.heap.size ∧ b ≠ w.heap.size + 1) fun b hb => ⟨⟨hb.2, by have := hb.1; omega⟩, rfl⟩)
  have HG2 := Lib.hid (HG1.out.below hb2)
  have B2 := Lib.hid (E1.out.trans (hb2.mono E1.out.size))
  have hsz2 := hb2.size
  clear hO2 hb2 hca hvs
  go_wp2_with fail
  go_loopw [5, 7] (fun v i wr => ∃ (j : Nat) (zs : List Int) (A' : Option Addr) (c' : Nat), j ≤ vs.length ∧ i = .int .i64 j ∧ v = .slice A' zs.length c' ∧ Hid (zs = (vs.take j).filter fun n => !(env.any (genBad n))) ∧ Hid (zs.length ≤ j) ∧ Hid (Gre wr w.heap.size 3 1 (.slice A' zs.length c') zs.length (zs.map (D.num .i64))) ∧ Hid (Gr w2 wr (.slice (some ⟨w.heap.size + 1, 0, none⟩) 0 0) (.slice A' zs.length c')) ∧ Hid (Below w.heap.size w wr)) (fun _ i _ => vs.length - (intOf i).toNat)
  case atStart => exact ⟨0, [], some ⟨w.heap.size + 1, 0, none⟩, 0, by omega, by go_num, rfl, Lib.hid (by simp), Lib.hid (by simp), HG2, Lib.hid (Gr.refl _ _), B2⟩
  case round =>
    obtain ⟨j, zs, A', c', hj, rfl, rfl, HZ, HZL, HG, HR, HB⟩ := hrel
    obtain ⟨wo, hwo⟩ : ∃ wo, wo = wr := ⟨_, rfl⟩
    subst hwo
    have hsz := HB.out.size
    have hszr := HR.out.size
    by_cases hlt : j < vs.length
    · have VR := Lib.hid (V2.out.keep (w' := wo) (S' := fun b => b < w2.heap.size ∧ b ≠ w.heap.size + 1) fun b hb => ⟨hb, HR.out.grow.block b hb.1 (fun e => hb.2 (by simpa [Value.ownBlock] using e))⟩)
      obtain ⟨bv, ov, ev, hSv, gv, _⟩ := int_elem VR.out j hlt
      subst ev
      have hbv := Nat.lt_of_lt_of_le hSv.1 hszr
      have gv0 := gv
      clear gv
      go_wp2_with fail
      go_loopw [8, 9] (fun f i wr => ∃ (k : Nat), k ≤ env.length ∧ i = .int .i64 k ∧ f = .bool (!((env.take k).any (genBad vs[j]))) ∧ Hid (Below wo.heap.size wo wr)) (fun _ i _ => env.length - (intOf i).toNat)
      case atStart => exact ⟨0, by omega, by go_num, by simp, Lib.hid (Below.refl _ _)⟩
      case round =>
        obtain ⟨k, hk, rfl, rfl, HQ⟩ := hrel
        have hszq := HQ.out.size
        have gv := (HQ.out.cell (p := ⟨bv, ov + j, none⟩) hbv).trans gv0
        by_cases hlt2 : k < env.length
        · obtain ⟨be, oe, Av, cv, At, ct, ee, hSe, g0, g1, g2, g3, g4, hate⟩ := GScheme.elem (HS.out.below (HB.out.trans (HQ.out.mono hsz)) (Nat.le_refl _)) k hlt2
          subst ee
          have hbe : be < wr.heap.size := Nat.lt_of_lt_of_le hSe (by omega)
          have hbq : bv < wr.heap.size := by omega
          have q0 := fun x : Ext wr => x.cell g0 hbe
          have q1 := fun x : Ext wr => x.cell g1 hbe
          have q2 := fun x : Ext wr => x.cell g2 hbe
          have q3 := fun x : Ext wr => x.cell g3 hbe
          have q4 := fun x : Ext wr => x.cell g4 hbe
          have qv := fun x : Ext wr => x.cell gv hbq
          have HC1 := Lib.hid (fun x : Ext wr => (specHas vs[j] 1048577 (env[k]).ty At ct x.1 (by have := HM.out k hlt2; omega) (hate.2.below (x.below.mono (by omega)) (by have := x.below.size; omega))).mono fun e w' h => (⟨h.1, x.step h.2⟩ : _ ∧ ∃ y : Ext wr, w' = y.1))
          have HC2 := Lib.hid (fun x : Ext wr => (specInI (env[k]).vars Av cv vs[j] x.1 (hate.1.below (x.below.mono (by omega)) (by have := x.below.size; omega))).mono fun e w' h => (⟨h.1, x.step h.2⟩ : _ ∧ ∃ y : Ext wr, w' = y.1))
          have HF := Lib.hid (show (env.take (k + 1)).any (genBad vs[j]) = ((env.take k).any (genBad vs[j]) || genBad vs[j] env[k]) by rw [take_snoc' env k hlt2, List.any_append]; simp)
          clear hate g0 g1 g2 g3 g4 gv
          cases hh : (env[k]).ty.has vs[j]
          · have HW := Lib.hid (show genBad vs[j] env[k] = false by unfold genBad; rw [hh]; rfl)
            rw [hh] at HC1
            clear hh
            go_wp2_with fail
            refine wp_region_ext (by kernel_rfl) (by kernel_rfl) ?_
            repeat (go_big_quiet_step (first | (go_at_call 140; exact HC1.out _) | (go_at_call 148; exact HC2.out _)))
            refine wpQuiet_nil ?_
            intro _ hw'
            obtain ⟨xq, hw''⟩ := hw'
            subst hw''
            have HQ2 := Lib.hid (HQ.out.trans (xq.below.mono hszq))
            clear q0 q1 q2 q3 q4 qv
            go_wp2_with fail
            go_roundw
            case rel => exact ⟨k + 1, by omega, by go_num, by rw [HF.out, HW.out, Bool.or_false], HQ2⟩
            case measure => simp [intOf]; omega
          · cases hv : ((env[k]).vars.any fun x => x == vs[j])
            · have HW := Lib.hid (show genBad vs[j] env[k] = true by unfold genBad; rw [hh, hv]; rfl)
              rw [hh] at HC1
              rw [hv] at HC2
              clear hh hv
              go_wp2_with fail
              refine wp_region_ext (by kernel_rfl) (by kernel_rfl) ?_
              repeat (go_big_quiet_step (first | (go_at_call 140; exact HC1.out _) | (go_at_call 148; exact HC2.out _)))
              refine wpQuiet_nil ?_
              intro _ hw'
              obtain ⟨xq, hw''⟩ := hw'
              subst hw''
              have HQ2 := Lib.hid (HQ.out.trans (xq.below.mono hszq))
              clear q0 q1 q2 q3 q4 qv
              go_wp2_with fail
              go_roundw
              case rel => exact ⟨k + 1, by omega, by go_num, by rw [HF.out, HW.out, Bool.or_true]; rfl, HQ2⟩
              case measure => simp [intOf]; omega
            · have HW := Lib.hid (show genBad vs[j] env[k] = false by unfold genBad; rw [hh, hv]; rfl)
              rw [hh] at HC1
              rw [hv] at HC2
              clear hh hv
              go_wp2_with fail
              refine wp_region_ext (by kernel_rfl) (by kernel_rfl) ?_
              repeat (go_big_quiet_step (first | (go_at_call 140; exact HC1.out _) | (go_at_call 148; exact HC2.out _)))
              refine wpQuiet_nil ?_
              intro _ hw'
              obtain ⟨xq, hw''⟩ := hw'
              subst hw''
              have HQ2 := Lib.hid (HQ.out.trans (xq.below.mono hszq))
              clear q0 q1 q2 q3 q4 qv
              go_wp2_with fail
              go_roundw
              case rel => exact ⟨k + 1, by omega, by go_num, by rw [HF.out, HW.out, Bool.or_false], HQ2⟩
              case measure => simp [intOf]; omega
        · have hke : k = env.length := by omega
          have HTK := Lib.hid (show (env.take k) = env by rw [hke, List.take_length])
          clear hke
          rw [HTK.out]
          have HB1 := Lib.hid (HB.out.trans (HQ.out.mono hsz))
          have HG1' := Lib.hid (HG.out.below HQ.out)
          have HR1 := Lib.hid (HR.out.trans (Gr.of_below HQ.out))
          have hszw := HB1.out.size
          cases hb : env.any (genBad vs[j])
          · have HZ2 := Lib.hid (show zs ++ [vs[j]] = (vs.take (j + 1)).filter fun n => !(env.any (genBad n)) by rw [take_snoc' vs j hlt, List.filter_append, ← HZ.out]; simp [hb])
            have hwj := int_wf' V2.out j hlt
            have EA := Lib.hid (show Below wr.heap.size wr (wr.alloc (.cells #[.int .i64 vs[j]] 3)) from (Below.refl _ _).alloc (Nat.le_refl _) _)
            have GA := Lib.hid (HG1'.out.below EA.out)
            have TA := Lib.hid (show Sl (wr.alloc (.cells #[.int .i64 vs[j]] 3)) (fun b => b < (wr.alloc (.cells #[.int .i64 vs[j]] 3)).heap.size ∧ (Value.slice A' zs.length c').ownBlock ≠ some b) 1 (some ⟨wr.heap.size, 0, none⟩) 1 ([vs[j]].map (D.num .i64)) from
              (rowI_osl (B := wr.heap.size) (Row.new' wr 3 (rowI [vs[j]]) rfl) (Nat.le_refl _) (by simp [maxLen]) (by intro x hx; simp at hx; rw [hx]; exact hwj)).sl.keep fun b hb => ⟨⟨hb.2, fun e => by have := (HG1'.out.own b e).2; have := hb.1; omega⟩, rfl⟩)
            have hBA : w.heap.size ≤ (wr.alloc (.cells #[.int .i64 vs[j]] 3)).heap.size := Nat.le_trans hszw EA.out.size
            have hzl : zs.length ≤ 1048577 := by have := HZL.out; omega
            have HOW := Lib.hid (fun g (hg : (Value.slice A' zs.length c').ownBlock = some g) => (HG1'.out.own g hg).1)
            clear hwj hb
            go_wp2_with (first | (at_builtin; refine wpList_append_M (wr.alloc (.cells #[.int .i64 vs[j]] 3)) rfl (.tmp 49) (.tmp 54) 25 rfl 3 (.int .i64 0) 1 8 Try.underlying25 (by kernel_rfl) rfl (by omega) w.heap.size (.slice A' zs.length c') zs.length _ GA.out (some ⟨wr.heap.size, 0, none⟩) 1 1 _ rfl TA.out hBA (by unfold maxLen; omega) (by omega) rfl rfl ?_; intro A4 c4 w4 G4 hGr4; have G4h := Lib.hid G4; have GR4 := Lib.hid ((HR1.out.trans (Gr.of_below EA.out)).trans hGr4); have B4 := Lib.hid ((HB1.out.trans (EA.out.mono hszw)).trans (hGr4.below hBA HOW.out)); clear G4 hGr4))
            obtain ⟨ys, hys⟩ : ∃ ys, ys = zs ++ [vs[j]] := ⟨_, rfl⟩
            have e2 : zs.length + 1 = ys.length := by rw [hys]; simp
            rw [← hys] at HZ2
            have G5 := Lib.hid (show Gre w4 w.heap.size 3 1 (.slice A4 ys.length c4) ys.length (ys.map (D.num .i64)) from by rw [← e2, hys, List.map_append]; exact G4h.out)
            rw [e2] at GR4 ⊢
            have HYL := Lib.hid (show ys.length ≤ j + 1 by have := HZL.out; omega)
            clear e2 hys G4h
            go_roundw
            case rel => exact ⟨j + 1, ys, A4, c4, by omega, by go_num, rfl, HZ2, HYL, G5, GR4, B4⟩
            case measure => simp [intOf]; omega
          · have HZ2 := Lib.hid (show zs = (vs.take (j + 1)).filter fun n => !(env.any (genBad n)) by rw [take_snoc' vs j hlt, List.filter_append, ← HZ.out]; simp [hb])
            clear hb
            go_wp2_with fail
            go_roundw
            case rel => exact ⟨j + 1, zs, A', c', by omega, by go_num, rfl, HZ2, Lib.hid (by have := HZL.out; omega), HG1', HR1, HB1⟩
            case measure => simp [intOf]; omega
    · have hje : j = vs.length := by omega
      have HY := Lib.hid (show zs = genV env t by rw [HZ.out, hje, List.take_length, HVS.out]; rfl)
      clear hje
      go_wp2_with fail
      go_ret
      rw [← HVS.out] at *
      unfold GenTo
      rw [← HY.out]
      exact ⟨A', c', rfl, GI.osl HG.out (GI.wf HG.out), HB.out⟩
end Go.Proofs.Ytjcgfbjdailgoaa
