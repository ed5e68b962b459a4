/- Texts of the claim LForAll in one: FreeVarsG Ext FScheme Generic ABind FBind SubP BindAt Apply Inst ANode. Conditions: none but bounds on sizes. -/
import Derived.Test.YtlpichogambpfaaGreatZLForAll13
import Derived.Test.YtlpichogambpfaaGreatZLForAll10
import Derived.BigQuiet
import Derived.Test.YtlpichogambpfaaGreatRows
import Derived.Test.YtlpichogambpfaaGreatZLForAll8
import Derived.Test.YtlpichogambpfaaGreatZLForAll11
import Derived.Lib.Hide
import Derived.StillTailTactics
import Derived.Deep.RegionLaw
namespace Go.Proofs.YtlpichogambpfaaGreat
set_option maxRecDepth 20000
set_option linter.unusedVariables false
set_option linter.unusedSimpArgs false
open Go.RowKit Go.Sort
theorem implFreeVarsG (t : GTy) (A1 : Option Addr) (c1 : Nat) (w : World) (hb : t.bulk ≤ 1048576) (hat : GTy.At w (Lt w.heap.size) A1 c1 t) :
 Calls Tryz.prog 17 #[.agg #[.int .i64 t.op, .int .i64 t.n, .string t.s, .slice A1 t.kids.length c1]] w (VTo w.heap.size (t.vs []) w) := by
 have HL := LH (t.vi_len [])
 have HB := LH hb
 have HS := LH ((GTy.same t [] [] ⟨List.Pairwise.nil, List.nodup_nil, fun _ => Iff.rfl⟩).sorted)
 obtain ⟨w0, e0⟩ : ∃ w0, w0 = w.alloc (.cells #[.int .i64 t.op, .int .i64 t.n, .string t.s, .slice A1 t.kids.length c1] 27) := ⟨_, rfl⟩
 have E0 := LH (show Below w.heap.size w w0 by rw [e0]; exact (Below.refl _ _).alloc (Nat.le_refl _) _)
 have Ra0 := LH (show Row w0 w.heap.size 27 #[.int .i64 t.op, .int .i64 t.n, .string t.s, .slice A1 t.kids.length c1] by rw [e0]; exact Row.new' _ _ _ rfl)
 have S0 : w0.heap.size = w.heap.size + 1 := by rw [e0]; simp
 have T0 := LH (hat.below E0.out (Nat.le_refl _))
 have hca0 := fun i => Ra0.out.cell i
 clear hat hb
 go_enter Tryz.func17, Tryz.ntmps17
 go_wp2_with fail
 rw [← e0]
 clear e0
 refine (implVars w.heap.size (t.bulk + 1) t A1 c1 [] none 0 w0 (by omega) (by have := HB.out; simp; omega) (by omega) (Gre.nil _ _ _ _) T0.out).mono ?_
 rintro e w1 ⟨A, c, rfl, hG, hGr⟩
 have HG := LH hG
 have B1 := LH (E0.out.trans (hGr.below (by omega) (fun g h => by cases h)))
 clear hG hGr hca0
 go_wp2_with fail
 refine (implSort w.heap.size (t.vi []) A c w1 (by have h1 := HL.out; have h2 := HB.out; simp at h1; omega) HG.out).mono ?_
 rintro e w2 ⟨rfl, hG2, hGr2⟩
 rw [HS.out] at hG2
 have HG2 := LH hG2
 have B2 := LH (B1.out.trans (hGr2.below (by have := B1.out.size; omega) (fun g h => (HG.out.own g h).1)))
 have HLE := LH (show (t.vi []).length = (t.vs []).length from by rw [← HS.out]; exact (List.mergeSort_perm _ _).length_eq.symm)
 clear hG2 hGr2
 go_wp2_with fail
 go_ret
 have h := HG2.out
 rw [HLE.out] at h ⊢
 exact ⟨A, c, rfl, h, B2.out⟩
end Go.Proofs.YtlpichogambpfaaGreat
namespace Go.Proofs.YtlpichogambpfaaGreat
set_option maxRecDepth 20000
set_option linter.unusedVariables false
set_option linter.unusedSimpArgs false
open Go.RowKit
def Ext (w : World) : Type := {w' : World // Below w.heap.size w w'}
instance (w : World) : Nonempty (Ext w) := ⟨⟨w, Below.refl _ _⟩⟩
theorem Ext.below {w : World} (x : Ext w) : Below w.heap.size w x.1 := x.2
theorem Ext.cell {w : World} (x : Ext w) {p : Addr} {v : Value} (h : w.cell? p = some v) (hb : p.block < w.heap.size) : x.1.cell? p = some v := (x.2.cell hb).trans h
theorem Ext.step {w w' : World} (x : Ext w) (h : Below x.1.heap.size x.1 w') : ∃ y : Ext w, w' = y.1 := ⟨⟨w', x.2.trans (h.mono x.2.size)⟩, rfl⟩
theorem wp_region_ext {P : Program} {id : Nat} {Q : Exit → Act → World → Prop} {a : Act} {w : World} {l : List Oper} (hm : P.follows .mixedOrders = true) (hB : Region.lexB .any l.toArray = true)
 (h : wpQuiet P l.toArray (fun w' => ∃ x : Ext w, w' = x.1) (fun a' => ∀ w', (∃ x : Ext w, w' = x.1) → Q .normal a' w') l a) : (Code.region id l.toArray true).wp P Q a w :=
 wp_region_quiet (C := fun w' => ∃ x : Ext w, w' = x.1) hm hB ⟨⟨w.drew, Below.drew (Below.refl _ _)⟩, rfl⟩ (by simpa using h)
set_option maxHeartbeats 400000
theorem indexFuncScheme (K : Nat) (hK : ∀ (args : Array Value) (w : World), (callFunc K args).run Tryz.prog w = .ok (.enter K args) w) (caps : Array Value) (p : GScheme → Bool) (l : List GScheme) (A : Option Addr) (c : Nat) (w : World) (hs : Sl w (Lt w.heap.size) 5 A c (l.map GScheme.toD))
 (H : ∀ x, x ∈ l → ∀ (A1 : Option Addr) (c1 : Nat) (A2 : Option Addr) (c2 : Nat) (w2 : World), Below w.heap.size w w2 → GScheme.At w2 (Lt w2.heap.size) A1 c1 A2 c2 x →
   Calls Tryz.prog K (#[.agg #[.slice A1 x.vars.length c1, .int .i64 x.ty.op, .int .i64 x.ty.n, .string x.ty.s, .slice A2 x.ty.kids.length c2]] ++ caps) w2 fun e w' => e = .returned (.bool (p x)) ∧ Below w2.heap.size w2 w') :
 Calls Tryz.prog 42 #[.slice A l.length c, .func (.func K) #[] caps] w fun e w' => e = .returned (.int .i64 (idxI p l)) ∧ Below w.heap.size w w' := by
 have hlen : l.length ≤ 9223372036854775807 := by simpa using hs.len
 have HH := LH H
 clear H
 go_enter Tryz.func42, Tryz.ntmps42
 go_wp2_with fail
 go_loopw [8] (fun i wr => ∃ j : Nat, j ≤ l.length ∧ i = .int .i64 j ∧ noneTo p l j ∧ Below w.heap.size w wr) (fun i _ => l.length - (intOf i).toNat)
 case atStart => exact ⟨0, by omega, by go_num, noneTo_zero p l, Below.refl _ _⟩
 case round =>
  obtain ⟨j, hj, rfl, hno, hbl⟩ := hrel
  have Hno := LH hno
  clear hno
  have hsz := hbl.size
  by_cases hlt : j < l.length
  ·
   have htr := GScheme.elem (hs.below hbl (Nat.le_refl _)) j hlt
   obtain ⟨b, off, A1, c1, A2, c2, rfl, hSb, g0, g1, g2, g3, g4, hat⟩ := htr
   have hmem : l[j] ∈ l := List.getElem_mem hlt
   go_wp2_with fail
   refine (HH.out _ hmem _ _ _ _ _ hbl (hat.below (Below.refl _ _) hsz)).mono ?_
   rintro e w1 ⟨rfl, hb1⟩
   cases he : p l[j]
   · have hn := LH (noneTo_succ Hno.out hlt he)
     go_wp2_with fail
     go_roundw
     case rel => exact ⟨j + 1, by omega, by go_num, hn.out, hbl.trans (hb1.mono hsz)⟩
     case measure => simp [intOf]; omega
   · have hn := LH (idxI_at Hno.out hlt he)
     go_wp2_with fail
     go_ret
     exact ⟨ret_int hn.out.symm, hbl.trans (hb1.mono hsz)⟩
  ·
   have hjl : j = l.length := by omega
   have Hj := LH hjl
   clear hjl
   go_wp2_with fail
   go_ret
   exact ⟨ret_int (idxI_none (by have := Hno.out; rw [Hj.out] at this; exact this)).symm, hbl⟩
theorem containsFuncScheme (K : Nat) (hK : ∀ (args : Array Value) (w : World), (callFunc K args).run Tryz.prog w = .ok (.enter K args) w) (caps : Array Value) (p : GScheme → Bool) (l : List GScheme) (A : Option Addr) (c : Nat) (w : World) (hs : Sl w (Lt w.heap.size) 5 A c (l.map GScheme.toD))
 (H : ∀ x, x ∈ l → ∀ (A1 : Option Addr) (c1 : Nat) (A2 : Option Addr) (c2 : Nat) (w2 : World), Below w.heap.size w w2 → GScheme.At w2 (Lt w2.heap.size) A1 c1 A2 c2 x →
   Calls Tryz.prog K (#[.agg #[.slice A1 x.vars.length c1, .int .i64 x.ty.op, .int .i64 x.ty.n, .string x.ty.s, .slice A2 x.ty.kids.length c2]] ++ caps) w2 fun e w' => e = .returned (.bool (p x)) ∧ Below w2.heap.size w2 w') :
 Calls Tryz.prog 25 #[.slice A l.length c, .func (.func K) #[] caps] w fun e w' => e = .returned (.bool (l.any p)) ∧ Below w.heap.size w w' := by
 have HH := LH H
 clear H
 go_enter Tryz.func25, Tryz.ntmps25
 go_wp2_with fail
 refine (indexFuncScheme K hK caps p l A c w hs HH.out).mono ?_
 rintro e w1 ⟨rfl, hb1⟩
 cases ha : l.any p
 ·
  have hi := idxI_any_false ha
  rw [hi]
  have Ha := LH ha
  clear ha hi
  go_wp2_with fail
  go_ret
  exact ⟨ret_bool Ha.out.symm, hb1⟩
 ·
  have hi := idxI_any_true ha
  have Ha := LH ha
  clear ha
  generalize idxI p l = x at *
  go_wp2_with fail
  go_ret
  exact ⟨ret_bool Ha.out.symm, hb1⟩
end Go.Proofs.YtlpichogambpfaaGreat
namespace Go.Proofs.YtlpichogambpfaaGreat
set_option maxRecDepth 20000
set_option linter.unusedVariables false
set_option linter.unusedSimpArgs false
open Go.RowKit Go.BigFrame
set_option maxHeartbeats 1000000
def genBad (n : Int) (s : GScheme) : Bool := s.ty.has n && !(s.vars.any fun x => x == n)
def genV (env : List GScheme) (t : GTy) : List Int := (t.vs []).filter fun n => !(env.any (genBad n))
def GenTo (env : List GScheme) (t : GTy) (w : World) (e : Ending) (w' : World) : Prop := ∃ A c, e = .returned (.slice A (genV env t).length c) ∧ Osl w' (Btw w.heap.size w'.heap.size) 1 A c ((genV env t).map (D.num .i64)) ∧ Below w.heap.size w w'
theorem specInI (l : List Int) (A : Option Addr) (c : Nat) (n : Int) (w : World) (hs : Sl w (Lt w.heap.size) 1 A c (l.map (D.num .i64))) :
 Calls Tryz.prog 34 #[.slice A l.length c, .int .i64 n] w fun e w' => e = .returned (.bool (l.any fun x => x == n)) ∧ Below w.heap.size w w' := by
 have hlen : l.length ≤ 9223372036854775807 := by simpa using hs.len
 have S0 := LH hs
 clear hs
 go_enter Tryz.func34, Tryz.ntmps34
 go_wp2_with fail
 go_loopw [5] (fun i wr => ∃ (j : Nat), j ≤ l.length ∧ i = .int .i64 j ∧ Hid (noneTo (fun x : Int => x == n) l j) ∧ Below w.heap.size w wr) (fun i _ => l.length - (intOf i).toNat)
 case atStart => exact ⟨0, by omega, by go_num, LH (noneTo_zero _ _), Below.refl _ _⟩
 case round =>
  obtain ⟨j, hj, rfl, HN, hbl⟩ := hrel
  by_cases hlt : j < l.length
  ·
   obtain ⟨b, off, rfl, hSb, g0, _⟩ := int_elem (S0.out.below hbl (Nat.le_refl _)) j hlt
   cases he : (l[j] == n) with
   | true =>
    have HV := LH (show (l.any fun x => x == n) = true from List.any_eq_true.2 ⟨_, List.getElem_mem hlt, he⟩)
    go_wp2_with fail
    go_ret
    exact ⟨ret_bool HV.out.symm, hbl⟩
   | false =>
    have HN2 := LH (noneTo_succ HN.out hlt he)
    go_wp2_with fail
    go_roundw
    case rel => exact ⟨j + 1, by omega, by go_num, HN2, hbl⟩
    case measure => simp [intOf]; omega
  · have HV := LH (show (l.any fun x => x == n) = false from noneTo_any (by have := HN.out; rwa [show j = l.length by omega] at this))
    go_wp2_with fail
    go_ret
    exact ⟨ret_bool HV.out.symm, hbl⟩
theorem implIndexI0 (l : List Int) (A : Option Addr) (c : Nat) (n : Int) (w : World) (hs : Sl w (Lt w.heap.size) 1 A c (l.map (D.num .i64))) :
 Calls Tryz.prog 43 #[.slice A l.length c, .int .i64 n] w fun e w' => e = .returned (.int .i64 (idxI (fun x => n == x) l)) ∧ w' = w := by
 have hlen : l.length ≤ 9223372036854775807 := by simpa using hs.len
 have S0 := LH hs
 clear hs
 go_enter Tryz.func43, Tryz.ntmps43
 go_wp2_with fail
 go_loopw [8] (fun i wr => ∃ (j : Nat), j ≤ l.length ∧ i = .int .i64 j ∧ Hid (noneTo (fun x : Int => n == x) l j) ∧ wr = w) (fun i _ => l.length - (intOf i).toNat)
 case atStart => exact ⟨0, by omega, by go_num, LH (noneTo_zero _ _), rfl⟩
 case round =>
  obtain ⟨j, hj, rfl, HN, rfl⟩ := hrel
  by_cases hlt : j < l.length
  ·
   obtain ⟨b, off, rfl, hSb, g0, _⟩ := int_elem S0.out j hlt
   cases he : (n == l[j]) with
   | true =>
    have HV := LH (idxI_at HN.out hlt he)
    go_wp2_with fail
    go_ret
    exact ⟨ret_int HV.out.symm, rfl⟩
   | false =>
    have HN2 := LH (noneTo_succ HN.out hlt he)
    go_wp2_with fail
    go_roundw
    case rel => exact ⟨j + 1, by omega, by go_num, HN2, by simp⟩
    case measure => simp [intOf]; omega
  · have HV := LH (idxI_none (by have := HN.out; rwa [show j = l.length by omega] at this))
    go_wp2_with fail
    go_ret
    exact ⟨ret_int HV.out.symm, rfl⟩
theorem implIntHas0 (l : List Int) (A : Option Addr) (c : Nat) (n : Int) (w : World) (hs : Sl w (Lt w.heap.size) 1 A c (l.map (D.num .i64))) :
 Calls Tryz.prog 27 #[.slice A l.length c, .int .i64 n] w fun e w' => e = .returned (.bool (l.any fun x => x == n)) ∧ w' = w := by
 have HS := LH hs
 clear hs
 have HID := LH (show (decide ((idxI (fun x : Int => n == x) l) ≥ 0)) = l.any (fun x => x == n) by
   rw [← any_flipV]
   cases ha : l.any fun x => n == x with
   | true => have := idxI_any_true ha; simpa using this
   | false => rw [idxI_any_false ha]; rfl)
 go_enter Tryz.func27, Tryz.ntmps27
 go_wp2_with fail
 refine (implIndexI0 l A c n _ HS.out).mono ?_
 rintro e w1 ⟨rfl, rfl⟩
 go_wp2_with fail
 go_ret
 exact ⟨ret_bool HID.out, rfl⟩
theorem implGeneric2 (n : Int) (b : Nat) (x : GScheme) (A1 : Option Addr) (c1 : Nat) (A2 : Option Addr) (c2 : Nat) (w : World) (hc : w.cell? ⟨b, 0, none⟩ = some (.int .i64 n)) (hb : b < w.heap.size) (hm : x.ty.bulk ≤ 1048576) (hat : GScheme.At w (Lt w.heap.size) A1 c1 A2 c2 x) :
 Calls Tryz.prog 26 #[.agg #[.slice A1 x.vars.length c1, .int .i64 x.ty.op, .int .i64 x.ty.n, .string x.ty.s, .slice A2 x.ty.kids.length c2], .pointer (some ⟨b, 0, none⟩)] w fun e w' => e = .returned (.bool (genBad n x)) ∧ Below w.heap.size w w' := by
 obtain ⟨w0, e0⟩ : ∃ w0, w0 = w.alloc (.cells #[.slice A1 x.vars.length c1, .int .i64 x.ty.op, .int .i64 x.ty.n, .string x.ty.s, .slice A2 x.ty.kids.length c2] 33) := ⟨_, rfl⟩
 have E0 := LH (show Below w.heap.size w w0 by rw [e0]; exact (Below.refl _ _).alloc (Nat.le_refl _) _)
 have R0 := LH (show Row w0 w.heap.size 33 #[.slice A1 x.vars.length c1, .int .i64 x.ty.op, .int .i64 x.ty.n, .string x.ty.s, .slice A2 x.ty.kids.length c2] by rw [e0]; exact Row.new' _ _ _ rfl)
 have hc0 := (E0.out.cell (p := ⟨b, 0, none⟩) hb).trans hc
 have E1 := LH (show Below w.heap.size w w0.drew from Below.drew E0.out)
 have R1 := LH (show Row w0.drew w.heap.size 33 #[.slice A1 x.vars.length c1, .int .i64 x.ty.op, .int .i64 x.ty.n, .string x.ty.s, .slice A2 x.ty.kids.length c2] from R0.out)
 have S1 := LH (show Sl w0.drew (Lt w0.drew.heap.size) 1 A1 c1 (x.vars.map (D.num .i64)) from hat.1.keep (keep_below E1.out E1.out.size))
 have T1 := LH (show GTy.At w0.drew (Lt w0.drew.heap.size) A2 c2 x.ty from hat.2.keep (keep_below E1.out E1.out.size))
 have hq0 := R1.out.cell
 have HSV := LH hat.1
 have HVS := LH (show (x.ty.vs []).any (fun m => m == n) = x.ty.has n from by
   rw [Bool.eq_iff_iff, GTy.has_vs, List.any_eq_true]
   exact ⟨fun ⟨y, hy, e⟩ => by simp at e; rw [← e]; exact hy, fun h => ⟨n, h, by simp⟩⟩)
 clear hat hc
 cases hv : (x.vars.any fun y => y == n)
 ·
  have HW := LH (show genBad n x = x.ty.has n by unfold genBad; rw [hv]; simp)
  have HV := LH hv
  clear hv
  go_enter Tryz.func26, Tryz.ntmps26
  go_wp2_with fail
  rw [← e0]
  clear e0
  go_region_held3 (fun w' => (∀ i, w'.cell? ⟨w.heap.size, i, none⟩ = (#[.slice A1 x.vars.length c1, .int .i64 x.ty.op, .int .i64 x.ty.n, .string x.ty.s, .slice A2 x.ty.kids.length c2] : Array Value)[i]?) ∧ w'.cell? ⟨b, 0, none⟩ = some (.int .i64 n)) (first | exact ⟨hq3, hc3⟩ | exact ⟨hq2, hc2⟩ | exact ⟨hq1, hc1⟩ | exact ⟨hq0, hc0⟩) (first
    | (go_at_call 27
       refine (implIntHas x.vars A1 c1 n _ S1.out).mono ?_
       rintro e w1 ⟨rfl, hb1⟩
       rw [HV.out]
       have B1 := LH (E1.out.trans (hb1.mono E1.out.size))
       have R2 := LH (R1.out.below hb1 R1.out.lt)
       have T2 := LH (T1.out.below hb1 hb1.size)
       have hq1 := fun i => R2.out.cell i
       have hc1 := (hb1.cell (p := ⟨b, 0, none⟩) (Nat.lt_of_lt_of_le hb E1.out.size)).trans hc0
       clear hb1)
    | (go_at_call 17
       refine (implFreeVars x.ty A2 c2 _ hm T2.out).mono ?_
       rintro e w2 ⟨A3, c3, rfl, ho2, hb2⟩
       have O2 := LH (ho2.sl.keep (S' := Lt w2.heap.size) fun b hb => ⟨hb.2, rfl⟩)
       have B2 := LH (B1.out.trans (hb2.mono B1.out.size))
       have R3 := LH (R2.out.below hb2 R2.out.lt)
       have hq2 := fun i => R3.out.cell i
       have hc2 := (hb2.cell (p := ⟨b, 0, none⟩) (Nat.lt_of_lt_of_le hb B1.out.size)).trans hc1
       clear hb2 ho2)
    | (go_at_call 27
       refine (implIntHas (x.ty.vs []) A3 c3 n _ O2.out).mono ?_
       rintro e w3 ⟨rfl, hb3⟩
       rw [HVS.out]
       have B3 := LH (B2.out.trans (hb3.mono B2.out.size))
       have R4 := LH (R3.out.below hb3 R3.out.lt)
       have hq3 := fun i => R4.out.cell i
       have hc3 := (hb3.cell (p := ⟨b, 0, none⟩) (Nat.lt_of_lt_of_le hb B2.out.size)).trans hc2
       clear hb3))
  go_wp2_with fail
  go_ret
  exact ⟨ret_bool HW.out.symm, B3.out⟩
 ·
  have HW := LH (show genBad n x = false by unfold genBad; rw [hv]; simp)
  have HQ := LH (show ∀ m, Calls Tryz.prog 27 #[.slice A1 x.vars.length c1, .int .i64 n] (w0.drewN m) fun e w' => e = .returned (.bool true) ∧ w' = w0.drewN m from fun m =>
    (implIntHas0 x.vars A1 c1 n _ (HSV.out.keep (keep_below (belowN E0.out m) (belowN E0.out m).size))).mono fun e w' h => ⟨by rw [h.1, hv], h.2⟩)
  clear hv
  go_enter Tryz.func26, Tryz.ntmps26
  go_wp2_with fail
  rw [← e0]
  clear e0
  have hz0 := fun i => R0.out.cell i
  go_quiet (first
    | (go_at_call 27
       exact Calls.quiet_of_same (HQ.out _)))
  go_wp2_with fail
  go_ret
  exact ⟨ret_bool HW.out.symm, belowN E0.out _⟩
theorem implGeneric1 (env : List GScheme) (A : Option Addr) (c : Nat) (n : Int) (b : Nat) (w : World) (hm : ∀ s ∈ env, s.ty.bulk ≤ 1048576) (hc : w.cell? ⟨b, 0, none⟩ = some (.slice A env.length c)) (hb : b < w.heap.size) (hs : Sl w (Lt w.heap.size) 5 A c (env.map GScheme.toD)) :
 Calls Tryz.prog 24 #[.int .i64 n, .pointer (some ⟨b, 0, none⟩)] w fun e w' => e = .returned (.bool (env.any (genBad n))) ∧ Below w.heap.size w w' := by
 obtain ⟨w0, e0⟩ : ∃ w0, w0 = w.alloc (.cells #[.int .i64 n] 3) := ⟨_, rfl⟩
 have E0 := LH (show Below w.heap.size w w0 by rw [e0]; exact (Below.refl _ _).alloc (Nat.le_refl _) _)
 have R0 := LH (show Row w0 w.heap.size 3 #[.int .i64 n] by rw [e0]; exact Row.new' _ _ _ rfl)
 have hc0 := (E0.out.cell (p := ⟨b, 0, none⟩) hb).trans hc
 have S0 := LH (hs.below E0.out E0.out.size)
 have HM := LH hm
 rw [e0] at hc0
 clear hs hc hm
 go_enter Tryz.func24, Tryz.ntmps24
 go_wp2_with fail
 rw [← e0]
 clear e0 hc0
 refine (containsFuncScheme 26 (enters Tryz.func26 (by kernel_rfl) (by kernel_rfl)) #[.pointer (some ⟨w.heap.size, 0, none⟩)] (genBad n) env A c _ S0.out
   (fun x hx A1 c1 A2 c2 w2 hb2 hat2 => by
     have R2 := R0.out.below hb2 R0.out.lt
     exact implGeneric2 n w.heap.size x A1 c1 A2 c2 w2 (R2.cell 0) R2.lt (HM.out x hx) hat2)).mono ?_
 rintro e w2 ⟨rfl, hb2⟩
 go_wp2_with fail
 go_ret
 exact ⟨rfl, E0.out.trans (hb2.mono E0.out.size)⟩
theorem implGeneric (env : List GScheme) (A : Option Addr) (c : Nat) (t : GTy) (A1 : Option Addr) (c1 : Nat) (w : World) (hm : bulkL GScheme.bulk env ≤ 1048576) (ht : t.bulk ≤ 1048576) (hs : Sl w (Lt w.heap.size) 5 A c (env.map GScheme.toD)) (hat : GTy.At w (Lt w.heap.size) A1 c1 t) :
 Calls Tryz.prog 6 #[.slice A env.length c, .agg #[.int .i64 t.op, .int .i64 t.n, .string t.s, .slice A1 t.kids.length c1]] w (GenTo env t w) := by
 have HM := LH (show ∀ s ∈ env, s.ty.bulk ≤ 1048576 from fun s hs => by
   obtain ⟨j, h, rfl⟩ := List.getElem_of_mem hs
   have h1 := (bulkV_next GScheme.bulk h).2; have h2 := (bulkV_next GScheme.bulk h).1; have h3 := (env[j]).bulk_eq; omega)
 obtain ⟨w0, e0⟩ : ∃ w0, w0 = w.alloc (.cells #[.slice A env.length c] 24) := ⟨_, rfl⟩
 have E0 := LH (show Below w.heap.size w w0 by rw [e0]; exact (Below.refl _ _).alloc (Nat.le_refl _) _)
 have R0 := LH (show Row w0 w.heap.size 24 #[.slice A env.length c] by rw [e0]; exact Row.new' _ _ _ rfl)
 have S00 : w0.heap.size = w.heap.size + 1 := by rw [e0]; simp
 obtain ⟨w1, e1⟩ : ∃ w1, w1 = w0.alloc (.cells #[.int .i64 t.op, .int .i64 t.n, .string t.s, .slice A1 t.kids.length c1] 27) := ⟨_, rfl⟩
 have E1 := LH (show Below w.heap.size w w1 by rw [e1]; exact E0.out.alloc (by omega) _)
 have R1 := LH (show Row w1 w.heap.size 24 #[.slice A env.length c] by rw [e1]; exact R0.out.below ((Below.refl _ _).alloc (Nat.le_refl _) _) R0.out.lt)
 have Q1 := LH (show Row w1 w0.heap.size 27 #[.int .i64 t.op, .int .i64 t.n, .string t.s, .slice A1 t.kids.length c1] by rw [e1]; exact Row.new' _ _ _ rfl)
 have T1 := LH (hat.below E1.out E1.out.size)
 have S1 := LH (hs.below E1.out E1.out.size)
 have hsz1 : w1.heap.size = w.heap.size + 2 := by rw [e1]; simp [S00]
 have hca := fun i => Q1.out.cell i
 rw [S00] at hca
 have HT := LH ht
 clear hs hat hm ht
 go_enter Tryz.func6, Tryz.ntmps6
 go_wp2_with fail
 rw [← e0]
 rw [← e1]
 clear e0 e1
 try go_wp2_with fail
 refine (implFreeVarsG t A1 c1 _ HT.out T1.out).mono ?_
 rintro e w2 ⟨A2, c2, rfl, hG2, hb2⟩
 have G2 := LH hG2
 have B2 := LH (E1.out.trans (hb2.mono E1.out.size))
 have R2 := LH (R1.out.below hb2 R1.out.lt)
 have S2 := LH (S1.out.keep (S' := Lt w1.heap.size) (w' := w2) fun b hb => ⟨hb, hb2.block b hb⟩)
 have HLN := LH (show (t.vs []).length ≤ 1048577 by have h1 := t.vs_len []; have h2 := HT.out; simp at h1; omega)
 have hsz2 := hb2.size
 clear hG2 hb2 hca
 go_wp2_with fail
 refine (deleteFuncint w1.heap.size 24 (enters Tryz.func24 (by kernel_rfl) (by kernel_rfl)) #[.pointer (some ⟨w.heap.size, 0, none⟩)] (fun n => env.any (genBad n)) (t.vs []) A2 c2 _ HLN.out hsz2 G2.out
   (fun x hx w3 hg3 => by
     have hne : (Value.slice A2 (t.vs []).length c2).ownBlock ≠ some w.heap.size := fun e => by have := (G2.out.own _ e).1; omega
     have R3 := hg3.row R2.out hne
     have hb3 := hg3.below (B := w1.heap.size) hsz2 (fun g hg => (G2.out.own g hg).1)
     exact implGeneric1 env A c x w.heap.size w3 HM.out (R3.cell 0) R3.lt (S2.out.keep fun b hb => ⟨Nat.lt_of_lt_of_le hb (Nat.le_trans hsz2 hg3.size), hb3.block b hb⟩))).mono ?_
 rintro e w3 ⟨rfl, hG3, hGr3⟩
 have G3 := LH hG3
 have B3 := LH (B2.out.trans (hGr3.below (B := w.heap.size) B2.out.size (fun g hg => by have := (G2.out.own g hg).1; have := E1.out.size; omega)))
 clear hG3 hGr3
 go_wp2_with fail
 go_ret
 exact ⟨A2, c2, rfl, (GI.osl G3.out (GI.wf G3.out)).keep fun b hb => ⟨⟨by have := hb.1; omega, hb.2⟩, rfl⟩, B3.out⟩
theorem int_wf' {w : World} {S : Nat → Prop} {A : Option Addr} {c : Nat} {l : List Int} (h : Sl w S 1 A c (l.map (D.num .i64))) (j : Nat) (hj : j < l.length) : (Lit.int .i64 l[j]).wf = true := by
 obtain ⟨b, off, _, _, _, hw⟩ := int_elem h j hj
 exact hw
theorem specGeneric (env : List GScheme) (A : Option Addr) (c : Nat) (t : GTy) (A1 : Option Addr) (c1 : Nat) (w : World) (hm : bulkL GScheme.bulk env ≤ 1048576) (ht : t.bulk ≤ 1048576) (hs : Sl w (Lt w.heap.size) 5 A c (env.map GScheme.toD)) (hat : GTy.At w (Lt w.heap.size) A1 c1 t) :
 Calls Tryz.prog 12 #[.slice A env.length c, .agg #[.int .i64 t.op, .int .i64 t.n, .string t.s, .slice A1 t.kids.length c1]] w (GenTo env t w) := by
 have hel : env.length ≤ 9223372036854775807 := by simpa using hs.len
 have HM := LH (show ∀ (j : Nat) (h : j < env.length), (env[j]).ty.bulk ≤ 1048576 from fun j h => by
   have h1 := (bulkV_next GScheme.bulk h).2; have h2 := (bulkV_next GScheme.bulk h).1; have h3 := (env[j]).bulk_eq; omega)
 obtain ⟨w0, e0⟩ : ∃ w0, w0 = w.alloc (.cells #[.int .i64 t.op, .int .i64 t.n, .string t.s, .slice A1 t.kids.length c1] 27) := ⟨_, rfl⟩
 have E0 := LH (show Below w.heap.size w w0 by rw [e0]; exact (Below.refl _ _).alloc (Nat.le_refl _) _)
 have R0 := LH (show Row w0 w.heap.size 27 #[.int .i64 t.op, .int .i64 t.n, .string t.s, .slice A1 t.kids.length c1] by rw [e0]; exact Row.new' _ _ _ rfl)
 have S00 : w0.heap.size = w.heap.size + 1 := by rw [e0]; simp
 obtain ⟨w1, e1⟩ : ∃ w1, w1 = w0.alloc (.cells #[] 3) := ⟨_, rfl⟩
 have E1 := LH (show Below w.heap.size w w1 by rw [e1]; exact E0.out.alloc (by omega) _)
 have Q1 := LH (show Row w1 w.heap.size 27 #[.int .i64 t.op, .int .i64 t.n, .string t.s, .slice A1 t.kids.length c1] by rw [e1]; exact R0.out.below ((Below.refl _ _).alloc (Nat.le_refl _) _) R0.out.lt)
 have N1 := LH (show Row w1 w0.heap.size 3 #[] by rw [e1]; exact Row.new' _ _ _ rfl)
 have T1 := LH (hat.below E1.out E1.out.size)
 have hsz1 : w1.heap.size = w.heap.size + 2 := by rw [e1]; simp [S00]
 have hca := fun i => Q1.out.cell i
 have HT := LH ht
 have HG1 := LH (show Gre w1 w.heap.size 3 1 (.slice (some ⟨w.heap.size + 1, 0, none⟩) 0 0) 0 (([] : List Int).map (D.num .i64)) from Gre.made (by rw [← S00]; exact N1.out) (by omega))
 have HS := LH hs
 clear hs hat hm ht
 go_enter Tryz.func12, Tryz.ntmps12
 go_wp2_with fail
 rw [← e0]
 rw [← e1]
 clear e0 e1
 try go_wp2_with fail
 refine (specFreeVars t A1 c1 _ HT.out T1.out).mono ?_
 rintro e w2 ⟨A2, c2, rfl, hO2, hb2⟩
 obtain ⟨vs, hvs⟩ : ∃ vs, vs = t.vs [] := ⟨_, rfl⟩
 rw [← hvs] at hO2 ⊢
 have HVS := LH hvs
 have hvl : vs.length ≤ 1048577 := by have h1 := t.vs_len []; have h2 := HT.out; rw [hvs]; simp at h1; omega
 have V2 := LH (hO2.sl.keep (w' := w2) (S' := fun b => b < w2.heap.size ∧ b ≠ w.heap.size + 1) fun b hb => ⟨⟨hb.2, by have := hb.1; omega⟩, rfl⟩)
 have HG2 := LH (HG1.out.below hb2)
 have B2 := LH (E1.out.trans (hb2.mono E1.out.size))
 have hsz2 := hb2.size
 clear hO2 hb2 hca hvs
 go_wp2_with fail
 go_loopw [5, 7] (fun v i wr => ∃ (j : Nat) (zs : List Int) (A' : Option Addr) (c' : Nat), j ≤ vs.length ∧ i = .int .i64 j ∧ v = .slice A' zs.length c' ∧ Hid (zs = (vs.take j).filter fun n => !(env.any (genBad n))) ∧ Hid (zs.length ≤ j) ∧ Hid (Gre wr w.heap.size 3 1 (.slice A' zs.length c') zs.length (zs.map (D.num .i64))) ∧ Hid (Gr w2 wr (.slice (some ⟨w.heap.size + 1, 0, none⟩) 0 0) (.slice A' zs.length c')) ∧ Hid (Below w.heap.size w wr)) (fun _ i _ => vs.length - (intOf i).toNat)
 case atStart => exact ⟨0, [], some ⟨w.heap.size + 1, 0, none⟩, 0, by omega, by go_num, rfl, LH (by simp), LH (by simp), HG2, LH (Gr.refl _ _), B2⟩
 case round =>
  obtain ⟨j, zs, A', c', hj, rfl, rfl, HZ, HZL, HG, HR, HB⟩ := hrel
  obtain ⟨wo, hwo⟩ : ∃ wo, wo = wr := ⟨_, rfl⟩
  subst hwo
  have hsz := HB.out.size
  have hszr := HR.out.size
  by_cases hlt : j < vs.length
  ·
   have VR := LH (V2.out.keep (w' := wo) (S' := fun b => b < w2.heap.size ∧ b ≠ w.heap.size + 1) fun b hb => ⟨hb, HR.out.grow.block b hb.1 (fun e => hb.2 (by simpa [Value.ownBlock] using e))⟩)
   obtain ⟨bv, ov, ev, hSv, gv, _⟩ := int_elem VR.out j hlt
   subst ev
   have hbv := Nat.lt_of_lt_of_le hSv.1 hszr
   have gv0 := gv
   clear gv
   go_wp2_with fail
   go_loopw [8, 9] (fun f i wr => ∃ (k : Nat), k ≤ env.length ∧ i = .int .i64 k ∧ f = .bool (!((env.take k).any (genBad vs[j]))) ∧ Hid (Below wo.heap.size wo wr)) (fun _ i _ => env.length - (intOf i).toNat)
   case atStart => exact ⟨0, by omega, by go_num, by simp, LH (Below.refl _ _)⟩
   case round =>
    obtain ⟨k, hk, rfl, rfl, HQ⟩ := hrel
    have hszq := HQ.out.size
    have gv := (HQ.out.cell (p := ⟨bv, ov + j, none⟩) hbv).trans gv0
    by_cases hlt2 : k < env.length
    ·
     obtain ⟨be, oe, Av, cv, At, ct, ee, hSe, g0, g1, g2, g3, g4, hate⟩ := GScheme.elem (HS.out.below (HB.out.trans (HQ.out.mono hsz)) (Nat.le_refl _)) k hlt2
     subst ee
     have hbe : be < wr.heap.size := Nat.lt_of_lt_of_le hSe (by omega)
     have hbq : bv < wr.heap.size := by omega
     have q0 := fun x : Ext wr => x.cell g0 hbe
     have q1 := fun x : Ext wr => x.cell g1 hbe
     have q2 := fun x : Ext wr => x.cell g2 hbe
     have q3 := fun x : Ext wr => x.cell g3 hbe
     have q4 := fun x : Ext wr => x.cell g4 hbe
     have qv := fun x : Ext wr => x.cell gv hbq
     have HC1 := LH (fun x : Ext wr => (specHas vs[j] 1048577 (env[k]).ty At ct x.1 (by have := HM.out k hlt2; omega) (hate.2.below (x.below.mono (by omega)) (by have := x.below.size; omega))).mono fun e w' h => (⟨h.1, x.step h.2⟩ : _ ∧ ∃ y : Ext wr, w' = y.1))
     have HC2 := LH (fun x : Ext wr => (specInI (env[k]).vars Av cv vs[j] x.1 (hate.1.below (x.below.mono (by omega)) (by have := x.below.size; omega))).mono fun e w' h => (⟨h.1, x.step h.2⟩ : _ ∧ ∃ y : Ext wr, w' = y.1))
     have HF := LH (show (env.take (k + 1)).any (genBad vs[j]) = ((env.take k).any (genBad vs[j]) || genBad vs[j] env[k]) by rw [take_snoc' env k hlt2, List.any_append]; simp)
     clear hate g0 g1 g2 g3 g4 gv
     cases hh : (env[k]).ty.has vs[j]
     ·
      have HW := LH (show genBad vs[j] env[k] = false by unfold genBad; rw [hh]; rfl)
      rw [hh] at HC1
      clear hh
      go_wp2_with fail
      refine wp_region_ext (by kernel_rfl) (by kernel_rfl) ?_
      repeat (go_big_quiet_step (first | (go_at_call 33; exact HC1.out _) | (go_at_call 34; exact HC2.out _)))
      refine wpQuiet_nil ?_
      intro _ hw'
      obtain ⟨xq, hw''⟩ := hw'
      subst hw''
      have HQ2 := LH (HQ.out.trans (xq.below.mono hszq))
      clear q0 q1 q2 q3 q4 qv
      go_wp2_with fail
      go_roundw
      case rel => exact ⟨k + 1, by omega, by go_num, by rw [HF.out, HW.out, Bool.or_false], HQ2⟩
      case measure => simp [intOf]; omega
     ·
      cases hv : ((env[k]).vars.any fun x => x == vs[j])
      ·
       have HW := LH (show genBad vs[j] env[k] = true by unfold genBad; rw [hh, hv]; rfl)
       rw [hh] at HC1
       rw [hv] at HC2
       clear hh hv
       go_wp2_with fail
       refine wp_region_ext (by kernel_rfl) (by kernel_rfl) ?_
       repeat (go_big_quiet_step (first | (go_at_call 33; exact HC1.out _) | (go_at_call 34; exact HC2.out _)))
       refine wpQuiet_nil ?_
       intro _ hw'
       obtain ⟨xq, hw''⟩ := hw'
       subst hw''
       have HQ2 := LH (HQ.out.trans (xq.below.mono hszq))
       clear q0 q1 q2 q3 q4 qv
       go_wp2_with fail
       go_roundw
       case rel => exact ⟨k + 1, by omega, by go_num, by rw [HF.out, HW.out, Bool.or_true]; rfl, HQ2⟩
       case measure => simp [intOf]; omega
      ·
       have HW := LH (show genBad vs[j] env[k] = false by unfold genBad; rw [hh, hv]; rfl)
       rw [hh] at HC1
       rw [hv] at HC2
       clear hh hv
       go_wp2_with fail
       refine wp_region_ext (by kernel_rfl) (by kernel_rfl) ?_
       repeat (go_big_quiet_step (first | (go_at_call 33; exact HC1.out _) | (go_at_call 34; exact HC2.out _)))
       refine wpQuiet_nil ?_
       intro _ hw'
       obtain ⟨xq, hw''⟩ := hw'
       subst hw''
       have HQ2 := LH (HQ.out.trans (xq.below.mono hszq))
       clear q0 q1 q2 q3 q4 qv
       go_wp2_with fail
       go_roundw
       case rel => exact ⟨k + 1, by omega, by go_num, by rw [HF.out, HW.out, Bool.or_false], HQ2⟩
       case measure => simp [intOf]; omega
    ·
     have hke : k = env.length := by omega
     have HTK := LH (show (env.take k) = env by rw [hke, List.take_length])
     clear hke
     rw [HTK.out]
     have HB1 := LH (HB.out.trans (HQ.out.mono hsz))
     have HG1' := LH (HG.out.below HQ.out)
     have HR1 := LH (HR.out.trans (Gr.of_below HQ.out))
     have hszw := HB1.out.size
     cases hb : env.any (genBad vs[j])
     ·
      have HZ2 := LH (show zs ++ [vs[j]] = (vs.take (j + 1)).filter fun n => !(env.any (genBad n)) by rw [take_snoc' vs j hlt, List.filter_append, ← HZ.out]; simp [hb])
      have hwj := int_wf' V2.out j hlt
      have EA := LH (show Below wr.heap.size wr (wr.alloc (.cells #[.int .i64 vs[j]] 3)) from (Below.refl _ _).alloc (Nat.le_refl _) _)
      have GA := LH (HG1'.out.below EA.out)
      have TA := LH (show Sl (wr.alloc (.cells #[.int .i64 vs[j]] 3)) (fun b => b < (wr.alloc (.cells #[.int .i64 vs[j]] 3)).heap.size ∧ (Value.slice A' zs.length c').ownBlock ≠ some b) 1 (some ⟨wr.heap.size, 0, none⟩) 1 ([vs[j]].map (D.num .i64)) from
        (rowI_osl (B := wr.heap.size) (Row.new' wr 3 (rowI [vs[j]]) rfl) (Nat.le_refl _) (by simp [maxLen]) (by intro x hx; simp at hx; rw [hx]; exact hwj)).sl.keep fun b hb => ⟨⟨hb.2, fun e => by have := (HG1'.out.own b e).2; have := hb.1; omega⟩, rfl⟩)
      have hBA : w.heap.size ≤ (wr.alloc (.cells #[.int .i64 vs[j]] 3)).heap.size := Nat.le_trans hszw EA.out.size
      have hzl : zs.length ≤ 1048577 := by have := HZL.out; omega
      have HOW := LH (fun g (hg : (Value.slice A' zs.length c').ownBlock = some g) => (HG1'.out.own g hg).1)
      clear hwj hb
      go_wp2_with (first | (at_builtin; refine wpList_append_M (wr.alloc (.cells #[.int .i64 vs[j]] 3)) rfl (.tmp 49) (.tmp 54) 30 rfl 3 (.int .i64 0) 1 8 Tryz.underlying30 (by kernel_rfl) rfl (by omega) w.heap.size (.slice A' zs.length c') zs.length _ GA.out (some ⟨wr.heap.size, 0, none⟩) 1 1 _ rfl TA.out hBA (by unfold maxLen; omega) (by omega) rfl rfl ?_; intro A4 c4 w4 G4 hGr4; have G4h := LH G4; have GR4 := LH ((HR1.out.trans (Gr.of_below EA.out)).trans hGr4); have B4 := LH ((HB1.out.trans (EA.out.mono hszw)).trans (hGr4.below hBA HOW.out)); clear G4 hGr4))
      obtain ⟨ys, hys⟩ : ∃ ys, ys = zs ++ [vs[j]] := ⟨_, rfl⟩
      have e2 : zs.length + 1 = ys.length := by rw [hys]; simp
      rw [← hys] at HZ2
      have G5 := LH (show Gre w4 w.heap.size 3 1 (.slice A4 ys.length c4) ys.length (ys.map (D.num .i64)) from by rw [← e2, hys, List.map_append]; exact G4h.out)
      rw [e2] at GR4 ⊢
      have HYL := LH (show ys.length ≤ j + 1 by have := HZL.out; omega)
      clear e2 hys G4h
      go_roundw
      case rel => exact ⟨j + 1, ys, A4, c4, by omega, by go_num, rfl, HZ2, HYL, G5, GR4, B4⟩
      case measure => simp [intOf]; omega
     · have HZ2 := LH (show zs = (vs.take (j + 1)).filter fun n => !(env.any (genBad n)) by rw [take_snoc' vs j hlt, List.filter_append, ← HZ.out]; simp [hb])
       clear hb
       go_wp2_with fail
       go_roundw
       case rel => exact ⟨j + 1, zs, A', c', by omega, by go_num, rfl, HZ2, LH (by have := HZL.out; omega), HG1', HR1, HB1⟩
       case measure => simp [intOf]; omega
  ·
   have hje : j = vs.length := by omega
   have HY := LH (show zs = genV env t by rw [HZ.out, hje, List.take_length, HVS.out]; rfl)
   clear hje
   go_wp2_with fail
   go_ret
   rw [← HVS.out] at *
   unfold GenTo
   rw [← HY.out]
   exact ⟨A', c', rfl, GI.osl HG.out (GI.wf HG.out), HB.out⟩
end Go.Proofs.YtlpichogambpfaaGreat
namespace Go.Proofs.YtlpichogambpfaaGreat
set_option maxRecDepth 20000
set_option linter.unusedVariables false
set_option linter.unusedSimpArgs false
open Go.RowKit
set_option maxHeartbeats 400000
mutual
def GTy.sub (f : Int → Option GTy) : GTy → GTy | .mk op n s kids => match (if op = 2 ∧ kids.length = 0 then f n else none) with | some t => t | none => .mk op n s (GTy.subL f kids)
def GTy.subL (f : Int → Option GTy) : List GTy → List GTy | [] => [] | t :: r => t.sub f :: GTy.subL f r
end
theorem GTy.subL_map (f : Int → Option GTy) : ∀ l : List GTy, GTy.subL f l = l.map (GTy.sub f)
 | [] => by simp only [GTy.subL, List.map_nil]
 | t :: r => by simp only [GTy.subL, List.map_cons, GTy.subL_map f r]
theorem GTy.sub_some {f : Int → Option GTy} {t u : GTy} (h1 : t.op = 2) (h2 : t.kids.length = 0) (h : f t.n = some u) : t.sub f = u := by
 cases t with
 | mk op n s kids => simp only [GTy.op, GTy.kids, GTy.n] at h1 h2 h; simp only [GTy.sub]; rw [if_pos ⟨h1, h2⟩, h]
theorem GTy.sub_none {f : Int → Option GTy} {t : GTy} (h : ¬ (t.op = 2 ∧ t.kids.length = 0) ∨ f t.n = none) : t.sub f = .mk t.op t.n t.s (t.kids.map (GTy.sub f)) := by
 cases t with
 | mk op n s kids =>
  simp only [GTy.op, GTy.kids, GTy.n, GTy.s] at h ⊢
  simp only [GTy.sub, GTy.subL_map]
  rcases h with h | h
  · rw [if_neg h]
  · rw [h]; split <;> simp_all
def bindOf (l : List GBind) (n : Int) : Option GTy := match l.find? (fun b => b.n == n) with | some b => some b.ty | none => none
theorem idxI_find {l : List GBind} {n : Int} : (∃ j, ∃ h : j < l.length, idxI (fun b : GBind => b.n == n) l = (j : Int) ∧ bindOf l n = some l[j].ty) ∨ (idxI (fun b : GBind => b.n == n) l = -1 ∧ bindOf l n = none) := by
 induction l with
 | nil => exact .inr ⟨rfl, rfl⟩
 | cons x r ih =>
  by_cases hx : (x.n == n) = true
  · refine .inl ⟨0, by simp, by simp [idxI, hx], by simp [bindOf, hx]⟩
  ·
   have hx' : (x.n == n) = false := by simpa using hx
   rcases ih with ⟨j, h, e1, e2⟩ | ⟨e1, e2⟩
   · refine .inl ⟨j + 1, by simpa using h, ?_, ?_⟩
     · simp only [idxI, hx']; rw [e1]; simp; omega
     · simp only [bindOf, List.find?_cons, hx'] at e2 ⊢; simpa using e2
   · refine .inr ⟨?_, ?_⟩
     · simp only [idxI, hx']; rw [e1]; simp
     · simp only [bindOf, List.find?_cons, hx'] at e2 ⊢; simpa using e2
theorem bindOf_bulk {l : List GBind} {n : Int} {u : GTy} (h : bindOf l n = some u) : u.bulk ≤ bulkL GBind.bulk l := by
 unfold bindOf at h
 split at h
 · rename_i b hb
   cases h
   have := bulkL_mem GBind.bulk l b (List.mem_of_find?_eq_some hb)
   have := b.bulk_eq
   omega
 · cases h
set_option maxHeartbeats 1000000
theorem specBindAt (l : List GBind) (A : Option Addr) (c : Nat) (n : Int) (w : World) (hs : Sl w (Lt w.heap.size) 5 A c (l.map GBind.toD)) :
 Calls Tryz.prog 52 #[.slice A l.length c, .int .i64 n] w fun e w' => e = .returned (.int .i64 (idxI (fun b : GBind => b.n == n) l)) ∧ Below w.heap.size w w' := by
 have hlen : l.length ≤ 9223372036854775807 := by simpa using hs.len
 have S0 := LH hs
 clear hs
 go_enter Tryz.func52, Tryz.ntmps52
 go_wp2_with fail
 go_loopw [5] (fun i wr => ∃ (j : Nat), j ≤ l.length ∧ i = .int .i64 j ∧ Hid (noneTo (fun b : GBind => b.n == n) l j) ∧ Below w.heap.size w wr) (fun i _ => l.length - (intOf i).toNat)
 case atStart => exact ⟨0, by omega, by go_num, LH (noneTo_zero _ _), Below.refl _ _⟩
 case round =>
  obtain ⟨j, hj, rfl, HN, hbl⟩ := hrel
  by_cases hlt : j < l.length
  ·
   obtain ⟨b, off, A1, c1, rfl, hSb, g0, _, _, _, _, _⟩ := GBind.elem (S0.out.below hbl (Nat.le_refl _)) j hlt
   cases he : ((l[j]).n == n) with
   | true =>
    have HV := LH (idxI_at HN.out hlt he)
    go_wp2_with fail
    go_ret
    exact ⟨ret_int HV.out.symm, hbl⟩
   | false =>
    have HN2 := LH (noneTo_succ HN.out hlt he)
    go_wp2_with fail
    go_roundw
    case rel => exact ⟨j + 1, by omega, by go_num, HN2, hbl⟩
    case measure => simp [intOf]; omega
  ·
   have hjl : j = l.length := by omega
   have HV := LH (idxI_none (hjl ▸ HN.out))
   clear hjl
   go_wp2_with fail
   go_ret
   exact ⟨ret_int HV.out.symm, hbl⟩
theorem specApply (k : Nat) : ∀ (l : List GBind) (Bl : Option Addr) (bc : Nat) (t : GTy) (A1 : Option Addr) (c1 : Nat) (w : World), t.bulk < k → t.bulk ≤ 1048576 → bulkL GBind.bulk l ≤ 1048576 → Sl w (Lt w.heap.size) 5 Bl bc (l.map GBind.toD) → GTy.At w (Lt w.heap.size) A1 c1 t →
 Calls Tryz.prog 45 #[.slice Bl l.length bc, .agg #[.int .i64 t.op, .int .i64 t.n, .string t.s, .slice A1 t.kids.length c1]] w (ToTy (t.sub (bindOf l)) w) := by
 induction k with
 | zero => intros; omega
 | succ k ih =>
  intro l Bl bc t A1 c1 w hk h1 hl hs hat
  have hbe := t.bulk_eq
  have hlen : t.kids.length ≤ 1048576 := by have := bulkL_len GTy.bulk t.kids; omega
  obtain ⟨F, hF⟩ : ∃ F, F = bindOf l := ⟨_, rfl⟩
  have HF := LH hF
  have HH := LH (fun (j : Nat) (h : j < t.kids.length) (A1 : Option Addr) (c1 : Nat) (w : World) => ih l Bl bc t.kids[j] A1 c1 w (by have := bulkL_mem GTy.bulk t.kids _ (List.getElem_mem h); omega) (by have := bulkL_mem GTy.bulk t.kids _ (List.getElem_mem h); omega))
  rw [← hF] at HH ⊢
  have HSl := LH hs
  have HL := LH hl
  have T0 := LH hat
  clear ih hbe hk h1 hat hF hs hl
  have E0 := LH (show Below w.heap.size w ((w.alloc (.cells #[.int .i64 t.op, .int .i64 t.n, .string t.s, .slice A1 t.kids.length c1] 27)).alloc (.cells #[.int .i64 0, .int .i64 0, .string ⟨#[]⟩, .slice none 0 0] 27)) from ((Below.refl _ _).alloc (Nat.le_refl _) _).alloc (by simp) _)
  have S0 : w.heap.size + 2 ≤ ((w.alloc (.cells #[.int .i64 t.op, .int .i64 t.n, .string t.s, .slice A1 t.kids.length c1] 27)).alloc (.cells #[.int .i64 0, .int .i64 0, .string ⟨#[]⟩, .slice none 0 0] 27)).heap.size := by simp
  have Ra0 := LH ((Row.new' w 27 #[.int .i64 t.op, .int .i64 t.n, .string t.s, .slice A1 t.kids.length c1] (g := w.heap.size) rfl).alloc (.cells #[.int .i64 0, .int .i64 0, .string ⟨#[]⟩, .slice none 0 0] 27))
  have Rz0 := LH (Row.new' (w.alloc (.cells #[.int .i64 t.op, .int .i64 t.n, .string t.s, .slice A1 t.kids.length c1] 27)) 27 #[.int .i64 0, .int .i64 0, .string ⟨#[]⟩, .slice none 0 0] (g := w.heap.size + 1) (by simp))
  cases o2 : (t.op == 2)
  ·
   have ho2 : ¬ t.op = 2 := by simpa using o2
   have HN := LH (show t.sub F = _ from GTy.sub_none (.inl (fun e => ho2 e.1)))
   clear ho2
   go_enter Tryz.func45, Tryz.ntmps45
   obtain ⟨w0, e0⟩ : ∃ w0, w0 = ((w.alloc (.cells #[.int .i64 t.op, .int .i64 t.n, .string t.s, .slice A1 t.kids.length c1] 27)).alloc (.cells #[.int .i64 0, .int .i64 0, .string ⟨#[]⟩, .slice none 0 0] 27)).alloc (.cells #[.int .i64 t.op, .int .i64 t.n, .string t.s, .slice none 0 0] 27) := ⟨_, rfl⟩
   have HB0 := LH (show Below w.heap.size w w0 by rw [e0]; exact E0.out.alloc E0.out.size _)
   have HRa0 := LH (show Row w0 w.heap.size 27 #[.int .i64 t.op, .int .i64 t.n, .string t.s, .slice A1 t.kids.length c1] by rw [e0]; exact Ra0.out.alloc _)
   have HRz0 := LH (show Row w0 (w.heap.size + 1) 27 #[.int .i64 0, .int .i64 0, .string ⟨#[]⟩, .slice none 0 0] by rw [e0]; exact Rz0.out.alloc _)
   have HRo0 := LH (show Row w0 (w.heap.size + 1 + 1) 27 #[.int .i64 t.op, .int .i64 t.n, .string t.s, .slice none 0 0] by rw [e0]; exact Row.new' _ _ _ (by simp))
   have hs0 : w.heap.size + 1 + 1 + 1 ≤ w0.heap.size := by rw [e0]; simp
   go_wp2_with fail
   rw [← e0]
   clear e0
   go_loopw [7] (fun i wr => ∃ (j : Nat) (A : Option Addr) (c : Nat), j ≤ t.kids.length ∧ i = .int .i64 j ∧ Hid (Gow wr (w.heap.size + 1 + 1 + 1) wr.heap.size 27 4 (.slice A j c) j (((t.kids.take j).map (GTy.sub F)).map GTy.toD)) ∧ Hid (Row wr w.heap.size 27 #[.int .i64 t.op, .int .i64 t.n, .string t.s, .slice A1 t.kids.length c1]) ∧ Hid (Row wr (w.heap.size + 1) 27 #[.int .i64 0, .int .i64 0, .string ⟨#[]⟩, .slice none 0 0]) ∧ Hid (Row wr (w.heap.size + 1 + 1) 27 #[.int .i64 t.op, .int .i64 t.n, .string t.s, .slice A j c]) ∧ w.heap.size + 1 + 1 + 1 ≤ wr.heap.size ∧ Below w.heap.size w wr) (fun i _ => t.kids.length - (intOf i).toNat)
   case atStart => exact ⟨0, none, 0, by omega, by go_num, LH (Gow.nil _ _ _ _ _), HRa0, HRz0, HRo0, hs0, HB0.out⟩
   case round =>
    clear HRa0 HRz0 HRo0 HB0 hs0
    obtain ⟨j, A, c, hj, rfl, HG, HRa, HRz, HRo, hs3, hbl⟩ := hrel
    have hsz := hbl.size
    have hca := fun i => HRa.out.cell i
    have hco := fun i => HRo.out.cell i
    by_cases hlt : j < t.kids.length
    ·
     obtain ⟨b, off, A2, c2, eA, hSb, g0, g1, g2, g3, hat⟩ := GTy.elem (T0.out.below hbl (Nat.le_refl _)).2.2.2 j hlt
     subst eA
     have hblt : b < wr.heap.size := Nat.lt_of_lt_of_le hSb hsz
     have HA := LH (hat.keep (S' := Lt wr.drew.heap.size) (w' := wr.drew) fun q hq => ⟨Nat.lt_of_lt_of_le hq hsz, rfl⟩)
     have HS2 := LH (HSl.out.below (show Below w.heap.size w (wr.drew) from hbl.drew) hsz)
     clear hat
     go_wp2_with fail
     go_region_law (first
       | (refine step_append_D w1 rfl (.tmp 44) (.tmp 52) 25 rfl 27 zTy 4 56 Tryz.underlying25 (by kernel_rfl) rfl (by omega) (w.heap.size + 1 + 1 + 1) wr.heap.size _ j _ HG1.out ((t.kids[j]).sub F).toD [.int .i64 ((t.kids[j]).sub F).op, .int .i64 ((t.kids[j]).sub F).n, .string ((t.kids[j]).sub F).s, .slice A3 ((t.kids[j]).sub F).kids.length c3] how1.out (by omega) B1.out.size rfl (by simp [Value.oneCell']) (by omega) (by omega) 27 rfl w1.heap.size rfl rfl ?_
          intro g cap w2 G2 Bq2 hs2 hg2 hgl2
          have G3 := LH G2
          have B2 := LH Bq2
          have Ro3 := LH (Ro1.out.below Bq2 (by omega))
          have hco3 := fun i => Ro3.out.cell i
          have hfo3 := fun i => Ro3.out.frozen i
          clear G2 Bq2)
       | (go_simp
          go_at_call 45
          refine (HH.out j hlt A2 c2 _ HL.out HS2.out HA.out).mono ?_
          rintro e w1 ⟨A3, c3, rfl, how, hb1⟩
          have B1 := LH (((Below.refl wr.heap.size wr).drew).trans hb1)
          have Ra1 := LH (HRa.out.below B1.out (by omega))
          have Ro1 := LH (HRo.out.below B1.out (by omega))
          have hca1 := fun i => Ra1.out.cell i
          have hco1 := fun i => Ro1.out.cell i
          have hco2 := Ro1.out.lt
          have HG1 := LH (HG.out.below B1.out (Nat.le_refl _))
          have how1 := LH (GTy.own_mk (how.keep (S' := Btw wr.heap.size w1.heap.size) (w' := w1) fun q hq => ⟨hq, rfl⟩))
          clear how hb1))
     all_goals
      go_wp2_with fail
      go_roundw
      case rel =>
       have B3 := (hbl.trans (B1.out.mono hsz)).trans (B2.out.mono (show w.heap.size ≤ w.heap.size + 1 + 1 + 1 by omega))
       refine ⟨j + 1, _, _, by omega, by go_num, LH (show Gow (w2.setCell ⟨w.heap.size + 1 + 1, 3, none⟩ (.slice (some ⟨g, 0, none⟩) (j + 1) cap)) (w.heap.size + 1 + 1 + 1) (w2.setCell ⟨w.heap.size + 1 + 1, 3, none⟩ (.slice (some ⟨g, 0, none⟩) (j + 1) cap)).heap.size 27 4 (.slice (some ⟨g, 0, none⟩) (j + 1) cap) (j + 1) (((t.kids.take (j + 1)).map (GTy.sub F)).map GTy.toD) from ?_), LH (((HRa.out.below B1.out (by omega)).below B2.out (by omega)).far (p := ⟨w.heap.size + 1 + 1, 3, none⟩) (by simp <;> omega) _), LH (((HRz.out.below B1.out (by omega)).below B2.out (by omega)).far (p := ⟨w.heap.size + 1 + 1, 3, none⟩) (by simp <;> omega) _), LH (Ro3.out.set 3 _), ?_, B3.setCell (p := ⟨w.heap.size + 1 + 1, 3, none⟩) (by simp <;> omega) _⟩
       · rw [take_snoc' t.kids j hlt, List.map_append, List.map_append]
         exact G3.out.keep (by simp [World.setCell]) (fun q hq _ => Below.heap_setCell _ ⟨w.heap.size + 1 + 1, 3, none⟩ _ q (by simp <;> omega))
       · have := B3.size; have := B1.out.size; simp [World.setCell]; omega
      case measure => simp [intOf]; omega
    ·
     have hjl : j = t.kids.length := by omega
     obtain ⟨A', c', eV, how⟩ := HG.out.osl
     obtain ⟨rfl, rfl⟩ : A = A' ∧ c = c' := by simpa using eV
     subst hjl
     rw [List.take_length] at how
     clear eV HG hlt hj hca hco
     obtain ⟨p0, p1, p2, -⟩ := T0.out
     have hca := fun i => HRa.out.cell i
     have hco := fun i => HRo.out.cell i
     have hcz := fun i => HRz.out.cell i
     have hfz := fun i => HRz.out.frozen i
     have BF := setCells_below hbl (w.heap.size + 1) 0 (by omega) [.int .i64 t.op, .int .i64 t.n, .string t.s, .slice A t.kids.length c]
     have SF : (setCells wr (w.heap.size + 1) 0 [.int .i64 t.op, .int .i64 t.n, .string t.s, .slice A t.kids.length c]).heap.size = wr.heap.size := by rw [setCells_size]
     have how2 := how.keep (S' := Btw w.heap.size (setCells wr (w.heap.size + 1) 0 [.int .i64 t.op, .int .i64 t.n, .string t.s, .slice A t.kids.length c]).heap.size) (w' := (setCells wr (w.heap.size + 1) 0 [.int .i64 t.op, .int .i64 t.n, .string t.s, .slice A t.kids.length c])) fun q hq => ⟨⟨by have := hq.1; omega, by rw [SF]; exact hq.2⟩, setCells_block _ _ _ _ _ (by have := hq.1; omega)⟩
     have HOW := LH how2
     have HBF := LH BF
     have HS := LH (HN.out)
     clear how how2 BF SF
     go_wp2_with fail
     exact bodyPost_ret (v := .agg #[.int .i64 t.op, .int .i64 t.n, .string t.s, .slice A t.kids.length c]) (by simp [results, Tryz.results45, go_sem, hca, hcz, hco]) rfl ⟨A, c, by rw [HS.out]; simp [GTy.op, GTy.n, GTy.s, GTy.kids], by rw [HS.out]; exact ⟨p0, p1, p2, HOW.out⟩, HBF.out⟩
  ·
   have ho2 : t.op = 2 := by simpa using o2
   by_cases hk : t.kids.length = 0
   rotate_left
   ·
    have hk2 : ((t.kids.length : Int) == 0) = false := by rw [beq_eq_false_iff_ne]; omega
    have HN := LH (show t.sub F = _ from GTy.sub_none (.inl (fun e => hk e.2)))
    clear ho2 hk
    go_enter Tryz.func45, Tryz.ntmps45
    obtain ⟨w0, e0⟩ : ∃ w0, w0 = ((w.alloc (.cells #[.int .i64 t.op, .int .i64 t.n, .string t.s, .slice A1 t.kids.length c1] 27)).alloc (.cells #[.int .i64 0, .int .i64 0, .string ⟨#[]⟩, .slice none 0 0] 27)).alloc (.cells #[.int .i64 t.op, .int .i64 t.n, .string t.s, .slice none 0 0] 27) := ⟨_, rfl⟩
    have HB0 := LH (show Below w.heap.size w w0 by rw [e0]; exact E0.out.alloc E0.out.size _)
    have HRa0 := LH (show Row w0 w.heap.size 27 #[.int .i64 t.op, .int .i64 t.n, .string t.s, .slice A1 t.kids.length c1] by rw [e0]; exact Ra0.out.alloc _)
    have HRz0 := LH (show Row w0 (w.heap.size + 1) 27 #[.int .i64 0, .int .i64 0, .string ⟨#[]⟩, .slice none 0 0] by rw [e0]; exact Rz0.out.alloc _)
    have HRo0 := LH (show Row w0 (w.heap.size + 1 + 1) 27 #[.int .i64 t.op, .int .i64 t.n, .string t.s, .slice none 0 0] by rw [e0]; exact Row.new' _ _ _ (by simp))
    have hs0 : w.heap.size + 1 + 1 + 1 ≤ w0.heap.size := by rw [e0]; simp
    go_wp2_with fail
    rw [← e0]
    clear e0
    go_loopw [7] (fun i wr => ∃ (j : Nat) (A : Option Addr) (c : Nat), j ≤ t.kids.length ∧ i = .int .i64 j ∧ Hid (Gow wr (w.heap.size + 1 + 1 + 1) wr.heap.size 27 4 (.slice A j c) j (((t.kids.take j).map (GTy.sub F)).map GTy.toD)) ∧ Hid (Row wr w.heap.size 27 #[.int .i64 t.op, .int .i64 t.n, .string t.s, .slice A1 t.kids.length c1]) ∧ Hid (Row wr (w.heap.size + 1) 27 #[.int .i64 0, .int .i64 0, .string ⟨#[]⟩, .slice none 0 0]) ∧ Hid (Row wr (w.heap.size + 1 + 1) 27 #[.int .i64 t.op, .int .i64 t.n, .string t.s, .slice A j c]) ∧ w.heap.size + 1 + 1 + 1 ≤ wr.heap.size ∧ Below w.heap.size w wr) (fun i _ => t.kids.length - (intOf i).toNat)
    case atStart => exact ⟨0, none, 0, by omega, by go_num, LH (Gow.nil _ _ _ _ _), HRa0, HRz0, HRo0, hs0, HB0.out⟩
    case round =>
     clear HRa0 HRz0 HRo0 HB0 hs0
     obtain ⟨j, A, c, hj, rfl, HG, HRa, HRz, HRo, hs3, hbl⟩ := hrel
     have hsz := hbl.size
     have hca := fun i => HRa.out.cell i
     have hco := fun i => HRo.out.cell i
     by_cases hlt : j < t.kids.length
     ·
      obtain ⟨b, off, A2, c2, eA, hSb, g0, g1, g2, g3, hat⟩ := GTy.elem (T0.out.below hbl (Nat.le_refl _)).2.2.2 j hlt
      subst eA
      have hblt : b < wr.heap.size := Nat.lt_of_lt_of_le hSb hsz
      have HA := LH (hat.keep (S' := Lt wr.drew.heap.size) (w' := wr.drew) fun q hq => ⟨Nat.lt_of_lt_of_le hq hsz, rfl⟩)
      have HS2 := LH (HSl.out.below (show Below w.heap.size w (wr.drew) from hbl.drew) hsz)
      clear hat
      go_wp2_with fail
      go_region_law (first
        | (refine step_append_D w1 rfl (.tmp 44) (.tmp 52) 25 rfl 27 zTy 4 56 Tryz.underlying25 (by kernel_rfl) rfl (by omega) (w.heap.size + 1 + 1 + 1) wr.heap.size _ j _ HG1.out ((t.kids[j]).sub F).toD [.int .i64 ((t.kids[j]).sub F).op, .int .i64 ((t.kids[j]).sub F).n, .string ((t.kids[j]).sub F).s, .slice A3 ((t.kids[j]).sub F).kids.length c3] how1.out (by omega) B1.out.size rfl (by simp [Value.oneCell']) (by omega) (by omega) 27 rfl w1.heap.size rfl rfl ?_
           intro g cap w2 G2 Bq2 hs2 hg2 hgl2
           have G3 := LH G2
           have B2 := LH Bq2
           have Ro3 := LH (Ro1.out.below Bq2 (by omega))
           have hco3 := fun i => Ro3.out.cell i
           have hfo3 := fun i => Ro3.out.frozen i
           clear G2 Bq2)
        | (go_simp
           go_at_call 45
           refine (HH.out j hlt A2 c2 _ HL.out HS2.out HA.out).mono ?_
           rintro e w1 ⟨A3, c3, rfl, how, hb1⟩
           have B1 := LH (((Below.refl wr.heap.size wr).drew).trans hb1)
           have Ra1 := LH (HRa.out.below B1.out (by omega))
           have Ro1 := LH (HRo.out.below B1.out (by omega))
           have hca1 := fun i => Ra1.out.cell i
           have hco1 := fun i => Ro1.out.cell i
           have hco2 := Ro1.out.lt
           have HG1 := LH (HG.out.below B1.out (Nat.le_refl _))
           have how1 := LH (GTy.own_mk (how.keep (S' := Btw wr.heap.size w1.heap.size) (w' := w1) fun q hq => ⟨hq, rfl⟩))
           clear how hb1))
      all_goals
       go_wp2_with fail
       go_roundw
       case rel =>
        have B3 := (hbl.trans (B1.out.mono hsz)).trans (B2.out.mono (show w.heap.size ≤ w.heap.size + 1 + 1 + 1 by omega))
        refine ⟨j + 1, _, _, by omega, by go_num, LH (show Gow (w2.setCell ⟨w.heap.size + 1 + 1, 3, none⟩ (.slice (some ⟨g, 0, none⟩) (j + 1) cap)) (w.heap.size + 1 + 1 + 1) (w2.setCell ⟨w.heap.size + 1 + 1, 3, none⟩ (.slice (some ⟨g, 0, none⟩) (j + 1) cap)).heap.size 27 4 (.slice (some ⟨g, 0, none⟩) (j + 1) cap) (j + 1) (((t.kids.take (j + 1)).map (GTy.sub F)).map GTy.toD) from ?_), LH (((HRa.out.below B1.out (by omega)).below B2.out (by omega)).far (p := ⟨w.heap.size + 1 + 1, 3, none⟩) (by simp <;> omega) _), LH (((HRz.out.below B1.out (by omega)).below B2.out (by omega)).far (p := ⟨w.heap.size + 1 + 1, 3, none⟩) (by simp <;> omega) _), LH (Ro3.out.set 3 _), ?_, B3.setCell (p := ⟨w.heap.size + 1 + 1, 3, none⟩) (by simp <;> omega) _⟩
        · rw [take_snoc' t.kids j hlt, List.map_append, List.map_append]
          exact G3.out.keep (by simp [World.setCell]) (fun q hq _ => Below.heap_setCell _ ⟨w.heap.size + 1 + 1, 3, none⟩ _ q (by simp <;> omega))
        · have := B3.size; have := B1.out.size; simp [World.setCell]; omega
       case measure => simp [intOf]; omega
     ·
      have hjl : j = t.kids.length := by omega
      obtain ⟨A', c', eV, how⟩ := HG.out.osl
      obtain ⟨rfl, rfl⟩ : A = A' ∧ c = c' := by simpa using eV
      subst hjl
      rw [List.take_length] at how
      clear eV HG hlt hj hca hco
      obtain ⟨p0, p1, p2, -⟩ := T0.out
      have hca := fun i => HRa.out.cell i
      have hco := fun i => HRo.out.cell i
      have hcz := fun i => HRz.out.cell i
      have hfz := fun i => HRz.out.frozen i
      have BF := setCells_below hbl (w.heap.size + 1) 0 (by omega) [.int .i64 t.op, .int .i64 t.n, .string t.s, .slice A t.kids.length c]
      have SF : (setCells wr (w.heap.size + 1) 0 [.int .i64 t.op, .int .i64 t.n, .string t.s, .slice A t.kids.length c]).heap.size = wr.heap.size := by rw [setCells_size]
      have how2 := how.keep (S' := Btw w.heap.size (setCells wr (w.heap.size + 1) 0 [.int .i64 t.op, .int .i64 t.n, .string t.s, .slice A t.kids.length c]).heap.size) (w' := (setCells wr (w.heap.size + 1) 0 [.int .i64 t.op, .int .i64 t.n, .string t.s, .slice A t.kids.length c])) fun q hq => ⟨⟨by have := hq.1; omega, by rw [SF]; exact hq.2⟩, setCells_block _ _ _ _ _ (by have := hq.1; omega)⟩
      have HOW := LH how2
      have HBF := LH BF
      have HS := LH (HN.out)
      clear how how2 BF SF
      go_wp2_with fail
      exact bodyPost_ret (v := .agg #[.int .i64 t.op, .int .i64 t.n, .string t.s, .slice A t.kids.length c]) (by simp [results, Tryz.results45, go_sem, hca, hcz, hco]) rfl ⟨A, c, by rw [HS.out]; simp [GTy.op, GTy.n, GTy.s, GTy.kids], by rw [HS.out]; exact ⟨p0, p1, p2, HOW.out⟩, HBF.out⟩
   have hk2 : ((t.kids.length : Int) == 0) = true := by rw [beq_iff_eq]; omega
   have HK := LH hk
   have HO2 := LH ho2
   clear hk ho2
   rcases idxI_find (l := l) (n := t.n) with ⟨q, hq, hi, hf⟩ | ⟨hi, hf⟩
   ·
    have HN := LH (show t.sub F = (l[q]).ty from by rw [HF.out]; exact GTy.sub_some HO2.out HK.out hf)
    have hub : (l[q]).ty.bulk ≤ 1048576 := by have := bindOf_bulk hf; have := HL.out; omega
    clear hf
    go_enter Tryz.func45, Tryz.ntmps45
    go_wp2_with fail
    refine (specBindAt l Bl bc t.n _ (HSl.out.below E0.out E0.out.size)).mono ?_
    rintro e w1 ⟨rfl, hb1⟩
    rw [hi]
    clear hi
    have B1 := LH (E0.out.trans (hb1.mono E0.out.size))
    have Rz1 := LH (Rz0.out.below hb1 Rz0.out.lt)
    have hql : l.length ≤ 9223372036854775807 := by simpa using HSl.out.len
    obtain ⟨b3, off3, A3, c3, rfl, hSb3, q0, q1, q2, q3, q4, hat⟩ := GBind.elem (HSl.out.below B1.out (Nat.le_refl _)) q hq
    have HA := LH (show GTy.At w1 (Lt w1.heap.size) A3 c3 (l[q]).ty from hat.2.keep fun x hx => ⟨Nat.lt_of_lt_of_le hx B1.out.size, rfl⟩)
    clear hat hb1
    go_wp2_with fail
    refine (specTyCopy' (l[q]).ty A3 c3 _ hub HA.out).mono ?_
    rintro e w2 ⟨A4, c4, rfl, how, hb2⟩
    have Rz2 := LH (Rz1.out.below hb2 Rz1.out.lt)
    have hcz := fun i => Rz2.out.cell i
    have hfz := fun i => Rz2.out.frozen i
    have B2 := B1.out.trans (hb2.mono B1.out.size)
    have SF : (setCells w2 (w.heap.size + 1) 0 [.int .i64 (l[q]).ty.op, .int .i64 (l[q]).ty.n, .string (l[q]).ty.s, .slice A4 (l[q]).ty.kids.length c4]).heap.size = w2.heap.size := setCells_size _ _ _ _
    have BF := LH (setCells_below B2 (w.heap.size + 1) 0 (by omega) [.int .i64 (l[q]).ty.op, .int .i64 (l[q]).ty.n, .string (l[q]).ty.s, .slice A4 (l[q]).ty.kids.length c4])
    have HOW := LH (how.keep (S' := Btw w.heap.size (setCells w2 (w.heap.size + 1) 0 [.int .i64 (l[q]).ty.op, .int .i64 (l[q]).ty.n, .string (l[q]).ty.s, .slice A4 (l[q]).ty.kids.length c4]).heap.size) (w' := setCells w2 (w.heap.size + 1) 0 [.int .i64 (l[q]).ty.op, .int .i64 (l[q]).ty.n, .string (l[q]).ty.s, .slice A4 (l[q]).ty.kids.length c4]) fun x hx => ⟨⟨Nat.le_trans B1.out.size hx.1, by rw [SF]; exact hx.2⟩, setCells_block _ _ _ _ _ (by have := hx.1; have := Rz1.out.lt; omega)⟩)
    clear how hb2 B2 SF
    go_wp2_with fail
    exact bodyPost_ret (v := .agg #[.int .i64 (l[q]).ty.op, .int .i64 (l[q]).ty.n, .string (l[q]).ty.s, .slice A4 (l[q]).ty.kids.length c4]) (by simp [results, Tryz.results45, go_sem, hcz]) rfl ⟨A4, c4, by rw [HN.out], by rw [HN.out]; exact HOW.out, BF.out⟩
   ·
    have HN := LH (show t.sub F = _ from GTy.sub_none (.inr (by rw [HF.out]; exact hf)))
    clear hf
    go_enter Tryz.func45, Tryz.ntmps45
    go_wp2_with fail
    refine (specBindAt l Bl bc t.n _ (HSl.out.below E0.out E0.out.size)).mono ?_
    rintro e w1 ⟨rfl, hb1⟩
    rw [hi]
    clear hi
    have B1 := LH (E0.out.trans (hb1.mono E0.out.size))
    have Ra1 := LH (Ra0.out.below hb1 Ra0.out.lt)
    have Rz1 := LH (Rz0.out.below hb1 Rz0.out.lt)
    have hs1 := Nat.le_trans S0 hb1.size
    have hca1 := fun i => Ra1.out.cell i
    have hlt1 := Ra1.out.lt
    clear hb1
    obtain ⟨w0, e0⟩ : ∃ w0, w0 = (w1).alloc (.cells #[.int .i64 t.op, .int .i64 t.n, .string t.s, .slice none 0 0] 27) := ⟨_, rfl⟩
    have HB0 := LH (show Below w.heap.size w w0 by rw [e0]; exact B1.out.alloc B1.out.size _)
    have HRa0 := LH (show Row w0 w.heap.size 27 #[.int .i64 t.op, .int .i64 t.n, .string t.s, .slice A1 t.kids.length c1] by rw [e0]; exact Ra1.out.alloc _)
    have HRz0 := LH (show Row w0 (w.heap.size + 1) 27 #[.int .i64 0, .int .i64 0, .string ⟨#[]⟩, .slice none 0 0] by rw [e0]; exact Rz1.out.alloc _)
    have HRo0 := LH (show Row w0 (w1.heap.size) 27 #[.int .i64 t.op, .int .i64 t.n, .string t.s, .slice none 0 0] by rw [e0]; exact Row.new' _ _ _ (by simp))
    have hs0 : w1.heap.size + 1 ≤ w0.heap.size := by rw [e0]; simp
    go_wp2_with fail
    rw [← e0]
    clear e0
    clear hca1
    go_loopw [7] (fun i wr => ∃ (j : Nat) (A : Option Addr) (c : Nat), j ≤ t.kids.length ∧ i = .int .i64 j ∧ Hid (Gow wr (w1.heap.size + 1) wr.heap.size 27 4 (.slice A j c) j (((t.kids.take j).map (GTy.sub F)).map GTy.toD)) ∧ Hid (Row wr w.heap.size 27 #[.int .i64 t.op, .int .i64 t.n, .string t.s, .slice A1 t.kids.length c1]) ∧ Hid (Row wr (w.heap.size + 1) 27 #[.int .i64 0, .int .i64 0, .string ⟨#[]⟩, .slice none 0 0]) ∧ Hid (Row wr (w1.heap.size) 27 #[.int .i64 t.op, .int .i64 t.n, .string t.s, .slice A j c]) ∧ w1.heap.size + 1 ≤ wr.heap.size ∧ Below w.heap.size w wr) (fun i _ => t.kids.length - (intOf i).toNat)
    case atStart => exact ⟨0, none, 0, by omega, by go_num, LH (Gow.nil _ _ _ _ _), HRa0, HRz0, HRo0, hs0, HB0.out⟩
    case round =>
     clear HRa0 HRz0 HRo0 HB0 hs0
     obtain ⟨j, A, c, hj, rfl, HG, HRa, HRz, HRo, hs3, hbl⟩ := hrel
     have hsz := hbl.size
     have hca := fun i => HRa.out.cell i
     have hco := fun i => HRo.out.cell i
     by_cases hlt : j < t.kids.length
     · exact absurd hlt (by have := HK.out; omega)
     ·
      have hjl : j = t.kids.length := by omega
      obtain ⟨A', c', eV, how⟩ := HG.out.osl
      obtain ⟨rfl, rfl⟩ : A = A' ∧ c = c' := by simpa using eV
      subst hjl
      rw [List.take_length] at how
      clear eV HG hlt hj hca hco
      obtain ⟨p0, p1, p2, -⟩ := T0.out
      have hca := fun i => HRa.out.cell i
      have hco := fun i => HRo.out.cell i
      have hcz := fun i => HRz.out.cell i
      have hfz := fun i => HRz.out.frozen i
      have BF := setCells_below hbl (w.heap.size + 1) 0 (by omega) [.int .i64 t.op, .int .i64 t.n, .string t.s, .slice A t.kids.length c]
      have SF : (setCells wr (w.heap.size + 1) 0 [.int .i64 t.op, .int .i64 t.n, .string t.s, .slice A t.kids.length c]).heap.size = wr.heap.size := by rw [setCells_size]
      have how2 := how.keep (S' := Btw w.heap.size (setCells wr (w.heap.size + 1) 0 [.int .i64 t.op, .int .i64 t.n, .string t.s, .slice A t.kids.length c]).heap.size) (w' := (setCells wr (w.heap.size + 1) 0 [.int .i64 t.op, .int .i64 t.n, .string t.s, .slice A t.kids.length c])) fun q hq => ⟨⟨by have := hq.1; omega, by rw [SF]; exact hq.2⟩, setCells_block _ _ _ _ _ (by have := hq.1; omega)⟩
      have HOW := LH how2
      have HBF := LH BF
      have HS := LH (HN.out)
      clear how how2 BF SF
      go_wp2_with fail
      exact bodyPost_ret (v := .agg #[.int .i64 t.op, .int .i64 t.n, .string t.s, .slice A t.kids.length c]) (by simp [results, Tryz.results45, go_sem, hca, hcz, hco]) rfl ⟨A, c, by rw [HS.out]; simp [GTy.op, GTy.n, GTy.s, GTy.kids], by rw [HS.out]; exact ⟨p0, p1, p2, HOW.out⟩, HBF.out⟩
def instOf : List Int → List GTy → Int → Option GTy
 | v :: vs, t :: ts, n => if (n == v) = true then some t else instOf vs ts n
 | _, _, _ => none
theorem instOf_idx {n : Int} : ∀ {vs : List Int} {ts : List GTy}, vs.length = ts.length → (∃ j, ∃ h : j < ts.length, j < vs.length ∧ idxI (fun x : Int => n == x) vs = (j : Int) ∧ instOf vs ts n = some ts[j]) ∨ (idxI (fun x : Int => n == x) vs = -1 ∧ instOf vs ts n = none)
 | [], [], _ => .inr ⟨rfl, rfl⟩
 | [], _ :: _, h => by simp at h
 | _ :: _, [], h => by simp at h
 | v :: vs, t :: ts, h => by
  cases hx : (n == v) with
  | true => exact .inl ⟨0, by simp, by simp, by simp [idxI, hx], by simp only [instOf, hx]; rfl⟩
  | false =>
   rcases instOf_idx (n := n) (vs := vs) (ts := ts) (by simpa using h) with ⟨j, h1, h2, e1, e2⟩ | ⟨e1, e2⟩
   · refine .inl ⟨j + 1, by simpa using h1, by simpa using h2, ?_, ?_⟩
     · simp only [idxI, hx]; rw [e1]; simp; omega
     · simp only [instOf, hx]; simpa using e2
   · refine .inr ⟨?_, ?_⟩
     · simp only [idxI, hx]; rw [e1]; simp
     · simp only [instOf, hx]; simpa using e2
theorem instOf_bulk {n : Int} {u : GTy} : ∀ {vs : List Int} {ts : List GTy}, instOf vs ts n = some u → u.bulk ≤ bulkL GTy.bulk ts
 | [], _, h => by simp [instOf] at h
 | _ :: _, [], h => by simp [instOf] at h
 | v :: vs, t :: ts, h => by
  simp only [instOf] at h
  simp only [bulkL]
  split at h
  · cases h; omega
  · have := instOf_bulk h; omega
def zipB (vs : List Int) (ts : List GTy) : List GBind := List.zipWith (fun v t => ⟨v, t⟩) vs ts
theorem bindOf_zip (n : Int) : ∀ (vs : List Int) (ts : List GTy), bindOf (zipB vs ts) n = instOf vs ts n
 | [], _ => rfl
 | _ :: _, [] => rfl
 | v :: vs, t :: ts => by
  have ih := bindOf_zip n vs ts
  have hc : (v == n) = (n == v) := by rw [Bool.eq_iff_iff, beq_iff_eq, beq_iff_eq]; exact eq_comm
  simp only [zipB, List.zipWith_cons_cons, bindOf, List.find?_cons, instOf, hc] at ih ⊢
  cases hx : (n == v) <;> simp_all
theorem zipB_bulk : ∀ (vs : List Int) (ts : List GTy), bulkL GBind.bulk (zipB vs ts) ≤ bulkL GTy.bulk ts
 | [], _ => by simp [zipB, bulkL]
 | _ :: _, [] => by simp [zipB, bulkL]
 | v :: vs, t :: ts => by
  have ih := zipB_bulk vs ts
  simp only [zipB, List.zipWith_cons_cons, bulkL, GBind.bulk] at ih ⊢
  omega
theorem zipB_length {vs : List Int} {ts : List GTy} (h : vs.length = ts.length) : (zipB vs ts).length = vs.length := by simp [zipB, h]
theorem zipB_take {vs : List Int} {ts : List GTy} (h : vs.length = ts.length) (j : Nat) (h1 : j < vs.length) (h2 : j < ts.length) : (zipB vs ts).take (j + 1) = (zipB vs ts).take j ++ [⟨vs[j], ts[j]⟩] := by
 rw [List.take_succ_eq_append_getElem (by rw [zipB_length h]; exact h1)]
 simp [zipB]
theorem implIndexInt (l : List Int) (A : Option Addr) (c : Nat) (n : Int) (w : World) (hs : Sl w (Lt w.heap.size) 1 A c (l.map (D.num .i64))) :
 Calls Tryz.prog 43 #[.slice A l.length c, .int .i64 n] w fun e w' => e = .returned (.int .i64 (idxI (fun x : Int => n == x) l)) ∧ Below w.heap.size w w' := by
 have hlen : l.length ≤ 9223372036854775807 := by simpa using hs.len
 have S0 := LH hs
 clear hs
 go_enter Tryz.func43, Tryz.ntmps43
 go_wp2_with fail
 go_loopw [8] (fun i wr => ∃ (j : Nat), j ≤ l.length ∧ i = .int .i64 j ∧ Hid (noneTo (fun x : Int => n == x) l j) ∧ Below w.heap.size w wr) (fun i _ => l.length - (intOf i).toNat)
 case atStart => exact ⟨0, by omega, by go_num, LH (noneTo_zero _ _), Below.refl _ _⟩
 case round =>
  obtain ⟨j, hj, rfl, HN, hbl⟩ := hrel
  by_cases hlt : j < l.length
  ·
   obtain ⟨b, off, rfl, hSb, g0, _⟩ := int_elem (S0.out.below hbl (Nat.le_refl _)) j hlt
   cases he : (n == l[j]) with
   | true =>
    have HV := LH (idxI_at HN.out hlt he)
    go_wp2_with fail
    go_ret
    exact ⟨ret_int HV.out.symm, hbl⟩
   | false =>
    have HN2 := LH (noneTo_succ HN.out hlt he)
    go_wp2_with fail
    go_roundw
    case rel => exact ⟨j + 1, by omega, by go_num, HN2, hbl⟩
    case measure => simp [intOf]; omega
  ·
   have hjl : j = l.length := by omega
   have HV := LH (idxI_none (hjl ▸ HN.out))
   clear hjl
   go_wp2_with fail
   go_ret
   exact ⟨ret_int HV.out.symm, hbl⟩
theorem implInst (k : Nat) : ∀ (vars : List Int) (Vl : Option Addr) (vc : Nat) (list : List GTy) (Tl : Option Addr) (tc : Nat) (t : GTy) (A1 : Option Addr) (c1 : Nat) (w : World), t.bulk < k → t.bulk ≤ 1048576 → vars.length = list.length → bulkL GTy.bulk list ≤ 1048576 → Sl w (Lt w.heap.size) 1 Vl vc (vars.map (D.num .i64)) → Sl w (Lt w.heap.size) 4 Tl tc (list.map GTy.toD) → GTy.At w (Lt w.heap.size) A1 c1 t →
 Calls Tryz.prog 29 #[.agg #[.int .i64 t.op, .int .i64 t.n, .string t.s, .slice A1 t.kids.length c1], .slice Vl vars.length vc, .slice Tl list.length tc] w (ToTy (t.sub (instOf vars list)) w) := by
 induction k with
 | zero => intros; omega
 | succ k ih =>
  intro vars Vl vc list Tl tc t A1 c1 w hk h1 he hl hv hs hat
  have hbe := t.bulk_eq
  have hlen : t.kids.length ≤ 1048576 := by have := bulkL_len GTy.bulk t.kids; omega
  obtain ⟨F, hF⟩ : ∃ F, F = instOf vars list := ⟨_, rfl⟩
  have HF := LH hF
  have HH := LH (fun (j : Nat) (h : j < t.kids.length) (A1 : Option Addr) (c1 : Nat) (w : World) => ih vars Vl vc list Tl tc t.kids[j] A1 c1 w (by have := bulkL_mem GTy.bulk t.kids _ (List.getElem_mem h); omega) (by have := bulkL_mem GTy.bulk t.kids _ (List.getElem_mem h); omega))
  rw [← hF] at HH ⊢
  have HSl := LH hs
  have HVs := LH hv
  have HL := LH hl
  have HE := LH he
  have T0 := LH hat
  clear ih hbe hk h1 hat hF hs hv hl he
  have E0 := LH (show Below w.heap.size w ((w.alloc (.cells #[.int .i64 t.op, .int .i64 t.n, .string t.s, .slice A1 t.kids.length c1] 27)).alloc (.cells #[.int .i64 0, .int .i64 0, .string ⟨#[]⟩, .slice none 0 0] 27)) from ((Below.refl _ _).alloc (Nat.le_refl _) _).alloc (by simp) _)
  have S0 : w.heap.size + 2 ≤ ((w.alloc (.cells #[.int .i64 t.op, .int .i64 t.n, .string t.s, .slice A1 t.kids.length c1] 27)).alloc (.cells #[.int .i64 0, .int .i64 0, .string ⟨#[]⟩, .slice none 0 0] 27)).heap.size := by simp
  have Ra0 := LH ((Row.new' w 27 #[.int .i64 t.op, .int .i64 t.n, .string t.s, .slice A1 t.kids.length c1] (g := w.heap.size) rfl).alloc (.cells #[.int .i64 0, .int .i64 0, .string ⟨#[]⟩, .slice none 0 0] 27))
  have Rz0 := LH (Row.new' (w.alloc (.cells #[.int .i64 t.op, .int .i64 t.n, .string t.s, .slice A1 t.kids.length c1] 27)) 27 #[.int .i64 0, .int .i64 0, .string ⟨#[]⟩, .slice none 0 0] (g := w.heap.size + 1) (by simp))
  cases o2 : (t.op == 2)
  ·
   have ho2 : ¬ t.op = 2 := by simpa using o2
   have HN := LH (show t.sub F = _ from GTy.sub_none (.inl (fun e => ho2 e.1)))
   clear ho2
   go_enter Tryz.func29, Tryz.ntmps29
   obtain ⟨w0, e0⟩ : ∃ w0, w0 = ((w.alloc (.cells #[.int .i64 t.op, .int .i64 t.n, .string t.s, .slice A1 t.kids.length c1] 27)).alloc (.cells #[.int .i64 0, .int .i64 0, .string ⟨#[]⟩, .slice none 0 0] 27)).alloc (.cells #[] 27) := ⟨_, rfl⟩
   have HB0 := LH (show Below w.heap.size w w0 by rw [e0]; exact E0.out.alloc E0.out.size _)
   have HRa0 := LH (show Row w0 w.heap.size 27 #[.int .i64 t.op, .int .i64 t.n, .string t.s, .slice A1 t.kids.length c1] by rw [e0]; exact Ra0.out.alloc _)
   have HRz0 := LH (show Row w0 (w.heap.size + 1) 27 #[.int .i64 0, .int .i64 0, .string ⟨#[]⟩, .slice none 0 0] by rw [e0]; exact Rz0.out.alloc _)
   have G0 := LH (show Gow w0 (w.heap.size + 2) w0.heap.size 27 4 (.slice (some ⟨w.heap.size + 1 + 1, 0, none⟩) 0 0) 0 [] by rw [e0]; exact Gow.made (Row.new' _ _ _ (by simp)) (by omega) (by simp))
   go_wp2_with fail
   rw [← e0]
   clear e0
   go_loopw [8, 36] (fun v i wr => ∃ (j : Nat) (A : Option Addr) (c : Nat), j ≤ t.kids.length ∧ i = .int .i64 j ∧ v = .slice A j c ∧ Hid (Gow wr (w.heap.size + 2) wr.heap.size 27 4 (.slice A j c) j (((t.kids.take j).map (GTy.sub F)).map GTy.toD)) ∧ Hid (Row wr w.heap.size 27 #[.int .i64 t.op, .int .i64 t.n, .string t.s, .slice A1 t.kids.length c1]) ∧ Hid (Row wr (w.heap.size + 1) 27 #[.int .i64 0, .int .i64 0, .string ⟨#[]⟩, .slice none 0 0]) ∧ Below w.heap.size w wr) (fun _ i _ => t.kids.length - (intOf i).toNat)
   case atStart => exact ⟨0, _, _, by omega, by go_num, rfl, G0, HRa0, HRz0, HB0.out⟩
   case round =>
    clear G0 HRa0 HRz0 HB0
    obtain ⟨j, A, c, hj, rfl, rfl, HG, HRa, HRz, hbl⟩ := hrel
    have hsz := hbl.size
    have hzl := HRz.out.lt
    by_cases hlt : j < t.kids.length
    ·
     obtain ⟨b, off, A2, c2, eA, hSb, g0, g1, g2, g3, hat⟩ := GTy.elem (T0.out.below hbl (Nat.le_refl _)).2.2.2 j hlt
     have E1 := LH (show Below wr.heap.size wr (wr.alloc (.cells #[.int .i64 (t.kids[j]).op, .int .i64 (t.kids[j]).n, .string (t.kids[j]).s, .slice A2 (t.kids[j]).kids.length c2] 27)) from (Below.refl _ _).alloc (Nat.le_refl _) _)
     have HA := LH (hat.keep (S' := Lt (wr.alloc (.cells #[.int .i64 (t.kids[j]).op, .int .i64 (t.kids[j]).n, .string (t.kids[j]).s, .slice A2 (t.kids[j]).kids.length c2] 27)).heap.size) (w' := wr.alloc (.cells #[.int .i64 (t.kids[j]).op, .int .i64 (t.kids[j]).n, .string (t.kids[j]).s, .slice A2 (t.kids[j]).kids.length c2] 27)) fun q hq => ⟨Nat.lt_of_lt_of_le hq (Nat.le_trans hsz E1.out.size), Below.heap_alloc _ _ _ (Nat.lt_of_lt_of_le hq hsz)⟩)
     have HV2 := LH (HVs.out.below (show Below w.heap.size w (wr.alloc (.cells #[.int .i64 (t.kids[j]).op, .int .i64 (t.kids[j]).n, .string (t.kids[j]).s, .slice A2 (t.kids[j]).kids.length c2] 27)) from (hbl.alloc hsz _)) (Nat.le_trans hsz E1.out.size))
     have HS2 := LH (HSl.out.below (show Below w.heap.size w (wr.alloc (.cells #[.int .i64 (t.kids[j]).op, .int .i64 (t.kids[j]).n, .string (t.kids[j]).s, .slice A2 (t.kids[j]).kids.length c2] 27)) from (hbl.alloc hsz _)) (Nat.le_trans hsz E1.out.size))
     clear hat
     subst eA
     go_wp2_with fail
     refine (HH.out j hlt A2 c2 _ HE.out HL.out HV2.out HS2.out HA.out).mono ?_
     rintro e w1 ⟨A3, c3, rfl, how, hb1⟩
     have B1 := LH ((E1.out.trans (hb1.mono E1.out.size)).alloc (Nat.le_trans E1.out.size hb1.size) (.cells #[.int .i64 ((t.kids[j]).sub F).op, .int .i64 ((t.kids[j]).sub F).n, .string ((t.kids[j]).sub F).s, .slice A3 ((t.kids[j]).sub F).kids.length c3] 27))
     have HG1 := HG.out.below B1.out (Nat.le_refl _)
     have how1 := GTy.own_mk (how.keep (S' := Btw wr.heap.size (w1.alloc (.cells #[.int .i64 ((t.kids[j]).sub F).op, .int .i64 ((t.kids[j]).sub F).n, .string ((t.kids[j]).sub F).s, .slice A3 ((t.kids[j]).sub F).kids.length c3] 27)).heap.size) (w' := w1.alloc (.cells #[.int .i64 ((t.kids[j]).sub F).op, .int .i64 ((t.kids[j]).sub F).n, .string ((t.kids[j]).sub F).s, .slice A3 ((t.kids[j]).sub F).kids.length c3] 27)) fun q hq => ⟨⟨Nat.le_trans E1.out.size hq.1, Nat.lt_of_lt_of_le hq.2 (by simp)⟩, Below.heap_alloc _ _ _ hq.2⟩)
     clear how hb1
     go_wp2_with (first | (at_builtin; refine wpList_append_D (w1.alloc (.cells #[.int .i64 ((t.kids[j]).sub F).op, .int .i64 ((t.kids[j]).sub F).n, .string ((t.kids[j]).sub F).s, .slice A3 ((t.kids[j]).sub F).kids.length c3] 27)) rfl (.tmp 44) (.tmp 46) 25 rfl 27 zTy 4 56 Tryz.underlying25 (by kernel_rfl) rfl (by omega) (w.heap.size + 2) wr.heap.size _ j _ HG1 ((t.kids[j]).sub F).toD [.int .i64 ((t.kids[j]).sub F).op, .int .i64 ((t.kids[j]).sub F).n, .string ((t.kids[j]).sub F).s, .slice A3 ((t.kids[j]).sub F).kids.length c3] how1 (by omega) B1.out.size rfl (by simp [Value.oneCell']) (by omega) (by omega) 27 rfl (w1.alloc (.cells #[.int .i64 ((t.kids[j]).sub F).op, .int .i64 ((t.kids[j]).sub F).n, .string ((t.kids[j]).sub F).s, .slice A3 ((t.kids[j]).sub F).kids.length c3] 27)).heap.size rfl (by simp [Act.eval]) ?_; intro g cap w2 G2 Bq2 hs2 hg2 hgl2))
     go_roundw
     case rel =>
      have X2 := (Bq2.mono (show w.heap.size ≤ w.heap.size + 2 by omega))
      exact ⟨j + 1, _, _, by omega, by go_num, rfl, LH (by rw [take_snoc' t.kids j hlt, List.map_append, List.map_append]; exact G2), LH ((HRa.out.below B1.out (by omega)).below Bq2 (by omega)), LH ((HRz.out.below B1.out (by omega)).below Bq2 (by omega)), (hbl.trans (B1.out.mono hsz)).trans X2⟩
     case measure => simp [intOf]; omega
    ·
     have hjl : j = t.kids.length := by omega
     obtain ⟨A', c', eV, how⟩ := HG.out.osl
     obtain ⟨rfl, rfl⟩ : A = A' ∧ c = c' := by simpa using eV
     subst hjl
     rw [List.take_length] at how
     clear eV HG hlt hj
     obtain ⟨p0, p1, p2, -⟩ := T0.out
     have hca := fun i => HRa.out.cell i
     have hcz := fun i => HRz.out.cell i
     have hfa := fun i => HRa.out.frozen i
     have hfz := fun i => HRz.out.frozen i
     have B1 := setCells_below hbl w.heap.size 3 (Nat.le_refl _) [.slice A t.kids.length c]
     have BF := setCells_below B1 (w.heap.size + 1) 0 (by omega) [.int .i64 t.op, .int .i64 t.n, .string t.s, .slice A t.kids.length c]
     have SF : (setCells (setCells wr w.heap.size 3 [.slice A t.kids.length c]) (w.heap.size + 1) 0 [.int .i64 t.op, .int .i64 t.n, .string t.s, .slice A t.kids.length c]).heap.size = wr.heap.size := by rw [setCells_size, setCells_size]
     have how2 := how.keep (S' := Btw w.heap.size (setCells (setCells wr w.heap.size 3 [.slice A t.kids.length c]) (w.heap.size + 1) 0 [.int .i64 t.op, .int .i64 t.n, .string t.s, .slice A t.kids.length c]).heap.size) (w' := (setCells (setCells wr w.heap.size 3 [.slice A t.kids.length c]) (w.heap.size + 1) 0 [.int .i64 t.op, .int .i64 t.n, .string t.s, .slice A t.kids.length c])) fun q hq => ⟨⟨by have := hq.1; omega, by rw [SF]; exact hq.2⟩, (setCells_block _ _ _ _ _ (by have := hq.1; omega)).trans (setCells_block _ _ _ _ _ (by have := hq.1; omega))⟩
     have HOW := LH how2
     have HBF := LH BF
     have HS := LH (HN.out)
     clear how how2 BF B1 SF
     go_wp2_with fail
     exact bodyPost_ret (v := .agg #[.int .i64 t.op, .int .i64 t.n, .string t.s, .slice A t.kids.length c]) (by simp [results, Tryz.results29, go_sem, hca, hcz]) rfl ⟨A, c, by rw [HS.out]; simp [GTy.op, GTy.n, GTy.s, GTy.kids], by rw [HS.out]; exact ⟨p0, p1, p2, HOW.out⟩, HBF.out⟩
  ·
   have ho2 : t.op = 2 := by simpa using o2
   by_cases hk : t.kids.length = 0
   rotate_left
   ·
    have hk2 : ((t.kids.length : Int) == 0) = false := by rw [beq_eq_false_iff_ne]; omega
    have HN := LH (show t.sub F = _ from GTy.sub_none (.inl (fun e => hk e.2)))
    clear ho2 hk
    go_enter Tryz.func29, Tryz.ntmps29
    obtain ⟨w0, e0⟩ : ∃ w0, w0 = ((w.alloc (.cells #[.int .i64 t.op, .int .i64 t.n, .string t.s, .slice A1 t.kids.length c1] 27)).alloc (.cells #[.int .i64 0, .int .i64 0, .string ⟨#[]⟩, .slice none 0 0] 27)).alloc (.cells #[] 27) := ⟨_, rfl⟩
    have HB0 := LH (show Below w.heap.size w w0 by rw [e0]; exact E0.out.alloc E0.out.size _)
    have HRa0 := LH (show Row w0 w.heap.size 27 #[.int .i64 t.op, .int .i64 t.n, .string t.s, .slice A1 t.kids.length c1] by rw [e0]; exact Ra0.out.alloc _)
    have HRz0 := LH (show Row w0 (w.heap.size + 1) 27 #[.int .i64 0, .int .i64 0, .string ⟨#[]⟩, .slice none 0 0] by rw [e0]; exact Rz0.out.alloc _)
    have G0 := LH (show Gow w0 (w.heap.size + 2) w0.heap.size 27 4 (.slice (some ⟨w.heap.size + 1 + 1, 0, none⟩) 0 0) 0 [] by rw [e0]; exact Gow.made (Row.new' _ _ _ (by simp)) (by omega) (by simp))
    go_wp2_with fail
    rw [← e0]
    clear e0
    go_loopw [8, 36] (fun v i wr => ∃ (j : Nat) (A : Option Addr) (c : Nat), j ≤ t.kids.length ∧ i = .int .i64 j ∧ v = .slice A j c ∧ Hid (Gow wr (w.heap.size + 2) wr.heap.size 27 4 (.slice A j c) j (((t.kids.take j).map (GTy.sub F)).map GTy.toD)) ∧ Hid (Row wr w.heap.size 27 #[.int .i64 t.op, .int .i64 t.n, .string t.s, .slice A1 t.kids.length c1]) ∧ Hid (Row wr (w.heap.size + 1) 27 #[.int .i64 0, .int .i64 0, .string ⟨#[]⟩, .slice none 0 0]) ∧ Below w.heap.size w wr) (fun _ i _ => t.kids.length - (intOf i).toNat)
    case atStart => exact ⟨0, _, _, by omega, by go_num, rfl, G0, HRa0, HRz0, HB0.out⟩
    case round =>
     clear G0 HRa0 HRz0 HB0
     obtain ⟨j, A, c, hj, rfl, rfl, HG, HRa, HRz, hbl⟩ := hrel
     have hsz := hbl.size
     have hzl := HRz.out.lt
     by_cases hlt : j < t.kids.length
     ·
      obtain ⟨b, off, A2, c2, eA, hSb, g0, g1, g2, g3, hat⟩ := GTy.elem (T0.out.below hbl (Nat.le_refl _)).2.2.2 j hlt
      have E1 := LH (show Below wr.heap.size wr (wr.alloc (.cells #[.int .i64 (t.kids[j]).op, .int .i64 (t.kids[j]).n, .string (t.kids[j]).s, .slice A2 (t.kids[j]).kids.length c2] 27)) from (Below.refl _ _).alloc (Nat.le_refl _) _)
      have HA := LH (hat.keep (S' := Lt (wr.alloc (.cells #[.int .i64 (t.kids[j]).op, .int .i64 (t.kids[j]).n, .string (t.kids[j]).s, .slice A2 (t.kids[j]).kids.length c2] 27)).heap.size) (w' := wr.alloc (.cells #[.int .i64 (t.kids[j]).op, .int .i64 (t.kids[j]).n, .string (t.kids[j]).s, .slice A2 (t.kids[j]).kids.length c2] 27)) fun q hq => ⟨Nat.lt_of_lt_of_le hq (Nat.le_trans hsz E1.out.size), Below.heap_alloc _ _ _ (Nat.lt_of_lt_of_le hq hsz)⟩)
      have HV2 := LH (HVs.out.below (show Below w.heap.size w (wr.alloc (.cells #[.int .i64 (t.kids[j]).op, .int .i64 (t.kids[j]).n, .string (t.kids[j]).s, .slice A2 (t.kids[j]).kids.length c2] 27)) from (hbl.alloc hsz _)) (Nat.le_trans hsz E1.out.size))
      have HS2 := LH (HSl.out.below (show Below w.heap.size w (wr.alloc (.cells #[.int .i64 (t.kids[j]).op, .int .i64 (t.kids[j]).n, .string (t.kids[j]).s, .slice A2 (t.kids[j]).kids.length c2] 27)) from (hbl.alloc hsz _)) (Nat.le_trans hsz E1.out.size))
      clear hat
      subst eA
      go_wp2_with fail
      refine (HH.out j hlt A2 c2 _ HE.out HL.out HV2.out HS2.out HA.out).mono ?_
      rintro e w1 ⟨A3, c3, rfl, how, hb1⟩
      have B1 := LH ((E1.out.trans (hb1.mono E1.out.size)).alloc (Nat.le_trans E1.out.size hb1.size) (.cells #[.int .i64 ((t.kids[j]).sub F).op, .int .i64 ((t.kids[j]).sub F).n, .string ((t.kids[j]).sub F).s, .slice A3 ((t.kids[j]).sub F).kids.length c3] 27))
      have HG1 := HG.out.below B1.out (Nat.le_refl _)
      have how1 := GTy.own_mk (how.keep (S' := Btw wr.heap.size (w1.alloc (.cells #[.int .i64 ((t.kids[j]).sub F).op, .int .i64 ((t.kids[j]).sub F).n, .string ((t.kids[j]).sub F).s, .slice A3 ((t.kids[j]).sub F).kids.length c3] 27)).heap.size) (w' := w1.alloc (.cells #[.int .i64 ((t.kids[j]).sub F).op, .int .i64 ((t.kids[j]).sub F).n, .string ((t.kids[j]).sub F).s, .slice A3 ((t.kids[j]).sub F).kids.length c3] 27)) fun q hq => ⟨⟨Nat.le_trans E1.out.size hq.1, Nat.lt_of_lt_of_le hq.2 (by simp)⟩, Below.heap_alloc _ _ _ hq.2⟩)
      clear how hb1
      go_wp2_with (first | (at_builtin; refine wpList_append_D (w1.alloc (.cells #[.int .i64 ((t.kids[j]).sub F).op, .int .i64 ((t.kids[j]).sub F).n, .string ((t.kids[j]).sub F).s, .slice A3 ((t.kids[j]).sub F).kids.length c3] 27)) rfl (.tmp 44) (.tmp 46) 25 rfl 27 zTy 4 56 Tryz.underlying25 (by kernel_rfl) rfl (by omega) (w.heap.size + 2) wr.heap.size _ j _ HG1 ((t.kids[j]).sub F).toD [.int .i64 ((t.kids[j]).sub F).op, .int .i64 ((t.kids[j]).sub F).n, .string ((t.kids[j]).sub F).s, .slice A3 ((t.kids[j]).sub F).kids.length c3] how1 (by omega) B1.out.size rfl (by simp [Value.oneCell']) (by omega) (by omega) 27 rfl (w1.alloc (.cells #[.int .i64 ((t.kids[j]).sub F).op, .int .i64 ((t.kids[j]).sub F).n, .string ((t.kids[j]).sub F).s, .slice A3 ((t.kids[j]).sub F).kids.length c3] 27)).heap.size rfl (by simp [Act.eval]) ?_; intro g cap w2 G2 Bq2 hs2 hg2 hgl2))
      go_roundw
      case rel =>
       have X2 := (Bq2.mono (show w.heap.size ≤ w.heap.size + 2 by omega))
       exact ⟨j + 1, _, _, by omega, by go_num, rfl, LH (by rw [take_snoc' t.kids j hlt, List.map_append, List.map_append]; exact G2), LH ((HRa.out.below B1.out (by omega)).below Bq2 (by omega)), LH ((HRz.out.below B1.out (by omega)).below Bq2 (by omega)), (hbl.trans (B1.out.mono hsz)).trans X2⟩
      case measure => simp [intOf]; omega
     ·
      have hjl : j = t.kids.length := by omega
      obtain ⟨A', c', eV, how⟩ := HG.out.osl
      obtain ⟨rfl, rfl⟩ : A = A' ∧ c = c' := by simpa using eV
      subst hjl
      rw [List.take_length] at how
      clear eV HG hlt hj
      obtain ⟨p0, p1, p2, -⟩ := T0.out
      have hca := fun i => HRa.out.cell i
      have hcz := fun i => HRz.out.cell i
      have hfa := fun i => HRa.out.frozen i
      have hfz := fun i => HRz.out.frozen i
      have B1 := setCells_below hbl w.heap.size 3 (Nat.le_refl _) [.slice A t.kids.length c]
      have BF := setCells_below B1 (w.heap.size + 1) 0 (by omega) [.int .i64 t.op, .int .i64 t.n, .string t.s, .slice A t.kids.length c]
      have SF : (setCells (setCells wr w.heap.size 3 [.slice A t.kids.length c]) (w.heap.size + 1) 0 [.int .i64 t.op, .int .i64 t.n, .string t.s, .slice A t.kids.length c]).heap.size = wr.heap.size := by rw [setCells_size, setCells_size]
      have how2 := how.keep (S' := Btw w.heap.size (setCells (setCells wr w.heap.size 3 [.slice A t.kids.length c]) (w.heap.size + 1) 0 [.int .i64 t.op, .int .i64 t.n, .string t.s, .slice A t.kids.length c]).heap.size) (w' := (setCells (setCells wr w.heap.size 3 [.slice A t.kids.length c]) (w.heap.size + 1) 0 [.int .i64 t.op, .int .i64 t.n, .string t.s, .slice A t.kids.length c])) fun q hq => ⟨⟨by have := hq.1; omega, by rw [SF]; exact hq.2⟩, (setCells_block _ _ _ _ _ (by have := hq.1; omega)).trans (setCells_block _ _ _ _ _ (by have := hq.1; omega))⟩
      have HOW := LH how2
      have HBF := LH BF
      have HS := LH (HN.out)
      clear how how2 BF B1 SF
      go_wp2_with fail
      exact bodyPost_ret (v := .agg #[.int .i64 t.op, .int .i64 t.n, .string t.s, .slice A t.kids.length c]) (by simp [results, Tryz.results29, go_sem, hca, hcz]) rfl ⟨A, c, by rw [HS.out]; simp [GTy.op, GTy.n, GTy.s, GTy.kids], by rw [HS.out]; exact ⟨p0, p1, p2, HOW.out⟩, HBF.out⟩
   have hk2 : ((t.kids.length : Int) == 0) = true := by rw [beq_iff_eq]; omega
   have HK := LH hk
   have HO2 := LH ho2
   clear hk ho2
   rcases instOf_idx (n := t.n) HE.out with ⟨q, hq, hqv, hi, hf⟩ | ⟨hi, hf⟩
   ·
    have HN := LH (show t.sub F = list[q] from by rw [HF.out]; exact GTy.sub_some HO2.out HK.out hf)
    have hub : (list[q]).bulk ≤ 1048576 := by have := instOf_bulk hf; have := HL.out; omega
    clear hf
    go_enter Tryz.func29, Tryz.ntmps29
    go_wp2_with fail
    refine (implIndexInt vars Vl vc t.n _ (HVs.out.below E0.out E0.out.size)).mono ?_
    rintro e w1 ⟨rfl, hb1⟩
    rw [hi]
    clear hi
    have B1 := LH (E0.out.trans (hb1.mono E0.out.size))
    have Rz1 := LH (Rz0.out.below hb1 Rz0.out.lt)
    have hql : list.length ≤ 9223372036854775807 := by simpa using HSl.out.len
    obtain ⟨b3, off3, A3, c3, rfl, hSb3, q0, q1, q2, q3, hat⟩ := GTy.elem (HSl.out.below B1.out (Nat.le_refl _)) q hq
    have HA := LH (show GTy.At w1 (Lt w1.heap.size) A3 c3 (list[q]) from hat.keep fun x hx => ⟨Nat.lt_of_lt_of_le hx B1.out.size, rfl⟩)
    clear hat hb1
    go_wp2_with fail
    refine (implCopyTy' (list[q]) A3 c3 _ hub HA.out).mono ?_
    rintro e w2 ⟨A4, c4, rfl, how, hb2⟩
    have Rz2 := LH (Rz1.out.below hb2 Rz1.out.lt)
    have hcz := fun i => Rz2.out.cell i
    have hfz := fun i => Rz2.out.frozen i
    have B2 := B1.out.trans (hb2.mono B1.out.size)
    have SF : (setCells w2 (w.heap.size + 1) 0 [.int .i64 (list[q]).op, .int .i64 (list[q]).n, .string (list[q]).s, .slice A4 (list[q]).kids.length c4]).heap.size = w2.heap.size := setCells_size _ _ _ _
    have BF := LH (setCells_below B2 (w.heap.size + 1) 0 (by omega) [.int .i64 (list[q]).op, .int .i64 (list[q]).n, .string (list[q]).s, .slice A4 (list[q]).kids.length c4])
    have HOW := LH (how.keep (S' := Btw w.heap.size (setCells w2 (w.heap.size + 1) 0 [.int .i64 (list[q]).op, .int .i64 (list[q]).n, .string (list[q]).s, .slice A4 (list[q]).kids.length c4]).heap.size) (w' := setCells w2 (w.heap.size + 1) 0 [.int .i64 (list[q]).op, .int .i64 (list[q]).n, .string (list[q]).s, .slice A4 (list[q]).kids.length c4]) fun x hx => ⟨⟨Nat.le_trans B1.out.size hx.1, by rw [SF]; exact hx.2⟩, setCells_block _ _ _ _ _ (by have := hx.1; have := Rz1.out.lt; omega)⟩)
    clear how hb2 B2 SF
    go_wp2_with fail
    exact bodyPost_ret (v := .agg #[.int .i64 (list[q]).op, .int .i64 (list[q]).n, .string (list[q]).s, .slice A4 (list[q]).kids.length c4]) (by simp [results, Tryz.results29, go_sem, hcz]) rfl ⟨A4, c4, by rw [HN.out], by rw [HN.out]; exact HOW.out, BF.out⟩
   ·
    have HN := LH (show t.sub F = _ from GTy.sub_none (.inr (by rw [HF.out]; exact hf)))
    clear hf
    go_enter Tryz.func29, Tryz.ntmps29
    go_wp2_with fail
    refine (implIndexInt vars Vl vc t.n _ (HVs.out.below E0.out E0.out.size)).mono ?_
    rintro e w1 ⟨rfl, hb1⟩
    rw [hi]
    clear hi
    have B1 := LH (E0.out.trans (hb1.mono E0.out.size))
    have Ra1 := LH (Ra0.out.below hb1 Ra0.out.lt)
    have Rz1 := LH (Rz0.out.below hb1 Rz0.out.lt)
    have hs1 := Nat.le_trans S0 hb1.size
    have hca1 := fun i => Ra1.out.cell i
    have hlt1 := Ra1.out.lt
    clear hb1
    obtain ⟨w0, e0⟩ : ∃ w0, w0 = (w1).alloc (.cells #[] 27) := ⟨_, rfl⟩
    have HB0 := LH (show Below w.heap.size w w0 by rw [e0]; exact B1.out.alloc B1.out.size _)
    have HRa0 := LH (show Row w0 w.heap.size 27 #[.int .i64 t.op, .int .i64 t.n, .string t.s, .slice A1 t.kids.length c1] by rw [e0]; exact Ra1.out.alloc _)
    have HRz0 := LH (show Row w0 (w.heap.size + 1) 27 #[.int .i64 0, .int .i64 0, .string ⟨#[]⟩, .slice none 0 0] by rw [e0]; exact Rz1.out.alloc _)
    have G0 := LH (show Gow w0 (w.heap.size + 2) w0.heap.size 27 4 (.slice (some ⟨(w1).heap.size, 0, none⟩) 0 0) 0 [] by rw [e0]; exact Gow.made (Row.new' _ _ _ (by simp)) hs1 (by simp))
    go_wp2_with fail
    rw [← e0]
    clear e0
    clear hca1
    go_loopw [8, 36] (fun v i wr => ∃ (j : Nat) (A : Option Addr) (c : Nat), j ≤ t.kids.length ∧ i = .int .i64 j ∧ v = .slice A j c ∧ Hid (Gow wr (w.heap.size + 2) wr.heap.size 27 4 (.slice A j c) j (((t.kids.take j).map (GTy.sub F)).map GTy.toD)) ∧ Hid (Row wr w.heap.size 27 #[.int .i64 t.op, .int .i64 t.n, .string t.s, .slice A1 t.kids.length c1]) ∧ Hid (Row wr (w.heap.size + 1) 27 #[.int .i64 0, .int .i64 0, .string ⟨#[]⟩, .slice none 0 0]) ∧ Below w.heap.size w wr) (fun _ i _ => t.kids.length - (intOf i).toNat)
    case atStart => exact ⟨0, _, _, by omega, by go_num, rfl, G0, HRa0, HRz0, HB0.out⟩
    case round =>
     clear G0 HRa0 HRz0 HB0
     obtain ⟨j, A, c, hj, rfl, rfl, HG, HRa, HRz, hbl⟩ := hrel
     have hsz := hbl.size
     have hzl := HRz.out.lt
     by_cases hlt : j < t.kids.length
     ·
      obtain ⟨b, off, A2, c2, eA, hSb, g0, g1, g2, g3, hat⟩ := GTy.elem (T0.out.below hbl (Nat.le_refl _)).2.2.2 j hlt
      have E1 := LH (show Below wr.heap.size wr (wr.alloc (.cells #[.int .i64 (t.kids[j]).op, .int .i64 (t.kids[j]).n, .string (t.kids[j]).s, .slice A2 (t.kids[j]).kids.length c2] 27)) from (Below.refl _ _).alloc (Nat.le_refl _) _)
      have HA := LH (hat.keep (S' := Lt (wr.alloc (.cells #[.int .i64 (t.kids[j]).op, .int .i64 (t.kids[j]).n, .string (t.kids[j]).s, .slice A2 (t.kids[j]).kids.length c2] 27)).heap.size) (w' := wr.alloc (.cells #[.int .i64 (t.kids[j]).op, .int .i64 (t.kids[j]).n, .string (t.kids[j]).s, .slice A2 (t.kids[j]).kids.length c2] 27)) fun q hq => ⟨Nat.lt_of_lt_of_le hq (Nat.le_trans hsz E1.out.size), Below.heap_alloc _ _ _ (Nat.lt_of_lt_of_le hq hsz)⟩)
      have HV2 := LH (HVs.out.below (show Below w.heap.size w (wr.alloc (.cells #[.int .i64 (t.kids[j]).op, .int .i64 (t.kids[j]).n, .string (t.kids[j]).s, .slice A2 (t.kids[j]).kids.length c2] 27)) from (hbl.alloc hsz _)) (Nat.le_trans hsz E1.out.size))
      have HS2 := LH (HSl.out.below (show Below w.heap.size w (wr.alloc (.cells #[.int .i64 (t.kids[j]).op, .int .i64 (t.kids[j]).n, .string (t.kids[j]).s, .slice A2 (t.kids[j]).kids.length c2] 27)) from (hbl.alloc hsz _)) (Nat.le_trans hsz E1.out.size))
      clear hat
      subst eA
      go_wp2_with fail
      refine (HH.out j hlt A2 c2 _ HE.out HL.out HV2.out HS2.out HA.out).mono ?_
      rintro e w1 ⟨A3, c3, rfl, how, hb1⟩
      have B1 := LH ((E1.out.trans (hb1.mono E1.out.size)).alloc (Nat.le_trans E1.out.size hb1.size) (.cells #[.int .i64 ((t.kids[j]).sub F).op, .int .i64 ((t.kids[j]).sub F).n, .string ((t.kids[j]).sub F).s, .slice A3 ((t.kids[j]).sub F).kids.length c3] 27))
      have HG1 := HG.out.below B1.out (Nat.le_refl _)
      have how1 := GTy.own_mk (how.keep (S' := Btw wr.heap.size (w1.alloc (.cells #[.int .i64 ((t.kids[j]).sub F).op, .int .i64 ((t.kids[j]).sub F).n, .string ((t.kids[j]).sub F).s, .slice A3 ((t.kids[j]).sub F).kids.length c3] 27)).heap.size) (w' := w1.alloc (.cells #[.int .i64 ((t.kids[j]).sub F).op, .int .i64 ((t.kids[j]).sub F).n, .string ((t.kids[j]).sub F).s, .slice A3 ((t.kids[j]).sub F).kids.length c3] 27)) fun q hq => ⟨⟨Nat.le_trans E1.out.size hq.1, Nat.lt_of_lt_of_le hq.2 (by simp)⟩, Below.heap_alloc _ _ _ hq.2⟩)
      clear how hb1
      go_wp2_with (first | (at_builtin; refine wpList_append_D (w1.alloc (.cells #[.int .i64 ((t.kids[j]).sub F).op, .int .i64 ((t.kids[j]).sub F).n, .string ((t.kids[j]).sub F).s, .slice A3 ((t.kids[j]).sub F).kids.length c3] 27)) rfl (.tmp 44) (.tmp 46) 25 rfl 27 zTy 4 56 Tryz.underlying25 (by kernel_rfl) rfl (by omega) (w.heap.size + 2) wr.heap.size _ j _ HG1 ((t.kids[j]).sub F).toD [.int .i64 ((t.kids[j]).sub F).op, .int .i64 ((t.kids[j]).sub F).n, .string ((t.kids[j]).sub F).s, .slice A3 ((t.kids[j]).sub F).kids.length c3] how1 (by omega) B1.out.size rfl (by simp [Value.oneCell']) (by omega) (by omega) 27 rfl (w1.alloc (.cells #[.int .i64 ((t.kids[j]).sub F).op, .int .i64 ((t.kids[j]).sub F).n, .string ((t.kids[j]).sub F).s, .slice A3 ((t.kids[j]).sub F).kids.length c3] 27)).heap.size rfl (by simp [Act.eval]) ?_; intro g cap w2 G2 Bq2 hs2 hg2 hgl2))
      go_roundw
      case rel =>
       have X2 := (Bq2.mono (show w.heap.size ≤ w.heap.size + 2 by omega))
       exact ⟨j + 1, _, _, by omega, by go_num, rfl, LH (by rw [take_snoc' t.kids j hlt, List.map_append, List.map_append]; exact G2), LH ((HRa.out.below B1.out (by omega)).below Bq2 (by omega)), LH ((HRz.out.below B1.out (by omega)).below Bq2 (by omega)), (hbl.trans (B1.out.mono hsz)).trans X2⟩
      case measure => simp [intOf]; omega
     ·
      have hjl : j = t.kids.length := by omega
      obtain ⟨A', c', eV, how⟩ := HG.out.osl
      obtain ⟨rfl, rfl⟩ : A = A' ∧ c = c' := by simpa using eV
      subst hjl
      rw [List.take_length] at how
      clear eV HG hlt hj
      obtain ⟨p0, p1, p2, -⟩ := T0.out
      have hca := fun i => HRa.out.cell i
      have hcz := fun i => HRz.out.cell i
      have hfa := fun i => HRa.out.frozen i
      have hfz := fun i => HRz.out.frozen i
      have B1 := setCells_below hbl w.heap.size 3 (Nat.le_refl _) [.slice A t.kids.length c]
      have BF := setCells_below B1 (w.heap.size + 1) 0 (by omega) [.int .i64 t.op, .int .i64 t.n, .string t.s, .slice A t.kids.length c]
      have SF : (setCells (setCells wr w.heap.size 3 [.slice A t.kids.length c]) (w.heap.size + 1) 0 [.int .i64 t.op, .int .i64 t.n, .string t.s, .slice A t.kids.length c]).heap.size = wr.heap.size := by rw [setCells_size, setCells_size]
      have how2 := how.keep (S' := Btw w.heap.size (setCells (setCells wr w.heap.size 3 [.slice A t.kids.length c]) (w.heap.size + 1) 0 [.int .i64 t.op, .int .i64 t.n, .string t.s, .slice A t.kids.length c]).heap.size) (w' := (setCells (setCells wr w.heap.size 3 [.slice A t.kids.length c]) (w.heap.size + 1) 0 [.int .i64 t.op, .int .i64 t.n, .string t.s, .slice A t.kids.length c])) fun q hq => ⟨⟨by have := hq.1; omega, by rw [SF]; exact hq.2⟩, (setCells_block _ _ _ _ _ (by have := hq.1; omega)).trans (setCells_block _ _ _ _ _ (by have := hq.1; omega))⟩
      have HOW := LH how2
      have HBF := LH BF
      have HS := LH (HN.out)
      clear how how2 BF B1 SF
      go_wp2_with fail
      exact bodyPost_ret (v := .agg #[.int .i64 t.op, .int .i64 t.n, .string t.s, .slice A t.kids.length c]) (by simp [results, Tryz.results29, go_sem, hca, hcz]) rfl ⟨A, c, by rw [HS.out]; simp [GTy.op, GTy.n, GTy.s, GTy.kids], by rw [HS.out]; exact ⟨p0, p1, p2, HOW.out⟩, HBF.out⟩
theorem specWith (vars : List Int) (Vl : Option Addr) (vc : Nat) (list : List GTy) (Tl : Option Addr) (tc : Nat) (t : GTy) (A1 : Option Addr) (c1 : Nat) (w : World) (h1 : t.bulk ≤ 1048576) (he : vars.length = list.length) (hl : bulkL GTy.bulk list ≤ 1048576)
 (hv : Sl w (Lt w.heap.size) 1 Vl vc (vars.map (D.num .i64))) (hs : Sl w (Lt w.heap.size) 4 Tl tc (list.map GTy.toD)) (hat : GTy.At w (Lt w.heap.size) A1 c1 t) :
 Calls Tryz.prog 30 #[.agg #[.int .i64 t.op, .int .i64 t.n, .string t.s, .slice A1 t.kids.length c1], .slice Vl vars.length vc, .slice Tl list.length tc] w (ToTy (t.sub (instOf vars list)) w) := by
 have hlen : list.length ≤ 1048576 := by have := bulkL_len GTy.bulk list; omega
 have HVs := LH hv
 have HSl := LH hs
 have HAT := LH hat
 have HE := LH he
 have HF := LH (show GTy.sub (bindOf (zipB vars list)) t = GTy.sub (instOf vars list) t from by rw [show bindOf (zipB vars list) = instOf vars list from funext fun n => bindOf_zip n vars list])
 have HZ := LH (Nat.le_trans (zipB_bulk vars list) hl)
 have hlv : vars.length ≤ 1048576 := by omega
 clear hv hs hat he
 obtain ⟨w0, e0⟩ : ∃ w0, w0 = ((w.alloc (.cells #[.int .i64 t.op, .int .i64 t.n, .string t.s, .slice A1 t.kids.length c1] 27)).alloc (.cells #[.int .i64 0, .int .i64 0, .string ⟨#[]⟩, .slice none 0 0] 27)).alloc (.cells #[] 82) := ⟨_, rfl⟩
 have B0 := LH (show Below w.heap.size w w0 by rw [e0]; exact (((Below.refl _ _).alloc (Nat.le_refl _) _).alloc (by simp) _).alloc (by simp; omega) _)
 have S0 : w0.heap.size = w.heap.size + 3 := by rw [e0]; simp
 have Ra0 := LH (show Row w0 w.heap.size 27 #[.int .i64 t.op, .int .i64 t.n, .string t.s, .slice A1 t.kids.length c1] by rw [e0]; exact ((Row.new' _ _ _ rfl).alloc _).alloc _)
 have Rz0 := LH (show Row w0 (w.heap.size + 1) 27 #[.int .i64 0, .int .i64 0, .string ⟨#[]⟩, .slice none 0 0] by rw [e0]; exact (Row.new' _ _ _ (by simp)).alloc _)
 have Re0 : Row w0 (w.heap.size + 1 + 1) 82 #[] := by rw [e0]; exact Row.new' _ _ _ (by simp)
 have G0 := LH (Gsh.made (B := w.heap.size + 2) (size := 5) Re0 (by omega))
 have hs0 : w.heap.size + 2 ≤ w0.heap.size := by omega
 clear S0 Re0
 go_enter Tryz.func30, Tryz.ntmps30
 go_wp2_with fail
 rw [← e0]
 clear e0
 go_loopw [7, 8] (fun v i wr => ∃ (j : Nat) (A : Option Addr) (c : Nat), j ≤ vars.length ∧ i = .int .i64 j ∧ v = .slice A j c ∧ Hid (Gsh wr (w.heap.size + 2) 82 5 (.slice A j c) j (((zipB vars list).take j).map GBind.toD)) ∧ Hid (Row wr w.heap.size 27 #[.int .i64 t.op, .int .i64 t.n, .string t.s, .slice A1 t.kids.length c1]) ∧ Hid (Row wr (w.heap.size + 1) 27 #[.int .i64 0, .int .i64 0, .string ⟨#[]⟩, .slice none 0 0]) ∧ w.heap.size + 2 ≤ wr.heap.size ∧ Below w.heap.size w wr) (fun _ i _ => vars.length - (intOf i).toNat)
 case atStart => exact ⟨0, _, _, by omega, by go_num, rfl, G0, Ra0, Rz0, hs0, B0.out⟩
 case round =>
  clear G0 Ra0 Rz0 hs0 B0
  obtain ⟨j, A, c, hj, rfl, rfl, HG, HRa, HRz, hs2, hbl⟩ := hrel
  have hsz := hbl.size
  by_cases hlt : j < vars.length
  ·
   have hlt2 : j < list.length := by have := HE.out; omega
   obtain ⟨b, off, eA, hSb, g0, gw⟩ := int_elem (HVs.out.below hbl (Nat.le_refl _)) j hlt
   obtain ⟨b2, off2, A2, c2, eB, hSb2, q0, q1, q2, q3, hat⟩ := GTy.elem (HSl.out.below hbl (Nat.le_refl _)) j hlt2
   have HD := LH (show (GBind.mk vars[j] list[j]).toD.rd wr (Lt (w.heap.size + 2)) [.int .i64 vars[j], .int .i64 (list[j]).op, .int .i64 (list[j]).n, .string (list[j]).s, .slice A2 (list[j]).kids.length c2] from GBind.rd_mk ⟨gw, hat.keep fun x hx => ⟨Nat.lt_of_lt_of_le hx (by omega), rfl⟩⟩)
   have HZT := LH (zipB_take HE.out j hlt hlt2)
   subst eA eB
   clear hat gw
   go_wp2_with fail
   have HG1 := LH (show Gsh wr.drew (w.heap.size + 2) 82 5 (.slice A j c) j (((zipB vars list).take j).map GBind.toD) from HG.out.below (show Below wr.heap.size wr wr.drew from (Below.refl _ _).drew) hs2)
   have HD1 := LH (show (GBind.mk vars[j] list[j]).toD.rd wr.drew (Lt (w.heap.size + 2)) [.int .i64 vars[j], .int .i64 (list[j]).op, .int .i64 (list[j]).n, .string (list[j]).s, .slice A2 (list[j]).kids.length c2] from D.rd_keep (w := wr) (w' := wr.drew) (S := Lt (w.heap.size + 2)) (S' := Lt (w.heap.size + 2)) (fun x hx => ⟨hx, rfl⟩) _ _ HD.out)
   go_region_law (first
     | (refine step_append_S wr.drew rfl (.tmp 22) (.tmp 32) 80 rfl 82 (.agg #[.int .i64 0, .int .i64 0, .int .i64 0, .string ⟨#[]⟩, .slice none 0 0]) 5 64 Tryz.underlying80 (by kernel_rfl) rfl (by omega) (w.heap.size + 2) _ j _ HG1.out (GBind.mk vars[j] list[j]).toD [.int .i64 vars[j], .int .i64 (list[j]).op, .int .i64 (list[j]).n, .string (list[j]).s, .slice A2 (list[j]).kids.length c2] HD1.out hs2 rfl (by simp [Value.oneCell']) (by omega) (by omega) 82 rfl wr.heap.size rfl rfl ?_
        intro g cap w2 G2 Bq2 hs3 hg2 hgl2))
   all_goals
    go_wp2_with fail
    go_roundw
    case rel =>
     have X2 := hbl.drew.trans (Bq2.mono (show w.heap.size ≤ w.heap.size + 2 by omega))
     exact ⟨j + 1, _, _, by omega, by go_num, rfl, LH (by rw [HZT.out, List.map_append]; exact G2), LH (Row.below (w := wr.drew) HRa.out Bq2 (by omega)), LH (Row.below (w := wr.drew) HRz.out Bq2 (by omega)), Nat.le_trans hs2 hs3, X2⟩
    case measure => simp [intOf]; omega
  ·
   have hjl : j = vars.length := by omega
   have hlt2 : ¬ j < list.length := by have := HE.out; omega
   subst hjl
   have hG := HG.out
   rw [show (zipB vars list).take vars.length = zipB vars list from by rw [← zipB_length HE.out, List.take_length]] at hG
   obtain ⟨A', c', eV, hsl⟩ := hG.sl hs2
   obtain ⟨rfl, rfl⟩ : A = A' ∧ c = c' := by simpa using eV
   have HSB := LH hsl
   have hzl := zipB_length HE.out
   have hca := fun i => HRa.out.cell i
   clear hG eV hsl HG
   have HAP := LH (specApply (t.bulk + 1) (zipB vars list) A c t A1 c1 wr (by omega) h1 HZ.out HSB.out (HAT.out.below hbl hsz))
   rw [hzl] at HAP
   clear hzl
   go_wp2_with fail
   refine HAP.out.mono ?_
   rintro e w2 ⟨A4, c4, rfl, how, hb2⟩
   have Rz2 := LH (HRz.out.below hb2 HRz.out.lt)
   have hcz := fun i => Rz2.out.cell i
   have hfz := fun i => Rz2.out.frozen i
   have B2 := hbl.trans (hb2.mono hsz)
   rw [HF.out] at how ⊢
   have SF : (setCells w2 (w.heap.size + 1) 0 [.int .i64 (t.sub (instOf vars list)).op, .int .i64 (t.sub (instOf vars list)).n, .string (t.sub (instOf vars list)).s, .slice A4 (t.sub (instOf vars list)).kids.length c4]).heap.size = w2.heap.size := setCells_size _ _ _ _
   have BF := LH (setCells_below B2 (w.heap.size + 1) 0 (by omega) [.int .i64 (t.sub (instOf vars list)).op, .int .i64 (t.sub (instOf vars list)).n, .string (t.sub (instOf vars list)).s, .slice A4 (t.sub (instOf vars list)).kids.length c4])
   have HOW := LH (how.keep (S' := Btw w.heap.size (setCells w2 (w.heap.size + 1) 0 [.int .i64 (t.sub (instOf vars list)).op, .int .i64 (t.sub (instOf vars list)).n, .string (t.sub (instOf vars list)).s, .slice A4 (t.sub (instOf vars list)).kids.length c4]).heap.size) (w' := setCells w2 (w.heap.size + 1) 0 [.int .i64 (t.sub (instOf vars list)).op, .int .i64 (t.sub (instOf vars list)).n, .string (t.sub (instOf vars list)).s, .slice A4 (t.sub (instOf vars list)).kids.length c4]) fun x hx => ⟨⟨Nat.le_trans hsz hx.1, by rw [SF]; exact hx.2⟩, setCells_block _ _ _ _ _ (by have := hx.1; omega)⟩)
   clear how hb2 B2 SF HAP hca
   go_wp2_with fail
   exact bodyPost_ret (v := .agg #[.int .i64 (t.sub (instOf vars list)).op, .int .i64 (t.sub (instOf vars list)).n, .string (t.sub (instOf vars list)).s, .slice A4 (t.sub (instOf vars list)).kids.length c4]) (by simp [results, Tryz.results30, go_sem, hcz]) rfl ⟨A4, c4, rfl, HOW.out, BF.out⟩
def instV (s : GScheme) (list : List GTy) : Option GTy := if list.length = s.vars.length then some (s.ty.sub (instOf s.vars list)) else none
def zeroT : GTy := .mk 0 0 ⟨#[]⟩ []
def instR (o : Option GTy) : GTy := match o with | some x => x | none => zeroT
def ToInst (o : Option GTy) (w : World) (e : Ending) (w' : World) : Prop := ∃ A1 c1, e = .returned (.tuple #[.agg #[.int .i64 (instR o).op, .int .i64 (instR o).n, .string (instR o).s, .slice A1 (instR o).kids.length c1], .bool o.isSome]) ∧ GTy.Ow w' (Btw w.heap.size w'.heap.size) A1 c1 (instR o) ∧ Below w.heap.size w w'
theorem zeroT_ow (w : World) (S : Nat → Prop) : GTy.Ow w S none 0 zeroT :=
 ⟨wfNat 0 (by omega), wfNat 0 (by omega), Nat.zero_le _, Osl.nil (by unfold maxLen; omega)⟩
theorem specInstance (s : GScheme) (A1 : Option Addr) (c1 : Nat) (A2 : Option Addr) (c2 : Nat) (list : List GTy) (Tl : Option Addr) (tc : Nat) (w : World) (h1 : s.bulk ≤ 1048576) (hl : bulkL GTy.bulk list ≤ 1048576) (hs : GScheme.At w (Lt w.heap.size) A1 c1 A2 c2 s) (ht : Sl w (Lt w.heap.size) 4 Tl tc (list.map GTy.toD)) :
 Calls Tryz.prog 9 #[.agg #[.slice A1 s.vars.length c1, .int .i64 s.ty.op, .int .i64 s.ty.n, .string s.ty.s, .slice A2 s.ty.kids.length c2], .slice Tl list.length tc] w (ToInst (instV s list) w) := by
 have hbe := s.bulk_eq
 have hsb : s.ty.bulk ≤ 1048576 := by omega
 have hv1 : s.vars.length ≤ 1048576 := by omega
 have hl1 : list.length ≤ 1048576 := by have := bulkL_len GTy.bulk list; omega
 clear hbe
 obtain ⟨w0, e0⟩ : ∃ w0, w0 = (w.alloc (.cells #[.slice A1 s.vars.length c1, .int .i64 s.ty.op, .int .i64 s.ty.n, .string s.ty.s, .slice A2 s.ty.kids.length c2] 33)).alloc (.cells #[.int .i64 0, .int .i64 0, .string ⟨#[]⟩, .slice none 0 0] 27) := ⟨_, rfl⟩
 have B0 := LH (show Below w.heap.size w w0 by rw [e0]; exact ((Below.refl _ _).alloc (Nat.le_refl _) _).alloc (by simp) _)
 have S0 : w.heap.size + 2 ≤ w0.heap.size := by rw [e0]; simp
 have Ra0 := LH (show Row w0 w.heap.size 33 #[.slice A1 s.vars.length c1, .int .i64 s.ty.op, .int .i64 s.ty.n, .string s.ty.s, .slice A2 s.ty.kids.length c2] by rw [e0]; exact (Row.new' _ _ _ rfl).alloc _)
 have Rz0 := LH (show Row w0 (w.heap.size + 1) 27 #[.int .i64 0, .int .i64 0, .string ⟨#[]⟩, .slice none 0 0] by rw [e0]; exact Row.new' _ _ _ (by simp))
 have HAT := hs.below B0.out B0.out.size
 have HV := LH HAT.1
 have HY := LH HAT.2
 have HT := LH (ht.below B0.out B0.out.size)
 have HL := LH hl
 have hcz := fun i => Rz0.out.cell i
 have hca := fun i => Ra0.out.cell i
 have hfz := fun i => Rz0.out.frozen i
 clear HAT hs ht hl
 by_cases he : list.length = s.vars.length
 ·
  have HI := LH (show instV s list = some (s.ty.sub (instOf s.vars list)) from if_pos he)
  have HE := LH he.symm
  have he2 : ((list.length : Int) != (s.vars.length : Int)) = false := by rw [bne_eq_false_iff_eq]; omega
  clear he
  go_enter Tryz.func9, Tryz.ntmps9
  go_wp2_with fail
  rw [← e0]
  clear e0
  refine (specWith s.vars A1 c1 list Tl tc s.ty A2 c2 _ hsb HE.out HL.out HV.out HT.out HY.out).mono ?_
  rintro e w2 ⟨A4, c4, rfl, how, hb2⟩
  have Rz2 := LH (Rz0.out.below hb2 Rz0.out.lt)
  clear hcz hfz hca
  have hcz := fun i => Rz2.out.cell i
  have hfz := fun i => Rz2.out.frozen i
  have B2 := B0.out.trans (hb2.mono B0.out.size)
  have SF : (setCells w2 (w.heap.size + 1) 0 [.int .i64 (s.ty.sub (instOf s.vars list)).op, .int .i64 (s.ty.sub (instOf s.vars list)).n, .string (s.ty.sub (instOf s.vars list)).s, .slice A4 (s.ty.sub (instOf s.vars list)).kids.length c4]).heap.size = w2.heap.size := setCells_size _ _ _ _
  have BF := LH (setCells_below B2 (w.heap.size + 1) 0 (by omega) [.int .i64 (s.ty.sub (instOf s.vars list)).op, .int .i64 (s.ty.sub (instOf s.vars list)).n, .string (s.ty.sub (instOf s.vars list)).s, .slice A4 (s.ty.sub (instOf s.vars list)).kids.length c4])
  have HOW := LH (how.keep (S' := Btw w.heap.size (setCells w2 (w.heap.size + 1) 0 [.int .i64 (s.ty.sub (instOf s.vars list)).op, .int .i64 (s.ty.sub (instOf s.vars list)).n, .string (s.ty.sub (instOf s.vars list)).s, .slice A4 (s.ty.sub (instOf s.vars list)).kids.length c4]).heap.size) (w' := setCells w2 (w.heap.size + 1) 0 [.int .i64 (s.ty.sub (instOf s.vars list)).op, .int .i64 (s.ty.sub (instOf s.vars list)).n, .string (s.ty.sub (instOf s.vars list)).s, .slice A4 (s.ty.sub (instOf s.vars list)).kids.length c4]) fun x hx => ⟨⟨Nat.le_trans B0.out.size hx.1, by rw [SF]; exact hx.2⟩, setCells_block _ _ _ _ _ (by have := hx.1; omega)⟩)
  clear how hb2 B2 SF
  go_wp2_with fail
  exact bodyPost_ret (v := .tuple #[.agg #[.int .i64 (s.ty.sub (instOf s.vars list)).op, .int .i64 (s.ty.sub (instOf s.vars list)).n, .string (s.ty.sub (instOf s.vars list)).s, .slice A4 (s.ty.sub (instOf s.vars list)).kids.length c4], .bool true]) (by simp [results, Tryz.results9, go_sem, hcz]) rfl ⟨A4, c4, by rw [HI.out]; rfl, by rw [HI.out]; exact HOW.out, BF.out⟩
 ·
  have HI := LH (show instV s list = none from if_neg he)
  have he2 : ((list.length : Int) != (s.vars.length : Int)) = true := by rw [bne_iff_ne]; omega
  clear he
  go_enter Tryz.func9, Tryz.ntmps9
  go_wp2_with fail
  rw [← e0]
  exact bodyPost_ret (v := .tuple #[.agg #[.int .i64 0, .int .i64 0, .string ⟨#[]⟩, .slice none 0 0], .bool false]) (by simp [results, Tryz.results9, go_sem, hcz]) rfl ⟨none, 0, by rw [HI.out]; rfl, by rw [HI.out]; exact zeroT_ow _ _, B0.out⟩
theorem implInstance (s : GScheme) (A1 : Option Addr) (c1 : Nat) (A2 : Option Addr) (c2 : Nat) (list : List GTy) (Tl : Option Addr) (tc : Nat) (w : World) (h1 : s.bulk ≤ 1048576) (hl : bulkL GTy.bulk list ≤ 1048576) (hs : GScheme.At w (Lt w.heap.size) A1 c1 A2 c2 s) (ht : Sl w (Lt w.heap.size) 4 Tl tc (list.map GTy.toD)) :
 Calls Tryz.prog 8 #[.agg #[.slice A1 s.vars.length c1, .int .i64 s.ty.op, .int .i64 s.ty.n, .string s.ty.s, .slice A2 s.ty.kids.length c2], .slice Tl list.length tc] w (ToInst (instV s list) w) := by
 have hbe := s.bulk_eq
 have hsb : s.ty.bulk ≤ 1048576 := by omega
 have hv1 : s.vars.length ≤ 1048576 := by omega
 have hl1 : list.length ≤ 1048576 := by have := bulkL_len GTy.bulk list; omega
 clear hbe
 obtain ⟨w0, e0⟩ : ∃ w0, w0 = (w.alloc (.cells #[.slice A1 s.vars.length c1, .int .i64 s.ty.op, .int .i64 s.ty.n, .string s.ty.s, .slice A2 s.ty.kids.length c2] 33)).alloc (.cells #[.int .i64 0, .int .i64 0, .string ⟨#[]⟩, .slice none 0 0] 27) := ⟨_, rfl⟩
 have B0 := LH (show Below w.heap.size w w0 by rw [e0]; exact ((Below.refl _ _).alloc (Nat.le_refl _) _).alloc (by simp) _)
 have S0 : w.heap.size + 2 ≤ w0.heap.size := by rw [e0]; simp
 have Ra0 := LH (show Row w0 w.heap.size 33 #[.slice A1 s.vars.length c1, .int .i64 s.ty.op, .int .i64 s.ty.n, .string s.ty.s, .slice A2 s.ty.kids.length c2] by rw [e0]; exact (Row.new' _ _ _ rfl).alloc _)
 have Rz0 := LH (show Row w0 (w.heap.size + 1) 27 #[.int .i64 0, .int .i64 0, .string ⟨#[]⟩, .slice none 0 0] by rw [e0]; exact Row.new' _ _ _ (by simp))
 have HAT := hs.below B0.out B0.out.size
 have HV := LH HAT.1
 have HY := LH HAT.2
 have HT := LH (ht.below B0.out B0.out.size)
 have HL := LH hl
 have hcz := fun i => Rz0.out.cell i
 have hca := fun i => Ra0.out.cell i
 have hfz := fun i => Rz0.out.frozen i
 clear HAT hs ht hl
 by_cases he : list.length = s.vars.length
 ·
  have HI := LH (show instV s list = some (s.ty.sub (instOf s.vars list)) from if_pos he)
  have HE := LH he.symm
  have he2 : ((list.length : Int) != (s.vars.length : Int)) = false := by rw [bne_eq_false_iff_eq]; omega
  clear he
  go_enter Tryz.func8, Tryz.ntmps8
  go_wp2_with fail
  rw [← e0]
  clear e0
  refine (implInst (s.ty.bulk + 1) s.vars A1 c1 list Tl tc s.ty A2 c2 _ (by omega) hsb HE.out HL.out HV.out HT.out HY.out).mono ?_
  rintro e w2 ⟨A4, c4, rfl, how, hb2⟩
  have Rz2 := LH (Rz0.out.below hb2 Rz0.out.lt)
  clear hcz hfz hca
  have hcz := fun i => Rz2.out.cell i
  have hfz := fun i => Rz2.out.frozen i
  have B2 := B0.out.trans (hb2.mono B0.out.size)
  have SF : (setCells w2 (w.heap.size + 1) 0 [.int .i64 (s.ty.sub (instOf s.vars list)).op, .int .i64 (s.ty.sub (instOf s.vars list)).n, .string (s.ty.sub (instOf s.vars list)).s, .slice A4 (s.ty.sub (instOf s.vars list)).kids.length c4]).heap.size = w2.heap.size := setCells_size _ _ _ _
  have BF := LH (setCells_below B2 (w.heap.size + 1) 0 (by omega) [.int .i64 (s.ty.sub (instOf s.vars list)).op, .int .i64 (s.ty.sub (instOf s.vars list)).n, .string (s.ty.sub (instOf s.vars list)).s, .slice A4 (s.ty.sub (instOf s.vars list)).kids.length c4])
  have HOW := LH (how.keep (S' := Btw w.heap.size (setCells w2 (w.heap.size + 1) 0 [.int .i64 (s.ty.sub (instOf s.vars list)).op, .int .i64 (s.ty.sub (instOf s.vars list)).n, .string (s.ty.sub (instOf s.vars list)).s, .slice A4 (s.ty.sub (instOf s.vars list)).kids.length c4]).heap.size) (w' := setCells w2 (w.heap.size + 1) 0 [.int .i64 (s.ty.sub (instOf s.vars list)).op, .int .i64 (s.ty.sub (instOf s.vars list)).n, .string (s.ty.sub (instOf s.vars list)).s, .slice A4 (s.ty.sub (instOf s.vars list)).kids.length c4]) fun x hx => ⟨⟨Nat.le_trans B0.out.size hx.1, by rw [SF]; exact hx.2⟩, setCells_block _ _ _ _ _ (by have := hx.1; omega)⟩)
  clear how hb2 B2 SF
  go_wp2_with fail
  exact bodyPost_ret (v := .tuple #[.agg #[.int .i64 (s.ty.sub (instOf s.vars list)).op, .int .i64 (s.ty.sub (instOf s.vars list)).n, .string (s.ty.sub (instOf s.vars list)).s, .slice A4 (s.ty.sub (instOf s.vars list)).kids.length c4], .bool true]) (by simp [results, Tryz.results8, go_sem, hcz]) rfl ⟨A4, c4, by rw [HI.out]; rfl, by rw [HI.out]; exact HOW.out, BF.out⟩
 ·
  have HI := LH (show instV s list = none from if_neg he)
  have he2 : ((list.length : Int) != (s.vars.length : Int)) = true := by rw [bne_iff_ne]; omega
  clear he
  go_enter Tryz.func8, Tryz.ntmps8
  go_wp2_with fail
  rw [← e0]
  exact bodyPost_ret (v := .tuple #[.agg #[.int .i64 0, .int .i64 0, .string ⟨#[]⟩, .slice none 0 0], .bool false]) (by simp [results, Tryz.results8, go_sem, hcz]) rfl ⟨none, 0, by rw [HI.out]; rfl, by rw [HI.out]; exact zeroT_ow _ _, B0.out⟩
set_option maxHeartbeats 400000
def ToNode (t : GNode) (w : World) (e : Ending) (w' : World) : Prop := ∃ A1 c1, e = .returned (.agg #[.int .i64 t.op, .int .i64 t.n, .string t.s, .string t.t, .slice A1 t.kids.length c1]) ∧ GNode.Ow w' (Btw w.heap.size w'.heap.size) A1 c1 t ∧ Below w.heap.size w w'
def zNode : Value := .agg #[.int .i64 0, .int .i64 0, .string ⟨#[]⟩, .string ⟨#[]⟩, .slice none 0 0]
end Go.Proofs.YtlpichogambpfaaGreat
