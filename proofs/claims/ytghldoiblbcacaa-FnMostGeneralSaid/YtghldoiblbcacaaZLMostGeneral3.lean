/- Texts of the claim LMostGeneral in one: SubOk CTy SubP Apply GScheme Inst Met TyText TyShown. Conditions: none but bounds on sizes. -/
import Derived.Test.YtghldoiblbcacaaZLMostGeneral0
import Derived.Test.YtghldoiblbcacaaZLMostGeneral1
import Derived.Test.YtghldoiblbcacaaZLMostGeneral2
import Derived.OwnWalk
import Derived.Deep.RegionLaw
import Derived.Test.YtghldoiblbcacaaRows
import Derived.Lib.Hide
import Derived.Deep.RegionHeld3
/- SubOk: is a substitution right, in the program and in the reference. Conditions: the sizes are bounded. -/
namespace Go.Proofs.Ytghldoiblbcacaa
open Go.RowKit
set_option linter.unusedVariables false
set_option linter.unusedSimpArgs false
set_option maxHeartbeats 1000000

/-- is the j-th bind wrong -/
def subBad (l : List GBind) (j : Nat) (b : GBind) : Bool := decide (b.n < 0) || (idxI (fun x : GBind => x.n == b.n) l != (j : Int)) || !b.ty.ok || l.any fun x => b.ty.has x.n
def subOkV (l : List GBind) : Bool := decide (∀ j, (h : j < l.length) → subBad l j l[j] = false)
theorem subOk_no {l : List GBind} {j : Nat} (h : j < l.length) (e : subBad l j l[j] = true) : subOkV l = false := by
  unfold subOkV
  rw [decide_eq_false_iff_not]
  intro hh
  rw [hh j h] at e; cases e
theorem subOk_yes {l : List GBind} (h : ∀ j, (h : j < l.length) → subBad l j l[j] = false) : subOkV l = true := decide_eq_true h
/-- none of the first j is wrong -/
def subUp (l : List GBind) (j : Nat) : Prop := ∀ i, (h : i < l.length) → i < j → subBad l i l[i] = false
theorem subUp.succ {l : List GBind} {j : Nat} (h : subUp l j) (hj : j < l.length) (e : subBad l j l[j] = false) : subUp l (j + 1) := fun i hi hij => by
  by_cases hh : i < j
  · exact h i hi hh
  · obtain rfl : i = j := by omega
    exact e
theorem idx_any {α : Type} (p : α → Bool) (l : List α) : decide (idxI p l ≥ 0) = l.any p := by
  cases h : l.any p
  · rw [idxI_any_false h]; decide
  · have := idxI_any_true h
    rw [decide_eq_true]; first | exact this | (have := this; omega)
theorem vs_any (l : List GBind) (t : GTy) : (t.vs []).any (fun n => decide (idxI (fun x : GBind => x.n == n) l ≥ 0)) = l.any fun x => t.has x.n := by
  rw [Bool.eq_iff_iff, List.any_eq_true, List.any_eq_true]
  constructor
  · rintro ⟨n, hn, h⟩
    rw [idx_any, List.any_eq_true] at h
    obtain ⟨x, hx, e⟩ := h
    exact ⟨x, hx, (GTy.has_vs _ _).2 (by simp at e; rw [e]; exact hn)⟩
  · rintro ⟨x, hx, h⟩
    refine ⟨x.n, (GTy.has_vs _ _).1 h, ?_⟩
    rw [idx_any, List.any_eq_true]
    exact ⟨x, hx, by simp⟩

set_option maxRecDepth 20000 in
theorem specSubOk (l : List GBind) (A : Option Addr) (c : Nat) (w : World) (hm : bulkL GBind.bulk l ≤ 1048576) (hs : Sl w (Lt w.heap.size) 5 A c (l.map GBind.toD)) :
    Calls Try.prog 42 #[.slice A l.length c] w fun e w' => e = .returned (.bool (subOkV l)) ∧ Below w.heap.size w w' := by
  have hlen : l.length ≤ 9223372036854775807 := by simpa using hs.len
  have S0 := Lib.hid hs
  have HKB := Lib.hid (fun (j : Nat) (h : j < l.length) => show (l[j]).ty.bulk ≤ 1048576 from by have h1 := (bulkV_next GBind.bulk h).2; have h2 := (bulkV_next GBind.bulk h).1; have h3 := (l[j]).bulk_eq; omega)
  clear hs hm
  go_enter Try.func42, Try.ntmps42
  go_wp2_with fail
  go_loopw [3] (fun i wr => ∃ (j : Nat), j ≤ l.length ∧ i = .int .i64 j ∧ Hid (subUp l j) ∧ Hid (Below w.heap.size w wr)) (fun i _ => l.length - (intOf i).toNat)
  case atStart => exact ⟨0, by omega, by go_num, Lib.hid (fun i _ h => by omega), Lib.hid (Below.refl _ _)⟩
  case round =>
    obtain ⟨j, hj, rfl, HN, HB⟩ := hrel
    have hsz := HB.out.size
    by_cases hlt : j < l.length
    · obtain ⟨b, off, A1, c1, rfl, hSb, g0, g1, g2, g3, g4, hat⟩ := GBind.elem (S0.out.below HB.out (Nat.le_refl _)) j hlt
      have S1 := Lib.hid (S0.out.below HB.out hsz)
      have AT := Lib.hid hat.2
      have HBK := Lib.hid (HKB.out j hlt)
      clear hat
      cases hn : decide ((l[j]).n < 0)
      case true =>
        have HW := Lib.hid (subOk_no hlt (show subBad l j l[j] = true by unfold subBad; rw [hn]; rfl))
        go_wp2_with fail
        go_ret
        exact ⟨ret_bool HW.out.symm, HB.out⟩
      go_wp2_with fail
      refine (specBindAt l (some ⟨b, off, none⟩) c (l[j]).n _ S1.out).mono ?_
      rintro e w1 ⟨rfl, hb1⟩
      have B1 := Lib.hid (HB.out.trans (hb1.mono hsz))
      have f1 := (hb1.cell (p := ⟨b, off + j * 5 + 1, none⟩) (Nat.lt_of_lt_of_le hSb hsz)).trans g1
      have f2 := (hb1.cell (p := ⟨b, off + j * 5 + 2, none⟩) (Nat.lt_of_lt_of_le hSb hsz)).trans g2
      have f3 := (hb1.cell (p := ⟨b, off + j * 5 + 3, none⟩) (Nat.lt_of_lt_of_le hSb hsz)).trans g3
      have f4 := (hb1.cell (p := ⟨b, off + j * 5 + 4, none⟩) (Nat.lt_of_lt_of_le hSb hsz)).trans g4
      have AT1 := Lib.hid (AT.out.below (hb1.mono hsz) (show w.heap.size ≤ w1.heap.size by have := hb1.size; omega))
      clear hb1 g0 g1 g2 g3 g4
      by_cases hi : idxI (fun x : GBind => x.n == (l[j]).n) l = (j : Int)
      case neg =>
        have HW := Lib.hid (subOk_no hlt (show subBad l j l[j] = true by unfold subBad; rw [show (idxI (fun x : GBind => x.n == (l[j]).n) l != (j : Int)) = true by simpa using hi]; simp))
        generalize idxI (fun x : GBind => x.n == (l[j]).n) l = q at *
        go_wp2_with fail
        go_ret
        exact ⟨ret_bool HW.out.symm, B1.out⟩
      have HI := Lib.hid (show (idxI (fun x : GBind => x.n == (l[j]).n) l != (j : Int)) = false by simpa using hi)
      rw [hi]
      clear hi
      go_wp2_with fail
      refine (specTyOk (l[j]).ty A1 c1 _ (by have := (l[j]).ty.nodes_bulk; have := HBK.out; omega) (AT1.out.below (Below.refl _ _) (Nat.le_refl _))).mono ?_
      rintro e w2 ⟨rfl, hb2⟩
      have hsz1 := B1.out.size
      have B2 := Lib.hid (B1.out.trans (hb2.mono hsz1))
      clear hb2 f1 f2 f3 f4
      cases ho : (l[j]).ty.ok
      case false =>
        have HW := Lib.hid (subOk_no hlt (show subBad l j l[j] = true by unfold subBad; rw [ho]; simp))
        go_wp2_with fail
        go_ret
        exact ⟨ret_bool HW.out.symm, B2.out⟩
      have HV := Lib.hid (show subBad l j l[j] = l.any fun x => (l[j]).ty.has x.n by unfold subBad; rw [hn, HI.out, ho]; rfl)
      clear hn ho
      go_wp2_with fail
      go_loopw [4] (fun i wr => ∃ (k : Nat), k ≤ l.length ∧ i = .int .i64 k ∧ Hid (noneTo (fun x => (l[j]).ty.has x.n) l k) ∧ Hid (Below w.heap.size w wr)) (fun i _ => l.length - (intOf i).toNat)
      case atStart => exact ⟨0, by omega, by go_num, Lib.hid (noneTo_zero _ _), B2⟩
      case round =>
        obtain ⟨k, hk, rfl, HN2, HB2⟩ := hrel
        rename_i wr0 wr
        have hsz2 := HB2.out.size
        by_cases hlt2 : k < l.length
        · obtain ⟨b', off', A1', c1', eb, hSb', g0, g1, g2, g3, g4, hat⟩ := GBind.elem (S0.out.below HB2.out (Nat.le_refl _)) j hlt
          simp only [Option.some.injEq, Addr.mk.injEq, and_true] at eb
          obtain ⟨rfl, rfl⟩ := eb
          obtain ⟨b', off', A2, c2, eb, _, f0, _, _, _, _, _⟩ := GBind.elem (S0.out.below HB2.out (Nat.le_refl _)) k hlt2
          simp only [Option.some.injEq, Addr.mk.injEq, and_true] at eb
          obtain ⟨rfl, rfl⟩ := eb
          have AT3 := Lib.hid (hat.2.below (Below.refl _ _) hsz2)
          clear hat
          have E3 := Lib.hid (show Below w.heap.size w wr.drew from Below.drew HB2.out)
          have AT4 := Lib.hid (show GTy.At wr.drew (Lt wr.drew.heap.size) A1' c1' (l[j]).ty from AT3.out.keep fun q hq => ⟨hq, rfl⟩)
          go_wp2_with fail
          go_region_held3 (fun w' => w'.cell? ⟨b, off + j * 5 + 1, none⟩ = some (.int .i64 (l[j]).ty.op) ∧ w'.cell? ⟨b, off + j * 5 + 2, none⟩ = some (.int .i64 (l[j]).ty.n) ∧ w'.cell? ⟨b, off + j * 5 + 3, none⟩ = some (.string (l[j]).ty.s) ∧ w'.cell? ⟨b, off + j * 5 + 4, none⟩ = some (.slice A1' (l[j]).ty.kids.length c1') ∧ w'.cell? ⟨b, off + k * 5, none⟩ = some (.int .i64 (l[k]).n)) (first | exact ⟨g1, g2, g3, g4, f0⟩ | exact ⟨q1, q2, q3, q4, q5⟩) (first
            | (go_at_call 83
               refine (specHas (l[k]).n (1048577) (l[j]).ty A1' c1' _ (by have := HBK.out; omega) AT4.out).mono ?_
               rintro e w3 ⟨rfl, hb3⟩
               have B3 := Lib.hid (E3.out.trans (hb3.mono E3.out.size))
               have q1 := (hb3.cell (p := ⟨b, off + j * 5 + 1, none⟩) (Nat.lt_of_lt_of_le hSb hsz2)).trans g1
               have q2 := (hb3.cell (p := ⟨b, off + j * 5 + 2, none⟩) (Nat.lt_of_lt_of_le hSb hsz2)).trans g2
               have q3 := (hb3.cell (p := ⟨b, off + j * 5 + 3, none⟩) (Nat.lt_of_lt_of_le hSb hsz2)).trans g3
               have q4 := (hb3.cell (p := ⟨b, off + j * 5 + 4, none⟩) (Nat.lt_of_lt_of_le hSb hsz2)).trans g4
               have q5 := (hb3.cell (p := ⟨b, off + k * 5, none⟩) (Nat.lt_of_lt_of_le hSb hsz2)).trans f0
               clear hb3))
          cases he : (l[j]).ty.has (l[k]).n
          · have HN3 := Lib.hid (noneTo_succ HN2.out hlt2 he)
            go_wp2_with fail
            go_roundw
            case rel => exact ⟨k + 1, by omega, by go_num, HN3, B3⟩
            case measure => simp [intOf]; omega
          · have HW := Lib.hid (subOk_no hlt (by rw [HV.out]; exact List.any_eq_true.2 ⟨_, List.getElem_mem hlt2, he⟩))
            go_wp2_with fail
            go_ret
            exact ⟨ret_bool HW.out.symm, B3.out⟩
        · have HU := Lib.hid (HN.out.succ hlt (by rw [HV.out]; exact noneTo_any (by have := HN2.out; rwa [show k = l.length by omega] at this)))
          go_wp2_with fail
          go_roundw
          case rel => exact ⟨j + 1, by omega, by go_num, HU, HB2⟩
          case measure => simp [intOf]; omega
    · have HW := Lib.hid (subOk_yes (fun i h => HN.out i h (by omega)))
      go_wp2_with fail
      go_ret
      exact ⟨ret_bool HW.out.symm, HB.out⟩

theorem implSubOk1 (l : List GBind) (A : Option Addr) (c : Nat) (n : Int) (b : Nat) (w : World) (hc : w.cell? ⟨b, 0, none⟩ = some (.slice A l.length c)) (hs : Sl w (Lt w.heap.size) 5 A c (l.map GBind.toD)) :
    Calls Try.prog 48 #[.int .i64 n, .pointer (some ⟨b, 0, none⟩)] w fun e w' => e = .returned (.bool (decide (idxI (fun x : GBind => x.n == n) l ≥ 0))) ∧ Below w.heap.size w w' := by
  have S0 := Lib.hid hs
  clear hs
  go_enter Try.func48, Try.ntmps48
  go_wp2_with fail
  refine (implBindAt l A c n _ S0.out).mono ?_
  rintro e w1 ⟨rfl, hb1⟩
  go_wp2_with fail
  go_ret
  exact ⟨rfl, hb1⟩

set_option maxRecDepth 20000 in
theorem implSubOk (l : List GBind) (A : Option Addr) (c : Nat) (w : World) (hm : bulkL GBind.bulk l ≤ 1048576) (hs : Sl w (Lt w.heap.size) 5 A c (l.map GBind.toD)) :
    Calls Try.prog 10 #[.slice A l.length c] w fun e w' => e = .returned (.bool (subOkV l)) ∧ Below w.heap.size w w' := by
  have hlen : l.length ≤ 9223372036854775807 := by simpa using hs.len
  have HKB := Lib.hid (fun (j : Nat) (h : j < l.length) => show (l[j]).ty.bulk ≤ 1048576 from by have h1 := (bulkV_next GBind.bulk h).2; have h2 := (bulkV_next GBind.bulk h).1; have h3 := (l[j]).bulk_eq; omega)
  obtain ⟨w0, e0⟩ : ∃ w0, w0 = w.alloc (.cells #[.slice A l.length c] 24) := ⟨_, rfl⟩
  have E0 := Lib.hid (show Below w.heap.size w w0 by rw [e0]; exact (Below.refl _ _).alloc (Nat.le_refl _) _)
  have R0 := Lib.hid (show Row w0 w.heap.size 24 #[.slice A l.length c] by rw [e0]; exact Row.new' _ _ _ rfl)
  have S0 := Lib.hid hs
  have S00 : w0.heap.size = w.heap.size + 1 := by rw [e0]; simp
  have hca0 := fun i => R0.out.cell i
  clear hs hm
  go_enter Try.func10, Try.ntmps10
  go_wp2_with fail
  rw [← e0]
  clear e0 hca0
  go_loopw [7] (fun i wr => ∃ (j : Nat), j ≤ l.length ∧ i = .int .i64 j ∧ Hid (subUp l j) ∧ Hid (Row wr w.heap.size 24 #[.slice A l.length c]) ∧ Hid (Below w.heap.size w wr)) (fun i _ => l.length - (intOf i).toNat)
  case atStart => exact ⟨0, by omega, by go_num, Lib.hid (fun i _ h => by omega), R0, E0⟩
  case round =>
    obtain ⟨j, hj, rfl, HN, HR, HB⟩ := hrel
    have hsz := HB.out.size
    have hca := fun i => HR.out.cell i
    have hra := HR.out.lt
    by_cases hlt : j < l.length
    · obtain ⟨b, off, A1, c1, rfl, hSb, g0, g1, g2, g3, g4, hat⟩ := GBind.elem (S0.out.below HB.out (Nat.le_refl _)) j hlt
      have AT := Lib.hid hat.2
      have HBK := Lib.hid (HKB.out j hlt)
      clear hat
      obtain ⟨wb, eb⟩ : ∃ wb, wb = wr.alloc (.cells #[.int .i64 (l[j]).n, .int .i64 (l[j]).ty.op, .int .i64 (l[j]).ty.n, .string (l[j]).ty.s, .slice A1 (l[j]).ty.kids.length c1] 46) := ⟨_, rfl⟩
      have EB := Lib.hid (show Below wr.heap.size wr wb by rw [eb]; exact (Below.refl _ _).alloc (Nat.le_refl _) _)
      have RB := Lib.hid (show Row wb wr.heap.size 46 #[.int .i64 (l[j]).n, .int .i64 (l[j]).ty.op, .int .i64 (l[j]).ty.n, .string (l[j]).ty.s, .slice A1 (l[j]).ty.kids.length c1] by rw [eb]; exact Row.new' _ _ _ rfl)
      have HR1 := Lib.hid (HR.out.below EB.out hra)
      have BB := Lib.hid (HB.out.trans (EB.out.mono hsz))
      have SB := Lib.hid (S0.out.below BB.out BB.out.size)
      have ATB := Lib.hid (AT.out.below (EB.out.mono hsz) BB.out.size)
      have hsb := EB.out.size
      cases hn : decide ((l[j]).n < 0)
      case true =>
        have HW := Lib.hid (subOk_no hlt (show subBad l j l[j] = true by unfold subBad; rw [hn]; rfl))
        go_wp2_with fail
        rw [← eb]
        clear eb
        have hcb := fun i => RB.out.cell i
        go_wp2_with fail
        go_ret
        exact ⟨ret_bool HW.out.symm, BB.out⟩
      go_wp2_with fail
      rw [← eb]
      clear eb hca g0 g1 g2 g3 g4
      have hcb := fun i => RB.out.cell i
      have hca := fun i => HR1.out.cell i
      try go_wp2_with fail
      refine (implBindAt l (some ⟨b, off, none⟩) c (l[j]).n _ SB.out).mono ?_
      rintro e w1 ⟨rfl, hb1⟩
      have B1 := Lib.hid (BB.out.trans (hb1.mono BB.out.size))
      have RB1 := Lib.hid (RB.out.below hb1 RB.out.lt)
      have HR2 := Lib.hid (HR1.out.below hb1 HR1.out.lt)
      have AT1 := Lib.hid (ATB.out.below hb1 (show wb.heap.size ≤ w1.heap.size from hb1.size))
      clear hb1 hcb hca
      have hcb := fun i => RB1.out.cell i
      have hca := fun i => HR2.out.cell i
      by_cases hi : idxI (fun x : GBind => x.n == (l[j]).n) l = (j : Int)
      case neg =>
        have HW := Lib.hid (subOk_no hlt (show subBad l j l[j] = true by unfold subBad; rw [show (idxI (fun x : GBind => x.n == (l[j]).n) l != (j : Int)) = true by simpa using hi]; simp))
        generalize idxI (fun x : GBind => x.n == (l[j]).n) l = q at *
        go_wp2_with fail
        go_ret
        exact ⟨ret_bool HW.out.symm, B1.out⟩
      have HI := Lib.hid (show (idxI (fun x : GBind => x.n == (l[j]).n) l != (j : Int)) = false by simpa using hi)
      rw [hi]
      clear hi
      go_wp2_with fail
      refine (implTyOk (l[j]).ty A1 c1 _ (by have := (l[j]).ty.nodes_bulk; have := HBK.out; omega) AT1.out).mono ?_
      rintro e w2 ⟨rfl, hb2⟩
      have hsz1 := B1.out.size
      have B2 := Lib.hid (B1.out.trans (hb2.mono hsz1))
      have RB2 := Lib.hid (RB1.out.below hb2 RB1.out.lt)
      have HR3 := Lib.hid (HR2.out.below hb2 HR2.out.lt)
      have AT2 := Lib.hid (AT1.out.below hb2 hb2.size)
      clear hb2 hcb hca
      have hcb := fun i => RB2.out.cell i
      have hca := fun i => HR3.out.cell i
      cases ho : (l[j]).ty.ok
      case false =>
        have HW := Lib.hid (subOk_no hlt (show subBad l j l[j] = true by unfold subBad; rw [ho]; simp))
        go_wp2_with fail
        go_ret
        exact ⟨ret_bool HW.out.symm, B2.out⟩
      have HV := Lib.hid (show subBad l j l[j] = ((l[j]).ty.vs []).any (fun n => decide (idxI (fun x : GBind => x.n == n) l ≥ 0)) by unfold subBad; rw [hn, HI.out, ho, vs_any]; rfl)
      clear hn ho
      go_wp2_with fail
      refine (implFreeVars (l[j]).ty A1 c1 _ HBK.out AT2.out).mono ?_
      rintro e w3 ⟨A3, c3, rfl, ho3, hb3⟩
      have O3 := Lib.hid (ho3.sl.keep (S' := Lt w3.heap.size) fun b hb => ⟨hb.2, rfl⟩)
      have hsz2 := B2.out.size
      have B3 := Lib.hid (B2.out.trans (hb3.mono hsz2))
      have RB3 := Lib.hid (RB2.out.below hb3 RB2.out.lt)
      have HR4 := Lib.hid (HR3.out.below hb3 HR3.out.lt)
      have S3 := Lib.hid (S0.out.below B3.out B3.out.size)
      clear hb3 ho3 hcb hca
      have hcb := fun i => RB3.out.cell i
      have hca := fun i => HR4.out.cell i
      go_wp2_with fail
      refine (containsFuncint 48 (enters Try.func48 (by kernel_rfl) (by kernel_rfl)) #[.pointer (some ⟨w.heap.size, 0, none⟩)] (fun n => decide (idxI (fun x : GBind => x.n == n) l ≥ 0)) ((l[j]).ty.vs []) A3 c3 _ O3.out
        (fun x hx w4 hb4 _ => implSubOk1 l (some ⟨b, off, none⟩) c x w.heap.size w4 ((HR4.out.below hb4 HR4.out.lt).cell 0) (S3.out.below hb4 hb4.size))).mono ?_
      rintro e w4 ⟨rfl, hb4⟩
      rw [← HV.out]
      have hsz3 := B3.out.size
      have B4 := Lib.hid (B3.out.trans (hb4.mono hsz3))
      have HR5 := Lib.hid (HR4.out.below hb4 HR4.out.lt)
      clear hb4 hcb hca
      cases he : subBad l j l[j]
      · have HU := Lib.hid (HN.out.succ hlt he)
        go_wp2_with fail
        go_roundw
        case rel => exact ⟨j + 1, by omega, by go_num, HU, HR5, B4⟩
        case measure => simp [intOf]; omega
      · have HW := Lib.hid (subOk_no hlt he)
        go_wp2_with fail
        go_ret
        exact ⟨ret_bool HW.out.symm, B4.out⟩
    · have HW := Lib.hid (subOk_yes (fun i h => HN.out i h (by omega)))
      go_wp2_with fail
      go_ret
      exact ⟨ret_bool HW.out.symm, HB.out⟩
end Go.Proofs.Ytghldoiblbcacaa

/- Copies of the trees of the Go struct Ty, in the program and in the reference. Conditions: none but a bound on the size. -/
namespace Go.Proofs.Ytghldoiblbcacaa
open Go.RowKit
set_option linter.unusedVariables false
set_option linter.unusedSimpArgs false
set_option maxHeartbeats 1000000

set_option maxRecDepth 20000 in
theorem implCopyTy (k : Nat) : ∀ (t : GTy) (A1 : Option Addr) (c1 : Nat) (w : World), t.bulk < k → t.bulk ≤ 1048576 → GTy.At w (Lt w.heap.size) A1 c1 t →
    Calls Try.prog 50 #[.agg #[.int .i64 t.op, .int .i64 t.n, .string t.s, .slice A1 t.kids.length c1]] w (ToTy t w) := by
  induction k with
  | zero => intro t A1 c1 w hk; omega
  | succ k ih =>
    intro t A1 c1 w hk h1 hat
    have hbe := t.bulk_eq
    have hlen : t.kids.length ≤ 1048576 := by have := bulkL_len GTy.bulk t.kids; omega
    have HH := Lib.hid (fun (j : Nat) (h : j < t.kids.length) (A1 : Option Addr) (c1 : Nat) (w : World) => ih t.kids[j] A1 c1 w (by have := bulkL_mem GTy.bulk t.kids _ (List.getElem_mem h); omega) (by have := bulkL_mem GTy.bulk t.kids _ (List.getElem_mem h); omega))
    have T0 := Lib.hid hat
    clear ih hbe hk h1 hat
    obtain ⟨w0, e0⟩ : ∃ w0, w0 = ((w.alloc (.cells #[.int .i64 t.op, .int .i64 t.n, .string t.s, .slice A1 t.kids.length c1] 27)).alloc (.cells #[.int .i64 0, .int .i64 0, .string ⟨#[]⟩, .slice none 0 0] 27)).alloc (.cells #[] 27) := ⟨_, rfl⟩
    have B0 : Below w.heap.size w w0 := by rw [e0]; exact (((Below.refl _ _).alloc (Nat.le_refl _) _).alloc (by simp) _).alloc (by simp; omega) _
    have S0 : w0.heap.size = w.heap.size + 3 := by rw [e0]; simp
    have Ra0 : Row w0 w.heap.size 27 #[.int .i64 t.op, .int .i64 t.n, .string t.s, .slice A1 t.kids.length c1] := by rw [e0]; exact ((Row.new' _ _ _ rfl).alloc _).alloc _
    have Rz0 : Row w0 (w.heap.size + 1) 27 #[.int .i64 0, .int .i64 0, .string ⟨#[]⟩, .slice none 0 0] := by rw [e0]; exact (Row.new' _ _ _ (by simp)).alloc _
    have Re0 : Row w0 (w.heap.size + 1 + 1) 27 #[] := by rw [e0]; exact Row.new' _ _ _ (by simp)
    have G0 := Lib.hid (Gow.made (B := w.heap.size + 2) (m := w0.heap.size) (size := 4) Re0 (by omega) (by omega))
    have HB0 := Lib.hid B0
    have HRa0 := Lib.hid Ra0
    have HRz0 := Lib.hid Rz0
    clear B0 S0 Ra0 Rz0 Re0
    go_enter Try.func50, Try.ntmps50
    go_wp2_with fail
    rw [← e0]
    clear e0
    go_loopw [3, 10] (fun v i wr => ∃ (j : Nat) (A : Option Addr) (c : Nat), j ≤ t.kids.length ∧ i = .int .i64 j ∧ v = .slice A j c ∧ Hid (Gow wr (w.heap.size + 2) wr.heap.size 27 4 (.slice A j c) j ((t.kids.take j).map GTy.toD)) ∧ Hid (Row wr w.heap.size 27 #[.int .i64 t.op, .int .i64 t.n, .string t.s, .slice A1 t.kids.length c1]) ∧ Hid (Row wr (w.heap.size + 1) 27 #[.int .i64 0, .int .i64 0, .string ⟨#[]⟩, .slice none 0 0]) ∧ Below w.heap.size w wr) (fun _ i _ => t.kids.length - (intOf i).toNat)
    case atStart => exact ⟨0, _, _, by omega, by go_num, rfl, G0, HRa0, HRz0, HB0.out⟩
    case round =>
      clear G0 HRa0 HRz0 HB0
      obtain ⟨j, A, c, hj, rfl, rfl, HG, HRa, HRz, hbl⟩ := hrel
      have hsz := hbl.size
      have hzl := HRz.out.lt
      by_cases hlt : j < t.kids.length
      · obtain ⟨b, off, A2, c2, eA, hSb, g0, g1, g2, g3, hat⟩ := GTy.elem (T0.out.below hbl (Nat.le_refl _)).2.2.2 j hlt
        have eA' := Lib.hid eA
        have E1 := Lib.hid (show Below wr.heap.size wr (wr.alloc (.cells #[.int .i64 (t.kids[j]).op, .int .i64 (t.kids[j]).n, .string (t.kids[j]).s, .slice A2 (t.kids[j]).kids.length c2] 27)) from (Below.refl _ _).alloc (Nat.le_refl _) _)
        have HA := Lib.hid (hat.keep (S' := Lt (wr.alloc (.cells #[.int .i64 (t.kids[j]).op, .int .i64 (t.kids[j]).n, .string (t.kids[j]).s, .slice A2 (t.kids[j]).kids.length c2] 27)).heap.size) (w' := wr.alloc (.cells #[.int .i64 (t.kids[j]).op, .int .i64 (t.kids[j]).n, .string (t.kids[j]).s, .slice A2 (t.kids[j]).kids.length c2] 27)) fun q hq => ⟨Nat.lt_of_lt_of_le hq (Nat.le_trans hsz E1.out.size), Below.heap_alloc _ _ _ (Nat.lt_of_lt_of_le hq hsz)⟩)
        clear hat
        subst eA
        go_wp2_with fail
        refine (HH.out j hlt A2 c2 _ HA.out).mono ?_
        rintro e w1 ⟨A3, c3, rfl, how, hb1⟩
        have B1 := Lib.hid (E1.out.trans (hb1.mono E1.out.size))
        have HG1 := HG.out.below B1.out (Nat.le_refl _)
        have how1 := GTy.own_mk (how.keep (S' := Btw wr.heap.size w1.heap.size) (w' := w1) fun q hq => ⟨⟨Nat.le_trans E1.out.size hq.1, hq.2⟩, rfl⟩)
        clear how hb1
        go_wp2_with (first | (at_builtin; refine wpList_append_D w1 rfl (.tmp 14) (.tmp 17) 25 rfl 27 zTy 4 56 Try.underlying25 (by kernel_rfl) rfl (by omega) (w.heap.size + 2) wr.heap.size _ j _ HG1 (t.kids[j]).toD [.int .i64 (t.kids[j]).op, .int .i64 (t.kids[j]).n, .string (t.kids[j]).s, .slice A3 (t.kids[j]).kids.length c3] how1 (by omega) B1.out.size rfl (by simp [Value.oneCell']) (by omega) (by omega) 27 rfl w1.heap.size rfl rfl ?_; intro g cap w2 G2 Bq2 hs2 hg2 hgl2))
        go_roundw
        case rel =>
          have X2 := (Bq2.mono (show w.heap.size ≤ w.heap.size + 2 by omega))
          exact ⟨j + 1, _, _, by omega, by go_num, rfl, Lib.hid (by rw [take_snoc' t.kids j hlt, List.map_append]; exact G2), Lib.hid ((HRa.out.below B1.out (by omega)).below Bq2 (by omega)), Lib.hid ((HRz.out.below B1.out (by omega)).below Bq2 (by omega)), (hbl.trans (B1.out.mono hsz)).trans X2⟩
        case measure => simp [intOf]; omega
      · have hjl : j = t.kids.length := by omega
        obtain ⟨A', c', eV, how⟩ := HG.out.osl
        obtain ⟨rfl, rfl⟩ : A = A' ∧ c = c' := by simpa using eV
        subst hjl
        rw [List.take_length] at how
        clear eV HG hlt hj
        obtain ⟨p0, p1, p2, -⟩ := T0.out
        have hca := fun i => HRa.out.cell i
        have hcz := fun i => HRz.out.cell i
        have hfa := fun i => HRa.out.frozen i
        have hfz := fun i => HRz.out.frozen i
        have B1 := setCells_below hbl w.heap.size 3 (Nat.le_refl _) [.slice A t.kids.length c]
        have BF := setCells_below B1 (w.heap.size + 1) 0 (by omega) [.int .i64 t.op, .int .i64 t.n, .string t.s, .slice A t.kids.length c]
        have SF : (setCells (setCells wr w.heap.size 3 [.slice A t.kids.length c]) (w.heap.size + 1) 0 [.int .i64 t.op, .int .i64 t.n, .string t.s, .slice A t.kids.length c]).heap.size = wr.heap.size := by rw [setCells_size, setCells_size]
        have how2 := how.keep (S' := Btw w.heap.size (setCells (setCells wr w.heap.size 3 [.slice A t.kids.length c]) (w.heap.size + 1) 0 [.int .i64 t.op, .int .i64 t.n, .string t.s, .slice A t.kids.length c]).heap.size) (w' := setCells (setCells wr w.heap.size 3 [.slice A t.kids.length c]) (w.heap.size + 1) 0 [.int .i64 t.op, .int .i64 t.n, .string t.s, .slice A t.kids.length c]) fun q hq => ⟨⟨by have := hq.1; omega, by rw [SF]; exact hq.2⟩, (setCells_block _ _ _ _ _ (by have := hq.1; omega)).trans (setCells_block _ _ _ _ _ (by have := hq.1; omega))⟩
        have HOW := Lib.hid how2
        have HBF := Lib.hid BF
        clear how how2 BF B1 SF
        go_wp2_with fail
        exact bodyPost_ret (v := .agg #[.int .i64 t.op, .int .i64 t.n, .string t.s, .slice A t.kids.length c]) (by simp [results, Try.results50, go_sem, hca, hcz]) rfl ⟨A, c, rfl, ⟨p0, p1, p2, HOW.out⟩, HBF.out⟩

theorem implCopyTy' (t : GTy) (A1 : Option Addr) (c1 : Nat) (w : World) (h1 : t.bulk ≤ 1048576) (hat : GTy.At w (Lt w.heap.size) A1 c1 t) :
    Calls Try.prog 50 #[.agg #[.int .i64 t.op, .int .i64 t.n, .string t.s, .slice A1 t.kids.length c1]] w (ToTy t w) := implCopyTy (t.bulk + 1) t A1 c1 w (by omega) h1 hat

set_option maxRecDepth 20000 in
theorem specTyCopy (k : Nat) : ∀ (t : GTy) (A1 : Option Addr) (c1 : Nat) (w : World), t.bulk < k → t.bulk ≤ 1048576 → GTy.At w (Lt w.heap.size) A1 c1 t →
    Calls Try.prog 54 #[.agg #[.int .i64 t.op, .int .i64 t.n, .string t.s, .slice A1 t.kids.length c1]] w (ToTy t w) := by
  induction k with
  | zero => intro t A1 c1 w hk; omega
  | succ k ih =>
    intro t A1 c1 w hk h1 hat
    have hbe := t.bulk_eq
    have hlen : t.kids.length ≤ 1048576 := by have := bulkL_len GTy.bulk t.kids; omega
    have HH := Lib.hid (fun (j : Nat) (h : j < t.kids.length) (A1 : Option Addr) (c1 : Nat) (w : World) => ih t.kids[j] A1 c1 w (by have := bulkL_mem GTy.bulk t.kids _ (List.getElem_mem h); omega) (by have := bulkL_mem GTy.bulk t.kids _ (List.getElem_mem h); omega))
    have T0 := Lib.hid hat
    clear ih hbe hk h1 hat
    obtain ⟨w0, e0⟩ : ∃ w0, w0 = ((w.alloc (.cells #[.int .i64 t.op, .int .i64 t.n, .string t.s, .slice A1 t.kids.length c1] 27)).alloc (.cells #[.int .i64 0, .int .i64 0, .string ⟨#[]⟩, .slice none 0 0] 27)).alloc (.cells #[.int .i64 t.op, .int .i64 t.n, .string t.s, .slice none 0 0] 27) := ⟨_, rfl⟩
    have B0 : Below w.heap.size w w0 := by rw [e0]; exact (((Below.refl _ _).alloc (Nat.le_refl _) _).alloc (by simp) _).alloc (by simp; omega) _
    have S0 : w0.heap.size = w.heap.size + 3 := by rw [e0]; simp
    have Ra0 : Row w0 w.heap.size 27 #[.int .i64 t.op, .int .i64 t.n, .string t.s, .slice A1 t.kids.length c1] := by rw [e0]; exact ((Row.new' _ _ _ rfl).alloc _).alloc _
    have Rz0 : Row w0 (w.heap.size + 1) 27 #[.int .i64 0, .int .i64 0, .string ⟨#[]⟩, .slice none 0 0] := by rw [e0]; exact (Row.new' _ _ _ (by simp)).alloc _
    have Ro0 : Row w0 (w.heap.size + 1 + 1) 27 #[.int .i64 t.op, .int .i64 t.n, .string t.s, .slice none 0 0] := by rw [e0]; exact Row.new' _ _ _ (by simp)
    have HB0 := Lib.hid B0
    have HRa0 := Lib.hid Ra0
    have HRz0 := Lib.hid Rz0
    have HRo0 := Lib.hid Ro0
    have hs0 : w.heap.size + 3 ≤ w0.heap.size := by omega
    clear B0 S0 Ra0 Rz0 Ro0
    go_enter Try.func54, Try.ntmps54
    go_wp2_with fail
    rw [← e0]
    clear e0
    go_loopw [4] (fun i wr => ∃ (j : Nat) (A : Option Addr) (c : Nat), j ≤ t.kids.length ∧ i = .int .i64 j ∧ Hid (Gow wr (w.heap.size + 3) wr.heap.size 27 4 (.slice A j c) j ((t.kids.take j).map GTy.toD)) ∧ Hid (Row wr w.heap.size 27 #[.int .i64 t.op, .int .i64 t.n, .string t.s, .slice A1 t.kids.length c1]) ∧ Hid (Row wr (w.heap.size + 1) 27 #[.int .i64 0, .int .i64 0, .string ⟨#[]⟩, .slice none 0 0]) ∧ Hid (Row wr (w.heap.size + 1 + 1) 27 #[.int .i64 t.op, .int .i64 t.n, .string t.s, .slice A j c]) ∧ w.heap.size + 3 ≤ wr.heap.size ∧ Below w.heap.size w wr) (fun i _ => t.kids.length - (intOf i).toNat)
    case atStart => exact ⟨0, none, 0, by omega, by go_num, Lib.hid (Gow.nil _ _ _ _ _), HRa0, HRz0, HRo0, hs0, HB0.out⟩
    case round =>
      clear HRa0 HRz0 HRo0 HB0 hs0
      obtain ⟨j, A, c, hj, rfl, HG, HRa, HRz, HRo, hs3, hbl⟩ := hrel
      have hsz := hbl.size
      have hca := fun i => HRa.out.cell i
      have hco := fun i => HRo.out.cell i
      by_cases hlt : j < t.kids.length
      · obtain ⟨b, off, A2, c2, eA, hSb, g0, g1, g2, g3, hat⟩ := GTy.elem (T0.out.below hbl (Nat.le_refl _)).2.2.2 j hlt
        subst eA
        have hblt : b < wr.heap.size := Nat.lt_of_lt_of_le hSb hsz
        have hSb' : b < w.heap.size := hSb
        have HA := Lib.hid (hat.keep (S' := Lt wr.drew.heap.size) (w' := wr.drew) fun q hq => ⟨Nat.lt_of_lt_of_le hq hsz, rfl⟩)
        clear hat
        go_wp2_with fail
        go_region_law (first
          | (refine step_append_D w1 rfl (.tmp 20) (.tmp 27) 25 rfl 27 zTy 4 56 Try.underlying25 (by kernel_rfl) rfl (by omega) (w.heap.size + 3) wr.heap.size _ j _ HG1.out (t.kids[j]).toD [.int .i64 (t.kids[j]).op, .int .i64 (t.kids[j]).n, .string (t.kids[j]).s, .slice A3 (t.kids[j]).kids.length c3] how1.out (by omega) B1.out.size rfl (by simp [Value.oneCell']) (by omega) (by omega) 27 rfl w1.heap.size rfl rfl ?_
             intro g cap w2 G2 Bq2 hs2 hg2 hgl2
             have G3 := Lib.hid G2
             have B2 := Lib.hid Bq2
             have Ro3 := Lib.hid (Ro1.out.below Bq2 (by omega))
             have hco3 := fun i => Ro3.out.cell i
             have hfo3 := fun i => Ro3.out.frozen i
             clear G2 Bq2)
          | (go_simp
             go_at_call 54
             refine (HH.out j hlt A2 c2 _ HA.out).mono ?_
             rintro e w1 ⟨A3, c3, rfl, how, hb1⟩
             have B1 := Lib.hid (((Below.refl wr.heap.size wr).drew).trans hb1)
             have Ra1 := Lib.hid (HRa.out.below B1.out (by omega))
             have Ro1 := Lib.hid (HRo.out.below B1.out (by omega))
             have hca1 := fun i => Ra1.out.cell i
             have hco1 := fun i => Ro1.out.cell i
             have hco2 := Ro1.out.lt
             have HG1 := Lib.hid (HG.out.below B1.out (Nat.le_refl _))
             have how1 := Lib.hid (GTy.own_mk (how.keep (S' := Btw wr.heap.size w1.heap.size) (w' := w1) fun q hq => ⟨hq, rfl⟩))
             clear how hb1))
        all_goals
          go_wp2_with fail
          go_roundw
          case rel =>
            have B3 := (hbl.trans (B1.out.mono hsz)).trans (B2.out.mono (show w.heap.size ≤ w.heap.size + 3 by omega))
            refine ⟨j + 1, _, _, by omega, by go_num, Lib.hid (show Gow (w2.setCell ⟨w.heap.size + 1 + 1, 3, none⟩ (.slice (some ⟨g, 0, none⟩) (j + 1) cap)) (w.heap.size + 3) (w2.setCell ⟨w.heap.size + 1 + 1, 3, none⟩ (.slice (some ⟨g, 0, none⟩) (j + 1) cap)).heap.size 27 4 (.slice (some ⟨g, 0, none⟩) (j + 1) cap) (j + 1) ((t.kids.take (j + 1)).map GTy.toD) from ?_), Lib.hid (((HRa.out.below B1.out (by omega)).below B2.out (by omega)).far (p := ⟨w.heap.size + 1 + 1, 3, none⟩) (by simp <;> omega) _), Lib.hid (((HRz.out.below B1.out (by omega)).below B2.out (by omega)).far (p := ⟨w.heap.size + 1 + 1, 3, none⟩) (by simp <;> omega) _), Lib.hid (Ro3.out.set 3 _), ?_, B3.setCell (p := ⟨w.heap.size + 1 + 1, 3, none⟩) (by simp <;> omega) _⟩
            · rw [take_snoc' t.kids j hlt, List.map_append]
              exact G3.out.keep (by simp [World.setCell]) (fun q hq _ => Below.heap_setCell _ ⟨w.heap.size + 1 + 1, 3, none⟩ _ q (by simp <;> omega))
            · have := B3.size; have := B1.out.size; simp [World.setCell]; omega
          case measure => simp [intOf]; omega
      · have hjl : j = t.kids.length := by omega
        obtain ⟨A', c', eV, how⟩ := HG.out.osl
        obtain ⟨rfl, rfl⟩ : A = A' ∧ c = c' := by simpa using eV
        subst hjl
        rw [List.take_length] at how
        clear eV HG hlt hj hca hco
        obtain ⟨p0, p1, p2, -⟩ := T0.out
        have hca := fun i => HRa.out.cell i
        have hco := fun i => HRo.out.cell i
        have hcz := fun i => HRz.out.cell i
        have hfz := fun i => HRz.out.frozen i
        have BF := setCells_below hbl (w.heap.size + 1) 0 (by omega) [.int .i64 t.op, .int .i64 t.n, .string t.s, .slice A t.kids.length c]
        have SF : (setCells wr (w.heap.size + 1) 0 [.int .i64 t.op, .int .i64 t.n, .string t.s, .slice A t.kids.length c]).heap.size = wr.heap.size := by rw [setCells_size]
        have how2 := how.keep (S' := Btw w.heap.size (setCells wr (w.heap.size + 1) 0 [.int .i64 t.op, .int .i64 t.n, .string t.s, .slice A t.kids.length c]).heap.size) (w' := setCells wr (w.heap.size + 1) 0 [.int .i64 t.op, .int .i64 t.n, .string t.s, .slice A t.kids.length c]) fun q hq => ⟨⟨by have := hq.1; omega, by rw [SF]; exact hq.2⟩, setCells_block _ _ _ _ _ (by have := hq.1; omega)⟩
        have HOW := Lib.hid how2
        have HBF := Lib.hid BF
        clear how how2 BF SF
        go_wp2_with fail
        exact bodyPost_ret (v := .agg #[.int .i64 t.op, .int .i64 t.n, .string t.s, .slice A t.kids.length c]) (by simp [results, Try.results54, go_sem, hca, hcz, hco]) rfl ⟨A, c, rfl, ⟨p0, p1, p2, HOW.out⟩, HBF.out⟩

theorem specTyCopy' (t : GTy) (A1 : Option Addr) (c1 : Nat) (w : World) (h1 : t.bulk ≤ 1048576) (hat : GTy.At w (Lt w.heap.size) A1 c1 t) :
    Calls Try.prog 54 #[.agg #[.int .i64 t.op, .int .i64 t.n, .string t.s, .slice A1 t.kids.length c1]] w (ToTy t w) := specTyCopy (t.bulk + 1) t A1 c1 w (by omega) h1 hat

end Go.Proofs.Ytghldoiblbcacaa

/- Types with others in place of vars (no program in sight). Conditions: none. -/
namespace Go.Proofs.Ytghldoiblbcacaa
open Go.RowKit
set_option linter.unusedVariables false
set_option linter.unusedSimpArgs false

mutual
/-- a type, where f says what stands for a bare var -/
def GTy.sub (f : Int → Option GTy) : GTy → GTy | .mk op n s kids => match (if op = 2 ∧ kids.length = 0 then f n else none) with | some t => t | none => .mk op n s (GTy.subL f kids)
def GTy.subL (f : Int → Option GTy) : List GTy → List GTy | [] => [] | t :: r => t.sub f :: GTy.subL f r
end
theorem GTy.subL_map (f : Int → Option GTy) : ∀ l : List GTy, GTy.subL f l = l.map (GTy.sub f)
  | [] => by simp only [GTy.subL, List.map_nil]
  | t :: r => by simp only [GTy.subL, List.map_cons, GTy.subL_map f r]
theorem GTy.sub_some {f : Int → Option GTy} {t u : GTy} (h1 : t.op = 2) (h2 : t.kids.length = 0) (h : f t.n = some u) : t.sub f = u := by
  cases t with
  | mk op n s kids => simp only [GTy.op, GTy.kids, GTy.n] at h1 h2 h; simp only [GTy.sub]; rw [if_pos ⟨h1, h2⟩, h]
theorem GTy.sub_none {f : Int → Option GTy} {t : GTy} (h : ¬ (t.op = 2 ∧ t.kids.length = 0) ∨ f t.n = none) : t.sub f = .mk t.op t.n t.s (t.kids.map (GTy.sub f)) := by
  cases t with
  | mk op n s kids =>
    simp only [GTy.op, GTy.kids, GTy.n, GTy.s] at h ⊢
    simp only [GTy.sub, GTy.subL_map]
    rcases h with h | h
    · rw [if_neg h]
    · rw [h]; split <;> simp_all
theorem GTy.mk_s (op n : Int) (s : ByteArray) (kids : List GTy) : (GTy.mk op n s kids).s = s := rfl
theorem GTy.mk_kids (op n : Int) (s : ByteArray) (kids : List GTy) : (GTy.mk op n s kids).kids = kids := rfl
theorem GTy.sub_bulk (f : Int → Option GTy) (M : Nat) (H : ∀ n u, f n = some u → u.bulk ≤ M) : ∀ k : Nat, ∀ t : GTy, t.bulk < k → (t.sub f).bulk + 1 ≤ (t.bulk + 1) * (M + 1) := by
  intro k
  induction k with
  | zero => intro t h; omega
  | succ k ih =>
    intro t hk
    have hbe := t.bulk_eq
    by_cases hv : t.op = 2 ∧ t.kids.length = 0
    · cases hf : f t.n with
      | some u =>
        rw [GTy.sub_some hv.1 hv.2 hf]
        have := H _ _ hf
        have : 1 * (M + 1) ≤ (t.bulk + 1) * (M + 1) := Nat.mul_le_mul_right _ (by omega)
        omega
      | none =>
        have hk0 : t.kids = [] := List.eq_nil_of_length_eq_zero hv.2
        have e := GTy.bulk_eq (.mk t.op t.n t.s (t.kids.map (GTy.sub f)))
        rw [GTy.sub_none (.inr hf), e, GTy.mk_s, GTy.mk_kids, hk0, List.map_nil]
        rw [hk0] at hbe
        simp only [bulkL] at hbe ⊢
        have : (t.bulk + 1) * 1 ≤ (t.bulk + 1) * (M + 1) := Nat.mul_le_mul_left _ (by omega)
        omega
    · rw [GTy.sub_none (.inl hv), GTy.bulk_eq, GTy.mk_s, GTy.mk_kids]
      have hL : ∀ l : List GTy, (∀ x, x ∈ l → x.bulk < k) → bulkL GTy.bulk (l.map (GTy.sub f)) ≤ bulkL GTy.bulk l * (M + 1) := by
        intro l hl
        induction l with
        | nil => simp [bulkL]
        | cons x r ih2 =>
          simp only [List.map_cons, bulkL]
          have a := ih x (hl x (by simp))
          have b := ih2 (fun y hy => hl y (by simp [hy]))
          have : (1 + x.bulk + bulkL GTy.bulk r) * (M + 1) = (x.bulk + 1) * (M + 1) + bulkL GTy.bulk r * (M + 1) := by rw [← Nat.add_mul]; congr 1; omega
          omega
      have := hL t.kids (fun x hx => by have := bulkL_mem GTy.bulk t.kids x hx; omega)
      have e : (t.bulk + 1) * (M + 1) = (t.s.size + 1) * (M + 1) + bulkL GTy.bulk t.kids * (M + 1) := by rw [← Nat.add_mul]; congr 1; omega
      have : (t.s.size + 1) * 1 ≤ (t.s.size + 1) * (M + 1) := Nat.mul_le_mul_left _ (by omega)
      omega

/-- what a substitution has for a var -/
def bindOf (l : List GBind) (n : Int) : Option GTy := match l.find? (fun b => b.n == n) with | some b => some b.ty | none => none
theorem idxI_find {l : List GBind} {n : Int} : (∃ j, ∃ h : j < l.length, idxI (fun b : GBind => b.n == n) l = (j : Int) ∧ bindOf l n = some l[j].ty) ∨ (idxI (fun b : GBind => b.n == n) l = -1 ∧ bindOf l n = none) := by
  induction l with
  | nil => exact .inr ⟨rfl, rfl⟩
  | cons x r ih =>
    by_cases hx : (x.n == n) = true
    · refine .inl ⟨0, by simp, by simp [idxI, hx], by simp [bindOf, hx]⟩
    · have hx' : (x.n == n) = false := by simpa using hx
      rcases ih with ⟨j, h, e1, e2⟩ | ⟨e1, e2⟩
      · refine .inl ⟨j + 1, by simpa using h, ?_, ?_⟩
        · simp only [idxI, hx']; rw [e1]; simp; omega
        · simp only [bindOf, List.find?_cons, hx'] at e2 ⊢; simpa using e2
      · refine .inr ⟨?_, ?_⟩
        · simp only [idxI, hx']; rw [e1]; simp
        · simp only [bindOf, List.find?_cons, hx'] at e2 ⊢; simpa using e2
theorem bindOf_bulk {l : List GBind} {n : Int} {u : GTy} (h : bindOf l n = some u) : u.bulk ≤ bulkL GBind.bulk l := by
  unfold bindOf at h
  split at h
  · rename_i b hb
    cases h
    have := bulkL_mem GBind.bulk l b (List.mem_of_find?_eq_some hb)
    have := b.bulk_eq
    omega
  · cases h
end Go.Proofs.Ytghldoiblbcacaa

/- Apply: what a substitution makes of a type, in the program and in the reference. Conditions: none but a bound on the sizes. -/
namespace Go.Proofs.Ytghldoiblbcacaa
open Go.RowKit
set_option linter.unusedVariables false
set_option linter.unusedSimpArgs false
set_option maxHeartbeats 1000000

set_option maxRecDepth 20000 in
theorem implApply (k : Nat) : ∀ (l : List GBind) (Bl : Option Addr) (bc : Nat) (t : GTy) (A1 : Option Addr) (c1 : Nat) (w : World), t.bulk < k → t.bulk ≤ 1048576 → bulkL GBind.bulk l ≤ 1048576 → Sl w (Lt w.heap.size) 5 Bl bc (l.map GBind.toD) → GTy.At w (Lt w.heap.size) A1 c1 t →
    Calls Try.prog 12 #[.slice Bl l.length bc, .agg #[.int .i64 t.op, .int .i64 t.n, .string t.s, .slice A1 t.kids.length c1]] w (ToTy (t.sub (bindOf l)) w) := by
  induction k with
  | zero => intros; omega
  | succ k ih =>
    intro l Bl bc t A1 c1 w hk h1 hl hs hat
    have hbe := t.bulk_eq
    have hlen : t.kids.length ≤ 1048576 := by have := bulkL_len GTy.bulk t.kids; omega
    obtain ⟨F, hF⟩ : ∃ F, F = bindOf l := ⟨_, rfl⟩
    have HF := Lib.hid hF
    have HH := Lib.hid (fun (j : Nat) (h : j < t.kids.length) (A1 : Option Addr) (c1 : Nat) (w : World) => ih l Bl bc t.kids[j] A1 c1 w (by have := bulkL_mem GTy.bulk t.kids _ (List.getElem_mem h); omega) (by have := bulkL_mem GTy.bulk t.kids _ (List.getElem_mem h); omega))
    rw [← hF] at HH ⊢
    have HSl := Lib.hid hs
    have HL := Lib.hid hl
    have T0 := Lib.hid hat
    clear ih hbe hk h1 hat hF hs hl
    have E0 := Lib.hid (show Below w.heap.size w ((w.alloc (.cells #[.int .i64 t.op, .int .i64 t.n, .string t.s, .slice A1 t.kids.length c1] 27)).alloc (.cells #[.int .i64 0, .int .i64 0, .string ⟨#[]⟩, .slice none 0 0] 27)) from ((Below.refl _ _).alloc (Nat.le_refl _) _).alloc (by simp) _)
    have S0 : w.heap.size + 2 ≤ ((w.alloc (.cells #[.int .i64 t.op, .int .i64 t.n, .string t.s, .slice A1 t.kids.length c1] 27)).alloc (.cells #[.int .i64 0, .int .i64 0, .string ⟨#[]⟩, .slice none 0 0] 27)).heap.size := by simp
    have Ra0 := Lib.hid ((Row.new' w 27 #[.int .i64 t.op, .int .i64 t.n, .string t.s, .slice A1 t.kids.length c1] (g := w.heap.size) rfl).alloc (.cells #[.int .i64 0, .int .i64 0, .string ⟨#[]⟩, .slice none 0 0] 27))
    have Rz0 := Lib.hid (Row.new' (w.alloc (.cells #[.int .i64 t.op, .int .i64 t.n, .string t.s, .slice A1 t.kids.length c1] 27)) 27 #[.int .i64 0, .int .i64 0, .string ⟨#[]⟩, .slice none 0 0] (g := w.heap.size + 1) (by simp))
    cases o2 : (t.op == 2)
    · have ho2 : ¬ t.op = 2 := by simpa using o2
      have HN := Lib.hid (show t.sub F = _ from GTy.sub_none (.inl (fun e => ho2 e.1)))
      clear ho2
      go_enter Try.func12, Try.ntmps12
      obtain ⟨w0, e0⟩ : ∃ w0, w0 = ((w.alloc (.cells #[.int .i64 t.op, .int .i64 t.n, .string t.s, .slice A1 t.kids.length c1] 27)).alloc (.cells #[.int .i64 0, .int .i64 0, .string ⟨#[]⟩, .slice none 0 0] 27)).alloc (.cells #[] 27) := ⟨_, rfl⟩
      have HB0 := Lib.hid (show Below w.heap.size w w0 by rw [e0]; exact E0.out.alloc E0.out.size _)
      have HRa0 := Lib.hid (show Row w0 w.heap.size 27 #[.int .i64 t.op, .int .i64 t.n, .string t.s, .slice A1 t.kids.length c1] by rw [e0]; exact Ra0.out.alloc _)
      have HRz0 := Lib.hid (show Row w0 (w.heap.size + 1) 27 #[.int .i64 0, .int .i64 0, .string ⟨#[]⟩, .slice none 0 0] by rw [e0]; exact Rz0.out.alloc _)
      have G0 := Lib.hid (show Gow w0 (w.heap.size + 2) w0.heap.size 27 4 (.slice (some ⟨w.heap.size + 1 + 1, 0, none⟩) 0 0) 0 [] by rw [e0]; exact Gow.made (Row.new' _ _ _ (by simp)) (by omega) (by simp))
      go_wp2_with fail
      rw [← e0]
      clear e0
      go_loopw [6, 35] (fun v i wr => ∃ (j : Nat) (A : Option Addr) (c : Nat), j ≤ t.kids.length ∧ i = .int .i64 j ∧ v = .slice A j c ∧ Hid (Gow wr (w.heap.size + 2) wr.heap.size 27 4 (.slice A j c) j (((t.kids.take j).map (GTy.sub F)).map GTy.toD)) ∧ Hid (Row wr w.heap.size 27 #[.int .i64 t.op, .int .i64 t.n, .string t.s, .slice A1 t.kids.length c1]) ∧ Hid (Row wr (w.heap.size + 1) 27 #[.int .i64 0, .int .i64 0, .string ⟨#[]⟩, .slice none 0 0]) ∧ Below w.heap.size w wr) (fun _ i _ => t.kids.length - (intOf i).toNat)
      case atStart => exact ⟨0, _, _, by omega, by go_num, rfl, G0, HRa0, HRz0, HB0.out⟩
      case round =>
        clear G0 HRa0 HRz0 HB0
        obtain ⟨j, A, c, hj, rfl, rfl, HG, HRa, HRz, hbl⟩ := hrel
        have hsz := hbl.size
        have hzl := HRz.out.lt
        by_cases hlt : j < t.kids.length
        · obtain ⟨b, off, A2, c2, eA, hSb, g0, g1, g2, g3, hat⟩ := GTy.elem (T0.out.below hbl (Nat.le_refl _)).2.2.2 j hlt
          have E1 := Lib.hid (show Below wr.heap.size wr (wr.alloc (.cells #[.int .i64 (t.kids[j]).op, .int .i64 (t.kids[j]).n, .string (t.kids[j]).s, .slice A2 (t.kids[j]).kids.length c2] 27)) from (Below.refl _ _).alloc (Nat.le_refl _) _)
          have HA := Lib.hid (hat.keep (S' := Lt (wr.alloc (.cells #[.int .i64 (t.kids[j]).op, .int .i64 (t.kids[j]).n, .string (t.kids[j]).s, .slice A2 (t.kids[j]).kids.length c2] 27)).heap.size) (w' := wr.alloc (.cells #[.int .i64 (t.kids[j]).op, .int .i64 (t.kids[j]).n, .string (t.kids[j]).s, .slice A2 (t.kids[j]).kids.length c2] 27)) fun q hq => ⟨Nat.lt_of_lt_of_le hq (Nat.le_trans hsz E1.out.size), Below.heap_alloc _ _ _ (Nat.lt_of_lt_of_le hq hsz)⟩)
          have HS2 := Lib.hid (HSl.out.below (show Below w.heap.size w (wr.alloc (.cells #[.int .i64 (t.kids[j]).op, .int .i64 (t.kids[j]).n, .string (t.kids[j]).s, .slice A2 (t.kids[j]).kids.length c2] 27)) from (hbl.alloc hsz _)) (Nat.le_trans hsz E1.out.size))
          clear hat
          subst eA
          go_wp2_with fail
          refine (HH.out j hlt A2 c2 _ HL.out HS2.out HA.out).mono ?_
          rintro e w1 ⟨A3, c3, rfl, how, hb1⟩
          have B1 := Lib.hid ((E1.out.trans (hb1.mono E1.out.size)).alloc (Nat.le_trans E1.out.size hb1.size) (.cells #[.int .i64 ((t.kids[j]).sub F).op, .int .i64 ((t.kids[j]).sub F).n, .string ((t.kids[j]).sub F).s, .slice A3 ((t.kids[j]).sub F).kids.length c3] 27))
          have HG1 := HG.out.below B1.out (Nat.le_refl _)
          have how1 := GTy.own_mk (how.keep (S' := Btw wr.heap.size (w1.alloc (.cells #[.int .i64 ((t.kids[j]).sub F).op, .int .i64 ((t.kids[j]).sub F).n, .string ((t.kids[j]).sub F).s, .slice A3 ((t.kids[j]).sub F).kids.length c3] 27)).heap.size) (w' := w1.alloc (.cells #[.int .i64 ((t.kids[j]).sub F).op, .int .i64 ((t.kids[j]).sub F).n, .string ((t.kids[j]).sub F).s, .slice A3 ((t.kids[j]).sub F).kids.length c3] 27)) fun q hq => ⟨⟨Nat.le_trans E1.out.size hq.1, Nat.lt_of_lt_of_le hq.2 (by simp)⟩, Below.heap_alloc _ _ _ hq.2⟩)
          clear how hb1
          go_wp2_with (first | (at_builtin; refine wpList_append_D (w1.alloc (.cells #[.int .i64 ((t.kids[j]).sub F).op, .int .i64 ((t.kids[j]).sub F).n, .string ((t.kids[j]).sub F).s, .slice A3 ((t.kids[j]).sub F).kids.length c3] 27)) rfl (.tmp 42) (.tmp 44) 25 rfl 27 zTy 4 56 Try.underlying25 (by kernel_rfl) rfl (by omega) (w.heap.size + 2) wr.heap.size _ j _ HG1 ((t.kids[j]).sub F).toD [.int .i64 ((t.kids[j]).sub F).op, .int .i64 ((t.kids[j]).sub F).n, .string ((t.kids[j]).sub F).s, .slice A3 ((t.kids[j]).sub F).kids.length c3] how1 (by omega) B1.out.size rfl (by simp [Value.oneCell']) (by omega) (by omega) 27 rfl (w1.alloc (.cells #[.int .i64 ((t.kids[j]).sub F).op, .int .i64 ((t.kids[j]).sub F).n, .string ((t.kids[j]).sub F).s, .slice A3 ((t.kids[j]).sub F).kids.length c3] 27)).heap.size rfl (by simp [Act.eval]) ?_; intro g cap w2 G2 Bq2 hs2 hg2 hgl2))
          go_roundw
          case rel =>
            have X2 := (Bq2.mono (show w.heap.size ≤ w.heap.size + 2 by omega))
            exact ⟨j + 1, _, _, by omega, by go_num, rfl, Lib.hid (by rw [take_snoc' t.kids j hlt, List.map_append, List.map_append]; exact G2), Lib.hid ((HRa.out.below B1.out (by omega)).below Bq2 (by omega)), Lib.hid ((HRz.out.below B1.out (by omega)).below Bq2 (by omega)), (hbl.trans (B1.out.mono hsz)).trans X2⟩
          case measure => simp [intOf]; omega
        · have hjl : j = t.kids.length := by omega
          obtain ⟨A', c', eV, how⟩ := HG.out.osl
          obtain ⟨rfl, rfl⟩ : A = A' ∧ c = c' := by simpa using eV
          subst hjl
          rw [List.take_length] at how
          clear eV HG hlt hj
          obtain ⟨p0, p1, p2, -⟩ := T0.out
          have hca := fun i => HRa.out.cell i
          have hcz := fun i => HRz.out.cell i
          have hfa := fun i => HRa.out.frozen i
          have hfz := fun i => HRz.out.frozen i
          have B1 := setCells_below hbl w.heap.size 3 (Nat.le_refl _) [.slice A t.kids.length c]
          have BF := setCells_below B1 (w.heap.size + 1) 0 (by omega) [.int .i64 t.op, .int .i64 t.n, .string t.s, .slice A t.kids.length c]
          have SF : (setCells (setCells wr w.heap.size 3 [.slice A t.kids.length c]) (w.heap.size + 1) 0 [.int .i64 t.op, .int .i64 t.n, .string t.s, .slice A t.kids.length c]).heap.size = wr.heap.size := by rw [setCells_size, setCells_size]
          have how2 := how.keep (S' := Btw w.heap.size (setCells (setCells wr w.heap.size 3 [.slice A t.kids.length c]) (w.heap.size + 1) 0 [.int .i64 t.op, .int .i64 t.n, .string t.s, .slice A t.kids.length c]).heap.size) (w' := (setCells (setCells wr w.heap.size 3 [.slice A t.kids.length c]) (w.heap.size + 1) 0 [.int .i64 t.op, .int .i64 t.n, .string t.s, .slice A t.kids.length c])) fun q hq => ⟨⟨by have := hq.1; omega, by rw [SF]; exact hq.2⟩, (setCells_block _ _ _ _ _ (by have := hq.1; omega)).trans (setCells_block _ _ _ _ _ (by have := hq.1; omega))⟩
          have HOW := Lib.hid how2
          have HBF := Lib.hid BF
          have HS := Lib.hid (HN.out)
          clear how how2 BF B1 SF
          go_wp2_with fail
          exact bodyPost_ret (v := .agg #[.int .i64 t.op, .int .i64 t.n, .string t.s, .slice A t.kids.length c]) (by simp [results, Try.results12, go_sem, hca, hcz]) rfl ⟨A, c, by rw [HS.out]; simp [GTy.op, GTy.n, GTy.s, GTy.kids], by rw [HS.out]; exact ⟨p0, p1, p2, HOW.out⟩, HBF.out⟩
    · have ho2 : t.op = 2 := by simpa using o2
      by_cases hk : t.kids.length = 0
      rotate_left
      · have hk2 : ((t.kids.length : Int) == 0) = false := by rw [beq_eq_false_iff_ne]; omega
        have HN := Lib.hid (show t.sub F = _ from GTy.sub_none (.inl (fun e => hk e.2)))
        clear ho2 hk
        go_enter Try.func12, Try.ntmps12
        obtain ⟨w0, e0⟩ : ∃ w0, w0 = ((w.alloc (.cells #[.int .i64 t.op, .int .i64 t.n, .string t.s, .slice A1 t.kids.length c1] 27)).alloc (.cells #[.int .i64 0, .int .i64 0, .string ⟨#[]⟩, .slice none 0 0] 27)).alloc (.cells #[] 27) := ⟨_, rfl⟩
        have HB0 := Lib.hid (show Below w.heap.size w w0 by rw [e0]; exact E0.out.alloc E0.out.size _)
        have HRa0 := Lib.hid (show Row w0 w.heap.size 27 #[.int .i64 t.op, .int .i64 t.n, .string t.s, .slice A1 t.kids.length c1] by rw [e0]; exact Ra0.out.alloc _)
        have HRz0 := Lib.hid (show Row w0 (w.heap.size + 1) 27 #[.int .i64 0, .int .i64 0, .string ⟨#[]⟩, .slice none 0 0] by rw [e0]; exact Rz0.out.alloc _)
        have G0 := Lib.hid (show Gow w0 (w.heap.size + 2) w0.heap.size 27 4 (.slice (some ⟨w.heap.size + 1 + 1, 0, none⟩) 0 0) 0 [] by rw [e0]; exact Gow.made (Row.new' _ _ _ (by simp)) (by omega) (by simp))
        go_wp2_with fail
        rw [← e0]
        clear e0
        go_loopw [6, 35] (fun v i wr => ∃ (j : Nat) (A : Option Addr) (c : Nat), j ≤ t.kids.length ∧ i = .int .i64 j ∧ v = .slice A j c ∧ Hid (Gow wr (w.heap.size + 2) wr.heap.size 27 4 (.slice A j c) j (((t.kids.take j).map (GTy.sub F)).map GTy.toD)) ∧ Hid (Row wr w.heap.size 27 #[.int .i64 t.op, .int .i64 t.n, .string t.s, .slice A1 t.kids.length c1]) ∧ Hid (Row wr (w.heap.size + 1) 27 #[.int .i64 0, .int .i64 0, .string ⟨#[]⟩, .slice none 0 0]) ∧ Below w.heap.size w wr) (fun _ i _ => t.kids.length - (intOf i).toNat)
        case atStart => exact ⟨0, _, _, by omega, by go_num, rfl, G0, HRa0, HRz0, HB0.out⟩
        case round =>
          clear G0 HRa0 HRz0 HB0
          obtain ⟨j, A, c, hj, rfl, rfl, HG, HRa, HRz, hbl⟩ := hrel
          have hsz := hbl.size
          have hzl := HRz.out.lt
          by_cases hlt : j < t.kids.length
          · obtain ⟨b, off, A2, c2, eA, hSb, g0, g1, g2, g3, hat⟩ := GTy.elem (T0.out.below hbl (Nat.le_refl _)).2.2.2 j hlt
            have E1 := Lib.hid (show Below wr.heap.size wr (wr.alloc (.cells #[.int .i64 (t.kids[j]).op, .int .i64 (t.kids[j]).n, .string (t.kids[j]).s, .slice A2 (t.kids[j]).kids.length c2] 27)) from (Below.refl _ _).alloc (Nat.le_refl _) _)
            have HA := Lib.hid (hat.keep (S' := Lt (wr.alloc (.cells #[.int .i64 (t.kids[j]).op, .int .i64 (t.kids[j]).n, .string (t.kids[j]).s, .slice A2 (t.kids[j]).kids.length c2] 27)).heap.size) (w' := wr.alloc (.cells #[.int .i64 (t.kids[j]).op, .int .i64 (t.kids[j]).n, .string (t.kids[j]).s, .slice A2 (t.kids[j]).kids.length c2] 27)) fun q hq => ⟨Nat.lt_of_lt_of_le hq (Nat.le_trans hsz E1.out.size), Below.heap_alloc _ _ _ (Nat.lt_of_lt_of_le hq hsz)⟩)
            have HS2 := Lib.hid (HSl.out.below (show Below w.heap.size w (wr.alloc (.cells #[.int .i64 (t.kids[j]).op, .int .i64 (t.kids[j]).n, .string (t.kids[j]).s, .slice A2 (t.kids[j]).kids.length c2] 27)) from (hbl.alloc hsz _)) (Nat.le_trans hsz E1.out.size))
            clear hat
            subst eA
            go_wp2_with fail
            refine (HH.out j hlt A2 c2 _ HL.out HS2.out HA.out).mono ?_
            rintro e w1 ⟨A3, c3, rfl, how, hb1⟩
            have B1 := Lib.hid ((E1.out.trans (hb1.mono E1.out.size)).alloc (Nat.le_trans E1.out.size hb1.size) (.cells #[.int .i64 ((t.kids[j]).sub F).op, .int .i64 ((t.kids[j]).sub F).n, .string ((t.kids[j]).sub F).s, .slice A3 ((t.kids[j]).sub F).kids.length c3] 27))
            have HG1 := HG.out.below B1.out (Nat.le_refl _)
            have how1 := GTy.own_mk (how.keep (S' := Btw wr.heap.size (w1.alloc (.cells #[.int .i64 ((t.kids[j]).sub F).op, .int .i64 ((t.kids[j]).sub F).n, .string ((t.kids[j]).sub F).s, .slice A3 ((t.kids[j]).sub F).kids.length c3] 27)).heap.size) (w' := w1.alloc (.cells #[.int .i64 ((t.kids[j]).sub F).op, .int .i64 ((t.kids[j]).sub F).n, .string ((t.kids[j]).sub F).s, .slice A3 ((t.kids[j]).sub F).kids.length c3] 27)) fun q hq => ⟨⟨Nat.le_trans E1.out.size hq.1, Nat.lt_of_lt_of_le hq.2 (by simp)⟩, Below.heap_alloc _ _ _ hq.2⟩)
            clear how hb1
            go_wp2_with (first | (at_builtin; refine wpList_append_D (w1.alloc (.cells #[.int .i64 ((t.kids[j]).sub F).op, .int .i64 ((t.kids[j]).sub F).n, .string ((t.kids[j]).sub F).s, .slice A3 ((t.kids[j]).sub F).kids.length c3] 27)) rfl (.tmp 42) (.tmp 44) 25 rfl 27 zTy 4 56 Try.underlying25 (by kernel_rfl) rfl (by omega) (w.heap.size + 2) wr.heap.size _ j _ HG1 ((t.kids[j]).sub F).toD [.int .i64 ((t.kids[j]).sub F).op, .int .i64 ((t.kids[j]).sub F).n, .string ((t.kids[j]).sub F).s, .slice A3 ((t.kids[j]).sub F).kids.length c3] how1 (by omega) B1.out.size rfl (by simp [Value.oneCell']) (by omega) (by omega) 27 rfl (w1.alloc (.cells #[.int .i64 ((t.kids[j]).sub F).op, .int .i64 ((t.kids[j]).sub F).n, .string ((t.kids[j]).sub F).s, .slice A3 ((t.kids[j]).sub F).kids.length c3] 27)).heap.size rfl (by simp [Act.eval]) ?_; intro g cap w2 G2 Bq2 hs2 hg2 hgl2))
            go_roundw
            case rel =>
              have X2 := (Bq2.mono (show w.heap.size ≤ w.heap.size + 2 by omega))
              exact ⟨j + 1, _, _, by omega, by go_num, rfl, Lib.hid (by rw [take_snoc' t.kids j hlt, List.map_append, List.map_append]; exact G2), Lib.hid ((HRa.out.below B1.out (by omega)).below Bq2 (by omega)), Lib.hid ((HRz.out.below B1.out (by omega)).below Bq2 (by omega)), (hbl.trans (B1.out.mono hsz)).trans X2⟩
            case measure => simp [intOf]; omega
          · have hjl : j = t.kids.length := by omega
            obtain ⟨A', c', eV, how⟩ := HG.out.osl
            obtain ⟨rfl, rfl⟩ : A = A' ∧ c = c' := by simpa using eV
            subst hjl
            rw [List.take_length] at how
            clear eV HG hlt hj
            obtain ⟨p0, p1, p2, -⟩ := T0.out
            have hca := fun i => HRa.out.cell i
            have hcz := fun i => HRz.out.cell i
            have hfa := fun i => HRa.out.frozen i
            have hfz := fun i => HRz.out.frozen i
            have B1 := setCells_below hbl w.heap.size 3 (Nat.le_refl _) [.slice A t.kids.length c]
            have BF := setCells_below B1 (w.heap.size + 1) 0 (by omega) [.int .i64 t.op, .int .i64 t.n, .string t.s, .slice A t.kids.length c]
            have SF : (setCells (setCells wr w.heap.size 3 [.slice A t.kids.length c]) (w.heap.size + 1) 0 [.int .i64 t.op, .int .i64 t.n, .string t.s, .slice A t.kids.length c]).heap.size = wr.heap.size := by rw [setCells_size, setCells_size]
            have how2 := how.keep (S' := Btw w.heap.size (setCells (setCells wr w.heap.size 3 [.slice A t.kids.length c]) (w.heap.size + 1) 0 [.int .i64 t.op, .int .i64 t.n, .string t.s, .slice A t.kids.length c]).heap.size) (w' := (setCells (setCells wr w.heap.size 3 [.slice A t.kids.length c]) (w.heap.size + 1) 0 [.int .i64 t.op, .int .i64 t.n, .string t.s, .slice A t.kids.length c])) fun q hq => ⟨⟨by have := hq.1; omega, by rw [SF]; exact hq.2⟩, (setCells_block _ _ _ _ _ (by have := hq.1; omega)).trans (setCells_block _ _ _ _ _ (by have := hq.1; omega))⟩
            have HOW := Lib.hid how2
            have HBF := Lib.hid BF
            have HS := Lib.hid (HN.out)
            clear how how2 BF B1 SF
            go_wp2_with fail
            exact bodyPost_ret (v := .agg #[.int .i64 t.op, .int .i64 t.n, .string t.s, .slice A t.kids.length c]) (by simp [results, Try.results12, go_sem, hca, hcz]) rfl ⟨A, c, by rw [HS.out]; simp [GTy.op, GTy.n, GTy.s, GTy.kids], by rw [HS.out]; exact ⟨p0, p1, p2, HOW.out⟩, HBF.out⟩
      have hk2 : ((t.kids.length : Int) == 0) = true := by rw [beq_iff_eq]; omega
      have HK := Lib.hid hk
      have HO2 := Lib.hid ho2
      clear hk ho2
      rcases idxI_find (l := l) (n := t.n) with ⟨q, hq, hi, hf⟩ | ⟨hi, hf⟩
      · have HN := Lib.hid (show t.sub F = (l[q]).ty from by rw [HF.out]; exact GTy.sub_some HO2.out HK.out hf)
        have hub : (l[q]).ty.bulk ≤ 1048576 := by have := bindOf_bulk hf; have := HL.out; omega
        clear hf
        go_enter Try.func12, Try.ntmps12
        go_wp2_with fail
        refine (implBindAt l Bl bc t.n _ (HSl.out.below E0.out E0.out.size)).mono ?_
        rintro e w1 ⟨rfl, hb1⟩
        rw [hi]
        clear hi
        have B1 := Lib.hid (E0.out.trans (hb1.mono E0.out.size))
        have Rz1 := Lib.hid (Rz0.out.below hb1 Rz0.out.lt)
        have hql : l.length ≤ 9223372036854775807 := by simpa using HSl.out.len
        obtain ⟨b3, off3, A3, c3, rfl, hSb3, q0, q1, q2, q3, q4, hat⟩ := GBind.elem (HSl.out.below B1.out (Nat.le_refl _)) q hq
        have HA := Lib.hid (show GTy.At w1 (Lt w1.heap.size) A3 c3 (l[q]).ty from hat.2.keep fun x hx => ⟨Nat.lt_of_lt_of_le hx B1.out.size, rfl⟩)
        clear hat hb1
        go_wp2_with fail
        refine (implCopyTy' (l[q]).ty A3 c3 _ hub HA.out).mono ?_
        rintro e w2 ⟨A4, c4, rfl, how, hb2⟩
        have Rz2 := Lib.hid (Rz1.out.below hb2 Rz1.out.lt)
        have hcz := fun i => Rz2.out.cell i
        have hfz := fun i => Rz2.out.frozen i
        have B2 := B1.out.trans (hb2.mono B1.out.size)
        have SF : (setCells w2 (w.heap.size + 1) 0 [.int .i64 (l[q]).ty.op, .int .i64 (l[q]).ty.n, .string (l[q]).ty.s, .slice A4 (l[q]).ty.kids.length c4]).heap.size = w2.heap.size := setCells_size _ _ _ _
        have BF := Lib.hid (setCells_below B2 (w.heap.size + 1) 0 (by omega) [.int .i64 (l[q]).ty.op, .int .i64 (l[q]).ty.n, .string (l[q]).ty.s, .slice A4 (l[q]).ty.kids.length c4])
        have HOW := Lib.hid (how.keep (S' := Btw w.heap.size (setCells w2 (w.heap.size + 1) 0 [.int .i64 (l[q]).ty.op, .int .i64 (l[q]).ty.n, .string (l[q]).ty.s, .slice A4 (l[q]).ty.kids.length c4]).heap.size) (w' := setCells w2 (w.heap.size + 1) 0 [.int .i64 (l[q]).ty.op, .int .i64 (l[q]).ty.n, .string (l[q]).ty.s, .slice A4 (l[q]).ty.kids.length c4]) fun x hx => ⟨⟨Nat.le_trans B1.out.size hx.1, by rw [SF]; exact hx.2⟩, setCells_block _ _ _ _ _ (by have := hx.1; have := Rz1.out.lt; omega)⟩)
        clear how hb2 B2 SF
        go_wp2_with fail
        exact bodyPost_ret (v := .agg #[.int .i64 (l[q]).ty.op, .int .i64 (l[q]).ty.n, .string (l[q]).ty.s, .slice A4 (l[q]).ty.kids.length c4]) (by simp [results, Try.results12, go_sem, hcz]) rfl ⟨A4, c4, by rw [HN.out], by rw [HN.out]; exact HOW.out, BF.out⟩
      · have HN := Lib.hid (show t.sub F = _ from GTy.sub_none (.inr (by rw [HF.out]; exact hf)))
        clear hf
        go_enter Try.func12, Try.ntmps12
        go_wp2_with fail
        refine (implBindAt l Bl bc t.n _ (HSl.out.below E0.out E0.out.size)).mono ?_
        rintro e w1 ⟨rfl, hb1⟩
        rw [hi]
        clear hi
        have B1 := Lib.hid (E0.out.trans (hb1.mono E0.out.size))
        have Ra1 := Lib.hid (Ra0.out.below hb1 Ra0.out.lt)
        have Rz1 := Lib.hid (Rz0.out.below hb1 Rz0.out.lt)
        have hs1 := Nat.le_trans S0 hb1.size
        have hca1 := fun i => Ra1.out.cell i
        have hlt1 := Ra1.out.lt
        clear hb1
        obtain ⟨w0, e0⟩ : ∃ w0, w0 = (w1).alloc (.cells #[] 27) := ⟨_, rfl⟩
        have HB0 := Lib.hid (show Below w.heap.size w w0 by rw [e0]; exact B1.out.alloc B1.out.size _)
        have HRa0 := Lib.hid (show Row w0 w.heap.size 27 #[.int .i64 t.op, .int .i64 t.n, .string t.s, .slice A1 t.kids.length c1] by rw [e0]; exact Ra1.out.alloc _)
        have HRz0 := Lib.hid (show Row w0 (w.heap.size + 1) 27 #[.int .i64 0, .int .i64 0, .string ⟨#[]⟩, .slice none 0 0] by rw [e0]; exact Rz1.out.alloc _)
        have G0 := Lib.hid (show Gow w0 (w.heap.size + 2) w0.heap.size 27 4 (.slice (some ⟨(w1).heap.size, 0, none⟩) 0 0) 0 [] by rw [e0]; exact Gow.made (Row.new' _ _ _ (by simp)) hs1 (by simp))
        go_wp2_with fail
        rw [← e0]
        clear e0
        clear hca1
        go_loopw [6, 35] (fun v i wr => ∃ (j : Nat) (A : Option Addr) (c : Nat), j ≤ t.kids.length ∧ i = .int .i64 j ∧ v = .slice A j c ∧ Hid (Gow wr (w.heap.size + 2) wr.heap.size 27 4 (.slice A j c) j (((t.kids.take j).map (GTy.sub F)).map GTy.toD)) ∧ Hid (Row wr w.heap.size 27 #[.int .i64 t.op, .int .i64 t.n, .string t.s, .slice A1 t.kids.length c1]) ∧ Hid (Row wr (w.heap.size + 1) 27 #[.int .i64 0, .int .i64 0, .string ⟨#[]⟩, .slice none 0 0]) ∧ Below w.heap.size w wr) (fun _ i _ => t.kids.length - (intOf i).toNat)
        case atStart => exact ⟨0, _, _, by omega, by go_num, rfl, G0, HRa0, HRz0, HB0.out⟩
        case round =>
          clear G0 HRa0 HRz0 HB0
          obtain ⟨j, A, c, hj, rfl, rfl, HG, HRa, HRz, hbl⟩ := hrel
          have hsz := hbl.size
          have hzl := HRz.out.lt
          by_cases hlt : j < t.kids.length
          · obtain ⟨b, off, A2, c2, eA, hSb, g0, g1, g2, g3, hat⟩ := GTy.elem (T0.out.below hbl (Nat.le_refl _)).2.2.2 j hlt
            have E1 := Lib.hid (show Below wr.heap.size wr (wr.alloc (.cells #[.int .i64 (t.kids[j]).op, .int .i64 (t.kids[j]).n, .string (t.kids[j]).s, .slice A2 (t.kids[j]).kids.length c2] 27)) from (Below.refl _ _).alloc (Nat.le_refl _) _)
            have HA := Lib.hid (hat.keep (S' := Lt (wr.alloc (.cells #[.int .i64 (t.kids[j]).op, .int .i64 (t.kids[j]).n, .string (t.kids[j]).s, .slice A2 (t.kids[j]).kids.length c2] 27)).heap.size) (w' := wr.alloc (.cells #[.int .i64 (t.kids[j]).op, .int .i64 (t.kids[j]).n, .string (t.kids[j]).s, .slice A2 (t.kids[j]).kids.length c2] 27)) fun q hq => ⟨Nat.lt_of_lt_of_le hq (Nat.le_trans hsz E1.out.size), Below.heap_alloc _ _ _ (Nat.lt_of_lt_of_le hq hsz)⟩)
            have HS2 := Lib.hid (HSl.out.below (show Below w.heap.size w (wr.alloc (.cells #[.int .i64 (t.kids[j]).op, .int .i64 (t.kids[j]).n, .string (t.kids[j]).s, .slice A2 (t.kids[j]).kids.length c2] 27)) from (hbl.alloc hsz _)) (Nat.le_trans hsz E1.out.size))
            clear hat
            subst eA
            go_wp2_with fail
            refine (HH.out j hlt A2 c2 _ HL.out HS2.out HA.out).mono ?_
            rintro e w1 ⟨A3, c3, rfl, how, hb1⟩
            have B1 := Lib.hid ((E1.out.trans (hb1.mono E1.out.size)).alloc (Nat.le_trans E1.out.size hb1.size) (.cells #[.int .i64 ((t.kids[j]).sub F).op, .int .i64 ((t.kids[j]).sub F).n, .string ((t.kids[j]).sub F).s, .slice A3 ((t.kids[j]).sub F).kids.length c3] 27))
            have HG1 := HG.out.below B1.out (Nat.le_refl _)
            have how1 := GTy.own_mk (how.keep (S' := Btw wr.heap.size (w1.alloc (.cells #[.int .i64 ((t.kids[j]).sub F).op, .int .i64 ((t.kids[j]).sub F).n, .string ((t.kids[j]).sub F).s, .slice A3 ((t.kids[j]).sub F).kids.length c3] 27)).heap.size) (w' := w1.alloc (.cells #[.int .i64 ((t.kids[j]).sub F).op, .int .i64 ((t.kids[j]).sub F).n, .string ((t.kids[j]).sub F).s, .slice A3 ((t.kids[j]).sub F).kids.length c3] 27)) fun q hq => ⟨⟨Nat.le_trans E1.out.size hq.1, Nat.lt_of_lt_of_le hq.2 (by simp)⟩, Below.heap_alloc _ _ _ hq.2⟩)
            clear how hb1
            go_wp2_with (first | (at_builtin; refine wpList_append_D (w1.alloc (.cells #[.int .i64 ((t.kids[j]).sub F).op, .int .i64 ((t.kids[j]).sub F).n, .string ((t.kids[j]).sub F).s, .slice A3 ((t.kids[j]).sub F).kids.length c3] 27)) rfl (.tmp 42) (.tmp 44) 25 rfl 27 zTy 4 56 Try.underlying25 (by kernel_rfl) rfl (by omega) (w.heap.size + 2) wr.heap.size _ j _ HG1 ((t.kids[j]).sub F).toD [.int .i64 ((t.kids[j]).sub F).op, .int .i64 ((t.kids[j]).sub F).n, .string ((t.kids[j]).sub F).s, .slice A3 ((t.kids[j]).sub F).kids.length c3] how1 (by omega) B1.out.size rfl (by simp [Value.oneCell']) (by omega) (by omega) 27 rfl (w1.alloc (.cells #[.int .i64 ((t.kids[j]).sub F).op, .int .i64 ((t.kids[j]).sub F).n, .string ((t.kids[j]).sub F).s, .slice A3 ((t.kids[j]).sub F).kids.length c3] 27)).heap.size rfl (by simp [Act.eval]) ?_; intro g cap w2 G2 Bq2 hs2 hg2 hgl2))
            go_roundw
            case rel =>
              have X2 := (Bq2.mono (show w.heap.size ≤ w.heap.size + 2 by omega))
              exact ⟨j + 1, _, _, by omega, by go_num, rfl, Lib.hid (by rw [take_snoc' t.kids j hlt, List.map_append, List.map_append]; exact G2), Lib.hid ((HRa.out.below B1.out (by omega)).below Bq2 (by omega)), Lib.hid ((HRz.out.below B1.out (by omega)).below Bq2 (by omega)), (hbl.trans (B1.out.mono hsz)).trans X2⟩
            case measure => simp [intOf]; omega
          · have hjl : j = t.kids.length := by omega
            obtain ⟨A', c', eV, how⟩ := HG.out.osl
            obtain ⟨rfl, rfl⟩ : A = A' ∧ c = c' := by simpa using eV
            subst hjl
            rw [List.take_length] at how
            clear eV HG hlt hj
            obtain ⟨p0, p1, p2, -⟩ := T0.out
            have hca := fun i => HRa.out.cell i
            have hcz := fun i => HRz.out.cell i
            have hfa := fun i => HRa.out.frozen i
            have hfz := fun i => HRz.out.frozen i
            have B1 := setCells_below hbl w.heap.size 3 (Nat.le_refl _) [.slice A t.kids.length c]
            have BF := setCells_below B1 (w.heap.size + 1) 0 (by omega) [.int .i64 t.op, .int .i64 t.n, .string t.s, .slice A t.kids.length c]
            have SF : (setCells (setCells wr w.heap.size 3 [.slice A t.kids.length c]) (w.heap.size + 1) 0 [.int .i64 t.op, .int .i64 t.n, .string t.s, .slice A t.kids.length c]).heap.size = wr.heap.size := by rw [setCells_size, setCells_size]
            have how2 := how.keep (S' := Btw w.heap.size (setCells (setCells wr w.heap.size 3 [.slice A t.kids.length c]) (w.heap.size + 1) 0 [.int .i64 t.op, .int .i64 t.n, .string t.s, .slice A t.kids.length c]).heap.size) (w' := (setCells (setCells wr w.heap.size 3 [.slice A t.kids.length c]) (w.heap.size + 1) 0 [.int .i64 t.op, .int .i64 t.n, .string t.s, .slice A t.kids.length c])) fun q hq => ⟨⟨by have := hq.1; omega, by rw [SF]; exact hq.2⟩, (setCells_block _ _ _ _ _ (by have := hq.1; omega)).trans (setCells_block _ _ _ _ _ (by have := hq.1; omega))⟩
            have HOW := Lib.hid how2
            have HBF := Lib.hid BF
            have HS := Lib.hid (HN.out)
            clear how how2 BF B1 SF
            go_wp2_with fail
            exact bodyPost_ret (v := .agg #[.int .i64 t.op, .int .i64 t.n, .string t.s, .slice A t.kids.length c]) (by simp [results, Try.results12, go_sem, hca, hcz]) rfl ⟨A, c, by rw [HS.out]; simp [GTy.op, GTy.n, GTy.s, GTy.kids], by rw [HS.out]; exact ⟨p0, p1, p2, HOW.out⟩, HBF.out⟩

set_option maxRecDepth 20000 in
theorem specApply (k : Nat) : ∀ (l : List GBind) (Bl : Option Addr) (bc : Nat) (t : GTy) (A1 : Option Addr) (c1 : Nat) (w : World), t.bulk < k → t.bulk ≤ 1048576 → bulkL GBind.bulk l ≤ 1048576 → Sl w (Lt w.heap.size) 5 Bl bc (l.map GBind.toD) → GTy.At w (Lt w.heap.size) A1 c1 t →
    Calls Try.prog 18 #[.slice Bl l.length bc, .agg #[.int .i64 t.op, .int .i64 t.n, .string t.s, .slice A1 t.kids.length c1]] w (ToTy (t.sub (bindOf l)) w) := by
  induction k with
  | zero => intros; omega
  | succ k ih =>
    intro l Bl bc t A1 c1 w hk h1 hl hs hat
    have hbe := t.bulk_eq
    have hlen : t.kids.length ≤ 1048576 := by have := bulkL_len GTy.bulk t.kids; omega
    obtain ⟨F, hF⟩ : ∃ F, F = bindOf l := ⟨_, rfl⟩
    have HF := Lib.hid hF
    have HH := Lib.hid (fun (j : Nat) (h : j < t.kids.length) (A1 : Option Addr) (c1 : Nat) (w : World) => ih l Bl bc t.kids[j] A1 c1 w (by have := bulkL_mem GTy.bulk t.kids _ (List.getElem_mem h); omega) (by have := bulkL_mem GTy.bulk t.kids _ (List.getElem_mem h); omega))
    rw [← hF] at HH ⊢
    have HSl := Lib.hid hs
    have HL := Lib.hid hl
    have T0 := Lib.hid hat
    clear ih hbe hk h1 hat hF hs hl
    have E0 := Lib.hid (show Below w.heap.size w ((w.alloc (.cells #[.int .i64 t.op, .int .i64 t.n, .string t.s, .slice A1 t.kids.length c1] 27)).alloc (.cells #[.int .i64 0, .int .i64 0, .string ⟨#[]⟩, .slice none 0 0] 27)) from ((Below.refl _ _).alloc (Nat.le_refl _) _).alloc (by simp) _)
    have S0 : w.heap.size + 2 ≤ ((w.alloc (.cells #[.int .i64 t.op, .int .i64 t.n, .string t.s, .slice A1 t.kids.length c1] 27)).alloc (.cells #[.int .i64 0, .int .i64 0, .string ⟨#[]⟩, .slice none 0 0] 27)).heap.size := by simp
    have Ra0 := Lib.hid ((Row.new' w 27 #[.int .i64 t.op, .int .i64 t.n, .string t.s, .slice A1 t.kids.length c1] (g := w.heap.size) rfl).alloc (.cells #[.int .i64 0, .int .i64 0, .string ⟨#[]⟩, .slice none 0 0] 27))
    have Rz0 := Lib.hid (Row.new' (w.alloc (.cells #[.int .i64 t.op, .int .i64 t.n, .string t.s, .slice A1 t.kids.length c1] 27)) 27 #[.int .i64 0, .int .i64 0, .string ⟨#[]⟩, .slice none 0 0] (g := w.heap.size + 1) (by simp))
    cases o2 : (t.op == 2)
    · have ho2 : ¬ t.op = 2 := by simpa using o2
      have HN := Lib.hid (show t.sub F = _ from GTy.sub_none (.inl (fun e => ho2 e.1)))
      clear ho2
      go_enter Try.func18, Try.ntmps18
      obtain ⟨w0, e0⟩ : ∃ w0, w0 = ((w.alloc (.cells #[.int .i64 t.op, .int .i64 t.n, .string t.s, .slice A1 t.kids.length c1] 27)).alloc (.cells #[.int .i64 0, .int .i64 0, .string ⟨#[]⟩, .slice none 0 0] 27)).alloc (.cells #[.int .i64 t.op, .int .i64 t.n, .string t.s, .slice none 0 0] 27) := ⟨_, rfl⟩
      have HB0 := Lib.hid (show Below w.heap.size w w0 by rw [e0]; exact E0.out.alloc E0.out.size _)
      have HRa0 := Lib.hid (show Row w0 w.heap.size 27 #[.int .i64 t.op, .int .i64 t.n, .string t.s, .slice A1 t.kids.length c1] by rw [e0]; exact Ra0.out.alloc _)
      have HRz0 := Lib.hid (show Row w0 (w.heap.size + 1) 27 #[.int .i64 0, .int .i64 0, .string ⟨#[]⟩, .slice none 0 0] by rw [e0]; exact Rz0.out.alloc _)
      have HRo0 := Lib.hid (show Row w0 (w.heap.size + 1 + 1) 27 #[.int .i64 t.op, .int .i64 t.n, .string t.s, .slice none 0 0] by rw [e0]; exact Row.new' _ _ _ (by simp))
      have hs0 : w.heap.size + 1 + 1 + 1 ≤ w0.heap.size := by rw [e0]; simp
      go_wp2_with fail
      rw [← e0]
      clear e0
      go_loopw [7] (fun i wr => ∃ (j : Nat) (A : Option Addr) (c : Nat), j ≤ t.kids.length ∧ i = .int .i64 j ∧ Hid (Gow wr (w.heap.size + 1 + 1 + 1) wr.heap.size 27 4 (.slice A j c) j (((t.kids.take j).map (GTy.sub F)).map GTy.toD)) ∧ Hid (Row wr w.heap.size 27 #[.int .i64 t.op, .int .i64 t.n, .string t.s, .slice A1 t.kids.length c1]) ∧ Hid (Row wr (w.heap.size + 1) 27 #[.int .i64 0, .int .i64 0, .string ⟨#[]⟩, .slice none 0 0]) ∧ Hid (Row wr (w.heap.size + 1 + 1) 27 #[.int .i64 t.op, .int .i64 t.n, .string t.s, .slice A j c]) ∧ w.heap.size + 1 + 1 + 1 ≤ wr.heap.size ∧ Below w.heap.size w wr) (fun i _ => t.kids.length - (intOf i).toNat)
      case atStart => exact ⟨0, none, 0, by omega, by go_num, Lib.hid (Gow.nil _ _ _ _ _), HRa0, HRz0, HRo0, hs0, HB0.out⟩
      case round =>
        clear HRa0 HRz0 HRo0 HB0 hs0
        obtain ⟨j, A, c, hj, rfl, HG, HRa, HRz, HRo, hs3, hbl⟩ := hrel
        have hsz := hbl.size
        have hca := fun i => HRa.out.cell i
        have hco := fun i => HRo.out.cell i
        by_cases hlt : j < t.kids.length
        · obtain ⟨b, off, A2, c2, eA, hSb, g0, g1, g2, g3, hat⟩ := GTy.elem (T0.out.below hbl (Nat.le_refl _)).2.2.2 j hlt
          subst eA
          have hblt : b < wr.heap.size := Nat.lt_of_lt_of_le hSb hsz
          have HA := Lib.hid (hat.keep (S' := Lt wr.drew.heap.size) (w' := wr.drew) fun q hq => ⟨Nat.lt_of_lt_of_le hq hsz, rfl⟩)
          have HS2 := Lib.hid (HSl.out.below (show Below w.heap.size w (wr.drew) from hbl.drew) hsz)
          clear hat
          go_wp2_with fail
          go_region_law (first
            | (refine step_append_D w1 rfl (.tmp 44) (.tmp 52) 25 rfl 27 zTy 4 56 Try.underlying25 (by kernel_rfl) rfl (by omega) (w.heap.size + 1 + 1 + 1) wr.heap.size _ j _ HG1.out ((t.kids[j]).sub F).toD [.int .i64 ((t.kids[j]).sub F).op, .int .i64 ((t.kids[j]).sub F).n, .string ((t.kids[j]).sub F).s, .slice A3 ((t.kids[j]).sub F).kids.length c3] how1.out (by omega) B1.out.size rfl (by simp [Value.oneCell']) (by omega) (by omega) 27 rfl w1.heap.size rfl rfl ?_
               intro g cap w2 G2 Bq2 hs2 hg2 hgl2
               have G3 := Lib.hid G2
               have B2 := Lib.hid Bq2
               have Ro3 := Lib.hid (Ro1.out.below Bq2 (by omega))
               have hco3 := fun i => Ro3.out.cell i
               have hfo3 := fun i => Ro3.out.frozen i
               clear G2 Bq2)
            | (go_simp
               go_at_call 18
               refine (HH.out j hlt A2 c2 _ HL.out HS2.out HA.out).mono ?_
               rintro e w1 ⟨A3, c3, rfl, how, hb1⟩
               have B1 := Lib.hid (((Below.refl wr.heap.size wr).drew).trans hb1)
               have Ra1 := Lib.hid (HRa.out.below B1.out (by omega))
               have Ro1 := Lib.hid (HRo.out.below B1.out (by omega))
               have hca1 := fun i => Ra1.out.cell i
               have hco1 := fun i => Ro1.out.cell i
               have hco2 := Ro1.out.lt
               have HG1 := Lib.hid (HG.out.below B1.out (Nat.le_refl _))
               have how1 := Lib.hid (GTy.own_mk (how.keep (S' := Btw wr.heap.size w1.heap.size) (w' := w1) fun q hq => ⟨hq, rfl⟩))
               clear how hb1))
          all_goals
            go_wp2_with fail
            go_roundw
            case rel =>
              have B3 := (hbl.trans (B1.out.mono hsz)).trans (B2.out.mono (show w.heap.size ≤ w.heap.size + 1 + 1 + 1 by omega))
              refine ⟨j + 1, _, _, by omega, by go_num, Lib.hid (show Gow (w2.setCell ⟨w.heap.size + 1 + 1, 3, none⟩ (.slice (some ⟨g, 0, none⟩) (j + 1) cap)) (w.heap.size + 1 + 1 + 1) (w2.setCell ⟨w.heap.size + 1 + 1, 3, none⟩ (.slice (some ⟨g, 0, none⟩) (j + 1) cap)).heap.size 27 4 (.slice (some ⟨g, 0, none⟩) (j + 1) cap) (j + 1) (((t.kids.take (j + 1)).map (GTy.sub F)).map GTy.toD) from ?_), Lib.hid (((HRa.out.below B1.out (by omega)).below B2.out (by omega)).far (p := ⟨w.heap.size + 1 + 1, 3, none⟩) (by simp <;> omega) _), Lib.hid (((HRz.out.below B1.out (by omega)).below B2.out (by omega)).far (p := ⟨w.heap.size + 1 + 1, 3, none⟩) (by simp <;> omega) _), Lib.hid (Ro3.out.set 3 _), ?_, B3.setCell (p := ⟨w.heap.size + 1 + 1, 3, none⟩) (by simp <;> omega) _⟩
              · rw [take_snoc' t.kids j hlt, List.map_append, List.map_append]
                exact G3.out.keep (by simp [World.setCell]) (fun q hq _ => Below.heap_setCell _ ⟨w.heap.size + 1 + 1, 3, none⟩ _ q (by simp <;> omega))
              · have := B3.size; have := B1.out.size; simp [World.setCell]; omega
            case measure => simp [intOf]; omega
        · have hjl : j = t.kids.length := by omega
          obtain ⟨A', c', eV, how⟩ := HG.out.osl
          obtain ⟨rfl, rfl⟩ : A = A' ∧ c = c' := by simpa using eV
          subst hjl
          rw [List.take_length] at how
          clear eV HG hlt hj hca hco
          obtain ⟨p0, p1, p2, -⟩ := T0.out
          have hca := fun i => HRa.out.cell i
          have hco := fun i => HRo.out.cell i
          have hcz := fun i => HRz.out.cell i
          have hfz := fun i => HRz.out.frozen i
          have BF := setCells_below hbl (w.heap.size + 1) 0 (by omega) [.int .i64 t.op, .int .i64 t.n, .string t.s, .slice A t.kids.length c]
          have SF : (setCells wr (w.heap.size + 1) 0 [.int .i64 t.op, .int .i64 t.n, .string t.s, .slice A t.kids.length c]).heap.size = wr.heap.size := by rw [setCells_size]
          have how2 := how.keep (S' := Btw w.heap.size (setCells wr (w.heap.size + 1) 0 [.int .i64 t.op, .int .i64 t.n, .string t.s, .slice A t.kids.length c]).heap.size) (w' := (setCells wr (w.heap.size + 1) 0 [.int .i64 t.op, .int .i64 t.n, .string t.s, .slice A t.kids.length c])) fun q hq => ⟨⟨by have := hq.1; omega, by rw [SF]; exact hq.2⟩, setCells_block _ _ _ _ _ (by have := hq.1; omega)⟩
          have HOW := Lib.hid how2
          have HBF := Lib.hid BF
          have HS := Lib.hid (HN.out)
          clear how how2 BF SF
          go_wp2_with fail
          exact bodyPost_ret (v := .agg #[.int .i64 t.op, .int .i64 t.n, .string t.s, .slice A t.kids.length c]) (by simp [results, Try.results18, go_sem, hca, hcz, hco]) rfl ⟨A, c, by rw [HS.out]; simp [GTy.op, GTy.n, GTy.s, GTy.kids], by rw [HS.out]; exact ⟨p0, p1, p2, HOW.out⟩, HBF.out⟩
    · have ho2 : t.op = 2 := by simpa using o2
      by_cases hk : t.kids.length = 0
      rotate_left
      · have hk2 : ((t.kids.length : Int) == 0) = false := by rw [beq_eq_false_iff_ne]; omega
        have HN := Lib.hid (show t.sub F = _ from GTy.sub_none (.inl (fun e => hk e.2)))
        clear ho2 hk
        go_enter Try.func18, Try.ntmps18
        obtain ⟨w0, e0⟩ : ∃ w0, w0 = ((w.alloc (.cells #[.int .i64 t.op, .int .i64 t.n, .string t.s, .slice A1 t.kids.length c1] 27)).alloc (.cells #[.int .i64 0, .int .i64 0, .string ⟨#[]⟩, .slice none 0 0] 27)).alloc (.cells #[.int .i64 t.op, .int .i64 t.n, .string t.s, .slice none 0 0] 27) := ⟨_, rfl⟩
        have HB0 := Lib.hid (show Below w.heap.size w w0 by rw [e0]; exact E0.out.alloc E0.out.size _)
        have HRa0 := Lib.hid (show Row w0 w.heap.size 27 #[.int .i64 t.op, .int .i64 t.n, .string t.s, .slice A1 t.kids.length c1] by rw [e0]; exact Ra0.out.alloc _)
        have HRz0 := Lib.hid (show Row w0 (w.heap.size + 1) 27 #[.int .i64 0, .int .i64 0, .string ⟨#[]⟩, .slice none 0 0] by rw [e0]; exact Rz0.out.alloc _)
        have HRo0 := Lib.hid (show Row w0 (w.heap.size + 1 + 1) 27 #[.int .i64 t.op, .int .i64 t.n, .string t.s, .slice none 0 0] by rw [e0]; exact Row.new' _ _ _ (by simp))
        have hs0 : w.heap.size + 1 + 1 + 1 ≤ w0.heap.size := by rw [e0]; simp
        go_wp2_with fail
        rw [← e0]
        clear e0
        go_loopw [7] (fun i wr => ∃ (j : Nat) (A : Option Addr) (c : Nat), j ≤ t.kids.length ∧ i = .int .i64 j ∧ Hid (Gow wr (w.heap.size + 1 + 1 + 1) wr.heap.size 27 4 (.slice A j c) j (((t.kids.take j).map (GTy.sub F)).map GTy.toD)) ∧ Hid (Row wr w.heap.size 27 #[.int .i64 t.op, .int .i64 t.n, .string t.s, .slice A1 t.kids.length c1]) ∧ Hid (Row wr (w.heap.size + 1) 27 #[.int .i64 0, .int .i64 0, .string ⟨#[]⟩, .slice none 0 0]) ∧ Hid (Row wr (w.heap.size + 1 + 1) 27 #[.int .i64 t.op, .int .i64 t.n, .string t.s, .slice A j c]) ∧ w.heap.size + 1 + 1 + 1 ≤ wr.heap.size ∧ Below w.heap.size w wr) (fun i _ => t.kids.length - (intOf i).toNat)
        case atStart => exact ⟨0, none, 0, by omega, by go_num, Lib.hid (Gow.nil _ _ _ _ _), HRa0, HRz0, HRo0, hs0, HB0.out⟩
        case round =>
          clear HRa0 HRz0 HRo0 HB0 hs0
          obtain ⟨j, A, c, hj, rfl, HG, HRa, HRz, HRo, hs3, hbl⟩ := hrel
          have hsz := hbl.size
          have hca := fun i => HRa.out.cell i
          have hco := fun i => HRo.out.cell i
          by_cases hlt : j < t.kids.length
          · obtain ⟨b, off, A2, c2, eA, hSb, g0, g1, g2, g3, hat⟩ := GTy.elem (T0.out.below hbl (Nat.le_refl _)).2.2.2 j hlt
            subst eA
            have hblt : b < wr.heap.size := Nat.lt_of_lt_of_le hSb hsz
            have HA := Lib.hid (hat.keep (S' := Lt wr.drew.heap.size) (w' := wr.drew) fun q hq => ⟨Nat.lt_of_lt_of_le hq hsz, rfl⟩)
            have HS2 := Lib.hid (HSl.out.below (show Below w.heap.size w (wr.drew) from hbl.drew) hsz)
            clear hat
            go_wp2_with fail
            go_region_law (first
              | (refine step_append_D w1 rfl (.tmp 44) (.tmp 52) 25 rfl 27 zTy 4 56 Try.underlying25 (by kernel_rfl) rfl (by omega) (w.heap.size + 1 + 1 + 1) wr.heap.size _ j _ HG1.out ((t.kids[j]).sub F).toD [.int .i64 ((t.kids[j]).sub F).op, .int .i64 ((t.kids[j]).sub F).n, .string ((t.kids[j]).sub F).s, .slice A3 ((t.kids[j]).sub F).kids.length c3] how1.out (by omega) B1.out.size rfl (by simp [Value.oneCell']) (by omega) (by omega) 27 rfl w1.heap.size rfl rfl ?_
                 intro g cap w2 G2 Bq2 hs2 hg2 hgl2
                 have G3 := Lib.hid G2
                 have B2 := Lib.hid Bq2
                 have Ro3 := Lib.hid (Ro1.out.below Bq2 (by omega))
                 have hco3 := fun i => Ro3.out.cell i
                 have hfo3 := fun i => Ro3.out.frozen i
                 clear G2 Bq2)
              | (go_simp
                 go_at_call 18
                 refine (HH.out j hlt A2 c2 _ HL.out HS2.out HA.out).mono ?_
                 rintro e w1 ⟨A3, c3, rfl, how, hb1⟩
                 have B1 := Lib.hid (((Below.refl wr.heap.size wr).drew).trans hb1)
                 have Ra1 := Lib.hid (HRa.out.below B1.out (by omega))
                 have Ro1 := Lib.hid (HRo.out.below B1.out (by omega))
                 have hca1 := fun i => Ra1.out.cell i
                 have hco1 := fun i => Ro1.out.cell i
                 have hco2 := Ro1.out.lt
                 have HG1 := Lib.hid (HG.out.below B1.out (Nat.le_refl _))
                 have how1 := Lib.hid (GTy.own_mk (how.keep (S' := Btw wr.heap.size w1.heap.size) (w' := w1) fun q hq => ⟨hq, rfl⟩))
                 clear how hb1))
            all_goals
              go_wp2_with fail
              go_roundw
              case rel =>
                have B3 := (hbl.trans (B1.out.mono hsz)).trans (B2.out.mono (show w.heap.size ≤ w.heap.size + 1 + 1 + 1 by omega))
                refine ⟨j + 1, _, _, by omega, by go_num, Lib.hid (show Gow (w2.setCell ⟨w.heap.size + 1 + 1, 3, none⟩ (.slice (some ⟨g, 0, none⟩) (j + 1) cap)) (w.heap.size + 1 + 1 + 1) (w2.setCell ⟨w.heap.size + 1 + 1, 3, none⟩ (.slice (some ⟨g, 0, none⟩) (j + 1) cap)).heap.size 27 4 (.slice (some ⟨g, 0, none⟩) (j + 1) cap) (j + 1) (((t.kids.take (j + 1)).map (GTy.sub F)).map GTy.toD) from ?_), Lib.hid (((HRa.out.below B1.out (by omega)).below B2.out (by omega)).far (p := ⟨w.heap.size + 1 + 1, 3, none⟩) (by simp <;> omega) _), Lib.hid (((HRz.out.below B1.out (by omega)).below B2.out (by omega)).far (p := ⟨w.heap.size + 1 + 1, 3, none⟩) (by simp <;> omega) _), Lib.hid (Ro3.out.set 3 _), ?_, B3.setCell (p := ⟨w.heap.size + 1 + 1, 3, none⟩) (by simp <;> omega) _⟩
                · rw [take_snoc' t.kids j hlt, List.map_append, List.map_append]
                  exact G3.out.keep (by simp [World.setCell]) (fun q hq _ => Below.heap_setCell _ ⟨w.heap.size + 1 + 1, 3, none⟩ _ q (by simp <;> omega))
                · have := B3.size; have := B1.out.size; simp [World.setCell]; omega
              case measure => simp [intOf]; omega
          · have hjl : j = t.kids.length := by omega
            obtain ⟨A', c', eV, how⟩ := HG.out.osl
            obtain ⟨rfl, rfl⟩ : A = A' ∧ c = c' := by simpa using eV
            subst hjl
            rw [List.take_length] at how
            clear eV HG hlt hj hca hco
            obtain ⟨p0, p1, p2, -⟩ := T0.out
            have hca := fun i => HRa.out.cell i
            have hco := fun i => HRo.out.cell i
            have hcz := fun i => HRz.out.cell i
            have hfz := fun i => HRz.out.frozen i
            have BF := setCells_below hbl (w.heap.size + 1) 0 (by omega) [.int .i64 t.op, .int .i64 t.n, .string t.s, .slice A t.kids.length c]
            have SF : (setCells wr (w.heap.size + 1) 0 [.int .i64 t.op, .int .i64 t.n, .string t.s, .slice A t.kids.length c]).heap.size = wr.heap.size := by rw [setCells_size]
            have how2 := how.keep (S' := Btw w.heap.size (setCells wr (w.heap.size + 1) 0 [.int .i64 t.op, .int .i64 t.n, .string t.s, .slice A t.kids.length c]).heap.size) (w' := (setCells wr (w.heap.size + 1) 0 [.int .i64 t.op, .int .i64 t.n, .string t.s, .slice A t.kids.length c])) fun q hq => ⟨⟨by have := hq.1; omega, by rw [SF]; exact hq.2⟩, setCells_block _ _ _ _ _ (by have := hq.1; omega)⟩
            have HOW := Lib.hid how2
            have HBF := Lib.hid BF
            have HS := Lib.hid (HN.out)
            clear how how2 BF SF
            go_wp2_with fail
            exact bodyPost_ret (v := .agg #[.int .i64 t.op, .int .i64 t.n, .string t.s, .slice A t.kids.length c]) (by simp [results, Try.results18, go_sem, hca, hcz, hco]) rfl ⟨A, c, by rw [HS.out]; simp [GTy.op, GTy.n, GTy.s, GTy.kids], by rw [HS.out]; exact ⟨p0, p1, p2, HOW.out⟩, HBF.out⟩
      have hk2 : ((t.kids.length : Int) == 0) = true := by rw [beq_iff_eq]; omega
      have HK := Lib.hid hk
      have HO2 := Lib.hid ho2
      clear hk ho2
      rcases idxI_find (l := l) (n := t.n) with ⟨q, hq, hi, hf⟩ | ⟨hi, hf⟩
      · have HN := Lib.hid (show t.sub F = (l[q]).ty from by rw [HF.out]; exact GTy.sub_some HO2.out HK.out hf)
        have hub : (l[q]).ty.bulk ≤ 1048576 := by have := bindOf_bulk hf; have := HL.out; omega
        clear hf
        go_enter Try.func18, Try.ntmps18
        go_wp2_with fail
        refine (specBindAt l Bl bc t.n _ (HSl.out.below E0.out E0.out.size)).mono ?_
        rintro e w1 ⟨rfl, hb1⟩
        rw [hi]
        clear hi
        have B1 := Lib.hid (E0.out.trans (hb1.mono E0.out.size))
        have Rz1 := Lib.hid (Rz0.out.below hb1 Rz0.out.lt)
        have hql : l.length ≤ 9223372036854775807 := by simpa using HSl.out.len
        obtain ⟨b3, off3, A3, c3, rfl, hSb3, q0, q1, q2, q3, q4, hat⟩ := GBind.elem (HSl.out.below B1.out (Nat.le_refl _)) q hq
        have HA := Lib.hid (show GTy.At w1 (Lt w1.heap.size) A3 c3 (l[q]).ty from hat.2.keep fun x hx => ⟨Nat.lt_of_lt_of_le hx B1.out.size, rfl⟩)
        clear hat hb1
        go_wp2_with fail
        refine (specTyCopy' (l[q]).ty A3 c3 _ hub HA.out).mono ?_
        rintro e w2 ⟨A4, c4, rfl, how, hb2⟩
        have Rz2 := Lib.hid (Rz1.out.below hb2 Rz1.out.lt)
        have hcz := fun i => Rz2.out.cell i
        have hfz := fun i => Rz2.out.frozen i
        have B2 := B1.out.trans (hb2.mono B1.out.size)
        have SF : (setCells w2 (w.heap.size + 1) 0 [.int .i64 (l[q]).ty.op, .int .i64 (l[q]).ty.n, .string (l[q]).ty.s, .slice A4 (l[q]).ty.kids.length c4]).heap.size = w2.heap.size := setCells_size _ _ _ _
        have BF := Lib.hid (setCells_below B2 (w.heap.size + 1) 0 (by omega) [.int .i64 (l[q]).ty.op, .int .i64 (l[q]).ty.n, .string (l[q]).ty.s, .slice A4 (l[q]).ty.kids.length c4])
        have HOW := Lib.hid (how.keep (S' := Btw w.heap.size (setCells w2 (w.heap.size + 1) 0 [.int .i64 (l[q]).ty.op, .int .i64 (l[q]).ty.n, .string (l[q]).ty.s, .slice A4 (l[q]).ty.kids.length c4]).heap.size) (w' := setCells w2 (w.heap.size + 1) 0 [.int .i64 (l[q]).ty.op, .int .i64 (l[q]).ty.n, .string (l[q]).ty.s, .slice A4 (l[q]).ty.kids.length c4]) fun x hx => ⟨⟨Nat.le_trans B1.out.size hx.1, by rw [SF]; exact hx.2⟩, setCells_block _ _ _ _ _ (by have := hx.1; have := Rz1.out.lt; omega)⟩)
        clear how hb2 B2 SF
        go_wp2_with fail
        exact bodyPost_ret (v := .agg #[.int .i64 (l[q]).ty.op, .int .i64 (l[q]).ty.n, .string (l[q]).ty.s, .slice A4 (l[q]).ty.kids.length c4]) (by simp [results, Try.results18, go_sem, hcz]) rfl ⟨A4, c4, by rw [HN.out], by rw [HN.out]; exact HOW.out, BF.out⟩
      · have HN := Lib.hid (show t.sub F = _ from GTy.sub_none (.inr (by rw [HF.out]; exact hf)))
        clear hf
        go_enter Try.func18, Try.ntmps18
        go_wp2_with fail
        refine (specBindAt l Bl bc t.n _ (HSl.out.below E0.out E0.out.size)).mono ?_
        rintro e w1 ⟨rfl, hb1⟩
        rw [hi]
        clear hi
        have B1 := Lib.hid (E0.out.trans (hb1.mono E0.out.size))
        have Ra1 := Lib.hid (Ra0.out.below hb1 Ra0.out.lt)
        have Rz1 := Lib.hid (Rz0.out.below hb1 Rz0.out.lt)
        have hs1 := Nat.le_trans S0 hb1.size
        have hca1 := fun i => Ra1.out.cell i
        have hlt1 := Ra1.out.lt
        clear hb1
        obtain ⟨w0, e0⟩ : ∃ w0, w0 = (w1).alloc (.cells #[.int .i64 t.op, .int .i64 t.n, .string t.s, .slice none 0 0] 27) := ⟨_, rfl⟩
        have HB0 := Lib.hid (show Below w.heap.size w w0 by rw [e0]; exact B1.out.alloc B1.out.size _)
        have HRa0 := Lib.hid (show Row w0 w.heap.size 27 #[.int .i64 t.op, .int .i64 t.n, .string t.s, .slice A1 t.kids.length c1] by rw [e0]; exact Ra1.out.alloc _)
        have HRz0 := Lib.hid (show Row w0 (w.heap.size + 1) 27 #[.int .i64 0, .int .i64 0, .string ⟨#[]⟩, .slice none 0 0] by rw [e0]; exact Rz1.out.alloc _)
        have HRo0 := Lib.hid (show Row w0 (w1.heap.size) 27 #[.int .i64 t.op, .int .i64 t.n, .string t.s, .slice none 0 0] by rw [e0]; exact Row.new' _ _ _ (by simp))
        have hs0 : w1.heap.size + 1 ≤ w0.heap.size := by rw [e0]; simp
        go_wp2_with fail
        rw [← e0]
        clear e0
        clear hca1
        go_loopw [7] (fun i wr => ∃ (j : Nat) (A : Option Addr) (c : Nat), j ≤ t.kids.length ∧ i = .int .i64 j ∧ Hid (Gow wr (w1.heap.size + 1) wr.heap.size 27 4 (.slice A j c) j (((t.kids.take j).map (GTy.sub F)).map GTy.toD)) ∧ Hid (Row wr w.heap.size 27 #[.int .i64 t.op, .int .i64 t.n, .string t.s, .slice A1 t.kids.length c1]) ∧ Hid (Row wr (w.heap.size + 1) 27 #[.int .i64 0, .int .i64 0, .string ⟨#[]⟩, .slice none 0 0]) ∧ Hid (Row wr (w1.heap.size) 27 #[.int .i64 t.op, .int .i64 t.n, .string t.s, .slice A j c]) ∧ w1.heap.size + 1 ≤ wr.heap.size ∧ Below w.heap.size w wr) (fun i _ => t.kids.length - (intOf i).toNat)
        case atStart => exact ⟨0, none, 0, by omega, by go_num, Lib.hid (Gow.nil _ _ _ _ _), HRa0, HRz0, HRo0, hs0, HB0.out⟩
        case round =>
          clear HRa0 HRz0 HRo0 HB0 hs0
          obtain ⟨j, A, c, hj, rfl, HG, HRa, HRz, HRo, hs3, hbl⟩ := hrel
          have hsz := hbl.size
          have hca := fun i => HRa.out.cell i
          have hco := fun i => HRo.out.cell i
          by_cases hlt : j < t.kids.length
          · exact absurd hlt (by have := HK.out; omega)
          · have hjl : j = t.kids.length := by omega
            obtain ⟨A', c', eV, how⟩ := HG.out.osl
            obtain ⟨rfl, rfl⟩ : A = A' ∧ c = c' := by simpa using eV
            subst hjl
            rw [List.take_length] at how
            clear eV HG hlt hj hca hco
            obtain ⟨p0, p1, p2, -⟩ := T0.out
            have hca := fun i => HRa.out.cell i
            have hco := fun i => HRo.out.cell i
            have hcz := fun i => HRz.out.cell i
            have hfz := fun i => HRz.out.frozen i
            have BF := setCells_below hbl (w.heap.size + 1) 0 (by omega) [.int .i64 t.op, .int .i64 t.n, .string t.s, .slice A t.kids.length c]
            have SF : (setCells wr (w.heap.size + 1) 0 [.int .i64 t.op, .int .i64 t.n, .string t.s, .slice A t.kids.length c]).heap.size = wr.heap.size := by rw [setCells_size]
            have how2 := how.keep (S' := Btw w.heap.size (setCells wr (w.heap.size + 1) 0 [.int .i64 t.op, .int .i64 t.n, .string t.s, .slice A t.kids.length c]).heap.size) (w' := (setCells wr (w.heap.size + 1) 0 [.int .i64 t.op, .int .i64 t.n, .string t.s, .slice A t.kids.length c])) fun q hq => ⟨⟨by have := hq.1; omega, by rw [SF]; exact hq.2⟩, setCells_block _ _ _ _ _ (by have := hq.1; omega)⟩
            have HOW := Lib.hid how2
            have HBF := Lib.hid BF
            have HS := Lib.hid (HN.out)
            clear how how2 BF SF
            go_wp2_with fail
            exact bodyPost_ret (v := .agg #[.int .i64 t.op, .int .i64 t.n, .string t.s, .slice A t.kids.length c]) (by simp [results, Try.results18, go_sem, hca, hcz, hco]) rfl ⟨A, c, by rw [HS.out]; simp [GTy.op, GTy.n, GTy.s, GTy.kids], by rw [HS.out]; exact ⟨p0, p1, p2, HOW.out⟩, HBF.out⟩

end Go.Proofs.Ytghldoiblbcacaa

/- The data of the Go struct Scheme: how it lies in memory (no program in sight). Conditions: none. -/
namespace Go.Proofs.Ytghldoiblbcacaa
open Go.RowKit
set_option linter.unusedVariables false
set_option linter.unusedSimpArgs false

structure GScheme where
  vars : List Int
  ty : GTy

def GScheme.toD (x : GScheme) : D := .agg [.sl 1 (x.vars.map (D.num .i64)), x.ty.toD]

/-- how much it holds, as the laws count it -/
def GScheme.bulk (x : GScheme) : Nat := x.vars.length + x.ty.bulk

theorem GScheme.bulk_eq (t : GScheme) : t.bulk = t.vars.length + t.ty.bulk := rfl

/-- the facts of a struct that lies in memory: its cells are .slice A1 t.vars.length c1, .int .i64 t.ty.op, .int .i64 t.ty.n, .string t.ty.s, .slice A2 t.ty.kids.length c2 -/
def GScheme.At (w : World) (S : Nat → Prop) (A1 : Option Addr) (c1 : Nat) (A2 : Option Addr) (c2 : Nat) (t : GScheme) : Prop :=
  Sl w S 1 A1 c1 (t.vars.map (D.num .i64)) ∧ GTy.At w S A2 c2 t.ty

theorem GScheme.rd {w : World} {S : Nat → Prop} {t : GScheme} {cs : List Value} (h : t.toD.rd w S cs) : ∃ A1 c1 A2 c2, cs = [.slice A1 t.vars.length c1, .int .i64 t.ty.op, .int .i64 t.ty.n, .string t.ty.s, .slice A2 t.ty.kids.length c2] ∧ GScheme.At w S A1 c1 A2 c2 t := by
  unfold GScheme.toD at h
  rw [D.rd_agg] at h
  rw [D.rdF_cons] at h
  obtain ⟨x0, r0, rfl, k0, h⟩ := h
  obtain ⟨A1, c1, rfl, h0⟩ := D.rd_sl.1 k0
  rw [D.rdF_cons] at h
  obtain ⟨x1, r1, rfl, k1, h⟩ := h
  obtain ⟨A2, c2, rfl, h1⟩ := GTy.rd k1
  obtain rfl := D.rdF_nil.1 h
  exact ⟨A1, c1, A2, c2, by simp [List.length_map], h0, h1⟩

theorem GScheme.rd_mk {w : World} {S : Nat → Prop} {t : GScheme} {A1 : Option Addr} {c1 : Nat} {A2 : Option Addr} {c2 : Nat} (h : GScheme.At w S A1 c1 A2 c2 t) : t.toD.rd w S [.slice A1 t.vars.length c1, .int .i64 t.ty.op, .int .i64 t.ty.n, .string t.ty.s, .slice A2 t.ty.kids.length c2] := by
  unfold GScheme.toD
  unfold GScheme.At at h
  obtain ⟨h0, h1⟩ := h
  rw [D.rd_agg]
  exact D.rdF_cons.2 ⟨[_], [_, _, _, _], rfl, D.rd_sl.2 ⟨A1, c1, by simp [List.length_map], h0⟩, D.rdF_cons.2 ⟨[_, _, _, _], [], rfl, GTy.rd_mk h1, D.rdF_nil.2 rfl⟩⟩

theorem GScheme.elem {w : World} {S : Nat → Prop} {A : Option Addr} {c : Nat} {l : List GScheme} (h : Sl w S 5 A c (l.map GScheme.toD)) (i : Nat) (hi : i < l.length) :
    ∃ b off A1 c1 A2 c2, A = some ⟨b, off, none⟩ ∧ S b ∧ w.cell? ⟨b, off + i * 5, none⟩ = some (.slice A1 l[i].vars.length c1) ∧ w.cell? ⟨b, off + i * 5 + 1, none⟩ = some (.int .i64 l[i].ty.op) ∧ w.cell? ⟨b, off + i * 5 + 2, none⟩ = some (.int .i64 l[i].ty.n) ∧ w.cell? ⟨b, off + i * 5 + 3, none⟩ = some (.string l[i].ty.s) ∧ w.cell? ⟨b, off + i * 5 + 4, none⟩ = some (.slice A2 l[i].ty.kids.length c2) ∧ GScheme.At w S A1 c1 A2 c2 l[i] := by
  obtain ⟨b, off, cs, e, hb, hl, hc, hr⟩ := Sl.get h i (by simpa using hi)
  rw [List.getElem_map] at hr
  obtain ⟨A1, c1, A2, c2, rfl, h1⟩ := GScheme.rd hr
  exact ⟨b, off, A1, c1, A2, c2, e, hb, hc 0 _ rfl, hc 1 _ rfl, hc 2 _ rfl, hc 3 _ rfl, hc 4 _ rfl, h1⟩

theorem GScheme.At.keep {w w' : World} {S S' : Nat → Prop} {t : GScheme} {A1 : Option Addr} {c1 : Nat} {A2 : Option Addr} {c2 : Nat} (h : GScheme.At w S A1 c1 A2 c2 t) (hk : ∀ b, S b → S' b ∧ w'.heap[b]? = w.heap[b]?) : GScheme.At w' S' A1 c1 A2 c2 t := by
  unfold GScheme.At at h ⊢
  obtain ⟨h0, h1⟩ := h
  exact ⟨h0.keep hk, h1.keep hk⟩
theorem GScheme.At.below {w w' : World} {B B' : Nat} {t : GScheme} {A1 : Option Addr} {c1 : Nat} {A2 : Option Addr} {c2 : Nat} (h : GScheme.At w (Lt B) A1 c1 A2 c2 t) (hb : Below B w w') (hB : B ≤ B') : GScheme.At w' (Lt B') A1 c1 A2 c2 t :=
  h.keep (keep_below hb hB)

/-- the same, owned -/
def GScheme.Ow (w : World) (S : Nat → Prop) (A1 : Option Addr) (c1 : Nat) (A2 : Option Addr) (c2 : Nat) (t : GScheme) : Prop :=
  ∃ S1 S2 : Nat → Prop, (∀ x, S1 x → S x) ∧ (∀ x, S2 x → S x) ∧ (∀ x, S1 x → ¬ S2 x) ∧ Osl w S1 1 A1 c1 (t.vars.map (D.num .i64)) ∧ GTy.Ow w S2 A2 c2 t.ty

theorem GScheme.own_mk {w : World} {S : Nat → Prop} {t : GScheme} {A1 : Option Addr} {c1 : Nat} {A2 : Option Addr} {c2 : Nat} (h : GScheme.Ow w S A1 c1 A2 c2 t) : t.toD.own w S [.slice A1 t.vars.length c1, .int .i64 t.ty.op, .int .i64 t.ty.n, .string t.ty.s, .slice A2 t.ty.kids.length c2] := by
  unfold GScheme.toD
  unfold GScheme.Ow at h
  obtain ⟨S1, S2, g1, g2, d12, h0, h1⟩ := h
  rw [D.own_agg]
  exact D.ownF_cons (S := S) (S1 := S1) (S2 := S2) (c1 := [_]) (c2 := [_, _, _, _]) (fun x hx => ⟨g1 x hx, fun h => d12 x hx h⟩) (g2) (D.own_sl.2 ⟨A1, c1, by simp [List.length_map], h0⟩) (D.ownF_last (GTy.own_mk h1))

theorem GScheme.Ow.keep {w w' : World} {S S' : Nat → Prop} {t : GScheme} {A1 : Option Addr} {c1 : Nat} {A2 : Option Addr} {c2 : Nat} (h : GScheme.Ow w S A1 c1 A2 c2 t) (hk : ∀ b, S b → S' b ∧ w'.heap[b]? = w.heap[b]?) : GScheme.Ow w' S' A1 c1 A2 c2 t := by
  unfold GScheme.Ow at h ⊢
  obtain ⟨S1, S2, g1, g2, d12, h0, h1⟩ := h
  exact ⟨S1, S2, fun x hx => (hk x (g1 x hx)).1, fun x hx => (hk x (g2 x hx)).1, d12, h0.keep fun b hb => ⟨hb, (hk b (g1 b hb)).2⟩, h1.keep fun b hb => ⟨hb, (hk b (g2 b hb)).2⟩⟩
theorem GScheme.Ow.at {w : World} {S : Nat → Prop} {t : GScheme} {A1 : Option Addr} {c1 : Nat} {A2 : Option Addr} {c2 : Nat} (h : GScheme.Ow w S A1 c1 A2 c2 t) : GScheme.At w S A1 c1 A2 c2 t := by
  unfold GScheme.Ow at h
  unfold GScheme.At
  obtain ⟨S1, S2, g1, g2, d12, h0, h1⟩ := h
  exact ⟨h0.sl.keep fun b hb => ⟨g1 b hb, rfl⟩, h1.at.keep fun b hb => ⟨g2 b hb, rfl⟩⟩

end Go.Proofs.Ytghldoiblbcacaa

/- Instance: a type with others in place of vars, in the program and in the reference. Conditions: none but a bound on the sizes. -/
namespace Go.Proofs.Ytghldoiblbcacaa
open Go.RowKit
set_option linter.unusedVariables false
set_option linter.unusedSimpArgs false
set_option maxHeartbeats 1000000

/-- what stands for a var, by two lists -/
def instOf : List Int → List GTy → Int → Option GTy
  | v :: vs, t :: ts, n => if (n == v) = true then some t else instOf vs ts n
  | _, _, _ => none
theorem instOf_idx {n : Int} : ∀ {vs : List Int} {ts : List GTy}, vs.length = ts.length → (∃ j, ∃ h : j < ts.length, j < vs.length ∧ idxI (fun x : Int => n == x) vs = (j : Int) ∧ instOf vs ts n = some ts[j]) ∨ (idxI (fun x : Int => n == x) vs = -1 ∧ instOf vs ts n = none)
  | [], [], _ => .inr ⟨rfl, rfl⟩
  | [], _ :: _, h => by simp at h
  | _ :: _, [], h => by simp at h
  | v :: vs, t :: ts, h => by
    cases hx : (n == v) with
    | true => exact .inl ⟨0, by simp, by simp, by simp [idxI, hx], by simp only [instOf, hx]; rfl⟩
    | false =>
      rcases instOf_idx (n := n) (vs := vs) (ts := ts) (by simpa using h) with ⟨j, h1, h2, e1, e2⟩ | ⟨e1, e2⟩
      · refine .inl ⟨j + 1, by simpa using h1, by simpa using h2, ?_, ?_⟩
        · simp only [idxI, hx]; rw [e1]; simp; omega
        · simp only [instOf, hx]; simpa using e2
      · refine .inr ⟨?_, ?_⟩
        · simp only [idxI, hx]; rw [e1]; simp
        · simp only [instOf, hx]; simpa using e2
theorem instOf_bulk {n : Int} {u : GTy} : ∀ {vs : List Int} {ts : List GTy}, instOf vs ts n = some u → u.bulk ≤ bulkL GTy.bulk ts
  | [], _, h => by simp [instOf] at h
  | _ :: _, [], h => by simp [instOf] at h
  | v :: vs, t :: ts, h => by
    simp only [instOf] at h
    simp only [bulkL]
    split at h
    · cases h; omega
    · have := instOf_bulk h; omega
def zipB (vs : List Int) (ts : List GTy) : List GBind := List.zipWith (fun v t => ⟨v, t⟩) vs ts
theorem bindOf_zip (n : Int) : ∀ (vs : List Int) (ts : List GTy), bindOf (zipB vs ts) n = instOf vs ts n
  | [], _ => rfl
  | _ :: _, [] => rfl
  | v :: vs, t :: ts => by
    have ih := bindOf_zip n vs ts
    have hc : (v == n) = (n == v) := by rw [Bool.eq_iff_iff, beq_iff_eq, beq_iff_eq]; exact eq_comm
    simp only [zipB, List.zipWith_cons_cons, bindOf, List.find?_cons, instOf, hc] at ih ⊢
    cases hx : (n == v) <;> simp_all
theorem zipB_bulk : ∀ (vs : List Int) (ts : List GTy), bulkL GBind.bulk (zipB vs ts) ≤ bulkL GTy.bulk ts
  | [], _ => by simp [zipB, bulkL]
  | _ :: _, [] => by simp [zipB, bulkL]
  | v :: vs, t :: ts => by
    have ih := zipB_bulk vs ts
    simp only [zipB, List.zipWith_cons_cons, bulkL, GBind.bulk] at ih ⊢
    omega
theorem zipB_length {vs : List Int} {ts : List GTy} (h : vs.length = ts.length) : (zipB vs ts).length = vs.length := by simp [zipB, h]
theorem zipB_take {vs : List Int} {ts : List GTy} (h : vs.length = ts.length) (j : Nat) (h1 : j < vs.length) (h2 : j < ts.length) : (zipB vs ts).take (j + 1) = (zipB vs ts).take j ++ [⟨vs[j], ts[j]⟩] := by
  rw [List.take_succ_eq_append_getElem (by rw [zipB_length h]; exact h1)]
  simp [zipB]

theorem implIndexInt (l : List Int) (A : Option Addr) (c : Nat) (n : Int) (w : World) (hs : Sl w (Lt w.heap.size) 1 A c (l.map (D.num .i64))) :
    Calls Try.prog 117 #[.slice A l.length c, .int .i64 n] w fun e w' => e = .returned (.int .i64 (idxI (fun x : Int => n == x) l)) ∧ Below w.heap.size w w' := by
  have hlen : l.length ≤ 9223372036854775807 := by simpa using hs.len
  have S0 := Lib.hid hs
  clear hs
  go_enter Try.func117, Try.ntmps117
  go_wp2_with fail
  go_loopw [8] (fun i wr => ∃ (j : Nat), j ≤ l.length ∧ i = .int .i64 j ∧ Hid (noneTo (fun x : Int => n == x) l j) ∧ Below w.heap.size w wr) (fun i _ => l.length - (intOf i).toNat)
  case atStart => exact ⟨0, by omega, by go_num, Lib.hid (noneTo_zero _ _), Below.refl _ _⟩
  case round =>
    obtain ⟨j, hj, rfl, HN, hbl⟩ := hrel
    by_cases hlt : j < l.length
    · obtain ⟨b, off, rfl, hSb, g0, _⟩ := int_elem (S0.out.below hbl (Nat.le_refl _)) j hlt
      cases he : (n == l[j]) with
      | true =>
        have HV := Lib.hid (idxI_at HN.out hlt he)
        go_wp2_with fail
        go_ret
        exact ⟨ret_int HV.out.symm, hbl⟩
      | false =>
        have HN2 := Lib.hid (noneTo_succ HN.out hlt he)
        go_wp2_with fail
        go_roundw
        case rel => exact ⟨j + 1, by omega, by go_num, HN2, hbl⟩
        case measure => simp [intOf]; omega
    · have hjl : j = l.length := by omega
      have HV := Lib.hid (idxI_none (hjl ▸ HN.out))
      clear hjl
      go_wp2_with fail
      go_ret
      exact ⟨ret_int HV.out.symm, hbl⟩

/-- Instance: what it gives -/
def instV (s : GScheme) (list : List GTy) : Option GTy := if list.length = s.vars.length then some (s.ty.sub (instOf s.vars list)) else none
def zeroT : GTy := .mk 0 0 ⟨#[]⟩ []
def instR (o : Option GTy) : GTy := match o with | some x => x | none => zeroT
def ToInst (o : Option GTy) (w : World) (e : Ending) (w' : World) : Prop := ∃ A1 c1, e = .returned (.tuple #[.agg #[.int .i64 (instR o).op, .int .i64 (instR o).n, .string (instR o).s, .slice A1 (instR o).kids.length c1], .bool o.isSome]) ∧ GTy.Ow w' (Btw w.heap.size w'.heap.size) A1 c1 (instR o) ∧ Below w.heap.size w w'
theorem zeroT_ow (w : World) (S : Nat → Prop) : GTy.Ow w S none 0 zeroT :=
  ⟨wfNat 0 (by omega), wfNat 0 (by omega), Nat.zero_le _, Osl.nil (by unfold maxLen; omega)⟩
theorem instR_bulk (s : GScheme) (list : List GTy) (h1 : s.bulk ≤ 1048576) (h2 : bulkL GTy.bulk list ≤ 1048576) : (instR (instV s list)).bulk ≤ 1099513724929 := by
  unfold instV
  split
  · have hb := s.bulk_eq
    have c := GTy.sub_bulk (instOf s.vars list) (bulkL GTy.bulk list) (fun n u h => instOf_bulk h) (s.ty.bulk + 1) s.ty (by omega)
    have d : (s.ty.bulk + 1) * (bulkL GTy.bulk list + 1) ≤ 1048577 * 1048577 := Nat.mul_le_mul (by omega) (by omega)
    simp only [instR]
    omega
  · exact Nat.zero_le _

end Go.Proofs.Ytghldoiblbcacaa

/- The bare vars of a type, in the order in which they are met. Conditions: none but a bound on the sizes. -/
namespace Go.Proofs.Ytghldoiblbcacaa
open Go.RowKit
set_option linter.unusedVariables false
set_option linter.unusedSimpArgs false
set_option maxHeartbeats 1000000

mutual
/-- the bare vars of a type behind those that were met before -/
def GTy.met : GTy → List Int → List Int | .mk op n s kids, xs => GTy.metL kids (if op = 2 ∧ kids.length = 0 ∧ xs.any (fun x => x == n) = false then xs ++ [n] else xs)
def GTy.metL : List GTy → List Int → List Int | [], xs => xs | t :: r, xs => GTy.metL r (t.met xs)
end
theorem GTy.met_add {t : GTy} {xs : List Int} (h1 : t.op = 2) (h2 : t.kids.length = 0) (h3 : xs.any (fun x => x == t.n) = false) : t.met xs = GTy.metL t.kids (xs ++ [t.n]) := by
  cases t; simp only [GTy.op, GTy.kids, GTy.n] at h1 h2 h3 ⊢; simp only [GTy.met]; rw [if_pos ⟨h1, h2, h3⟩]
theorem GTy.met_keep {t : GTy} {xs : List Int} (h : ¬ (t.op = 2 ∧ t.kids.length = 0 ∧ xs.any (fun x => x == t.n) = false)) : t.met xs = GTy.metL t.kids xs := by
  cases t; simp only [GTy.op, GTy.kids, GTy.n] at h ⊢; simp only [GTy.met]; rw [if_neg h]
theorem GTy.metL_snoc (t : GTy) : ∀ (l : List GTy) (xs : List Int), GTy.metL (l ++ [t]) xs = t.met (GTy.metL l xs)
  | [], xs => by simp only [List.nil_append, GTy.metL]
  | u :: r, xs => by simp only [List.cons_append, GTy.metL]; exact GTy.metL_snoc t r _
theorem GTy.metL_take {l : List GTy} {j : Nat} (h : j < l.length) (xs : List Int) : GTy.metL (l.take (j + 1)) xs = (l[j]).met (GTy.metL (l.take j) xs) := by
  rw [take_snoc' l j h, GTy.metL_snoc]
theorem GTy.met_len (k : Nat) : ∀ (t : GTy) (xs : List Int), t.bulk < k → (t.met xs).length ≤ xs.length + t.bulk + 1 := by
  induction k with
  | zero => intro t xs h; omega
  | succ k ih =>
    intro t xs hk
    have hbe := t.bulk_eq
    have hL : ∀ (l : List GTy) (ys : List Int), (∀ x, x ∈ l → x.bulk < k) → (GTy.metL l ys).length ≤ ys.length + bulkL GTy.bulk l := by
      intro l
      induction l with
      | nil => intro ys _; simp [GTy.metL, bulkL]
      | cons x r ih2 =>
        intro ys hl
        simp only [GTy.metL, bulkL]
        have a := ih x ys (hl x (by simp))
        have b := ih2 (x.met ys) (fun y hy => hl y (by simp [hy]))
        omega
    by_cases hv : t.op = 2 ∧ t.kids.length = 0 ∧ xs.any (fun x => x == t.n) = false
    · have hk0 : t.kids = [] := List.eq_nil_of_length_eq_zero hv.2.1
      rw [GTy.met_add hv.1 hv.2.1 hv.2.2, hk0]
      simp [GTy.metL]
    · rw [GTy.met_keep hv]
      have := hL t.kids xs (fun x hx => by have := bulkL_mem GTy.bulk t.kids x hx; omega)
      omega
theorem GTy.metL_len (l : List GTy) : ∀ (xs : List Int), (GTy.metL l xs).length ≤ xs.length + bulkL GTy.bulk l := by
  induction l with
  | nil => intro xs; simp [GTy.metL, bulkL]
  | cons x r ih =>
    intro xs
    simp only [GTy.metL, bulkL]
    have a := GTy.met_len (x.bulk + 1) x xs (by omega)
    have b := ih (x.met xs)
    omega
theorem bulkL_take {α : Type} (f : α → Nat) (l : List α) {j : Nat} (h : j < l.length) : bulkL f (l.take j) + f l[j] + 1 ≤ bulkL f l := by
  induction l generalizing j with
  | nil => simp at h
  | cons x r ih =>
    cases j with
    | zero => simp [bulkL]; omega
    | succ j => simp only [List.take_succ_cons, bulkL, List.getElem_cons_succ]; have := ih (j := j) (by simpa using h); omega
theorem bulkL_snoc {α : Type} (f : α → Nat) (x : α) : ∀ l : List α, bulkL f (l ++ [x]) = bulkL f l + f x + 1
  | [] => by simp [bulkL]; omega
  | y :: r => by simp only [List.cons_append, bulkL, bulkL_snoc f x r]; omega
theorem met_next {l : List GTy} {j : Nat} (h : j < l.length) {zs : List Int} {n : Nat} (hz : zs.length ≤ n + bulkL GTy.bulk (l.take j)) : ((l[j]).met zs).length ≤ n + bulkL GTy.bulk (l.take (j + 1)) := by
  have := GTy.met_len _ (l[j]) zs (Nat.lt_succ_self _)
  rw [take_snoc' l j h, bulkL_snoc]
  omega
theorem any_at {α : Type} {f : α → Bool} {l : List α} {j : Nat} (h : j < l.length) (he : f l[j] = true) : l.any f = true := List.any_eq_true.2 ⟨l[j], List.getElem_mem h, he⟩
theorem any_none {α : Type} {f : α → Bool} {l : List α} (h : noneTo f l l.length) : l.any f = false := by
  rw [List.any_eq_false]
  intro x hx
  obtain ⟨i, hi, rfl⟩ := List.mem_iff_getElem.1 hx
  rw [h i hi hi]; simp

theorem any_flip (l : List Int) (n : Int) : (l.any fun x => n == x) = l.any fun x => x == n := by
  congr 1; funext x; rw [Bool.eq_iff_iff, beq_iff_eq, beq_iff_eq]; exact eq_comm
theorem implIntIn (l : List Int) (A : Option Addr) (c : Nat) (n : Int) (w : World) (hs : Sl w (Lt w.heap.size) 1 A c (l.map (D.num .i64))) :
    Calls Try.prog 92 #[.slice A l.length c, .int .i64 n] w fun e w' => e = .returned (.bool (l.any fun x => x == n)) ∧ Below w.heap.size w w' := by
  have HS := Lib.hid hs
  clear hs
  have HI : (decide ((idxI (fun x : Int => n == x) l) ≥ 0)) = l.any fun x => x == n := by
    rw [← any_flip]
    cases ha : l.any fun x => n == x with
    | true => have := idxI_any_true ha; simpa using this
    | false => rw [idxI_any_false ha]; rfl
  have HID := Lib.hid HI
  clear HI
  go_enter Try.func92, Try.ntmps92
  go_wp2_with fail
  refine (implIndexInt l A c n _ HS.out).mono ?_
  rintro e w1 ⟨rfl, hb1⟩
  go_wp2_with fail
  go_ret
  exact ⟨ret_bool HID.out, hb1⟩

end Go.Proofs.Ytghldoiblbcacaa

/- TyText. Conditions: what the type holds is at most 1048576. -/
namespace Go.Proofs.Ytghldoiblbcacaa
open Go.RowKit
set_option linter.unusedVariables false
set_option linter.unusedSimpArgs false
set_option maxHeartbeats 1000000

theorem tnil (a : ByteArray) : a ++ ⟨#[]⟩ = a := by apply ByteArray.ext; simp [ByteArray.data_append]
theorem tnil' (a : ByteArray) : ⟨#[]⟩ ++ a = a := by apply ByteArray.ext; simp [ByteArray.data_append]

/-- texts, a blank ahead of each -/
def spaced : List ByteArray → ByteArray
  | [] => ⟨#[]⟩
  | a :: r => (⟨#[32]⟩ ++ a) ++ spaced r

theorem spaced_take (l : List ByteArray) (i : Nat) (h : i < l.length) : spaced (l.take (i + 1)) = spaced (l.take i) ++ (⟨#[32]⟩ ++ l[i]) := by
  induction l generalizing i with
  | nil => simp at h
  | cons t r ih =>
    match i with
    | 0 => simp [spaced, tnil, tnil']
    | i + 1 => simp only [List.take_succ_cons, spaced, List.getElem_cons_succ]; rw [ih i (by simpa using h), ba_assoc, ba_assoc, ba_assoc]

theorem spaced_le (l : List ByteArray) (i : Nat) : (spaced (l.take i)).size ≤ (spaced l).size := by
  induction l generalizing i with
  | nil => simp
  | cons t r ih =>
    match i with
    | 0 => simp only [List.take_zero, spaced]; exact Nat.zero_le _
    | i + 1 => simp only [List.take_succ_cons, spaced, ByteArray.size_append']; have := ih i; omega

/-- the text of a type, by its kids' texts -/
def tyTextOf (op n : Int) (s : ByteArray) (ks : List ByteArray) : ByteArray :=
  if op = 1 then ⟨#[73, 110, 116]⟩ else if op = 2 then (if n < 0 then ⟨#[63]⟩ else one (97 + n % 26))
  else if op = 3 then (match ks with | [a, b] => ⟨#[40]⟩ ++ a ++ ⟨#[32, 45, 62, 32]⟩ ++ b ++ ⟨#[41]⟩ | _ => ⟨#[63]⟩)
  else if op = 4 then (if ks.length = 0 then s else ⟨#[40]⟩ ++ (s ++ spaced ks) ++ ⟨#[41]⟩) else ⟨#[63]⟩

mutual
/-- a type as text -/
def GTy.text : GTy → ByteArray | .mk op n s kids => tyTextOf op n s (GTy.texts kids)
def GTy.texts : List GTy → List ByteArray | [] => [] | t :: r => t.text :: GTy.texts r
end

theorem GTy.texts_map : ∀ l : List GTy, GTy.texts l = l.map GTy.text
  | [] => rfl
  | t :: r => by simp only [GTy.texts, List.map_cons, GTy.texts_map r]
theorem GTy.text_eq (t : GTy) : t.text = tyTextOf t.op t.n t.s (t.kids.map GTy.text) := by
  cases t; simp only [GTy.text, GTy.texts_map, GTy.op, GTy.n, GTy.s, GTy.kids]

theorem tyTextOf_size (op n : Int) (s : ByteArray) (ks : List ByteArray) (m : Nat) (hs : s.size + 1 ≤ m) (hk : (spaced ks).size + s.size + 10 ≤ m) : (tyTextOf op n s ks).size ≤ m := by
  have e1 : (ByteArray.mk #[73, 110, 116]).size = 3 := rfl
  have e2 : (ByteArray.mk #[63]).size = 1 := rfl
  have e3 : (ByteArray.mk #[40]).size = 1 := rfl
  have e4 : (ByteArray.mk #[41]).size = 1 := rfl
  have e5 : (ByteArray.mk #[32, 45, 62, 32]).size = 4 := rfl
  have e6 : (ByteArray.mk #[32]).size = 1 := rfl
  unfold tyTextOf
  split
  · omega
  split
  · split
    · omega
    · rw [one_size]; omega
  split
  · split
    · simp only [ByteArray.size_append', spaced] at *; omega
    · omega
  split
  · split
    · omega
    · simp only [ByteArray.size_append']; omega
  · omega

mutual
theorem GTy.text_size : ∀ t : GTy, t.text.size + 1 ≤ 25 * (t.bulk + 1)
  | .mk op n s kids => by
    have h1 := GTy.texts_size kids
    simp only [GTy.text, GTy.bulk]
    have := tyTextOf_size op n s (GTy.texts kids) (25 * (s.size + GTy.bulks kids) + 24) (by omega) (by omega)
    omega
theorem GTy.texts_size : ∀ l : List GTy, (spaced (GTy.texts l)).size ≤ 25 * GTy.bulks l
  | [] => by simp only [GTy.texts, spaced]; exact Nat.zero_le _
  | t :: r => by
    have h1 := GTy.text_size t
    have h2 := GTy.texts_size r
    have e1 : (ByteArray.mk #[32]).size = 1 := rfl
    simp only [GTy.texts, spaced, GTy.bulks, ByteArray.size_append']
    omega
end




end Go.Proofs.Ytghldoiblbcacaa

/- TyShown: a type with its vars numbered from 0 on, as text. Conditions: none but a bound on the size. -/
namespace Go.Proofs.Ytghldoiblbcacaa
open Go.RowKit
set_option linter.unusedVariables false
set_option linter.unusedSimpArgs false
set_option maxHeartbeats 1000000

/-- the var of a number -/
def varT (i : Nat) : GTy := .mk 2 i ⟨#[]⟩ []
def varsT (n : Nat) : List GTy := (List.range n).map varT
theorem varsT_length (n : Nat) : (varsT n).length = n := by simp [varsT]
theorem varsT_get {n j : Nat} (h : j < (varsT n).length) : (varsT n)[j] = varT j := by simp [varsT]
theorem varsT_succ (n : Nat) : varsT (n + 1) = varsT n ++ [varT n] := by simp [varsT, List.range_succ]
theorem varT_bulk (i : Nat) : (varT i).bulk = 0 := rfl
theorem varsT_bulk : ∀ n : Nat, bulkL GTy.bulk (varsT n) = n
  | 0 => rfl
  | n + 1 => by rw [varsT_succ, bulkL_snoc, varsT_bulk n, varT_bulk]
theorem varT_at (w : World) (S : Nat → Prop) {i : Nat} (h : i ≤ 1048576) : GTy.At w S none 0 (varT i) :=
  ⟨show (Lit.int .i64 2).wf = true from by decide, by simp [varT, GTy.n, Lit.wf, IntKind.min, IntKind.max, IntKind.signed, IntKind.bits]; omega, by simp [varT, GTy.s, ByteArray.size, maxLen], Sl.nil (by unfold maxLen; omega)⟩
theorem instOf_mem {n : Int} {u : GTy} : ∀ {vs : List Int} {ts : List GTy}, instOf vs ts n = some u → u ∈ ts
  | [], _, h => by simp [instOf] at h
  | _ :: _, [], h => by simp [instOf] at h
  | v :: vs, t :: ts, h => by
    simp only [instOf] at h
    split at h
    · cases h; simp
    · simp [instOf_mem h]
theorem sub_vars_bulk (vs : List Int) (n : Nat) (t : GTy) : (t.sub (instOf vs (varsT n))).bulk ≤ t.bulk := by
  have := GTy.sub_bulk (instOf vs (varsT n)) 0 (fun m u h => by
    obtain ⟨i, hi, rfl⟩ := List.mem_map.1 (instOf_mem h)
    exact Nat.le_of_eq (varT_bulk i)) (t.bulk + 1) t (by omega)
  omega
theorem met_len0 (t : GTy) (h : t.bulk ≤ 1048576) : (t.met []).length ≤ 1048576 := by
  by_cases hv : t.op = 2 ∧ t.kids.length = 0 ∧ ([] : List Int).any (fun x => x == t.n) = false
  · have hk0 : t.kids = [] := List.eq_nil_of_length_eq_zero hv.2.1
    rw [GTy.met_add hv.1 hv.2.1 hv.2.2, hk0]
    simp [GTy.metL]
  · rw [GTy.met_keep hv]
    have := GTy.metL_len t.kids []
    rw [List.length_nil] at this
    have := t.bulk_eq
    omega
/-- a type as it is shown -/
def shownT (t : GTy) : ByteArray := (t.sub (instOf (t.met []) (varsT (t.met []).length))).text

end Go.Proofs.Ytghldoiblbcacaa
