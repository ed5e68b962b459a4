/- SubOk: is a substitution right, in the program and in the reference. Conditions: the sizes are bounded. -/
import Derived.Test.YtjcgfbjdailgoaaBindAt
import Derived.Test.YtjcgfbjdailgoaaHas
import Derived.Test.YtjcgfbjdailgoaaFreeVars
import Derived.Test.YtjcgfbjdailgoaaTyOk
import Derived.Test.YtjcgfbjdailgoaaFInt
import Derived.Test.YtjcgfbjdailgoaaWithin
namespace Go.Proofs.Ytjcgfbjdailgoaa
open Go.RowKit
set_option linter.unusedVariables false
set_option linter.unusedSimpArgs false
set_option maxHeartbeats 1000000

/-- is the j-th bind wrong -/
def subBad (l : List GBind) (j : Nat) (b : GBind) : Bool := decide (b.n < 0) || (idxI (fun x : GBind => x.n == b.n) l != (j : Int)) || !b.ty.ok || l.any fun x => b.ty.has x.n
def subOkV (l : List GBind) : Bool := decide (∀ j, (h : j < l.length) → subBad l j l[j] = false)
theorem subOk_no {l : List GBind} {j : Nat} (h : j < l.length) (e : subBad l j l[j] = true) : subOkV l = false := by
  unfold subOkV
  rw [decide_eq_false_iff_not]
  intro hh
  rw [hh j h] at e; cases e
theorem subOk_yes {l : List GBind} (h : ∀ j, (h : j < l.length) → subBad l j l[j] = false) : subOkV l = true := decide_eq_true h
/-- none of the first j is wrong -/
def subUp (l : List GBind) (j : Nat) : Prop := ∀ i, (h : i < l.length) → i < j → subBad l i l[i] = false
theorem subUp.succ {l : List GBind} {j : Nat} (h : subUp l j) (hj : j < l.length) (e : subBad l j l[j] = false) : subUp l (j + 1) := fun i hi hij => by
  by_cases hh : i < j
  · exact h i hi hh
  · obtain rfl : i = j := by omega
    exact e
theorem idx_any {α : Type} (p : α → Bool) (l : List α) : decide (idxI p l ≥ 0) = l.any p := by
  cases h : l.any p
  · rw [idxI_any_false h]; decide
  · have := idxI_any_true h
    rw [decide_eq_true]; first | exact this | (have := this; omega)
theorem vs_any (l : List GBind) (t : GTy) : (t.vs []).any (fun n => decide (idxI (fun x : GBind => x.n == n) l ≥ 0)) = l.any fun x => t.has x.n := by
  rw [Bool.eq_iff_iff, List.any_eq_true, List.any_eq_true]
  constructor
  · rintro ⟨n, hn, h⟩
    rw [idx_any, List.any_eq_true] at h
    obtain ⟨x, hx, e⟩ := h
    exact ⟨x, hx, (GTy.has_vs _ _).2 (by simp at e; rw [e]; exact hn)⟩
  · rintro ⟨x, hx, h⟩
    refine ⟨x.n, (GTy.has_vs _ _).1 h, ?_⟩
    rw [idx_any, List.any_eq_true]
    exact ⟨x, hx, by simp⟩

set_option maxRecDepth 20000 in
theorem specSubOk (l : List GBind) (A : Option Addr) (c : Nat) (w : World) (hm : bulkL GBind.bulk l ≤ 1048576) (hs : Sl w (Lt w.heap.size) 5 A c (l.map GBind.toD)) :
    Calls Try.prog 67 #[.slice A l.length c] w fun e w' => e = .returned (.bool (subOkV l)) ∧ Below w.heap.size w w' := by
  have hlen : l.length ≤ 9223372036854775807 := by simpa using hs.len
  have S0 := Lib.hid hs
  have HKB := Lib.hid (fun (j : Nat) (h : j < l.length) => show (l[j]).ty.bulk ≤ 1048576 from by have h1 := (bulkV_next GBind.bulk h).2; have h2 := (bulkV_next GBind.bulk h).1; have h3 := (l[j]).bulk_eq; omega)
  clear hs hm
  go_enter Try.func67, Try.ntmps67
  go_wp2_with fail
  go_loopw [3] (fun i wr => ∃ (j : Nat), j ≤ l.length ∧ i = .int .i64 j ∧ Hid (subUp l j) ∧ Hid (Below w.heap.size w wr)) (fun i _ => l.length - (intOf i).toNat)
  case atStart => exact ⟨0, by omega, by go_num, Lib.hid (fun i _ h => by omega), Lib.hid (Below.refl _ _)⟩
  case round =>
    obtain ⟨j, hj, rfl, HN, HB⟩ := hrel
    have hsz := HB.out.size
    by_cases hlt : j < l.length
    · obtain ⟨b, off, A1, c1, rfl, hSb, g0, g1, g2, g3, g4, hat⟩ := GBind.elem (S0.out.below HB.out (Nat.le_refl _)) j hlt
      have S1 := Lib.hid (S0.out.below HB.out hsz)
      have AT := Lib.hid hat.2
      have HBK := Lib.hid (HKB.out j hlt)
      clear hat
      cases hn : decide ((l[j]).n < 0)
      case true =>
        have HW := Lib.hid (subOk_no hlt (show subBad l j l[j] = true by unfold subBad; rw [hn]; rfl))
        go_wp2_with fail
        go_ret
        exact ⟨ret_bool HW.out.symm, HB.out⟩
      go_wp2_with fail
      refine (specBindAt l (some ⟨b, off, none⟩) c (l[j]).n _ S1.out).mono ?_
      rintro e w1 ⟨rfl, hb1⟩
      have B1 := Lib.hid (HB.out.trans (hb1.mono hsz))
      have f1 := (hb1.cell (p := ⟨b, off + j * 5 + 1, none⟩) (Nat.lt_of_lt_of_le hSb hsz)).trans g1
      have f2 := (hb1.cell (p := ⟨b, off + j * 5 + 2, none⟩) (Nat.lt_of_lt_of_le hSb hsz)).trans g2
      have f3 := (hb1.cell (p := ⟨b, off + j * 5 + 3, none⟩) (Nat.lt_of_lt_of_le hSb hsz)).trans g3
      have f4 := (hb1.cell (p := ⟨b, off + j * 5 + 4, none⟩) (Nat.lt_of_lt_of_le hSb hsz)).trans g4
      have AT1 := Lib.hid (AT.out.below (hb1.mono hsz) (show w.heap.size ≤ w1.heap.size by have := hb1.size; omega))
      clear hb1 g0 g1 g2 g3 g4
      by_cases hi : idxI (fun x : GBind => x.n == (l[j]).n) l = (j : Int)
      case neg =>
        have HW := Lib.hid (subOk_no hlt (show subBad l j l[j] = true by unfold subBad; rw [show (idxI (fun x : GBind => x.n == (l[j]).n) l != (j : Int)) = true by simpa using hi]; simp))
        generalize idxI (fun x : GBind => x.n == (l[j]).n) l = q at *
        go_wp2_with fail
        go_ret
        exact ⟨ret_bool HW.out.symm, B1.out⟩
      have HI := Lib.hid (show (idxI (fun x : GBind => x.n == (l[j]).n) l != (j : Int)) = false by simpa using hi)
      rw [hi]
      clear hi
      go_wp2_with fail
      refine (specTyOk (l[j]).ty A1 c1 _ (by have := (l[j]).ty.nodes_bulk; have := HBK.out; omega) (AT1.out.below (Below.refl _ _) (Nat.le_refl _))).mono ?_
      rintro e w2 ⟨rfl, hb2⟩
      have hsz1 := B1.out.size
      have B2 := Lib.hid (B1.out.trans (hb2.mono hsz1))
      clear hb2 f1 f2 f3 f4
      cases ho : (l[j]).ty.ok
      case false =>
        have HW := Lib.hid (subOk_no hlt (show subBad l j l[j] = true by unfold subBad; rw [ho]; simp))
        go_wp2_with fail
        go_ret
        exact ⟨ret_bool HW.out.symm, B2.out⟩
      have HV := Lib.hid (show subBad l j l[j] = l.any fun x => (l[j]).ty.has x.n by unfold subBad; rw [hn, HI.out, ho]; rfl)
      clear hn ho
      go_wp2_with fail
      go_loopw [4] (fun i wr => ∃ (k : Nat), k ≤ l.length ∧ i = .int .i64 k ∧ Hid (noneTo (fun x => (l[j]).ty.has x.n) l k) ∧ Hid (Below w.heap.size w wr)) (fun i _ => l.length - (intOf i).toNat)
      case atStart => exact ⟨0, by omega, by go_num, Lib.hid (noneTo_zero _ _), B2⟩
      case round =>
        obtain ⟨k, hk, rfl, HN2, HB2⟩ := hrel
        rename_i wr0 wr
        have hsz2 := HB2.out.size
        by_cases hlt2 : k < l.length
        · obtain ⟨b', off', A1', c1', eb, hSb', g0, g1, g2, g3, g4, hat⟩ := GBind.elem (S0.out.below HB2.out (Nat.le_refl _)) j hlt
          simp only [Option.some.injEq, Addr.mk.injEq, and_true] at eb
          obtain ⟨rfl, rfl⟩ := eb
          obtain ⟨b', off', A2, c2, eb, _, f0, _, _, _, _, _⟩ := GBind.elem (S0.out.below HB2.out (Nat.le_refl _)) k hlt2
          simp only [Option.some.injEq, Addr.mk.injEq, and_true] at eb
          obtain ⟨rfl, rfl⟩ := eb
          have AT3 := Lib.hid (hat.2.below (Below.refl _ _) hsz2)
          clear hat
          have E3 := Lib.hid (show Below w.heap.size w wr.drew from Below.drew HB2.out)
          have AT4 := Lib.hid (show GTy.At wr.drew (Lt wr.drew.heap.size) A1' c1' (l[j]).ty from AT3.out.keep fun q hq => ⟨hq, rfl⟩)
          go_wp2_with fail
          go_region_held3 (fun w' => w'.cell? ⟨b, off + j * 5 + 1, none⟩ = some (.int .i64 (l[j]).ty.op) ∧ w'.cell? ⟨b, off + j * 5 + 2, none⟩ = some (.int .i64 (l[j]).ty.n) ∧ w'.cell? ⟨b, off + j * 5 + 3, none⟩ = some (.string (l[j]).ty.s) ∧ w'.cell? ⟨b, off + j * 5 + 4, none⟩ = some (.slice A1' (l[j]).ty.kids.length c1') ∧ w'.cell? ⟨b, off + k * 5, none⟩ = some (.int .i64 (l[k]).n)) (first | exact ⟨g1, g2, g3, g4, f0⟩ | exact ⟨q1, q2, q3, q4, q5⟩) (first
            | (go_at_call 140
               refine (specHas (l[k]).n (1048577) (l[j]).ty A1' c1' _ (by have := HBK.out; omega) AT4.out).mono ?_
               rintro e w3 ⟨rfl, hb3⟩
               have B3 := Lib.hid (E3.out.trans (hb3.mono E3.out.size))
               have q1 := (hb3.cell (p := ⟨b, off + j * 5 + 1, none⟩) (Nat.lt_of_lt_of_le hSb hsz2)).trans g1
               have q2 := (hb3.cell (p := ⟨b, off + j * 5 + 2, none⟩) (Nat.lt_of_lt_of_le hSb hsz2)).trans g2
               have q3 := (hb3.cell (p := ⟨b, off + j * 5 + 3, none⟩) (Nat.lt_of_lt_of_le hSb hsz2)).trans g3
               have q4 := (hb3.cell (p := ⟨b, off + j * 5 + 4, none⟩) (Nat.lt_of_lt_of_le hSb hsz2)).trans g4
               have q5 := (hb3.cell (p := ⟨b, off + k * 5, none⟩) (Nat.lt_of_lt_of_le hSb hsz2)).trans f0
               clear hb3))
          cases he : (l[j]).ty.has (l[k]).n
          · have HN3 := Lib.hid (noneTo_succ HN2.out hlt2 he)
            go_wp2_with fail
            go_roundw
            case rel => exact ⟨k + 1, by omega, by go_num, HN3, B3⟩
            case measure => simp [intOf]; omega
          · have HW := Lib.hid (subOk_no hlt (by rw [HV.out]; exact List.any_eq_true.2 ⟨_, List.getElem_mem hlt2, he⟩))
            go_wp2_with fail
            go_ret
            exact ⟨ret_bool HW.out.symm, B3.out⟩
        · have HU := Lib.hid (HN.out.succ hlt (by rw [HV.out]; exact noneTo_any (by have := HN2.out; rwa [show k = l.length by omega] at this)))
          go_wp2_with fail
          go_roundw
          case rel => exact ⟨j + 1, by omega, by go_num, HU, HB2⟩
          case measure => simp [intOf]; omega
    · have HW := Lib.hid (subOk_yes (fun i h => HN.out i h (by omega)))
      go_wp2_with fail
      go_ret
      exact ⟨ret_bool HW.out.symm, HB.out⟩

theorem implSubOk1 (l : List GBind) (A : Option Addr) (c : Nat) (n : Int) (b : Nat) (w : World) (hc : w.cell? ⟨b, 0, none⟩ = some (.slice A l.length c)) (hs : Sl w (Lt w.heap.size) 5 A c (l.map GBind.toD)) :
    Calls Try.prog 145 #[.int .i64 n, .pointer (some ⟨b, 0, none⟩)] w fun e w' => e = .returned (.bool (decide (idxI (fun x : GBind => x.n == n) l ≥ 0))) ∧ Below w.heap.size w w' := by
  have S0 := Lib.hid hs
  clear hs
  go_enter Try.func145, Try.ntmps145
  go_wp2_with fail
  refine (implBindAt l A c n _ S0.out).mono ?_
  rintro e w1 ⟨rfl, hb1⟩
  go_wp2_with fail
  go_ret
  exact ⟨rfl, hb1⟩

set_option maxRecDepth 20000 in
theorem implSubOk (l : List GBind) (A : Option Addr) (c : Nat) (w : World) (hm : bulkL GBind.bulk l ≤ 1048576) (hs : Sl w (Lt w.heap.size) 5 A c (l.map GBind.toD)) :
    Calls Try.prog 69 #[.slice A l.length c] w fun e w' => e = .returned (.bool (subOkV l)) ∧ Below w.heap.size w w' := by
  have hlen : l.length ≤ 9223372036854775807 := by simpa using hs.len
  have HKB := Lib.hid (fun (j : Nat) (h : j < l.length) => show (l[j]).ty.bulk ≤ 1048576 from by have h1 := (bulkV_next GBind.bulk h).2; have h2 := (bulkV_next GBind.bulk h).1; have h3 := (l[j]).bulk_eq; omega)
  obtain ⟨w0, e0⟩ : ∃ w0, w0 = w.alloc (.cells #[.slice A l.length c] 109) := ⟨_, rfl⟩
  have E0 := Lib.hid (show Below w.heap.size w w0 by rw [e0]; exact (Below.refl _ _).alloc (Nat.le_refl _) _)
  have R0 := Lib.hid (show Row w0 w.heap.size 109 #[.slice A l.length c] by rw [e0]; exact Row.new' _ _ _ rfl)
  have S0 := Lib.hid hs
  have S00 : w0.heap.size = w.heap.size + 1 := by rw [e0]; simp
  have hca0 := fun i => R0.out.cell i
  clear hs hm
  go_enter Try.func69, Try.ntmps69
  go_wp2_with fail
  rw [← e0]
  clear e0 hca0
  go_loopw [7] (fun i wr => ∃ (j : Nat), j ≤ l.length ∧ i = .int .i64 j ∧ Hid (subUp l j) ∧ Hid (Row wr w.heap.size 109 #[.slice A l.length c]) ∧ Hid (Below w.heap.size w wr)) (fun i _ => l.length - (intOf i).toNat)
  case atStart => exact ⟨0, by omega, by go_num, Lib.hid (fun i _ h => by omega), R0, E0⟩
  case round =>
    obtain ⟨j, hj, rfl, HN, HR, HB⟩ := hrel
    have hsz := HB.out.size
    have hca := fun i => HR.out.cell i
    have hra := HR.out.lt
    by_cases hlt : j < l.length
    · obtain ⟨b, off, A1, c1, rfl, hSb, g0, g1, g2, g3, g4, hat⟩ := GBind.elem (S0.out.below HB.out (Nat.le_refl _)) j hlt
      have AT := Lib.hid hat.2
      have HBK := Lib.hid (HKB.out j hlt)
      clear hat
      obtain ⟨wb, eb⟩ : ∃ wb, wb = wr.alloc (.cells #[.int .i64 (l[j]).n, .int .i64 (l[j]).ty.op, .int .i64 (l[j]).ty.n, .string (l[j]).ty.s, .slice A1 (l[j]).ty.kids.length c1] 197) := ⟨_, rfl⟩
      have EB := Lib.hid (show Below wr.heap.size wr wb by rw [eb]; exact (Below.refl _ _).alloc (Nat.le_refl _) _)
      have RB := Lib.hid (show Row wb wr.heap.size 197 #[.int .i64 (l[j]).n, .int .i64 (l[j]).ty.op, .int .i64 (l[j]).ty.n, .string (l[j]).ty.s, .slice A1 (l[j]).ty.kids.length c1] by rw [eb]; exact Row.new' _ _ _ rfl)
      have HR1 := Lib.hid (HR.out.below EB.out hra)
      have BB := Lib.hid (HB.out.trans (EB.out.mono hsz))
      have SB := Lib.hid (S0.out.below BB.out BB.out.size)
      have ATB := Lib.hid (AT.out.below (EB.out.mono hsz) BB.out.size)
      have hsb := EB.out.size
      cases hn : decide ((l[j]).n < 0)
      case true =>
        have HW := Lib.hid (subOk_no hlt (show subBad l j l[j] = true by unfold subBad; rw [hn]; rfl))
        go_wp2_with fail
        rw [← eb]
        clear eb
        have hcb := fun i => RB.out.cell i
        go_wp2_with fail
        go_ret
        exact ⟨ret_bool HW.out.symm, BB.out⟩
      go_wp2_with fail
      rw [← eb]
      clear eb hca g0 g1 g2 g3 g4
      have hcb := fun i => RB.out.cell i
      have hca := fun i => HR1.out.cell i
      try go_wp2_with fail
      refine (implBindAt l (some ⟨b, off, none⟩) c (l[j]).n _ SB.out).mono ?_
      rintro e w1 ⟨rfl, hb1⟩
      have B1 := Lib.hid (BB.out.trans (hb1.mono BB.out.size))
      have RB1 := Lib.hid (RB.out.below hb1 RB.out.lt)
      have HR2 := Lib.hid (HR1.out.below hb1 HR1.out.lt)
      have AT1 := Lib.hid (ATB.out.below hb1 (show wb.heap.size ≤ w1.heap.size from hb1.size))
      clear hb1 hcb hca
      have hcb := fun i => RB1.out.cell i
      have hca := fun i => HR2.out.cell i
      by_cases hi : idxI (fun x : GBind => x.n == (l[j]).n) l = (j : Int)
      case neg =>
        have HW := Lib.hid (subOk_no hlt (show subBad l j l[j] = true by unfold subBad; rw [show (idxI (fun x : GBind => x.n == (l[j]).n) l != (j : Int)) = true by simpa using hi]; simp))
        generalize idxI (fun x : GBind => x.n == (l[j]).n) l = q at *
        go_wp2_with fail
        go_ret
        exact ⟨ret_bool HW.out.symm, B1.out⟩
      have HI := Lib.hid (show (idxI (fun x : GBind => x.n == (l[j]).n) l != (j : Int)) = false by simpa using hi)
      rw [hi]
      clear hi
      go_wp2_with fail
      refine (implTyOk (l[j]).ty A1 c1 _ (by have := (l[j]).ty.nodes_bulk; have := HBK.out; omega) AT1.out).mono ?_
      rintro e w2 ⟨rfl, hb2⟩
      have hsz1 := B1.out.size
      have B2 := Lib.hid (B1.out.trans (hb2.mono hsz1))
      have RB2 := Lib.hid (RB1.out.below hb2 RB1.out.lt)
      have HR3 := Lib.hid (HR2.out.below hb2 HR2.out.lt)
      have AT2 := Lib.hid (AT1.out.below hb2 hb2.size)
      clear hb2 hcb hca
      have hcb := fun i => RB2.out.cell i
      have hca := fun i => HR3.out.cell i
      cases ho : (l[j]).ty.ok
      case false =>
        have HW := Lib.hid (subOk_no hlt (show subBad l j l[j] = true by unfold subBad; rw [ho]; simp))
        go_wp2_with fail
        go_ret
        exact ⟨ret_bool HW.out.symm, B2.out⟩
      have HV := Lib.hid (show subBad l j l[j] = ((l[j]).ty.vs []).any (fun n => decide (idxI (fun x : GBind => x.n == n) l ≥ 0)) by unfold subBad; rw [hn, HI.out, ho, vs_any]; rfl)
      clear hn ho
      go_wp2_with fail
      refine (implFreeVars (l[j]).ty A1 c1 _ HBK.out AT2.out).mono ?_
      rintro e w3 ⟨A3, c3, rfl, ho3, hb3⟩
      have O3 := Lib.hid (ho3.sl.keep (S' := Lt w3.heap.size) fun b hb => ⟨hb.2, rfl⟩)
      have hsz2 := B2.out.size
      have B3 := Lib.hid (B2.out.trans (hb3.mono hsz2))
      have RB3 := Lib.hid (RB2.out.below hb3 RB2.out.lt)
      have HR4 := Lib.hid (HR3.out.below hb3 HR3.out.lt)
      have S3 := Lib.hid (S0.out.below B3.out B3.out.size)
      clear hb3 ho3 hcb hca
      have hcb := fun i => RB3.out.cell i
      have hca := fun i => HR4.out.cell i
      go_wp2_with fail
      refine (containsFuncint 145 (enters Try.func145 (by kernel_rfl) (by kernel_rfl)) #[.pointer (some ⟨w.heap.size, 0, none⟩)] (fun n => decide (idxI (fun x : GBind => x.n == n) l ≥ 0)) ((l[j]).ty.vs []) A3 c3 _ O3.out
        (fun x hx w4 hb4 _ => implSubOk1 l (some ⟨b, off, none⟩) c x w.heap.size w4 ((HR4.out.below hb4 HR4.out.lt).cell 0) (S3.out.below hb4 hb4.size))).mono ?_
      rintro e w4 ⟨rfl, hb4⟩
      rw [← HV.out]
      have hsz3 := B3.out.size
      have B4 := Lib.hid (B3.out.trans (hb4.mono hsz3))
      have HR5 := Lib.hid (HR4.out.below hb4 HR4.out.lt)
      clear hb4 hcb hca
      cases he : subBad l j l[j]
      · have HU := Lib.hid (HN.out.succ hlt he)
        go_wp2_with fail
        go_roundw
        case rel => exact ⟨j + 1, by omega, by go_num, HU, HR5, B4⟩
        case measure => simp [intOf]; omega
      · have HW := Lib.hid (subOk_no hlt he)
        go_wp2_with fail
        go_ret
        exact ⟨ret_bool HW.out.symm, B4.out⟩
    · have HW := Lib.hid (subOk_yes (fun i h => HN.out i h (by omega)))
      go_wp2_with fail
      go_ret
      exact ⟨ret_bool HW.out.symm, HB.out⟩
end Go.Proofs.Ytjcgfbjdailgoaa
