/- At: what is at a path in a value, in the program and in the reference. Conditions: none but a bound on the size. -/
import Derived.Test.YtnjindgpmacjmaaCValue
import Derived.Test.YtnjindgpmacjmaaInt
import Derived.Test.YtnjindgpmacjmaaWithin
import Derived.Deep.RegionLaw
namespace Go.Proofs.Ytnjindgpmacjmaa
open Go.RowKit
set_option linter.unusedVariables false
set_option linter.unusedSimpArgs false
set_option maxHeartbeats 1000000

/-- the part of a value at a path -/
def valAt : GValue → List Int → Option GValue
  | v, [] => some v
  | v, k :: r => if 0 ≤ k then (match v.kids[k.toNat]? with | some x => valAt x r | none => none) else none
def zeroV : GValue := .mk 0 0 ⟨#[]⟩ []
def atV (o : Option GValue) : GValue := match o with | some x => x | none => zeroV
def ToAt (o : Option GValue) (w : World) (e : Ending) (w' : World) : Prop := ∃ A1 c1, e = .returned (.tuple #[.agg #[.int .i64 (atV o).kind, .int .i64 (atV o).n, .string (atV o).s, .slice A1 (atV o).kids.length c1], .bool o.isSome]) ∧ GValue.Ow w' (Btw w.heap.size w'.heap.size) A1 c1 (atV o) ∧ Below w.heap.size w w'
theorem valAt_neg {v : GValue} {p : List Int} {j : Nat} (h : j < p.length) (hk : p[j] < 0) : valAt v (p.drop j) = none := by
  rw [List.drop_eq_getElem_cons h, valAt, if_neg (by omega)]
theorem valAt_over {v : GValue} {p : List Int} {j : Nat} (h : j < p.length) (hk : (v.kids.length : Int) ≤ p[j]) : valAt v (p.drop j) = none := by
  rw [List.drop_eq_getElem_cons h, valAt, if_pos (by omega), List.getElem?_eq_none (by omega)]
theorem valAt_in {v : GValue} {p : List Int} {j k : Nat} (h : j < p.length) (hp : p[j] = k) (hk : k < v.kids.length) : valAt v (p.drop j) = valAt v.kids[k] (p.drop (j + 1)) := by
  rw [List.drop_eq_getElem_cons h, valAt, if_pos (by omega), hp, Int.toNat_natCast, List.getElem?_eq_getElem hk]
theorem valAt_bulk {v x : GValue} {p : List Int} (h : valAt v p = some x) : x.bulk ≤ v.bulk := by
  induction p generalizing v with
  | nil => simp [valAt] at h; subst h; exact Nat.le_refl _
  | cons k r ih =>
    simp only [valAt] at h
    split at h
    · split at h
      · rename_i y hy
        have := ih h
        obtain ⟨hk, e⟩ := List.getElem?_eq_some_iff.1 hy
        have := bulkL_mem GValue.bulk v.kids _ (List.getElem_mem hk)
        have := v.bulk_eq
        rw [e] at *; omega
      · cases h
    · cases h
theorem atV_bulk (v : GValue) (p : List Int) : (atV (valAt v p)).bulk ≤ v.bulk := by
  cases h : valAt v p with
  | none => exact Nat.zero_le _
  | some x => exact valAt_bulk h
theorem zeroV_ow (w : World) (S : Nat → Prop) : GValue.Ow w S none 0 zeroV :=
  ⟨wfNat 0 (by omega), wfNat 0 (by omega), Nat.zero_le _, Osl.nil (by unfold maxLen; omega)⟩

set_option maxRecDepth 20000 in
theorem specAt (v : GValue) (A1 : Option Addr) (c1 : Nat) (p : List Int) (P : Option Addr) (pc : Nat) (w : World) (hb : v.bulk ≤ 1048576) (hv : GValue.At w (Lt w.heap.size) A1 c1 v) (hp : Sl w (Lt w.heap.size) 1 P pc (p.map (D.num .i64))) :
    Calls Try.prog 16 #[.agg #[.int .i64 v.kind, .int .i64 v.n, .string v.s, .slice A1 v.kids.length c1], .slice P p.length pc] w (ToAt (valAt v p) w) := by
  have hlen : p.length ≤ 9223372036854775807 := by simpa using hp.len
  have V0 := Lib.hid hv
  have P0 := Lib.hid hp
  clear hv hp
  obtain ⟨w0, e0⟩ : ∃ w0, w0 = (w.alloc (.cells #[.int .i64 v.kind, .int .i64 v.n, .string v.s, .slice A1 v.kids.length c1] 29)).alloc (.cells #[.int .i64 0, .int .i64 0, .string ⟨#[]⟩, .slice none 0 0] 29) := ⟨_, rfl⟩
  have B0 := Lib.hid (show Below w.heap.size w w0 by rw [e0]; exact ((Below.refl _ _).alloc (Nat.le_refl _) _).alloc (by simp) _)
  have S0 : w.heap.size + 2 ≤ w0.heap.size := by rw [e0]; simp
  have Ra0 := Lib.hid (show Row w0 w.heap.size 29 #[.int .i64 v.kind, .int .i64 v.n, .string v.s, .slice A1 v.kids.length c1] by rw [e0]; exact (Row.new' _ _ _ rfl).alloc _)
  have Rz0 := Lib.hid (show Row w0 (w.heap.size + 1) 29 #[.int .i64 0, .int .i64 0, .string ⟨#[]⟩, .slice none 0 0] by rw [e0]; exact Row.new' _ _ _ (by simp))
  go_enter Try.func16, Try.ntmps16
  go_wp2_with fail
  rw [← e0]
  clear e0
  go_loopw [6] (fun i wr => ∃ (j : Nat) (x : GValue) (A2 : Option Addr) (c2 : Nat), j ≤ p.length ∧ i = .int .i64 j ∧ Hid (valAt v p = valAt x (p.drop j)) ∧ Hid (GValue.At w (Lt w.heap.size) A2 c2 x) ∧ x.bulk ≤ 1048576 ∧ Hid (Row wr w.heap.size 29 #[.int .i64 x.kind, .int .i64 x.n, .string x.s, .slice A2 x.kids.length c2]) ∧ Hid (Row wr (w.heap.size + 1) 29 #[.int .i64 0, .int .i64 0, .string ⟨#[]⟩, .slice none 0 0]) ∧ w.heap.size + 2 ≤ wr.heap.size ∧ Below w.heap.size w wr) (fun i _ => p.length - (intOf i).toNat)
  case atStart => exact ⟨0, v, A1, c1, by omega, by go_num, Lib.hid rfl, V0, hb, Ra0, Rz0, S0, B0.out⟩
  case round =>
    clear Ra0 Rz0 B0 S0
    obtain ⟨j, x, A2, c2, hj, rfl, HV, HX, hxb, HRa, HRz, hs2, hbl⟩ := hrel
    have hsz := hbl.size
    have hca := fun i => HRa.out.cell i
    have hfa := fun i => HRa.out.frozen i
    have hcz := fun i => HRz.out.cell i
    have hfz := fun i => HRz.out.frozen i
    have hxl : x.kids.length ≤ 9223372036854775807 := by simpa using HX.out.2.2.2.len
    by_cases hlt : j < p.length
    · obtain ⟨b, off, rfl, hSb, g0, gw⟩ := int_elem (P0.out.below hbl (Nat.le_refl _)) j hlt
      have hw := int_wf gw
      clear gw
      by_cases hneg : p[j] < 0
      · have HN := Lib.hid (HV.out.trans (valAt_neg hlt hneg))
        have BF := Lib.hid (fun n => setCells_below (belowN hbl n) (w.heap.size + 1) 0 (by omega) [.int .i64 0, .int .i64 0, .string ⟨#[]⟩, .slice none 0 0])
        generalize p[j] = q at *
        go_wp2_with fail
        go_quiet (fail)
        go_wp2_with fail
        exact bodyPost_ret (v := .tuple #[.agg #[.int .i64 0, .int .i64 0, .string ⟨#[]⟩, .slice none 0 0], .bool false]) (by simp [results, Try.results16, go_sem, hcz]) rfl ⟨none, 0, by rw [HN.out]; rfl, by rw [HN.out]; exact zeroV_ow _ _, BF.out _⟩
      · have hneg' : decide (p[j] < 0) = false := decide_eq_false hneg
        by_cases hov : (x.kids.length : Int) ≤ p[j]
        · have HN := Lib.hid (HV.out.trans (valAt_over hlt hov))
          have BF := Lib.hid (fun n => setCells_below (belowN hbl n) (w.heap.size + 1) 0 (by omega) [.int .i64 0, .int .i64 0, .string ⟨#[]⟩, .slice none 0 0])
          generalize p[j] = q at *
          go_wp2_with fail
          go_quiet (fail)
          go_wp2_with fail
          exact bodyPost_ret (v := .tuple #[.agg #[.int .i64 0, .int .i64 0, .string ⟨#[]⟩, .slice none 0 0], .bool false]) (by simp [results, Try.results16, go_sem, hcz]) rfl ⟨none, 0, by rw [HN.out]; rfl, by rw [HN.out]; exact zeroV_ow _ _, BF.out _⟩
        · obtain ⟨k, hk⟩ : ∃ k : Nat, p[j] = k := ⟨(p[j]).toNat, by omega⟩
          have hkl : k < x.kids.length := by omega
          have HN := Lib.hid (HV.out.trans (valAt_in hlt hk hkl))
          have hov' : decide ((x.kids.length : Int) ≤ (k : Int)) = false := decide_eq_false (by omega)
          rw [hk] at g0 hneg'
          clear hneg hov hk hw
          obtain ⟨b3, off3, A3, c3, rfl, hSb3, q0, q1, q2, q3, hat⟩ := GValue.elem (HX.out.below hbl (Nat.le_refl _)).2.2.2 k hkl
          have HA := Lib.hid (show GValue.At w (Lt w.heap.size) A3 c3 x.kids[k] from hat.keep fun q hq => ⟨hq, (hbl.block q hq).symm⟩)
          have hkb : (x.kids[k]).bulk ≤ 1048576 := by have := bulkL_mem GValue.bulk x.kids _ (List.getElem_mem hkl); have := x.bulk_eq; omega
          clear hat
          go_wp2_with fail
          go_quiet (fail)
          go_wp2_with fail
          go_region_law (fail)
          all_goals
            go_wp2_with fail
            go_roundw
            case rel =>
              have RA := (((HRa.out.set 0 (.int .i64 (x.kids[k]).kind)).set 1 (.int .i64 (x.kids[k]).n)).set 2 (.string (x.kids[k]).s)).set 3 (.slice A3 (x.kids[k]).kids.length c3)
              have RZ := (((HRz.out.far (p := ⟨w.heap.size, 0, none⟩) (by simp) (.int .i64 (x.kids[k]).kind)).far (p := ⟨w.heap.size, 1, none⟩) (by simp) (.int .i64 (x.kids[k]).n)).far (p := ⟨w.heap.size, 2, none⟩) (by simp) (.string (x.kids[k]).s)).far (p := ⟨w.heap.size, 3, none⟩) (by simp) (.slice A3 (x.kids[k]).kids.length c3)
              exact ⟨j + 1, x.kids[k], A3, c3, by omega, by go_num, HN, HA, hkb, Lib.hid RA, Lib.hid RZ, by simpa [World.setCell] using hs2, setCells_below (belowN hbl _).drew w.heap.size 0 (Nat.le_refl _) [.int .i64 (x.kids[k]).kind, .int .i64 (x.kids[k]).n, .string (x.kids[k]).s, .slice A3 (x.kids[k]).kids.length c3]⟩
            case measure => simp [intOf]; omega
    · have hjl : j = p.length := by omega
      have HN := Lib.hid (show valAt v p = some x by rw [HV.out, hjl, List.drop_length]; rfl)
      clear hjl
      go_wp2_with fail
      refine (specValueCopy' x A2 c2 _ hxb (HX.out.below hbl hsz)).mono ?_
      rintro e w1 ⟨A3, c3, rfl, how, hb1⟩
      have Rz1 := Lib.hid (HRz.out.below hb1 (by omega))
      have hcz1 := fun i => Rz1.out.cell i
      have hfz1 := fun i => Rz1.out.frozen i
      have B1 := hbl.trans (hb1.mono hsz)
      have BF := Lib.hid (setCells_below B1 (w.heap.size + 1) 0 (by omega) [.int .i64 x.kind, .int .i64 x.n, .string x.s, .slice A3 x.kids.length c3])
      have SF : (setCells w1 (w.heap.size + 1) 0 [.int .i64 x.kind, .int .i64 x.n, .string x.s, .slice A3 x.kids.length c3]).heap.size = w1.heap.size := setCells_size _ _ _ _
      have HOW := Lib.hid (how.keep (S' := Btw w.heap.size (setCells w1 (w.heap.size + 1) 0 [.int .i64 x.kind, .int .i64 x.n, .string x.s, .slice A3 x.kids.length c3]).heap.size) (w' := setCells w1 (w.heap.size + 1) 0 [.int .i64 x.kind, .int .i64 x.n, .string x.s, .slice A3 x.kids.length c3]) fun q hq => ⟨⟨Nat.le_trans hsz hq.1, by rw [SF]; exact hq.2⟩, setCells_block _ _ _ _ _ (by have := hq.1; omega)⟩)
      clear hb1 B1 SF how hca hfa hcz hfz
      go_wp2_with fail
      exact bodyPost_ret (v := .tuple #[.agg #[.int .i64 x.kind, .int .i64 x.n, .string x.s, .slice A3 x.kids.length c3], .bool true]) (by simp [results, Try.results16, go_sem, hcz1]) rfl ⟨A3, c3, by rw [HN.out]; rfl, by rw [HN.out]; exact HOW.out, BF.out⟩

set_option maxRecDepth 20000 in
theorem implAt (v : GValue) (A1 : Option Addr) (c1 : Nat) (p : List Int) (P : Option Addr) (pc : Nat) (w : World) (hb : v.bulk ≤ 1048576) (hv : GValue.At w (Lt w.heap.size) A1 c1 v) (hp : Sl w (Lt w.heap.size) 1 P pc (p.map (D.num .i64))) :
    Calls Try.prog 19 #[.agg #[.int .i64 v.kind, .int .i64 v.n, .string v.s, .slice A1 v.kids.length c1], .slice P p.length pc] w (ToAt (valAt v p) w) := by
  have hlen : p.length ≤ 9223372036854775807 := by simpa using hp.len
  have V0 := Lib.hid hv
  have P0 := Lib.hid hp
  clear hv hp
  obtain ⟨w0, e0⟩ : ∃ w0, w0 = (w.alloc (.cells #[.int .i64 v.kind, .int .i64 v.n, .string v.s, .slice A1 v.kids.length c1] 29)).alloc (.cells #[.int .i64 0, .int .i64 0, .string ⟨#[]⟩, .slice none 0 0] 29) := ⟨_, rfl⟩
  have B0 := Lib.hid (show Below w.heap.size w w0 by rw [e0]; exact ((Below.refl _ _).alloc (Nat.le_refl _) _).alloc (by simp) _)
  have S0 : w.heap.size + 2 ≤ w0.heap.size := by rw [e0]; simp
  have Ra0 := Lib.hid (show Row w0 w.heap.size 29 #[.int .i64 v.kind, .int .i64 v.n, .string v.s, .slice A1 v.kids.length c1] by rw [e0]; exact (Row.new' _ _ _ rfl).alloc _)
  have Rz0 := Lib.hid (show Row w0 (w.heap.size + 1) 29 #[.int .i64 0, .int .i64 0, .string ⟨#[]⟩, .slice none 0 0] by rw [e0]; exact Row.new' _ _ _ (by simp))
  go_enter Try.func19, Try.ntmps19
  go_wp2_with fail
  rw [← e0]
  clear e0
  go_loopw [10] (fun i wr => ∃ (j : Nat) (x : GValue) (A2 : Option Addr) (c2 : Nat), j ≤ p.length ∧ i = .int .i64 j ∧ Hid (valAt v p = valAt x (p.drop j)) ∧ Hid (GValue.At w (Lt w.heap.size) A2 c2 x) ∧ x.bulk ≤ 1048576 ∧ Hid (Row wr w.heap.size 29 #[.int .i64 x.kind, .int .i64 x.n, .string x.s, .slice A2 x.kids.length c2]) ∧ Hid (Row wr (w.heap.size + 1) 29 #[.int .i64 0, .int .i64 0, .string ⟨#[]⟩, .slice none 0 0]) ∧ w.heap.size + 2 ≤ wr.heap.size ∧ Below w.heap.size w wr) (fun i _ => p.length - (intOf i).toNat)
  case atStart => exact ⟨0, v, A1, c1, by omega, by go_num, Lib.hid rfl, V0, hb, Ra0, Rz0, S0, B0.out⟩
  case round =>
    clear Ra0 Rz0 B0 S0
    obtain ⟨j, x, A2, c2, hj, rfl, HV, HX, hxb, HRa, HRz, hs2, hbl⟩ := hrel
    have hsz := hbl.size
    have hca := fun i => HRa.out.cell i
    have hfa := fun i => HRa.out.frozen i
    have hcz := fun i => HRz.out.cell i
    have hfz := fun i => HRz.out.frozen i
    have hxl : x.kids.length ≤ 9223372036854775807 := by simpa using HX.out.2.2.2.len
    by_cases hlt : j < p.length
    · obtain ⟨b, off, rfl, hSb, g0, gw⟩ := int_elem (P0.out.below hbl (Nat.le_refl _)) j hlt
      have hw := int_wf gw
      clear gw
      by_cases hin : 0 ≤ p[j] ∧ p[j] ≤ (x.kids.length : Int) - 1
      rotate_left
      · have HN := Lib.hid (HV.out.trans (show valAt x (p.drop j) = none by
          by_cases h : p[j] < 0
          · exact valAt_neg hlt h
          · exact valAt_over hlt (by omega)))
        have BF := Lib.hid (setCells_below hbl (w.heap.size + 1) 0 (by omega) [.int .i64 0, .int .i64 0, .string ⟨#[]⟩, .slice none 0 0])
        have HI := inB_false hin
        clear hin
        generalize p[j] = q at *
        go_wp2_with fail
        refine (implWithin _ _ _ _).mono ?_
        rintro e w2 ⟨rfl, rfl⟩
        rw [HI]
        go_wp2_with fail
        exact bodyPost_ret (v := .tuple #[.agg #[.int .i64 0, .int .i64 0, .string ⟨#[]⟩, .slice none 0 0], .bool false]) (by simp [results, Try.results19, go_sem, hcz]) rfl ⟨none, 0, by rw [HN.out]; rfl, by rw [HN.out]; exact zeroV_ow _ _, BF.out⟩
      · obtain ⟨k, hk⟩ : ∃ k : Nat, p[j] = k := ⟨(p[j]).toNat, by omega⟩
        have hkl : k < x.kids.length := by omega
        have HN := Lib.hid (HV.out.trans (valAt_in hlt hk hkl))
        have HI := inB_true hin
        rw [hk] at g0 HI
        clear hin hk hw
        obtain ⟨b3, off3, A3, c3, rfl, hSb3, q0, q1, q2, q3, hat⟩ := GValue.elem (HX.out.below hbl (Nat.le_refl _)).2.2.2 k hkl
        have HA := Lib.hid (show GValue.At w (Lt w.heap.size) A3 c3 x.kids[k] from hat.keep fun q hq => ⟨hq, (hbl.block q hq).symm⟩)
        have hkb : (x.kids[k]).bulk ≤ 1048576 := by have := bulkL_mem GValue.bulk x.kids _ (List.getElem_mem hkl); have := x.bulk_eq; omega
        clear hat
        go_wp2_with fail
        refine (implWithin _ _ _ _).mono ?_
        rintro e w2 ⟨rfl, rfl⟩
        rw [HI]
        go_wp2_with fail
        go_roundw
        case rel =>
          have RA := (((HRa.out.set 0 (.int .i64 (x.kids[k]).kind)).set 1 (.int .i64 (x.kids[k]).n)).set 2 (.string (x.kids[k]).s)).set 3 (.slice A3 (x.kids[k]).kids.length c3)
          have RZ := (((HRz.out.far (p := ⟨w.heap.size, 0, none⟩) (by simp) (.int .i64 (x.kids[k]).kind)).far (p := ⟨w.heap.size, 1, none⟩) (by simp) (.int .i64 (x.kids[k]).n)).far (p := ⟨w.heap.size, 2, none⟩) (by simp) (.string (x.kids[k]).s)).far (p := ⟨w.heap.size, 3, none⟩) (by simp) (.slice A3 (x.kids[k]).kids.length c3)
          exact ⟨j + 1, x.kids[k], A3, c3, by omega, by go_num, HN, HA, hkb, Lib.hid RA, Lib.hid RZ, by simpa [World.setCell] using hs2, setCells_below hbl w.heap.size 0 (Nat.le_refl _) [.int .i64 (x.kids[k]).kind, .int .i64 (x.kids[k]).n, .string (x.kids[k]).s, .slice A3 (x.kids[k]).kids.length c3]⟩
        case measure => simp [intOf]; omega
    · have hjl : j = p.length := by omega
      have HN := Lib.hid (show valAt v p = some x by rw [HV.out, hjl, List.drop_length]; rfl)
      clear hjl
      go_wp2_with fail
      refine (implCopyValue' x A2 c2 _ hxb (HX.out.below hbl hsz)).mono ?_
      rintro e w1 ⟨A3, c3, rfl, how, hb1⟩
      have Rz1 := Lib.hid (HRz.out.below hb1 (by omega))
      have hcz1 := fun i => Rz1.out.cell i
      have hfz1 := fun i => Rz1.out.frozen i
      have B1 := hbl.trans (hb1.mono hsz)
      have BF := Lib.hid (setCells_below B1 (w.heap.size + 1) 0 (by omega) [.int .i64 x.kind, .int .i64 x.n, .string x.s, .slice A3 x.kids.length c3])
      have SF : (setCells w1 (w.heap.size + 1) 0 [.int .i64 x.kind, .int .i64 x.n, .string x.s, .slice A3 x.kids.length c3]).heap.size = w1.heap.size := setCells_size _ _ _ _
      have HOW := Lib.hid (how.keep (S' := Btw w.heap.size (setCells w1 (w.heap.size + 1) 0 [.int .i64 x.kind, .int .i64 x.n, .string x.s, .slice A3 x.kids.length c3]).heap.size) (w' := setCells w1 (w.heap.size + 1) 0 [.int .i64 x.kind, .int .i64 x.n, .string x.s, .slice A3 x.kids.length c3]) fun q hq => ⟨⟨Nat.le_trans hsz hq.1, by rw [SF]; exact hq.2⟩, setCells_block _ _ _ _ _ (by have := hq.1; omega)⟩)
      clear hb1 B1 SF how hca hfa hcz hfz
      go_wp2_with fail
      exact bodyPost_ret (v := .tuple #[.agg #[.int .i64 x.kind, .int .i64 x.n, .string x.s, .slice A3 x.kids.length c3], .bool true]) (by simp [results, Try.results19, go_sem, hcz1]) rfl ⟨A3, c3, by rw [HN.out]; rfl, by rw [HN.out]; exact HOW.out, BF.out⟩
end Go.Proofs.Ytnjindgpmacjmaa
