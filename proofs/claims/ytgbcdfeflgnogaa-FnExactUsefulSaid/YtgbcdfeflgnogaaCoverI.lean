/- Coverage: Missing and Idle of both. Conditions: the sizes are bounded. -/
import Derived.Test.YtgbcdfeflgnogaaCoverM
namespace Go.Proofs.Ytgbcdfeflgnogaa
open Go.RowKit
set_option linter.unusedVariables false
set_option linter.unusedSimpArgs false
set_option maxHeartbeats 1000000

theorem rowsOf_get (f : GNode → GNode) (alts : List GNode) (j : Nat) (h : j < (rowsOf f alts).length) (h2 : j < alts.length) : (rowsOf f alts)[j] = [f alts[j]] := List.getElem_map ..
theorem run_head {P : Program} (T e : TypeId) (size : Nat) (ht : P.underlying T = some (.slice e)) (hi : (P.info? e).map (fun i => i.size) = some size) (b off n c j : Nat) (h1 : j ≤ n) (h2 : n ≤ c) (w : World) :
    (Instr.slice T (.slice (some ⟨b, off, none⟩) n c) none (some (.int .i64 (j : Int))) none).run P w = .ok (.slice (some ⟨b, off, none⟩) j c) w := by
  have he : P.elem T = e := by simp [Program.elem, ht]
  obtain ⟨i, g1, g2⟩ := Option.map_eq_some_iff.1 hi
  subst g2
  rw [run_slice_h w T (some ⟨b, off, none⟩) n c (by rw [he]; exact ht) .i64 j (by omega) (by omega)]
  rw [he]
  simp only [sizeOf, typeInfo, Sem.run_bind, g1, Result.andThen_ok, Sem.run_pure, sliced]
  by_cases hc : c = 0
  · subst hc
    simp [g1, Result.andThen]
  · simp [g1, Result.andThen, hc, Addr.add]

set_option maxRecDepth 20000 in
theorem specMissing (ds : List GData) (A0 : Option Addr) (c0 : Nat) (alts : List GNode) (A : Option Addr) (c : Nat) (w : World) (hd : bulkL GData.bulk ds ≤ 1048576) (ha : bulkL GNode.bulk alts ≤ 1048576) (hds : Sl w (Lt w.heap.size) 3 A0 c0 (ds.map GData.toD)) (hs : Sl w (Lt w.heap.size) 5 A c (alts.map GNode.toD)) :
    Calls Try.prog 16 #[.slice A0 ds.length c0, .slice A alts.length c] w fun e w' => e = .returned (.bool (missingG patOf ds alts)) ∧ Below w.heap.size w w' := by
  have HD := Lib.hid hds
  have hl : alts.length ≤ 1048576 := Nat.le_trans (bulkL_len GNode.bulk alts) ha
  have HR := Lib.hid (specRows alts A c w hl hs)
  have HB := Lib.hid (rowsOf_B (f := patOf) (pat_B ha).1)
  have HH := Lib.hid hd
  clear hds hs ha hd
  go_enter Try.func16, Try.ntmps16
  go_wp2_with fail
  refine HR.out.mono ?_
  rintro e w1 ⟨A1, c1, rfl, hr1, hb1⟩
  have B1 := Lib.hid hb1
  have HS1 := Lib.hid hr1
  obtain ⟨w2, e2⟩ : ∃ w2, w2 = w1.alloc (.cells #[.int .i64 17, .int .i64 0, .string ⟨#[]⟩, .string ⟨#[]⟩, .slice none 0 0] 49) := ⟨_, rfl⟩
  have E2 := Lib.hid (show Below w1.heap.size w1 w2 by rw [e2]; exact (Below.refl _ _).alloc (Nat.le_refl _) _)
  have R2 := Lib.hid (show Row w2 w1.heap.size 49 #[.int .i64 17, .int .i64 0, .string ⟨#[]⟩, .string ⟨#[]⟩, .slice none 0 0] by rw [e2]; exact Row.new' _ _ _ rfl)
  have B2 := Lib.hid (B1.out.trans (E2.out.mono B1.out.size))
  have HU := Lib.hid (specUsefulT ds A0 c0 (rowsOf patOf alts) A1 c1 [anyN] (some ⟨w1.heap.size, 0, none⟩) 1 w2 HH.out (by rw [rowsOf_length]; exact hl) (by simp) HB.out (fun x hx => by rw [List.mem_singleton.1 hx]; exact anyN_B _)
    ⟨HD.out.keep (fun k hk => ⟨Nat.lt_of_lt_of_le hk B2.out.size, B2.out.block k hk⟩), HS1.out.keep (fun k hk => ⟨Nat.lt_of_lt_of_le hk E2.out.size, E2.out.block k hk⟩), slOne R2.out (anyN_cells _ _) rfl R2.out.lt⟩)
  have EQ := Lib.hid e2
  clear hr1 hb1 e2
  go_wp2_with fail
  rw [← EQ.out]
  refine HU.out.mono ?_
  rintro e w3 ⟨rfl, hb3⟩
  go_wp2_with fail
  go_ret
  exact ⟨rfl, B2.out.trans (hb3.mono B2.out.size)⟩

set_option maxRecDepth 20000 in
theorem implMissing (ds : List GData) (A0 : Option Addr) (c0 : Nat) (alts : List GNode) (A : Option Addr) (c : Nat) (w : World) (hd : bulkL GData.bulk ds ≤ 1048576) (ha : bulkL GNode.bulk alts ≤ 1048576) (hds : Sl w (Lt w.heap.size) 3 A0 c0 (ds.map GData.toD)) (hs : Sl w (Lt w.heap.size) 5 A c (alts.map GNode.toD)) :
    Calls Try.prog 19 #[.slice A0 ds.length c0, .slice A alts.length c] w fun e w' => e = .returned (.bool (missingG patI ds alts)) ∧ Below w.heap.size w w' := by
  have HD := Lib.hid hds
  have hl : alts.length ≤ 1048576 := Nat.le_trans (bulkL_len GNode.bulk alts) ha
  have HR := Lib.hid (implPatterns alts A c w hl hs)
  have HB := Lib.hid (rowsOf_B (f := patI) (pat_B ha).2)
  have HH := Lib.hid hd
  clear hds hs ha hd
  go_enter Try.func19, Try.ntmps19
  go_wp2_with fail
  refine HR.out.mono ?_
  rintro e w1 ⟨A1, c1, rfl, hr1, hb1⟩
  have B1 := Lib.hid hb1
  have HS1 := Lib.hid hr1
  obtain ⟨w2, e2⟩ : ∃ w2, w2 = w1.alloc (.cells #[.int .i64 17, .int .i64 0, .string ⟨#[]⟩, .string ⟨#[]⟩, .slice none 0 0] 49) := ⟨_, rfl⟩
  have E2 := Lib.hid (show Below w1.heap.size w1 w2 by rw [e2]; exact (Below.refl _ _).alloc (Nat.le_refl _) _)
  have R2 := Lib.hid (show Row w2 w1.heap.size 49 #[.int .i64 17, .int .i64 0, .string ⟨#[]⟩, .string ⟨#[]⟩, .slice none 0 0] by rw [e2]; exact Row.new' _ _ _ rfl)
  have B2 := Lib.hid (B1.out.trans (E2.out.mono B1.out.size))
  have HU := Lib.hid (implUsefulT ds A0 c0 (rowsOf patI alts) A1 c1 [anyN] (some ⟨w1.heap.size, 0, none⟩) 1 w2 HH.out (by rw [rowsOf_length]; exact hl) (by simp) HB.out (fun x hx => by rw [List.mem_singleton.1 hx]; exact anyN_B _)
    ⟨HD.out.keep (fun k hk => ⟨Nat.lt_of_lt_of_le hk B2.out.size, B2.out.block k hk⟩), HS1.out.keep (fun k hk => ⟨Nat.lt_of_lt_of_le hk E2.out.size, E2.out.block k hk⟩), slOne R2.out (anyN_cells _ _) rfl R2.out.lt⟩)
  have EQ := Lib.hid e2
  clear hr1 hb1 e2
  go_wp2_with fail
  rw [← EQ.out]
  refine HU.out.mono ?_
  rintro e w3 ⟨rfl, hb3⟩
  go_wp2_with fail
  go_ret
  exact ⟨rfl, B2.out.trans (hb3.mono B2.out.size)⟩

set_option maxRecDepth 20000 in
theorem implIdle (ds : List GData) (A0 : Option Addr) (c0 : Nat) (alts : List GNode) (A : Option Addr) (c : Nat) (w : World) (hd : bulkL GData.bulk ds ≤ 1048576) (ha : bulkL GNode.bulk alts ≤ 1048576) (hds : Sl w (Lt w.heap.size) 3 A0 c0 (ds.map GData.toD)) (hs : Sl w (Lt w.heap.size) 5 A c (alts.map GNode.toD)) :
    Calls Try.prog 28 #[.slice A0 ds.length c0, .slice A alts.length c] w fun e w' => e = .returned (.int .i64 (idleG patI ds alts)) ∧ Below w.heap.size w w' := by
  have HD := Lib.hid hds
  have hl : alts.length ≤ 1048576 := Nat.le_trans (bulkL_len GNode.bulk alts) ha
  have HR := Lib.hid (implPatterns alts A c w hl hs)
  have HB := Lib.hid (rowsOf_B (f := patI) (pat_B ha).2)
  have HPB := Lib.hid (pat_B ha).2
  have HH := Lib.hid hd
  have HID := Lib.hid (show idleG patI ds alts = idxI (fun i => !usefulV ds ((rowsOf patI alts).take i) [patI (alts.getD i anyN)]) (List.range alts.length) from rfl)
  have HRH := Lib.hid (fun (b off n c : Nat) (j : Nat) (h1 : j ≤ n) (h2 : n ≤ c) (wx : World) => run_head (P := Try.prog) 37 29 1 Try.underlying37 (by kernel_rfl) b off n c j h1 h2 wx)
  clear hds hs ha hd
  go_enter Try.func28, Try.ntmps28
  go_wp2_with fail
  refine HR.out.mono ?_
  rintro e w1 ⟨A1, c1, rfl, hr1, hb1⟩
  have B1 := Lib.hid hb1
  have HS1 := Lib.hid hr1
  rw [rowsOf_length]
  have hlc := hr1.1
  rw [List.length_map, rowsOf_length] at hlc
  have hlm : alts.length ≤ 9223372036854775807 := by omega
  clear hr1 hb1
  go_wp2_with fail
  go_loopw [12] (fun i wr => ∃ (j : Nat), j ≤ alts.length ∧ i = .int .i64 j ∧ Hid (noneTo (fun i => !usefulV ds ((rowsOf patI alts).take i) [patI (alts.getD i anyN)]) (List.range alts.length) j) ∧ Hid (Below w1.heap.size w1 wr)) (fun i _ => alts.length - (intOf i).toNat)
  case atStart => exact ⟨0, by omega, by go_num, Lib.hid (noneTo_zero _ _), Lib.hid (Below.refl _ _)⟩
  case round =>
    obtain ⟨j, hj, rfl, HN, HB2⟩ := hrel
    have hsz := HB2.out.size
    by_cases hlt : j < alts.length
    · have hlr : j < (rowsOf patI alts).length := by rw [rowsOf_length]; exact hlt
      obtain ⟨b, off, A2, c2, rfl, hSb, g0, hs1⟩ := rowD_elem (HS1.out.keep (w' := wr) (S' := Lt wr.heap.size) fun k hk => ⟨Nat.lt_of_lt_of_le hk hsz, HB2.out.block k hk⟩) j hlr
      have hrj : (rowsOf patI alts)[j] = [patI alts[j]] := rowsOf_get patI alts j hlr hlt
      have hgd : alts.getD j anyN = alts[j] := by simp [hlt]
      rw [hrj] at g0 hs1
      have BW := Lib.hid (B1.out.trans (HB2.out.mono B1.out.size))
      have HU := Lib.hid (fun (wx : World) (hb : Below wr.heap.size wr wx) => implUsefulT ds A0 c0 ((rowsOf patI alts).take j) (some ⟨b, off, none⟩) c1 [patI alts[j]] A2 c2 wx HH.out (by rw [List.length_take, rowsOf_length]; omega) (by simp) (fun r hr => HB.out r (List.mem_of_mem_take hr)) (fun x hx => by rw [List.mem_singleton.1 hx]; exact HPB.out _ (List.getElem_mem hlt))
        ⟨HD.out.keep (fun k hk => ⟨Nat.lt_of_lt_of_le (Nat.lt_of_lt_of_le hk BW.out.size) hb.size, ((BW.out.trans (hb.mono BW.out.size)).block k hk)⟩), by
          rw [List.map_take]; exact ((HS1.out.keep (w' := wr) (S' := Lt wr.heap.size) fun k hk => ⟨Nat.lt_of_lt_of_le hk hsz, HB2.out.block k hk⟩).keep (keep_below hb hb.size)).take j, hs1.keep (keep_below hb hb.size)⟩)
      have HTL := Lib.hid (show ((rowsOf patI alts).take j).length = j by rw [List.length_take, rowsOf_length]; omega)
      have hrh := HRH.out b off alts.length c1 j (by omega) hlc
      have HJ := Lib.hid (fun (v : Bool) (h : usefulV ds ((rowsOf patI alts).take j) [patI alts[j]] = v) => show (fun i => !usefulV ds ((rowsOf patI alts).take i) [patI (alts.getD i anyN)]) ((List.range alts.length)[j]'(by simpa using hlt)) = !v from by simp only [List.getElem_range]; rw [hgd, h])
      clear hs1 hrj hgd
      go_wp2_with fail
      have hu0 := HU.out wr (Below.refl _ _)
      rw [HTL.out] at hu0
      refine hu0.mono ?_
      clear hu0
      rintro e w3 ⟨rfl, hb3⟩
      have B3 := Lib.hid (HB2.out.trans (hb3.mono hsz))
      clear hb3 hrh
      cases hu : usefulV ds ((rowsOf patI alts).take j) [patI alts[j]]
      · have HW := Lib.hid (idxI_at (j := j) HN.out (by simpa using hlt) (HJ.out false hu))
        clear hu
        go_wp2_with fail
        go_ret
        exact ⟨ret_int (by rw [HID.out, HW.out]), B1.out.trans (B3.out.mono B1.out.size)⟩
      · have HN2 := Lib.hid (noneTo_succ (j := j) HN.out (by simpa using hlt) (HJ.out true hu))
        clear hu
        go_wp2_with fail
        go_roundw
        case rel => exact ⟨j + 1, by omega, by go_num, HN2, B3⟩
        case measure => simp [intOf]; omega
    · have HW := Lib.hid (idxI_none (p := fun i => !usefulV ds ((rowsOf patI alts).take i) [patI (alts.getD i anyN)]) (l := List.range alts.length) (by have h := HN.out; rw [show j = alts.length by omega] at h; simpa using h))
      go_wp2_with fail
      go_ret
      exact ⟨ret_int (by rw [HID.out, HW.out]), B1.out.trans (HB2.out.mono B1.out.size)⟩

set_option maxRecDepth 20000 in
theorem specIdle (ds : List GData) (A0 : Option Addr) (c0 : Nat) (alts : List GNode) (A : Option Addr) (c : Nat) (w : World) (hd : bulkL GData.bulk ds ≤ 1048576) (ha : bulkL GNode.bulk alts ≤ 1048576) (hds : Sl w (Lt w.heap.size) 3 A0 c0 (ds.map GData.toD)) (hs : Sl w (Lt w.heap.size) 5 A c (alts.map GNode.toD)) :
    Calls Try.prog 27 #[.slice A0 ds.length c0, .slice A alts.length c] w fun e w' => e = .returned (.int .i64 (idleG patOf ds alts)) ∧ Below w.heap.size w w' := by
  have HD := Lib.hid hds
  have hl : alts.length ≤ 1048576 := Nat.le_trans (bulkL_len GNode.bulk alts) ha
  have HR := Lib.hid (specRows alts A c w hl hs)
  have HB := Lib.hid (rowsOf_B (f := patOf) (pat_B ha).1)
  have HPB := Lib.hid (pat_B ha).1
  have HH := Lib.hid hd
  have HID := Lib.hid (show idleG patOf ds alts = idxI (fun i => !usefulV ds ((rowsOf patOf alts).take i) [patOf (alts.getD i anyN)]) (List.range alts.length) from rfl)
  have HRH := Lib.hid (fun (b off n c : Nat) (j : Nat) (h1 : j ≤ n) (h2 : n ≤ c) (wx : World) => run_head (P := Try.prog) 37 29 1 Try.underlying37 (by kernel_rfl) b off n c j h1 h2 wx)
  clear hds hs ha hd
  go_enter Try.func27, Try.ntmps27
  go_wp2_with fail
  refine HR.out.mono ?_
  rintro e w1 ⟨A1, c1, rfl, hr1, hb1⟩
  have B1 := Lib.hid hb1
  have HS1 := Lib.hid hr1
  rw [rowsOf_length]
  have hlc := hr1.1
  rw [List.length_map, rowsOf_length] at hlc
  have hlm : alts.length ≤ 9223372036854775807 := by omega
  clear hr1 hb1
  go_wp2_with fail
  go_loopw [6] (fun i wr => ∃ (j : Nat), j ≤ alts.length ∧ i = .int .i64 j ∧ Hid (noneTo (fun i => !usefulV ds ((rowsOf patOf alts).take i) [patOf (alts.getD i anyN)]) (List.range alts.length) j) ∧ Hid (Below w1.heap.size w1 wr)) (fun i _ => alts.length - (intOf i).toNat)
  case atStart => exact ⟨0, by omega, by go_num, Lib.hid (noneTo_zero _ _), Lib.hid (Below.refl _ _)⟩
  case round =>
    obtain ⟨j, hj, rfl, HN, HB2⟩ := hrel
    have hsz := HB2.out.size
    by_cases hlt : j < alts.length
    · have hlr : j < (rowsOf patOf alts).length := by rw [rowsOf_length]; exact hlt
      obtain ⟨b, off, A2, c2, rfl, hSb, g0, hs1⟩ := rowD_elem (HS1.out.keep (w' := wr) (S' := Lt wr.heap.size) fun k hk => ⟨Nat.lt_of_lt_of_le hk hsz, HB2.out.block k hk⟩) j hlr
      have hrj : (rowsOf patOf alts)[j] = [patOf alts[j]] := rowsOf_get patOf alts j hlr hlt
      have hgd : alts.getD j anyN = alts[j] := by simp [hlt]
      rw [hrj] at g0 hs1
      have BW := Lib.hid (B1.out.trans (HB2.out.mono B1.out.size))
      have HU := Lib.hid (fun (wx : World) (hb : Below wr.heap.size wr wx) => specUsefulT ds A0 c0 ((rowsOf patOf alts).take j) (some ⟨b, off, none⟩) c1 [patOf alts[j]] A2 c2 wx HH.out (by rw [List.length_take, rowsOf_length]; omega) (by simp) (fun r hr => HB.out r (List.mem_of_mem_take hr)) (fun x hx => by rw [List.mem_singleton.1 hx]; exact HPB.out _ (List.getElem_mem hlt))
        ⟨HD.out.keep (fun k hk => ⟨Nat.lt_of_lt_of_le (Nat.lt_of_lt_of_le hk BW.out.size) hb.size, ((BW.out.trans (hb.mono BW.out.size)).block k hk)⟩), by
          rw [List.map_take]; exact ((HS1.out.keep (w' := wr) (S' := Lt wr.heap.size) fun k hk => ⟨Nat.lt_of_lt_of_le hk hsz, HB2.out.block k hk⟩).keep (keep_below hb hb.size)).take j, hs1.keep (keep_below hb hb.size)⟩)
      have HTL := Lib.hid (show ((rowsOf patOf alts).take j).length = j by rw [List.length_take, rowsOf_length]; omega)
      have hrh := HRH.out b off alts.length c1 j (by omega) hlc
      have HJ := Lib.hid (fun (v : Bool) (h : usefulV ds ((rowsOf patOf alts).take j) [patOf alts[j]] = v) => show (fun i => !usefulV ds ((rowsOf patOf alts).take i) [patOf (alts.getD i anyN)]) ((List.range alts.length)[j]'(by simpa using hlt)) = !v from by simp only [List.getElem_range]; rw [hgd, h])
      clear hs1 hrj hgd
      go_wp2_with fail
      have hu0 := HU.out wr.drew ((Below.refl wr.heap.size wr).drew)
      rw [HTL.out] at hu0
      have HU0 := Lib.hid hu0
      clear hu0
      go_region_held3 (fun w' => w'.cell? ⟨b, off + j, none⟩ = some (.slice A2 [patOf alts[j]].length c2)) (first | exact g0 | exact g3) (first
        | (go_at_call 23
           refine HU0.out.mono ?_
           rintro e w3 ⟨rfl, hb3⟩
           have B3 := Lib.hid (HB2.out.trans ((((Below.refl wr.heap.size wr).drew).trans hb3).mono hsz))
           have g3 := ((((Below.refl wr.heap.size wr).drew).trans hb3).cell (p := ⟨b, off + j, none⟩) hSb).trans g0
           clear hb3))
      clear hrh
      cases hu : usefulV ds ((rowsOf patOf alts).take j) [patOf alts[j]]
      · have HW := Lib.hid (idxI_at (j := j) HN.out (by simpa using hlt) (HJ.out false hu))
        clear hu
        go_wp2_with fail
        go_ret
        exact ⟨ret_int (by rw [HID.out, HW.out]), B1.out.trans (B3.out.mono B1.out.size)⟩
      · have HN2 := Lib.hid (noneTo_succ (j := j) HN.out (by simpa using hlt) (HJ.out true hu))
        clear hu
        go_wp2_with fail
        go_roundw
        case rel => exact ⟨j + 1, by omega, by go_num, HN2, B3⟩
        case measure => simp [intOf]; omega
    · have HW := Lib.hid (idxI_none (p := fun i => !usefulV ds ((rowsOf patOf alts).take i) [patOf (alts.getD i anyN)]) (l := List.range alts.length) (by have h := HN.out; rw [show j = alts.length by omega] at h; simpa using h))
      go_wp2_with fail
      go_ret
      exact ⟨ret_int (by rw [HID.out, HW.out]), B1.out.trans (HB2.out.mono B1.out.size)⟩
end Go.Proofs.Ytgbcdfeflgnogaa
