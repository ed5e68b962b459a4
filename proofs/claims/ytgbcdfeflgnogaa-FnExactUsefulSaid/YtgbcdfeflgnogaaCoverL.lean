/- Coverage: Useful, Missing and Idle of both, against what they compute. Conditions: the sizes are bounded. -/
import Derived.Test.YtgbcdfeflgnogaaCoverT
import Derived.Test.YtgbcdfeflgnogaaCoverN
namespace Go.Proofs.Ytgbcdfeflgnogaa
open Go.RowKit
set_option linter.unusedVariables false
set_option linter.unusedSimpArgs false
set_option maxHeartbeats 1000000

theorem dsM {ds : List GData} (h : bulkL GData.bulk ds ≤ 1048576) : ∀ d ∈ ds, d.cons.length ≤ 1048576 ∧ ∀ k ∈ d.cons, k.args.length ≤ 1048576 := fun d hd => by
  have h1 := bulkL_mem GData.bulk ds d hd
  have h2 := d.bulk_eq
  have h3 := bulkL_len GCon.bulk d.cons
  refine ⟨by omega, fun k hk => ?_⟩
  have h4 := bulkL_mem GCon.bulk d.cons k hk
  have h5 := k.bulk_eq
  have h6 := bulkL_len GTy.bulk k.args
  omega
theorem len_ne {r row : List GNode} (h : r.length ≠ row.length) : ((r.length : Int) != (row.length : Int)) = true := by simp [bne]; omega
theorem implUseful1 (row : List GNode) (A2 : Option Addr) (c2 b : Nat) (r : List GNode) (A1 : Option Addr) (c1 : Nat) (w : World) (hc : w.cell? ⟨b, 0, none⟩ = some (.slice A2 row.length c2)) :
    Calls Try.prog 96 #[.slice A1 r.length c1, .pointer (some ⟨b, 0, none⟩)] w fun e w' => e = .returned (.bool (!(r.length == row.length))) ∧ Below w.heap.size w w' := by
  go_enter Try.func96, Try.ntmps96
  go_wp2_with fail
  go_ret
  exact ⟨ret_bool (by cases h : (r.length == row.length) <;> simp [bne] <;> (simp at h; omega)), Below.refl _ _⟩

/-- what Useful asks of its arguments -/
structure UseIn (ds : List GData) (A0 : Option Addr) (c0 : Nat) (rows : List (List GNode)) (A : Option Addr) (c : Nat) (row : List GNode) (A2 : Option Addr) (c2 : Nat) (w : World) : Prop where
  ds : Sl w (Lt w.heap.size) 3 A0 c0 (ds.map GData.toD)
  rows : Sl w (Lt w.heap.size) 1 A c (rows.map rowD)
  row : Sl w (Lt w.heap.size) 5 A2 c2 (row.map GNode.toD)
theorem UseIn.lx {ds : List GData} {A0 : Option Addr} {c0 : Nat} {rows : List (List GNode)} {A : Option Addr} {c : Nat} {row : List GNode} {A2 : Option Addr} {c2 : Nat} {w w' : World} (h : UseIn ds A0 c0 rows A c row A2 c2 w) (hb : Below w.heap.size w w') (g : Nat) (hg : w.heap.size ≤ g) :
    Sl w' (Lx (Ng g) w') 3 A0 c0 (ds.map GData.toD) ∧ Sl w' (Lx (Ng g) w') 1 A c (rows.map rowD) ∧ Sl w' (Lx (Ng g) w') 5 A2 c2 (row.map GNode.toD) := by
  have hk : ∀ b, Lt w.heap.size b → Lx (Ng g) w' b ∧ w'.heap[b]? = w.heap[b]? := fun b h => ⟨⟨Nat.lt_of_lt_of_le h hb.size, fun e => by unfold Lt at h; omega⟩, hb.block b h⟩
  exact ⟨h.ds.keep hk, h.rows.keep hk, h.row.keep hk⟩
theorem rowsB_of {rows : List (List GNode)} {n : Nat} (h : (rows.all fun r => r.length == n) = true) (hB : ∀ r ∈ rows, ∀ x ∈ r, nodeB 1048576 x) : RowsB 1048576 n rows := fun r hr => by
  rw [List.all_eq_true] at h
  exact ⟨by simpa using h r hr, hB r hr⟩

set_option maxRecDepth 20000 in
theorem implUsefulT (ds : List GData) (A0 : Option Addr) (c0 : Nat) (rows : List (List GNode)) (A : Option Addr) (c : Nat) (row : List GNode) (A2 : Option Addr) (c2 : Nat) (w : World) (hd : bulkL GData.bulk ds ≤ 1048576) (hrl : rows.length ≤ 1048576) (hwl : row.length ≤ 1048576)
    (hrB : ∀ r ∈ rows, ∀ x ∈ r, nodeB 1048576 x) (hwB : ∀ x ∈ row, nodeB 1048576 x) (hin : UseIn ds A0 c0 rows A c row A2 c2 w) :
    Calls Try.prog 25 #[.slice A0 ds.length c0, .slice A rows.length c, .slice A2 row.length c2] w fun e w' => e = .returned (.bool (usefulV ds rows row)) ∧ Below w.heap.size w w' := by
  have HI := Lib.hid hin
  have HRB := Lib.hid hrB
  have HWB := Lib.hid hwB
  have HM := Lib.hid (dsM hd)
  obtain ⟨w0, e0⟩ : ∃ w0, w0 = w.alloc (.cells #[.slice A2 row.length c2] 29) := ⟨_, rfl⟩
  have E0 := Lib.hid (show Below w.heap.size w w0 by rw [e0]; exact (Below.refl _ _).alloc (Nat.le_refl _) _)
  have R0 := Lib.hid (show Row w0 w.heap.size 29 #[.slice A2 row.length c2] by rw [e0]; exact Row.new' _ _ _ rfl)
  clear hin hrB hwB hd
  go_enter Try.func25, Try.ntmps25
  go_wp2_with fail
  rw [← e0]
  clear e0
  refine (containsFuncRow 96 (enters Try.func96 (by kernel_rfl) (by kernel_rfl)) #[.pointer (some ⟨w.heap.size, 0, none⟩)] (fun r => !(r.length == row.length)) rows A c w0 (HI.out.rows.keep fun k hk => ⟨Nat.lt_of_lt_of_le hk E0.out.size, E0.out.block k hk⟩)
    (fun x hx A1 c1 w2 hb2 hat2 => implUseful1 row A2 c2 w.heap.size x A1 c1 w2 ((R0.out.below hb2 R0.out.lt).cell 0))).mono ?_
  rintro e w1 ⟨rfl, hb1⟩
  have B1 := Lib.hid (E0.out.trans (hb1.mono E0.out.size))
  have R1 := Lib.hid (R0.out.below hb1 R0.out.lt)
  clear hb1
  cases hall : (rows.all fun r => r.length == row.length)
  · have hany : (rows.any fun r => !(r.length == row.length)) = true := by
      rw [List.all_eq_false] at hall
      obtain ⟨x, hx, h⟩ := hall
      exact List.any_eq_true.2 ⟨x, hx, by simpa using h⟩
    have HV := Lib.hid (show usefulV ds rows row = false by unfold usefulV; rw [hall]; rfl)
    clear hall
    go_wp2_with fail
    go_ret
    exact ⟨ret_bool HV.out.symm, B1.out⟩
  · have hany : (rows.any fun r => !(r.length == row.length)) = false := by
      rw [List.all_eq_true] at hall
      rw [List.any_eq_false]
      intro x hx
      simpa using hall x hx
    have HV := Lib.hid (show usefulV ds rows row = (useF ds 4001 0 rows row).1 by unfold usefulV; rw [hall]; rfl)
    have HRS := Lib.hid (rowsB_of hall HRB.out)
    have HOK := Lib.hid (useF_ok ds 4001 0 rows row (by omega))
    have hs1 := B1.out.size
    obtain ⟨w2, e2⟩ : ∃ w2, w2 = w1.alloc (.cells #[.slice A0 ds.length c0, .int .i64 0] 135) := ⟨_, rfl⟩
    have E2 := Lib.hid (show Below w1.heap.size w1 w2 by rw [e2]; exact (Below.refl _ _).alloc (Nat.le_refl _) _)
    have R2 := Lib.hid (show Row w2 w1.heap.size 135 #[.slice A0 ds.length c0, .int .i64 ((0 : Nat) : Int)] by rw [e2]; exact Row.new' _ _ _ rfl)
    have B2 := Lib.hid (B1.out.trans (E2.out.mono hs1))
    have Q2 := Lib.hid (R1.out.below E2.out R1.out.lt)
    have hq2 := fun i => Q2.out.cell i
    rw [e2] at hq2
    have HU := Lib.hid (implUseful ds A0 c0 w1.heap.size HM.out 4001 0 rows row A c A2 c2 w2 (by omega) (by omega) hrl (by omega) HRS.out HWB.out R2.out (HI.out.lx B2.out _ hs1).1 (HI.out.lx B2.out _ hs1).2.1 (HI.out.lx B2.out _ hs1).2.2)
    have EQ2 := Lib.hid e2
    clear hall e2
    go_wp2_with fail
    rw [← EQ2.out]
    refine HU.out.mono ?_
    rintro e w3 ⟨rfl, hR3, hT3⟩
    have B3 := Lib.hid (show Below w.heap.size w w3 from B2.out.trans (hT3.below (Nat.le_trans hs1 E2.out.size) hs1))
    have hc3 := fun i => hR3.cell i
    have ok := HOK.out
    clear hR3 hT3 hq2
    cases hr : (useF ds 4001 0 rows row).1
    · have hle := ok.2 hr
      have hng : ¬ ((useF ds 4001 0 rows row).2 : Int) > 4000 := by omega
      have Hr := Lib.hid hr
      clear ok hr hle
      generalize (useF ds 4001 0 rows row).2 = n at *
      go_wp2_with fail
      go_ret
      exact ⟨ret_bool (by rw [HV.out, Hr.out]; first | done | exact decide_eq_false (by omega)), B3.out⟩
    · have Hr := Lib.hid hr
      clear ok hr
      generalize (useF ds 4001 0 rows row).2 = n at *
      go_wp2_with fail
      go_ret
      exact ⟨ret_bool (by rw [HV.out, Hr.out]), B3.out⟩

set_option maxRecDepth 20000 in
theorem specUsefulT (ds : List GData) (A0 : Option Addr) (c0 : Nat) (rows : List (List GNode)) (A : Option Addr) (c : Nat) (row : List GNode) (A2 : Option Addr) (c2 : Nat) (w : World) (hd : bulkL GData.bulk ds ≤ 1048576) (hrl : rows.length ≤ 1048576) (hwl : row.length ≤ 1048576)
    (hrB : ∀ r ∈ rows, ∀ x ∈ r, nodeB 1048576 x) (hwB : ∀ x ∈ row, nodeB 1048576 x) (hin : UseIn ds A0 c0 rows A c row A2 c2 w) :
    Calls Try.prog 23 #[.slice A0 ds.length c0, .slice A rows.length c, .slice A2 row.length c2] w fun e w' => e = .returned (.bool (usefulV ds rows row)) ∧ Below w.heap.size w w' := by
  have HI := Lib.hid hin
  have HRB := Lib.hid hrB
  have HWB := Lib.hid hwB
  have HM := Lib.hid (dsM hd)
  have hrlm : rows.length ≤ 9223372036854775807 := by omega
  clear hin hrB hwB hd
  go_enter Try.func23, Try.ntmps23
  go_wp2_with fail
  go_loopw [7] (fun i wr => ∃ (j : Nat), j ≤ rows.length ∧ i = .int .i64 j ∧ Hid (noneTo (fun r : List GNode => !(r.length == row.length)) rows j) ∧ Hid (Below w.heap.size w wr)) (fun i _ => rows.length - (intOf i).toNat)
  case atStart => exact ⟨0, by omega, by go_num, Lib.hid (noneTo_zero _ _), Lib.hid (Below.refl _ _)⟩
  case round =>
    obtain ⟨j, hj, rfl, HN, HB⟩ := hrel
    by_cases hlt : j < rows.length
    · obtain ⟨b, off, A1, c1, rfl, hSb, g0, hs1⟩ := rowD_elem (HI.out.rows.keep (w' := wr) (S' := Lt w.heap.size) fun k hk => ⟨hk, HB.out.block k hk⟩) j hlt
      clear hs1
      cases he : ((rows[j]).length == row.length)
      · have HV := Lib.hid (show usefulV ds rows row = false by
          unfold usefulV
          rw [show (rows.all fun r => r.length == row.length) = false from List.all_eq_false.2 ⟨_, List.getElem_mem hlt, by rw [he]; simp⟩]; rfl)
        have hne : (((rows[j]).length : Int) != (row.length : Int)) = true := len_ne (by simpa using he)
        clear he
        go_wp2_with fail
        go_ret
        exact ⟨ret_bool HV.out.symm, HB.out⟩
      · have HN2 := Lib.hid (noneTo_succ HN.out hlt (by rw [he]; rfl))
        have hne : (((rows[j]).length : Int) != (row.length : Int)) = false := by simp only [beq_iff_eq] at he; simp [bne]; omega
        clear he
        go_wp2_with fail
        go_roundw
        case rel => exact ⟨j + 1, by omega, by go_num, HN2, HB⟩
        case measure => simp [intOf]; omega
    · have hall : (rows.all fun r => r.length == row.length) = true := by
        have h1 := HN.out
        rw [show j = rows.length by omega] at h1
        rw [List.all_eq_true]
        intro x hx
        obtain ⟨i, hi, rfl⟩ := List.getElem_of_mem hx
        have := h1 i hi hi
        simpa using this
      have HV := Lib.hid (show usefulV ds rows row = (useF ds 4001 0 rows row).1 by unfold usefulV; rw [hall]; rfl)
      have HRS := Lib.hid (rowsB_of hall HRB.out)
      have hs1 := HB.out.size
      obtain ⟨w2, e2⟩ : ∃ w2, w2 = wr.alloc (.cells #[.slice A0 ds.length c0, .int .i64 0] 130) := ⟨_, rfl⟩
      have E2 := Lib.hid (show Below wr.heap.size wr w2 by rw [e2]; exact (Below.refl _ _).alloc (Nat.le_refl _) _)
      have R2 := Lib.hid (show Row w2 wr.heap.size 130 #[.slice A0 ds.length c0, .int .i64 ((0 : Nat) : Int)] by rw [e2]; exact Row.new' _ _ _ rfl)
      have B2 := Lib.hid (HB.out.trans (E2.out.mono hs1))
      have HU := Lib.hid (specUseful ds A0 c0 wr.heap.size HM.out 4001 0 rows row A c A2 c2 w2 (by omega) (by omega) hrl (by omega) HRS.out HWB.out R2.out (HI.out.lx B2.out _ hs1).1 (HI.out.lx B2.out _ hs1).2.1 (HI.out.lx B2.out _ hs1).2.2)
      have EQ2 := Lib.hid e2
      clear hall e2
      go_wp2_with fail
      rw [← EQ2.out]
      refine HU.out.mono ?_
      rintro e w3 ⟨rfl, hR3, hT3⟩
      have B3 := Lib.hid (show Below w.heap.size w w3 from B2.out.trans (hT3.below (Nat.le_trans hs1 E2.out.size) hs1))
      clear hR3 hT3
      go_wp2_with fail
      go_ret
      exact ⟨ret_bool HV.out.symm, B3.out⟩

end Go.Proofs.Ytgbcdfeflgnogaa
