/- Texts of the claim LVerifies in one: EwZ2 EwZ3 Effect OpOk FunsOk DepthsP Focus MarkText Int RowI Depths. Conditions: none but bounds on sizes. -/
import Derived.Test.YtehpobojopmilaaGreatZLVerifies10
import Derived.Test.YtehpobojopmilaaGreatRows
import Derived.Test.YtehpobojopmilaaGreatZLVerifies8
import Derived.Test.YtehpobojopmilaaGreatZLVerifies0
import Derived.Lib.Hide
import Derived.BigQuiet
import Derived.Deep.LoopGhost
import Derived.Deep.RegionHeld3
namespace Go.Proofs.YtehpobojopmilaaGreat
set_option maxRecDepth 20000
set_option linter.unusedVariables false
set_option linter.unusedSimpArgs false
open Go.RowKit
set_option maxHeartbeats 2000000
def DrawnFns (w : World) (e : Ending) (w' : World) : Prop :=
 ∃ (fs : List GFun) (A : Option Addr) (c : Nat), e = .returned (.slice A fs.length c) ∧ fs.length ≤ 200 ∧ Sl w' (Lt w'.heap.size) 2 A c (fs.map GFun.toD) ∧ Below w.heap.size w w'
theorem drawVerifyE (l : List Int) (A : Option Addr) (c : Nat) (w : World) (hs : Sl w (Lt w.heap.size) 1 A c (l.map (D.num .u8))) (hl : l.length ≤ 1048576) :
 Calls Tryz.prog 8 #[.slice A l.length c] w (DrawnFns w) := by
 have HN := LH (newCur l A c w hs hl)
 clear hs
 go_enter Tryz.func8, Tryz.ntmps8
 refine wp_hide (fun BP hBP => ?_)
 have HBP := LH hBP
 clear hBP
 go_wp2_with fail
 refine HN.out.mono ?_
 clear HN
 rintro e w1 ⟨h, rfl, hc1, hb1⟩
 have hz1 := hb1.size
 have B1 := LH hb1
 have M1 := LH (Dm.start hc1)
 have hl1 := hc1.row.lt
 clear hc1 hb1
 go_wp2_with fail
 refine (draw13 M1.out).mono ?_
 rintro e w2 ⟨u, n, rfl, hf, hn, hm2⟩
 obtain ⟨A1, c1, fs, rfl, hlen, hsl⟩ := hf.read
 have HLN := LH hlen
 clear hlen
 have B2 := LH (B1.out.trans (hm2.bx.below (by omega) (by omega)))
 have S2 := LH (hsl.keep (w' := w2) (S' := Lt w2.heap.size) fun b hb => ⟨hb.2, rfl⟩)
 clear hm2 hsl hf
 go_wp2_with fail
 show BP _ _
 rw [HBP.out]
 refine bodyPost_ret (v := .slice A1 fs.length c1) (by simp [results, Tryz.results8, go_sem]) rfl ?_
 exact ⟨fs, A1, c1, rfl, by have := HLN.out; omega, S2.out, B2.out⟩
theorem drawFunsOkE (l : List Int) (A : Option Addr) (c : Nat) (w : World) (hs : Sl w (Lt w.heap.size) 1 A c (l.map (D.num .u8))) (hl : l.length ≤ 1048576) :
 Calls Tryz.prog 9 #[.slice A l.length c] w (DrawnFns w) := by
 have HN := LH (newCur l A c w hs hl)
 clear hs
 go_enter Tryz.func9, Tryz.ntmps9
 refine wp_hide (fun BP hBP => ?_)
 have HBP := LH hBP
 clear hBP
 go_wp2_with fail
 refine HN.out.mono ?_
 clear HN
 rintro e w1 ⟨h, rfl, hc1, hb1⟩
 have hz1 := hb1.size
 have B1 := LH hb1
 have M1 := LH (Dm.start hc1)
 have hl1 := hc1.row.lt
 clear hc1 hb1
 go_wp2_with fail
 refine (draw13 M1.out).mono ?_
 rintro e w2 ⟨u, n, rfl, hf, hn, hm2⟩
 obtain ⟨A1, c1, fs, rfl, hlen, hsl⟩ := hf.read
 have HLN := LH hlen
 clear hlen
 have B2 := LH (B1.out.trans (hm2.bx.below (by omega) (by omega)))
 have S2 := LH (hsl.keep (w' := w2) (S' := Lt w2.heap.size) fun b hb => ⟨hb.2, rfl⟩)
 clear hm2 hsl hf
 go_wp2_with fail
 show BP _ _
 rw [HBP.out]
 refine bodyPost_ret (v := .slice A1 fs.length c1) (by simp [results, Tryz.results9, go_sem]) rfl ?_
 exact ⟨fs, A1, c1, rfl, by have := HLN.out; omega, S2.out, B2.out⟩
theorem storedThreeZ {w : World} {n : Nat} {T : TypeId} {x0 x1 x2 : Value} (h : Row w n T #[x0, x1, x2]) (y0 y1 y2 : Value) : ∃ x, x = (((w.setCell ⟨n, 0, none⟩ y0).setCell ⟨n, 1, none⟩ y1).setCell ⟨n, 2, none⟩ y2) ∧ Hid (Row x n T #[y0, y1, y2]) ∧ x.heap.size = w.heap.size ∧ Hid (Bx n w x) :=
 ⟨_, rfl, LH (((h.set 0 y0).set 1 y1).set 2 y2), by simp [World.setCell], LH ((((Bx.refl _ _).set (p := ⟨n, 0, none⟩) (.inl rfl) _).set (p := ⟨n, 1, none⟩) (.inl rfl) _).set (p := ⟨n, 2, none⟩) (.inl rfl) _)⟩
def DrawnFnI (w : World) (e : Ending) (w' : World) : Prop :=
 ∃ (fs : List GFun) (A : Option Addr) (c : Nat) (z : Int), e = .returned (.tuple #[.slice A fs.length c, .int .i64 z]) ∧ fs.length ≤ 200 ∧ (-1 ≤ z ∧ z ≤ 300) ∧ Sl w' (Lt w'.heap.size) 2 A c (fs.map GFun.toD) ∧ Below w.heap.size w w'
def DrawnOpE (w : World) (e : Ending) (w' : World) : Prop :=
 ∃ t : GOp, e = .returned (.agg #[.int .i64 t.code, .int .i64 t.n, .int .i64 t.m]) ∧ ((Lit.int .i64 t.code).wf = true ∧ (Lit.int .i64 t.n).wf = true ∧ (Lit.int .i64 t.m).wf = true) ∧ Below w.heap.size w w'
theorem drawDepthsE (l : List Int) (A : Option Addr) (c : Nat) (w : World) (hs : Sl w (Lt w.heap.size) 1 A c (l.map (D.num .u8))) (hl : l.length ≤ 1048576) :
 Calls Tryz.prog 5 #[.slice A l.length c] w (DrawnFnI w) := by
 have HN := LH (newCur l A c w hs hl)
 clear hs
 go_enter Tryz.func5, Tryz.ntmps5
 refine wp_hide (fun BP hBP => ?_)
 have HBP := LH hBP
 clear hBP
 go_wp2_with fail
 refine HN.out.mono ?_
 clear HN
 rintro e w1 ⟨h, rfl, hc1, hb1⟩
 have hz1 := hb1.size
 have B1 := LH hb1
 have M1 := LH (Dm.start hc1)
 have hl1 := hc1.row.lt
 clear hc1 hb1
 go_wp2_with fail
 refine (draw13 M1.out).mono ?_
 rintro e w2 ⟨u, n, rfl, hf, hn, hm2⟩
 have hz2 := hm2.size
 obtain ⟨A1, c1, fs, rfl, hlen, hsl⟩ := hf.read
 have hfl : fs.length ≤ 200 := by omega
 have hww : IntKind.i64.wrap ((fs.length : Int) + 2) = (fs.length : Int) + 2 := (IntWalk.i64_left _).trans (IntWalk.wrap64_in _ (by omega))
 have M2 := LH (M1.out.trans hm2)
 have F2 := LH hf
 clear hlen hsl hm2 hf M1
 go_wp2_with fail
 refine (drawBelowD M2.out ((fs.length : Int) + 2) (by omega) (by omega)).mono ?_
 rintro e w3 ⟨x, rfl, hx, hm3⟩
 have hz3 := hm3.size
 have F3 := LH (F2.out.turn (FTurn.dm M2.out hm3))
 have M3 := LH (M2.out.trans hm3)
 obtain ⟨A2, c2, fs2, hsleq, hlen2, hsl2⟩ := F3.out.read
 obtain ⟨rfl, hfe, rfl⟩ : A1 = A2 ∧ fs.length = fs2.length ∧ c1 = c2 := by
  simpa using hsleq
 have HFE := LH hfe
 have S3 := LH (hsl2.keep (w' := w3) (S' := Lt w3.heap.size) fun b hb => ⟨hb.2, rfl⟩)
 have B3 := LH (B1.out.trans (M3.out.bx.below (by omega) (by omega)))
 have hwx : IntKind.i64.wrap (x - 1) = x - 1 := (IntWalk.i64_left _).trans (IntWalk.wrap64_in _ (by omega))
 clear hfe hsleq hlen2 hsl2 hm3 F2 F3 M2
 go_wp2_with fail
 show BP _ _
 rw [HBP.out]
 refine bodyPost_ret (v := .tuple #[.slice A1 fs.length c1, .int .i64 (x - 1)]) (by simp [results, Tryz.results5, go_sem]) rfl ?_
 exact ⟨fs2, A1, c1, x - 1, by rw [HFE.out], by have := HFE.out; omega, ⟨by omega, by omega⟩, S3.out, B3.out⟩
theorem drawOpTextE (l : List Int) (A : Option Addr) (c : Nat) (w : World) (hs : Sl w (Lt w.heap.size) 1 A c (l.map (D.num .u8))) (hl : l.length ≤ 1048576) :
 Calls Tryz.prog 10 #[.slice A l.length c] w (DrawnOpE w) := by
 obtain ⟨w0, e0, R0, hz0, K0⟩ := boxed w 32 #[.int .i64 0, .int .i64 0, .int .i64 0]
 have B0 := LH (show Below w.heap.size w w0 by rw [e0]; exact (Below.refl _ _).alloc (Nat.le_refl _) _)
 have HN := LH (newCur l A c w0 (hs.below B0.out B0.out.size) hl)
 replace hz0 : w.heap.size + 1 ≤ w0.heap.size ∧ w0.heap.size ≤ w.heap.size + 1 := by omega
 clear hs K0
 go_enter Tryz.func10, Tryz.ntmps10
 refine wp_hide (fun BP hBP => ?_)
 have HBP := LH hBP
 clear hBP
 go_wp2_with fail
 rw [← e0]
 clear e0
 refine HN.out.mono ?_
 clear HN
 rintro e w1 ⟨h, rfl, hc1, hb1⟩
 have hz1 := hb1.size
 have B1 := LH (B0.out.trans (hb1.mono B0.out.size))
 have R1 := LH (R0.out.below hb1 R0.out.lt)
 have M1 := LH (Dm.start hc1)
 have hl1 := hc1.row.lt
 clear hc1 hb1 R0 B0
 go_wp2_with fail
 refine (draw13 M1.out).mono ?_
 rintro e w2 ⟨u, n, rfl, hf, hn, hm2⟩
 have hz2 := hm2.size
 have M2 := LH (M1.out.trans hm2)
 have R2 := LH (hm2.bx.row R1.out (by omega))
 have B2 := LH (B1.out.trans (hm2.bx.below (by omega) (by omega)))
 have F2 := LH hf
 obtain ⟨A1, c1, rfl⟩ := hf.isSlice
 clear hf hm2 R1 M1 B1
 by_cases h0 : n = 0
 ·
  subst h0
  have hcr := fun i => R2.out.cell i
  have hfr := fun i => R2.out.frozen i
  have hlr := R2.out.lt
  go_wp2_with fail
  clear hcr hfr hlr
  obtain ⟨w5, e5, R5, hz5, K5⟩ := storedThreeZ R2.out (.int .i64 0) (.int .i64 0) (.int .i64 0)
  have B5 := LH (B2.out.trans (K5.out.below (B := w.heap.size) (by omega) (by omega)))
  rw [← e5]
  clear e5
  have hcr5 := fun i => R5.out.cell i
  show BP _ _
  rw [HBP.out]
  refine bodyPost_ret (v := .agg #[.int .i64 0, .int .i64 0, .int .i64 0]) (by simp [results, Tryz.results10, go_sem, hcr5]) rfl ?_
  exact ⟨⟨0, 0, 0⟩, rfl, by decide, B5.out⟩
 have hn0 : 0 < n := by omega
 have hni : ¬ (n : Int) = 0 := by omega
 have dni : ((n : Int) == 0) = false := beq_eq_false_iff_ne.2 hni
 obtain ⟨b, of, cf', cs, hsl, hrf, hof, hcf, hnc, hcm, hall⟩ := F2.out.form hn0
 obtain ⟨rfl, rfl⟩ : A1 = some ⟨b, of, none⟩ ∧ c1 = cf' := by
  cases hsl
  exact ⟨rfl, rfl⟩
 obtain ⟨-, u1, k1, hu1, hop⟩ := hall 0 hn0
 obtain ⟨A2, c2, rfl⟩ := hop.isSlice
 have hc4 : w2.cell? ⟨b, of + 1, none⟩ = some (.slice A2 k1 c2) := by
  rw [Nat.zero_mul, Nat.add_zero] at hu1
  exact (hrf.cell _).trans hu1
 clear hsl hall F2
 by_cases hk0 : k1 = 0
 ·
  subst hk0
  have hcr := fun i => R2.out.cell i
  have hfr := fun i => R2.out.frozen i
  have hlr := R2.out.lt
  go_wp2_with fail
  clear hcr hfr hlr
  obtain ⟨w5, e5, R5, hz5, K5⟩ := storedThreeZ R2.out (.int .i64 0) (.int .i64 0) (.int .i64 0)
  have B5 := LH (B2.out.trans (K5.out.below (B := w.heap.size) (by omega) (by omega)))
  rw [← e5]
  clear e5
  have hcr5 := fun i => R5.out.cell i
  show BP _ _
  rw [HBP.out]
  refine bodyPost_ret (v := .agg #[.int .i64 0, .int .i64 0, .int .i64 0]) (by simp [results, Tryz.results10, go_sem, hcr5]) rfl ?_
  exact ⟨⟨0, 0, 0⟩, rfl, by decide, B5.out⟩
 have hk1 : 0 < k1 := by omega
 have hki : ¬ (k1 : Int) = 0 := by omega
 have dki : ((k1 : Int) == 0) = false := beq_eq_false_iff_ne.2 hki
 obtain ⟨b2, o2, c3, cs2, hsl, hro, hoo, hco, hkc, hcm2, hk256, hint⟩ := hop.form hk1
 obtain ⟨rfl, rfl⟩ : A2 = some ⟨b2, o2, none⟩ ∧ c2 = c3 := by
  cases hsl
  exact ⟨rfl, rfl⟩
 clear hsl hop
 have hlf := hrf.lt.2
 have hlo2 := hro.lt.2
 have hng : ∀ x t' cs', (t' = 32 ∨ t' = 41) → Row w2 x t' cs' → x ≠ w0.heap.size := fun x t' cs' ht hr => by
  obtain ⟨i, z, hc⟩ := M2.out.cur
  rintro rfl
  have := (rowOne hr hc.row).1
  subst this
  revert ht; decide
 have hbg := hng b _ _ (.inr rfl) hrf.2
 have hb2g := hng b2 _ _ (.inl rfl) hro.2
 clear hng
 go_wp2_with fail
 refine wp_region_T (fun x => x.cell? ⟨b, of + 1, none⟩ = some (.slice (some ⟨b2, o2, none⟩) k1 c2)) 13 (by kernel_rfl) ?_
 obtain ⟨w5, e5⟩ : ∃ x, x = w2.drew := ⟨_, rfl⟩
 rw [← e5]
 have K5 := LH (show Below w2.heap.size w2 w5 by rw [e5]; exact (Below.refl _ _).drew)
 have hz5 : w5.heap.size ≤ w2.heap.size ∧ w2.heap.size ≤ w5.heap.size := by rw [e5]; exact ⟨Nat.le_refl _, Nat.le_refl _⟩
 have hS1 : w5.cell? ⟨b, of + 1, none⟩ = some (.slice (some ⟨b2, o2, none⟩) k1 c2) := by rw [e5]; exact hc4
 clear e5
 have M5 := LH (M2.out.below K5.out)
 have B5 := LH (B2.out.trans (K5.out.mono B2.out.size))
 have R5 := LH (R2.out.below K5.out R2.out.lt)
 have hro5 : RwL w1.heap.size w5 b2 32 cs2 := ⟨hro.1, (K5.out.block b2 hlo2).trans hro.2⟩
 clear M2 B2 R2 hc4
 refine wpAnyT_tk (i := 0) (oi := _) (v := ?tvk1) rfl (Or.inl ⟨by rfl, ?thk1⟩) hS1 ?_
 case thk1 => (intro x hSx; (try dsimp only at hSx); go_simp; (try with_reducible rfl))
 try simp only [List.getElem_toArray, List.getElem_cons_succ, List.getElem_cons_zero, Act.put, List.setIfInBounds_toArray, List.set_cons_zero, List.set_cons_succ]
 refine wpAnyT_tk (i := 1) (oi := _) (v := ?tvk2) rfl (Or.inl ⟨by rfl, ?thk2⟩) hS1 ?_
 case thk2 => (intro x hSx; (try dsimp only at hSx); go_simp; (try with_reducible rfl))
 try simp only [List.getElem_toArray, List.getElem_cons_succ, List.getElem_cons_zero, Act.put, List.setIfInBounds_toArray, List.set_cons_zero, List.set_cons_succ]
 refine wpAnyT_tk (i := 2) (oi := _) (v := ?tvk3) rfl (Or.inl ⟨by rfl, ?thk3⟩) hS1 ?_
 case thk3 => (intro x hSx; (try dsimp only at hSx); go_simp; (try with_reducible rfl))
 try simp only [List.getElem_toArray, List.getElem_cons_succ, List.getElem_cons_zero, Act.put, List.setIfInBounds_toArray, List.set_cons_zero, List.set_cons_succ]
 refine wpAnyT_tk (i := 3) (oi := _) (v := ?tvk4) rfl (Or.inl ⟨by rfl, ?thk4⟩) hS1 ?_
 case thk4 => (intro x hSx; (try dsimp only at hSx); go_simp; (try with_reducible rfl))
 try simp only [List.getElem_toArray, List.getElem_cons_succ, List.getElem_cons_zero, Act.put, List.setIfInBounds_toArray, List.set_cons_zero, List.set_cons_succ]
 refine wpAnyT_tk (i := 4) (oi := _) (v := ?tvk5) rfl (Or.inl ⟨by rfl, ?thk5⟩) hS1 ?_
 case thk5 => (intro x hSx; (try dsimp only at hSx); go_simp; (try with_reducible rfl))
 try simp only [List.getElem_toArray, List.getElem_cons_succ, List.getElem_cons_zero, Act.put, List.setIfInBounds_toArray, List.set_cons_zero, List.set_cons_succ]
 refine wpAnyT_tk (i := 5) (oi := _) (v := ?tvk6) rfl (Or.inl ⟨by rfl, ?thk6⟩) hS1 ?_
 case thk6 => (intro x hSx; (try dsimp only at hSx); go_simp; (try with_reducible rfl))
 try simp only [List.getElem_toArray, List.getElem_cons_succ, List.getElem_cons_zero, Act.put, List.setIfInBounds_toArray, List.set_cons_zero, List.set_cons_succ]
 refine wpAnyT_tk (i := 6) (oi := _) (v := ?tvk7) rfl (Or.inl ⟨by rfl, ?thk7⟩) hS1 ?_
 case thk7 => (intro x hSx; (try dsimp only at hSx); go_simp; (try with_reducible rfl))
 try simp only [List.getElem_toArray, List.getElem_cons_succ, List.getElem_cons_zero, Act.put, List.setIfInBounds_toArray, List.set_cons_zero, List.set_cons_succ]
 refine wpAnyT_tk (i := 7) (oi := _) (v := ?tvk8) rfl (Or.inl ⟨by rfl, ?thk8⟩) hS1 ?_
 case thk8 => (intro x hSx; (try dsimp only at hSx); go_simp; (try with_reducible rfl))
 try simp only [List.getElem_toArray, List.getElem_cons_succ, List.getElem_cons_zero, Act.put, List.setIfInBounds_toArray, List.set_cons_zero, List.set_cons_succ]
 refine wpAnyT_tk (i := 8) (oi := _) (v := ?tvk9) rfl (Or.inl ⟨by rfl, ?thk9⟩) hS1 ?_
 case thk9 => (intro x hSx; (try dsimp only at hSx); go_simp; (try with_reducible rfl))
 try simp only [List.getElem_toArray, List.getElem_cons_succ, List.getElem_cons_zero, Act.put, List.setIfInBounds_toArray, List.set_cons_zero, List.set_cons_succ]
 refine wpAnyT_tk (i := 9) (oi := _) (v := ?tvk10) rfl (Or.inl ⟨by rfl, ?thk10⟩) hS1 ?_
 case thk10 => (intro x hSx; (try dsimp only at hSx); go_simp; (try with_reducible rfl))
 try simp only [List.getElem_toArray, List.getElem_cons_succ, List.getElem_cons_zero, Act.put, List.setIfInBounds_toArray, List.set_cons_zero, List.set_cons_succ]
 refine wpAnyT_step (i := 10) (by kernel_rfl) rfl (fun K hK => ?_)
 try simp only [List.getElem_toArray, List.getElem_cons_succ, List.getElem_cons_zero]
 go_simp
 refine (drawBelowD M5.out (k1 : Int) (by omega) (by omega)).mono ?_
 rintro e w6 ⟨y, rfl, hy, hm6⟩
 have hz6 := hm6.size
 have hS2 : w6.cell? ⟨b, of + 1, none⟩ = some (.slice (some ⟨b2, o2, none⟩) k1 c2) := (World.cell?_of_block (a := ⟨b, of + 1, none⟩) (hm6.bx.block b (by omega) hbg)).trans hS1
 have hro6 : RwL w1.heap.size w6 b2 32 cs2 := ⟨hro5.1, (hm6.bx.block b2 (by omega) hb2g).trans hro5.2⟩
 have M6 := LH (M5.out.trans hm6)
 have R6 := LH (hm6.bx.row R5.out (by omega))
 have B6 := LH (B5.out.trans (hm6.bx.below (by omega) (by omega)))
 obtain ⟨i, hi⟩ : ∃ i : Nat, y = (i : Int) := ⟨y.toNat, by omega⟩
 subst hi
 have hik : i < k1 := by omega
 clear hm6 M5 hro5 R5 B5
 try simp only [List.getElem_toArray, List.getElem_cons_succ, List.getElem_cons_zero]
 go_simp
 refine hK.out _ _ hS2 (fun _ => ?_)
 clear hK K hS1
 try simp only [List.getElem_toArray, List.getElem_cons_succ, List.getElem_cons_zero, Act.put, List.setIfInBounds_toArray, List.set_cons_zero, List.set_cons_succ]
 obtain ⟨z0, hz0', wf0⟩ := hint (i * 3) (by omega)
 obtain ⟨z1, hz1', wf1⟩ := hint (i * 3 + 1) (by omega)
 obtain ⟨z2, hz2', wf2⟩ := hint (i * 3 + 2) (by omega)
 rw [← Nat.add_assoc] at hz1' hz2'
 have g0 : w6.cell? ⟨b2, o2 + i * 3, none⟩ = some (.int .i64 z0) := (hro6.cell _).trans hz0'
 have g1 : w6.cell? ⟨b2, o2 + i * 3 + 1, none⟩ = some (.int .i64 z1) := (hro6.cell _).trans hz1'
 have g2 : w6.cell? ⟨b2, o2 + i * 3 + 2, none⟩ = some (.int .i64 z2) := (hro6.cell _).trans hz2'
 clear hz0' hz1' hz2'
 refine wpAnyT_step (i := 11) (by kernel_rfl) rfl (fun K hK => ?_)
 try simp only [List.getElem_toArray, List.getElem_cons_succ, List.getElem_cons_zero]
 go_simp
 refine hK.out _ _ hS2 (fun _ => ?_)
 clear hK K
 try simp only [List.getElem_toArray, List.getElem_cons_succ, List.getElem_cons_zero, Act.put, List.setIfInBounds_toArray, List.set_cons_zero, List.set_cons_succ]
 refine wpAnyT_step (i := 12) (by kernel_rfl) rfl (fun K hK => ?_)
 try simp only [List.getElem_toArray, List.getElem_cons_succ, List.getElem_cons_zero]
 go_simp
 refine hK.out _ _ hS2 (fun _ => ?_)
 clear hK K
 try simp only [List.getElem_toArray, List.getElem_cons_succ, List.getElem_cons_zero, Act.put, List.setIfInBounds_toArray, List.set_cons_zero, List.set_cons_succ]
 have hcr := fun i => R6.out.cell i
 have hfr := fun i => R6.out.frozen i
 have hlr := R6.out.lt
 refine wpAnyT_last (by kernel_rfl) (by kernel_rfl) rfl (fun K hK => ?_)
 try simp only [List.getElem_toArray, List.getElem_cons_succ, List.getElem_cons_zero]
 go_simp
 clear hcr hfr hlr
 obtain ⟨w7, e7, R7, hz7, K7⟩ := storedThreeZ R6.out (.int .i64 z0) (.int .i64 z1) (.int .i64 z2)
 have B7 := LH (B6.out.trans (K7.out.below (B := w.heap.size) (by omega) (by omega)))
 rw [← e7]
 clear e7
 refine hK.out _ _ ?_
 clear hK K
 have hcr7 := fun i => R7.out.cell i
 go_wp2_with fail
 show BP _ _
 rw [HBP.out]
 refine bodyPost_ret (v := .agg #[.int .i64 z0, .int .i64 z1, .int .i64 z2]) (by simp [results, Tryz.results10, go_sem, hcr7]) rfl ?_
 exact ⟨⟨z0, z1, z2⟩, rfl, ⟨wf0, wf1, wf2⟩, B7.out⟩
theorem drawEffectE (l : List Int) (A : Option Addr) (c : Nat) (w : World) (hs : Sl w (Lt w.heap.size) 1 A c (l.map (D.num .u8))) (hl : l.length ≤ 1048576) :
 Calls Tryz.prog 18 #[.slice A l.length c] w (DrawnOpE w) := by
 obtain ⟨w0, e0, R0, hz0, K0⟩ := boxed w 32 #[.int .i64 0, .int .i64 0, .int .i64 0]
 have B0 := LH (show Below w.heap.size w w0 by rw [e0]; exact (Below.refl _ _).alloc (Nat.le_refl _) _)
 have HN := LH (drawOpTextE l A c w0 (hs.below B0.out B0.out.size) hl)
 replace hz0 : w.heap.size + 1 ≤ w0.heap.size ∧ w0.heap.size ≤ w.heap.size + 1 := by omega
 clear hs K0
 go_enter Tryz.func18, Tryz.ntmps18
 refine wp_hide (fun BP hBP => ?_)
 have HBP := LH hBP
 clear hBP
 go_wp2_with fail
 rw [← e0]
 clear e0
 refine HN.out.mono ?_
 clear HN
 rintro e w1 ⟨t, rfl, hwf, hb1⟩
 have hz1 := hb1.size
 have B1 := LH (B0.out.trans (hb1.mono B0.out.size))
 have R1 := LH (R0.out.below hb1 R0.out.lt)
 have HWF := LH hwf
 have hcr := fun i => R1.out.cell i
 have hfr := fun i => R1.out.frozen i
 have hlr := R1.out.lt
 clear hb1 R0 B0 hwf
 go_wp2_with fail
 clear hcr hfr hlr
 obtain ⟨w5, e5, R5, hz5, K5⟩ := storedThreeZ R1.out (.int .i64 t.code) (.int .i64 t.n) (.int .i64 t.m)
 have B5 := LH (B1.out.trans (K5.out.below (B := w.heap.size) (by omega) (by omega)))
 rw [← e5]
 clear e5
 have hcr5 := fun i => R5.out.cell i
 show BP _ _
 rw [HBP.out]
 refine bodyPost_ret (v := .agg #[.int .i64 t.code, .int .i64 t.n, .int .i64 t.m]) (by simp [results, Tryz.results18, go_sem, hcr5]) rfl ?_
 exact ⟨t, rfl, HWF.out, B5.out⟩
set_option maxHeartbeats 1000000
def effI (c m : Int) : Int × Int :=
 if c = 1 ∨ c = 2 ∨ c = 3 ∨ c = 4 then (0, 1) else if c = 5 ∨ c = 8 then (m, 1) else
 if c = 6 ∨ c = 12 ∨ c = 13 ∨ c = 14 ∨ c = 15 ∨ c = 16 ∨ c = 20 then (2, 1) else if c = 7 ∨ c = 10 ∨ c = 11 ∨ c = 18 then (1, 0) else if c = 9 ∨ c = 17 then (1, 1) else (0, 0)
theorem effI_cases (c : Int) : c = 1 ∨ c = 2 ∨ c = 3 ∨ c = 4 ∨ c = 5 ∨ c = 6 ∨ c = 7 ∨ c = 8 ∨ c = 9 ∨ c = 10 ∨ c = 11 ∨ c = 12 ∨ c = 13 ∨ c = 14 ∨ c = 15 ∨ c = 16 ∨ c = 17 ∨ c = 18 ∨ c = 19 ∨ c = 20 ∨ (c < 1 ∨ 20 < c) := by omega
theorem ret_two {k : IntKind} {a b c d : Int} (h : c = a) (h2 : d = b) : Ending.returned (.tuple #[.int k a, .int k b]) = .returned (.tuple #[.int k c, .int k d]) := by rw [h, h2]
theorem effI_else {c m : Int} (h : c < 1 ∨ 20 < c) : effI c m = (0, 0) := by
 unfold effI; repeat rw [if_neg (by omega)]
theorem implEffect (c n m : Int) (w : World) : Calls Tryz.prog 19 #[.agg #[.int .i64 c, .int .i64 n, .int .i64 m]] w fun e w' => e = .returned (.tuple #[.int .i64 (effI c m).1, .int .i64 (effI c m).2]) ∧ Below w.heap.size w w' := by
 rcases effI_cases c with rfl | rfl | rfl | rfl | rfl | rfl | rfl | rfl | rfl | rfl | rfl | rfl | rfl | rfl | rfl | rfl | rfl | rfl | rfl | rfl | h
 iterate 20
  · go_enter Tryz.func19, Tryz.ntmps19
    go_wp2
    go_ret2
    exact ⟨ret_two (by simp [effI]) (by simp [effI]), (Below.refl _ _).alloc (Nat.le_refl _) _⟩
 ·
  have he := LH (effI_else (m := m) h)
  rcases h with h | h
  all_goals
   go_enter Tryz.func19, Tryz.ntmps19
   go_wp2
   go_ret2
   exact ⟨ret_two (by rw [he.out]) (by rw [he.out]), (Below.refl _ _).alloc (Nat.le_refl _) _⟩
theorem specEffect (c n m : Int) (w : World) : Calls Tryz.prog 20 #[.agg #[.int .i64 c, .int .i64 n, .int .i64 m]] w fun e w' => e = .returned (.tuple #[.int .i64 (effI c m).1, .int .i64 (effI c m).2]) ∧ Below w.heap.size w w' := by
 rcases effI_cases c with rfl | rfl | rfl | rfl | rfl | rfl | rfl | rfl | rfl | rfl | rfl | rfl | rfl | rfl | rfl | rfl | rfl | rfl | rfl | rfl | h
 iterate 20
  · go_enter Tryz.func20, Tryz.ntmps20
    go_wp2
    go_ret2
    exact ⟨ret_two (by simp [effI]) (by simp [effI]), (Below.refl _ _).alloc (Nat.le_refl _) _⟩
 ·
  have he := LH (effI_else (m := m) h)
  rcases h with h | h
  all_goals
   go_enter Tryz.func20, Tryz.ntmps20
   go_wp2
   go_ret2
   exact ⟨ret_two (by rw [he.out]) (by rw [he.out]), (Below.refl _ _).alloc (Nat.le_refl _) _⟩
set_option maxHeartbeats 2000000
def freeAt (l : List GFun) (n : Int) : Int := match l[n.toNat]? with | some g => g.free | none => 0
def opP (fr : Int) (ln ll : Nat) (fa : Int → Int) (i : Nat) (c n m : Int) : Prop :=
 if c = 1 then (-1073741824 ≤ n ∧ n ≤ 1073741823) ∧ m = 0
 else if c = 2 then (0 ≤ n ∧ n ≤ 2999) ∧ m = 0
 else if c = 3 then (0 ≤ n ∧ n ≤ fr - 1) ∧ m = 0
 else if c = 4 then 0 < i ∧ n = 0 ∧ m = 0
 else if c = 5 then (1 ≤ n ∧ n ≤ (ll : Int) - 1) ∧ m = fa n
 else if c = 8 then (0 ≤ n ∧ n ≤ 59) ∧ 0 ≤ m ∧ m ≤ 20
 else if c = 9 then (0 ≤ n ∧ n ≤ 59) ∧ m = 0
 else if c = 10 then (0 ≤ n ∧ n ≤ 59) ∧ 0 ≤ m ∧ m ≤ (ln : Int) - 1
 else if c = 11 then (-1073741824 ≤ n ∧ n ≤ 1073741823) ∧ 0 ≤ m ∧ m ≤ (ln : Int) - 1
 else if c = 18 ∨ c = 19 then (0 ≤ n ∧ n ≤ (ln : Int) - 1) ∧ m = 0
 else (1 ≤ c ∧ c ≤ 21) ∧ n = 0 ∧ m = 0
instance (fr : Int) (ln ll : Nat) (fa : Int → Int) (i : Nat) (c n m : Int) : Decidable (opP fr ln ll fa i c n m) := by unfold opP; infer_instance
def opB (l : List GFun) (i : Nat) (f : GFun) (o : GOp) : Bool := decide (opP f.free f.list.length l.length (freeAt l) i o.code o.n o.m)
theorem opP_cases (c : Int) : c = 1 ∨ c = 2 ∨ c = 3 ∨ c = 4 ∨ c = 5 ∨ c = 8 ∨ c = 9 ∨ c = 10 ∨ c = 11 ∨ c = 18 ∨ c = 19 ∨ (¬ c = 1 ∧ ¬ c = 2 ∧ ¬ c = 3 ∧ ¬ c = 4 ∧ ¬ c = 5 ∧ ¬ c = 8 ∧ ¬ c = 9 ∧ ¬ c = 10 ∧ ¬ c = 11 ∧ ¬ c = 18 ∧ ¬ c = 19) := by omega
theorem opP_else {fr : Int} {ln ll : Nat} {fa : Int → Int} {i : Nat} {c : Int} (h : ¬ c = 1 ∧ ¬ c = 2 ∧ ¬ c = 3 ∧ ¬ c = 4 ∧ ¬ c = 5 ∧ ¬ c = 8 ∧ ¬ c = 9 ∧ ¬ c = 10 ∧ ¬ c = 11 ∧ ¬ c = 18 ∧ ¬ c = 19) (n m : Int) : opP fr ln ll fa i c n m ↔ (1 ≤ c ∧ c ≤ 21) ∧ n = 0 ∧ m = 0 := by
 unfold opP
 repeat rw [if_neg (by omega)]
theorem eq_dec {x : Bool} {p : Prop} {d : Decidable p} (h : x = true ↔ p) : x = @decide p d := by
 rw [Bool.eq_iff_iff]; simpa using h
theorem specOp (l : List GFun) (A : Option Addr) (c1 : Nat) (i : Nat) (hi : i < l.length) (c n m : Int) (w : World) (h0 : 0 ≤ l[i].free) (h20 : l[i].free ≤ 20) (hs : Sl w (Lt w.heap.size) 2 A c1 (l.map GFun.toD)) :
 Calls Tryz.prog 31 #[.slice A l.length c1, .int .i64 i, .agg #[.int .i64 c, .int .i64 n, .int .i64 m]] w fun e w' => e = .returned (.bool (decide (opP l[i].free l[i].list.length l.length (freeAt l) i c n m))) ∧ Below w.heap.size w w' := by
 have hlen : l.length ≤ 9223372036854775807 := by simpa using hs.len
 obtain ⟨b, off, A1, c2, rfl, hSb, g0, g1, hat⟩ := GFun.elem hs i hi
 have hll : (l[i]).list.length ≤ 9223372036854775807 := by simpa using hat.2.len
 have hSb' : b < w.heap.size := hSb
 clear hat
 have hil : (i : Int) ≤ 9223372036854775807 := by omega
 generalize hfr : (l[i]).free = fr at *
 generalize hln : (l[i]).list.length = ln at *
 have fa : ∀ (k : Nat), 1 ≤ k → k < l.length → w.cell? ⟨b, off + k * 2, none⟩ = some (.int .i64 (freeAt l k)) := fun k _ hk => by
  obtain ⟨b', off', A1', c2', eA, _, q0, _, _⟩ := GFun.elem hs k hk
  obtain ⟨rfl, rfl⟩ : b = b' ∧ off = off' := by simpa using eA
  rw [q0]; simp [freeAt, List.getElem?_eq_getElem hk]
 clear hs
 clear hfr hln
 generalize freeAt l = F at *
 generalize l.length = L at *
 rcases opP_cases c with h | h | h | h | h | h | h | h | h | h | h | h
 ·
  subst h
  go_enter Tryz.func31, Tryz.ntmps31
  go_wp2
  all_goals
   go_ret
   exact ⟨ret_bool (eq_dec (by simp [opP] <;> omega)), (Below.refl _ _).alloc (Nat.le_refl _) _⟩
 ·
  subst h
  go_enter Tryz.func31, Tryz.ntmps31
  go_wp2
  all_goals
   go_ret
   exact ⟨ret_bool (eq_dec (by simp [opP] <;> omega)), (Below.refl _ _).alloc (Nat.le_refl _) _⟩
 ·
  subst h
  by_cases hin : 0 ≤ n ∧ n ≤ fr - 1
  ·
   have Ra := LH (Row.new w 32 #[.int .i64 3, .int .i64 n, .int .i64 m])
   have hE := LH (show Below w.heap.size w (w.alloc (.cells #[.int .i64 3, .int .i64 n, .int .i64 m] 32)) from (Below.refl _ _).alloc (Nat.le_refl _) _)
   have hwr : IntKind.i64.wrap (fr - 1) = fr - 1 := (IntWalk.i64_left _).trans (IntWalk.wrap64_in (fr - 1) (by omega))
   go_enter Tryz.func31, Tryz.ntmps31
   go_wp2
   go_quiet (first
     | (go_at_call 27
        exact Calls.quiet_of_same (specInT _ _ _ _ (by first | exact hin | (rw [hwr]; exact hin)))))
   go_wp2
   go_ret
   exact ⟨ret_bool (eq_dec (by simp [opP] <;> omega)), belowN hE.out _⟩
  ·
   have Ra := LH (Row.new w 32 #[.int .i64 3, .int .i64 n, .int .i64 m])
   have hE := LH (show Below w.heap.size w (w.alloc (.cells #[.int .i64 3, .int .i64 n, .int .i64 m] 32)) from (Below.refl _ _).alloc (Nat.le_refl _) _)
   have hwr : IntKind.i64.wrap (fr - 1) = fr - 1 := (IntWalk.i64_left _).trans (IntWalk.wrap64_in (fr - 1) (by omega))
   go_enter Tryz.func31, Tryz.ntmps31
   go_wp2
   go_quiet (first
     | (go_at_call 27
        exact Calls.quiet_of_same (specInF _ _ _ _ (by first | exact hin | (rw [hwr]; exact hin)))))
   go_wp2
   go_ret
   exact ⟨ret_bool (eq_dec (by simp [opP] <;> omega)), belowN hE.out _⟩
 ·
  subst h
  go_enter Tryz.func31, Tryz.ntmps31
  go_wp2
  all_goals
   go_ret
   exact ⟨ret_bool (eq_dec (by simp [opP] <;> omega)), (Below.refl _ _).alloc (Nat.le_refl _) _⟩
 ·
  subst h
  by_cases hin : 1 ≤ n ∧ n ≤ (L : Int) - 1
  ·
   obtain ⟨k, rfl⟩ : ∃ k : Nat, n = k := ⟨n.toNat, by omega⟩
   have hk := fa k (by omega) (by omega)
   have Ra := LH (Row.new w 32 #[.int .i64 5, .int .i64 (k : Int), .int .i64 m])
   have hE := LH (show Below w.heap.size w (w.alloc (.cells #[.int .i64 5, .int .i64 (k : Int), .int .i64 m] 32)) from (Below.refl _ _).alloc (Nat.le_refl _) _)
   have hwr : IntKind.i64.wrap ((L : Int) - 1) = (L : Int) - 1 := (IntWalk.i64_left _).trans (IntWalk.wrap64_in ((L : Int) - 1) (by omega))
   go_enter Tryz.func31, Tryz.ntmps31
   go_wp2
   go_quiet (first
     | (go_at_call 27
        exact Calls.quiet_of_same (specInT _ _ _ _ (by first | exact hin | (rw [hwr]; exact hin)))))
   go_wp2
   go_ret
   exact ⟨ret_bool (eq_dec (by simp [opP] <;> omega)), belowN hE.out _⟩
  ·
   have Ra := LH (Row.new w 32 #[.int .i64 5, .int .i64 n, .int .i64 m])
   have hE := LH (show Below w.heap.size w (w.alloc (.cells #[.int .i64 5, .int .i64 n, .int .i64 m] 32)) from (Below.refl _ _).alloc (Nat.le_refl _) _)
   have hwr : IntKind.i64.wrap ((L : Int) - 1) = (L : Int) - 1 := (IntWalk.i64_left _).trans (IntWalk.wrap64_in ((L : Int) - 1) (by omega))
   go_enter Tryz.func31, Tryz.ntmps31
   go_wp2
   go_quiet (first
     | (go_at_call 27
        exact Calls.quiet_of_same (specInF _ _ _ _ (by first | exact hin | (rw [hwr]; exact hin)))))
   go_wp2
   go_ret
   exact ⟨ret_bool (eq_dec (by simp [opP] <;> omega)), belowN hE.out _⟩
 ·
  subst h
  go_enter Tryz.func31, Tryz.ntmps31
  go_wp2
  all_goals
   go_ret
   exact ⟨ret_bool (eq_dec (by simp [opP] <;> omega)), (Below.refl _ _).alloc (Nat.le_refl _) _⟩
 ·
  subst h
  go_enter Tryz.func31, Tryz.ntmps31
  go_wp2
  all_goals
   go_ret
   exact ⟨ret_bool (eq_dec (by simp [opP] <;> omega)), (Below.refl _ _).alloc (Nat.le_refl _) _⟩
 ·
  subst h
  go_enter Tryz.func31, Tryz.ntmps31
  go_wp2
  all_goals
   go_ret
   exact ⟨ret_bool (eq_dec (by simp [opP] <;> omega)), (Below.refl _ _).alloc (Nat.le_refl _) _⟩
 ·
  subst h
  go_enter Tryz.func31, Tryz.ntmps31
  go_wp2
  all_goals
   go_ret
   exact ⟨ret_bool (eq_dec (by simp [opP] <;> omega)), (Below.refl _ _).alloc (Nat.le_refl _) _⟩
 ·
  subst h
  go_enter Tryz.func31, Tryz.ntmps31
  go_wp2
  all_goals
   go_ret
   exact ⟨ret_bool (eq_dec (by simp [opP] <;> omega)), (Below.refl _ _).alloc (Nat.le_refl _) _⟩
 ·
  subst h
  go_enter Tryz.func31, Tryz.ntmps31
  go_wp2
  all_goals
   go_ret
   exact ⟨ret_bool (eq_dec (by simp [opP] <;> omega)), (Below.refl _ _).alloc (Nat.le_refl _) _⟩
 ·
  have HO := LH (opP_else (fr := fr) (ln := ln) (ll := L) (fa := F) (i := i) h)
  obtain ⟨hc1, hc2, hc3, hc4, hc5, hc8, hc9, hc10, hc11, hc18, hc19⟩ := h
  go_enter Tryz.func31, Tryz.ntmps31
  go_wp2
  all_goals
   go_ret
   exact ⟨ret_bool (eq_dec (by rw [HO.out]; simp <;> omega)), (Below.refl _ _).alloc (Nat.le_refl _) _⟩
theorem implOp (l : List GFun) (A : Option Addr) (c1 : Nat) (i : Nat) (hi : i < l.length) (c n m : Int) (w : World) (h0 : 0 ≤ l[i].free) (h20 : l[i].free ≤ 20) (hs : Sl w (Lt w.heap.size) 2 A c1 (l.map GFun.toD)) :
 Calls Tryz.prog 30 #[.slice A l.length c1, .int .i64 i, .agg #[.int .i64 c, .int .i64 n, .int .i64 m]] w fun e w' => e = .returned (.bool (decide (opP l[i].free l[i].list.length l.length (freeAt l) i c n m))) ∧ Below w.heap.size w w' := by
 have hlen : l.length ≤ 9223372036854775807 := by simpa using hs.len
 obtain ⟨b, off, A1, c2, rfl, hSb, g0, g1, hat⟩ := GFun.elem hs i hi
 have hll : (l[i]).list.length ≤ 9223372036854775807 := by simpa using hat.2.len
 have hSb' : b < w.heap.size := hSb
 clear hat
 have hil : (i : Int) ≤ 9223372036854775807 := by omega
 generalize hfr : (l[i]).free = fr at *
 generalize hln : (l[i]).list.length = ln at *
 have fa : ∀ (k : Nat), 1 ≤ k → k < l.length → w.cell? ⟨b, off + k * 2, none⟩ = some (.int .i64 (freeAt l k)) := fun k _ hk => by
  obtain ⟨b', off', A1', c2', eA, _, q0, _, _⟩ := GFun.elem hs k hk
  obtain ⟨rfl, rfl⟩ : b = b' ∧ off = off' := by simpa using eA
  rw [q0]; simp [freeAt, List.getElem?_eq_getElem hk]
 clear hs
 clear hfr hln
 generalize freeAt l = F at *
 generalize l.length = L at *
 rcases opP_cases c with h | h | h | h | h | h | h | h | h | h | h | h
 ·
  subst h
  go_enter Tryz.func30, Tryz.ntmps30
  go_wp2
  all_goals
   go_ret
   exact ⟨ret_bool (eq_dec (by simp [opP] <;> omega)), (Below.refl _ _).alloc (Nat.le_refl _) _⟩
 ·
  subst h
  go_enter Tryz.func30, Tryz.ntmps30
  go_wp2
  all_goals
   go_ret
   exact ⟨ret_bool (eq_dec (by simp [opP] <;> omega)), (Below.refl _ _).alloc (Nat.le_refl _) _⟩
 ·
  subst h
  by_cases hin : 0 ≤ n ∧ n ≤ fr - 1
  ·
   have Ra := LH (Row.new w 32 #[.int .i64 3, .int .i64 n, .int .i64 m])
   have hE := LH (show Below w.heap.size w (w.alloc (.cells #[.int .i64 3, .int .i64 n, .int .i64 m] 32)) from (Below.refl _ _).alloc (Nat.le_refl _) _)
   have hwr : IntKind.i64.wrap (fr - 1) = fr - 1 := (IntWalk.i64_left _).trans (IntWalk.wrap64_in (fr - 1) (by omega))
   go_enter Tryz.func30, Tryz.ntmps30
   go_wp2
   go_quiet (first
     | (go_at_call 24
        exact Calls.quiet_of_same (implWithinT _ _ _ _ (by first | exact hin | (rw [hwr]; exact hin)))))
   go_wp2
   go_ret
   exact ⟨ret_bool (eq_dec (by simp [opP] <;> omega)), belowN hE.out _⟩
  ·
   have Ra := LH (Row.new w 32 #[.int .i64 3, .int .i64 n, .int .i64 m])
   have hE := LH (show Below w.heap.size w (w.alloc (.cells #[.int .i64 3, .int .i64 n, .int .i64 m] 32)) from (Below.refl _ _).alloc (Nat.le_refl _) _)
   have hwr : IntKind.i64.wrap (fr - 1) = fr - 1 := (IntWalk.i64_left _).trans (IntWalk.wrap64_in (fr - 1) (by omega))
   go_enter Tryz.func30, Tryz.ntmps30
   go_wp2
   go_quiet (first
     | (go_at_call 24
        exact Calls.quiet_of_same (implWithinF _ _ _ _ (by first | exact hin | (rw [hwr]; exact hin)))))
   go_wp2
   go_ret
   exact ⟨ret_bool (eq_dec (by simp [opP] <;> omega)), belowN hE.out _⟩
 ·
  subst h
  go_enter Tryz.func30, Tryz.ntmps30
  go_wp2
  all_goals
   go_ret
   exact ⟨ret_bool (eq_dec (by simp [opP] <;> omega)), (Below.refl _ _).alloc (Nat.le_refl _) _⟩
 ·
  subst h
  by_cases hin : 1 ≤ n ∧ n ≤ (L : Int) - 1
  ·
   obtain ⟨k, rfl⟩ : ∃ k : Nat, n = k := ⟨n.toNat, by omega⟩
   have hk := fa k (by omega) (by omega)
   have Ra := LH (Row.new w 32 #[.int .i64 5, .int .i64 (k : Int), .int .i64 m])
   have hE := LH (show Below w.heap.size w (w.alloc (.cells #[.int .i64 5, .int .i64 (k : Int), .int .i64 m] 32)) from (Below.refl _ _).alloc (Nat.le_refl _) _)
   have hwr : IntKind.i64.wrap ((L : Int) - 1) = (L : Int) - 1 := (IntWalk.i64_left _).trans (IntWalk.wrap64_in ((L : Int) - 1) (by omega))
   go_enter Tryz.func30, Tryz.ntmps30
   go_wp2
   go_quiet (first
     | (go_at_call 24
        exact Calls.quiet_of_same (implWithinT _ _ _ _ (by first | exact hin | (rw [hwr]; exact hin)))))
   go_wp2
   go_ret
   exact ⟨ret_bool (eq_dec (by simp [opP] <;> omega)), belowN hE.out _⟩
  ·
   have Ra := LH (Row.new w 32 #[.int .i64 5, .int .i64 n, .int .i64 m])
   have hE := LH (show Below w.heap.size w (w.alloc (.cells #[.int .i64 5, .int .i64 n, .int .i64 m] 32)) from (Below.refl _ _).alloc (Nat.le_refl _) _)
   have hwr : IntKind.i64.wrap ((L : Int) - 1) = (L : Int) - 1 := (IntWalk.i64_left _).trans (IntWalk.wrap64_in ((L : Int) - 1) (by omega))
   go_enter Tryz.func30, Tryz.ntmps30
   go_wp2
   go_quiet (first
     | (go_at_call 24
        exact Calls.quiet_of_same (implWithinF _ _ _ _ (by first | exact hin | (rw [hwr]; exact hin)))))
   go_wp2
   go_ret
   exact ⟨ret_bool (eq_dec (by simp [opP] <;> omega)), belowN hE.out _⟩
 ·
  subst h
  go_enter Tryz.func30, Tryz.ntmps30
  go_wp2
  all_goals
   go_ret
   exact ⟨ret_bool (eq_dec (by simp [opP] <;> omega)), (Below.refl _ _).alloc (Nat.le_refl _) _⟩
 ·
  subst h
  go_enter Tryz.func30, Tryz.ntmps30
  go_wp2
  all_goals
   go_ret
   exact ⟨ret_bool (eq_dec (by simp [opP] <;> omega)), (Below.refl _ _).alloc (Nat.le_refl _) _⟩
 ·
  subst h
  go_enter Tryz.func30, Tryz.ntmps30
  go_wp2
  all_goals
   go_ret
   exact ⟨ret_bool (eq_dec (by simp [opP] <;> omega)), (Below.refl _ _).alloc (Nat.le_refl _) _⟩
 ·
  subst h
  go_enter Tryz.func30, Tryz.ntmps30
  go_wp2
  all_goals
   go_ret
   exact ⟨ret_bool (eq_dec (by simp [opP] <;> omega)), (Below.refl _ _).alloc (Nat.le_refl _) _⟩
 ·
  subst h
  go_enter Tryz.func30, Tryz.ntmps30
  go_wp2
  all_goals
   go_ret
   exact ⟨ret_bool (eq_dec (by simp [opP] <;> omega)), (Below.refl _ _).alloc (Nat.le_refl _) _⟩
 ·
  subst h
  go_enter Tryz.func30, Tryz.ntmps30
  go_wp2
  all_goals
   go_ret
   exact ⟨ret_bool (eq_dec (by simp [opP] <;> omega)), (Below.refl _ _).alloc (Nat.le_refl _) _⟩
 ·
  have HO := LH (opP_else (fr := fr) (ln := ln) (ll := L) (fa := F) (i := i) h)
  obtain ⟨hc1, hc2, hc3, hc4, hc5, hc8, hc9, hc10, hc11, hc18, hc19⟩ := h
  go_enter Tryz.func30, Tryz.ntmps30
  go_wp2
  all_goals
   go_ret
   exact ⟨ret_bool (eq_dec (by rw [HO.out]; simp <;> omega)), (Below.refl _ _).alloc (Nat.le_refl _) _⟩
set_option maxHeartbeats 1000000
def headB (f : GFun) : Bool := inB f.free 0 20 && inB (f.list.length : Int) 1 3000
def lastB (f : GFun) : Bool := match f.list.getLast? with | some o => decide (o.code = 7 ∨ o.code = 19 ∨ o.code = 21) | none => false
def tailB (l : List GFun) (i : Nat) (f : GFun) : Bool := f.list.all (opB l i f) && lastB f
def AllHead (l : List GFun) (j : Nat) : Prop := ∀ (i : Nat) (h : i < l.length), i < j → headB l[i] = true
def AllTail (l : List GFun) (j : Nat) : Prop := ∀ (i : Nat) (h : i < l.length), i < j → tailB l i l[i] = true
def topB (l : List GFun) : Prop := (1 ≤ l.length ∧ l.length ≤ 60) ∧ (∃ f, l[0]? = some f ∧ f.free = 0)
open Classical in
noncomputable def funsB (l : List GFun) : Bool := decide (topB l ∧ AllHead l l.length ∧ AllTail l l.length)
open Classical in
theorem funsB_false {l : List GFun} (h : ¬ (topB l ∧ AllHead l l.length ∧ AllTail l l.length)) : funsB l = false := by
 unfold funsB; exact decide_eq_false h
theorem funsB_top {l : List GFun} (h : ¬ topB l) : funsB l = false := funsB_false fun e => h e.1
theorem funsB_head {l : List GFun} (j : Nat) (h : j < l.length) (e : headB l[j] = false) : funsB l = false := funsB_false fun ⟨_, h1, _⟩ => by
 have := h1 j h h; rw [e] at this; cases this
theorem funsB_tail {l : List GFun} (j : Nat) (h : j < l.length) (e : tailB l j l[j] = false) : funsB l = false := funsB_false fun ⟨_, _, h1⟩ => by
 have := h1 j h h; rw [e] at this; cases this
open Classical in
theorem funsB_true {l : List GFun} (h0 : topB l) (h1 : AllHead l l.length) (h2 : AllTail l l.length) : funsB l = true := by
 unfold funsB; exact decide_eq_true ⟨h0, h1, h2⟩
theorem AllHead.succ {l : List GFun} {j : Nat} (h : AllHead l j) (hj : j < l.length) (e : headB l[j] = true) : AllHead l (j + 1) := fun i hi hij => by
 rcases Nat.lt_or_ge i j with h1 | h1
 · exact h i hi h1
 · have : i = j := by omega
   subst this; exact e
theorem AllTail.succ {l : List GFun} {j : Nat} (h : AllTail l j) (hj : j < l.length) (e : tailB l j l[j] = true) : AllTail l (j + 1) := fun i hi hij => by
 rcases Nat.lt_or_ge i j with h1 | h1
 · exact h i hi h1
 · have : i = j := by omega
   subst this; exact e
def OpsTo (l : List GFun) (i : Nat) (f : GFun) (k : Nat) : Prop := ∀ (q : Nat) (h : q < f.list.length), q < k → opB l i f f.list[q] = true
theorem OpsTo.succ {l : List GFun} {i : Nat} {f : GFun} {k : Nat} (h : OpsTo l i f k) (hk : k < f.list.length) (e : opB l i f f.list[k] = true) : OpsTo l i f (k + 1) := fun q hq hqk => by
 rcases Nat.lt_or_ge q k with h1 | h1
 · exact h q hq h1
 · have : q = k := by omega
   subst this; exact e
theorem tailB_op {l : List GFun} {i : Nat} {f : GFun} (k : Nat) (hk : k < f.list.length) (e : opB l i f f.list[k] = false) : tailB l i f = false := by
 unfold tailB
 have : f.list.all (opB l i f) = false := by
  rw [List.all_eq_false]; exact ⟨_, List.getElem_mem hk, by simp [e]⟩
 rw [this]; rfl
theorem tailB_ops {l : List GFun} {i : Nat} {f : GFun} (h : OpsTo l i f f.list.length) : tailB l i f = lastB f := by
 unfold tailB
 have : f.list.all (opB l i f) = true := by
  rw [List.all_eq_true]; intro x hx
  obtain ⟨q, hq, rfl⟩ := List.getElem_of_mem hx
  exact h q hq hq
 rw [this]; rfl
theorem lastB_at {f : GFun} (k : Nat) (h : f.list.length = k + 1) : lastB f = decide ((f.list[k]'(by omega)).code = 7 ∨ (f.list[k]'(by omega)).code = 19 ∨ (f.list[k]'(by omega)).code = 21) := by
 unfold lastB
 have : f.list.getLast? = some (f.list[k]'(by omega)) := by
  rw [List.getLast?_eq_getElem?, List.getElem?_eq_getElem (by omega)]
  congr 1; congr 1; omega
 rw [this]
theorem headB_in {f : GFun} (h : headB f = true) : 0 ≤ f.free ∧ f.free ≤ 20 ∧ 1 ≤ f.list.length ∧ f.list.length ≤ 3000 := by
 unfold headB inB at h; simp at h; omega
theorem headB_eq {f : GFun} {a b : Bool} (h1 : inB f.free 0 20 = a) (h2 : inB (f.list.length : Int) 1 3000 = b) : headB f = (a && b) := by
 unfold headB; rw [h1, h2]
theorem topB_mk {l : List GFun} (h1 : 1 ≤ l.length) (h2 : l.length ≤ 60) (h : (l[0]'(by omega)).free = 0) : topB l :=
 ⟨⟨h1, h2⟩, _, List.getElem?_eq_getElem (by omega), h⟩
theorem topB_not {l : List GFun} (h1 : 1 ≤ l.length) (h : ¬ (l[0]'(by omega)).free = 0) : ¬ topB l := by
 rintro ⟨_, f, e, hf⟩
 rw [List.getElem?_eq_getElem (by omega)] at e
 have e2 := Option.some.inj e
 rw [e2] at h
 exact h hf
theorem specFunsOk (l : List GFun) (A : Option Addr) (c : Nat) (w : World) (hs : Sl w (Lt w.heap.size) 2 A c (l.map GFun.toD)) :
 Calls Tryz.prog 15 #[.slice A l.length c] w fun e w' => e = .returned (.bool (funsB l)) ∧ Below w.heap.size w w' := by
 have hlen : l.length ≤ 9223372036854775807 := by simpa using hs.len
 have S0 := LH hs
 clear hs
 by_cases htop : 1 ≤ l.length ∧ l.length ≤ 60
 rotate_left
 ·
  have HF := LH (funsB_top (l := l) (fun h => htop h.1))
  go_enter Tryz.func15, Tryz.ntmps15
  go_wp2_with fail
  refine (specIn _ _ _ _).mono ?_
  rintro e w1 ⟨rfl, rfl⟩
  rw [inB_false (by omega)]
  go_wp2_with fail
  go_ret
  exact ⟨ret_bool HF.out.symm, Below.refl _ _⟩
 obtain ⟨h1, h60⟩ := htop
 obtain ⟨b0, off0, B1, d1, eA0, hSb0, g0, _, _⟩ := GFun.elem S0.out 0 (by omega)
 have g0' : w.cell? ⟨b0, off0, none⟩ = some (.int .i64 (l[0]'(by omega)).free) := by simpa using g0
 clear g0
 by_cases hf0 : (l[0]'(by omega)).free = 0
 rotate_left
 ·
  have HF := LH (funsB_top (topB_not h1 hf0))
  have hne : ((l[0]'(by omega)).free != 0) = true := by simpa using hf0
  subst eA0
  clear hf0
  go_enter Tryz.func15, Tryz.ntmps15
  go_wp2_with fail
  refine (specIn _ _ _ _).mono ?_
  rintro e w1 ⟨rfl, rfl⟩
  rw [inB_true (by omega)]
  go_wp2_with fail
  go_ret
  exact ⟨ret_bool HF.out.symm, Below.refl _ _⟩
 have HTOP := LH (topB_mk h1 h60 hf0)
 rw [hf0] at g0'
 clear hf0
 subst eA0
 go_enter Tryz.func15, Tryz.ntmps15
 go_wp2_with fail
 refine (specIn _ _ _ _).mono ?_
 rintro e w1 ⟨rfl, rfl⟩
 rw [inB_true (by omega)]
 go_wp2_with fail
 clear g0'
 go_loopw [3] (fun i wr => ∃ (j : Nat), j ≤ l.length ∧ i = .int .i64 j ∧ Hid (AllHead l j ∧ AllTail l j) ∧ Below w.heap.size w wr) (fun i _ => l.length - (intOf i).toNat)
 case atStart => exact ⟨0, by omega, by go_num, LH ⟨fun _ _ h => by omega, fun _ _ h => by omega⟩, Below.refl _ _⟩
 case round =>
  obtain ⟨j, hj, rfl, HT, hbl⟩ := hrel
  have hsz := hbl.size
  by_cases hlt : j < l.length
  ·
   obtain ⟨b, off, A1, c1, eA, hSb, g0, g1, hat⟩ := GFun.elem (S0.out.below hbl (Nat.le_refl _)) j hlt
   obtain ⟨rfl, rfl⟩ : b0 = b ∧ off0 = off := by simpa using eA
   clear eA
   have S1 := LH hat.2
   have hcl : (l[j]).list.length ≤ 9223372036854775807 := by simpa using hat.2.len
   clear hat
   by_cases hf1 : 0 ≤ (l[j]).free ∧ (l[j]).free ≤ 20
   rotate_left
   ·
    have HF := LH (funsB_head j hlt (by rw [headB_eq (inB_false hf1) rfl]; rfl))
    go_wp2_with fail
    refine (specIn _ _ _ _).mono ?_
    rintro e w2 ⟨rfl, rfl⟩
    rw [inB_false hf1]
    clear hf1
    go_wp2_with fail
    go_ret
    exact ⟨ret_bool HF.out.symm, hbl⟩
   have e1 := inB_true hf1
   obtain ⟨hf1a, hf1b⟩ := hf1
   by_cases hf2 : 1 ≤ ((l[j]).list.length : Int) ∧ ((l[j]).list.length : Int) ≤ 3000
   rotate_left
   ·
    have HF := LH (funsB_head j hlt (by rw [headB_eq e1 (inB_false hf2)]; rfl))
    have E1 := LH e1
    clear e1
    go_wp2_with fail
    refine (specIn _ _ _ _).mono ?_
    rintro e w2 ⟨rfl, rfl⟩
    rw [E1.out]
    go_wp2_with fail
    refine (specIn _ _ _ _).mono ?_
    rintro e w2 ⟨rfl, rfl⟩
    rw [inB_false hf2]
    clear hf2
    go_wp2_with fail
    go_ret
    exact ⟨ret_bool HF.out.symm, hbl⟩
   have e2 := inB_true hf2
   have HH := LH (show headB l[j] = true by rw [headB_eq e1 e2]; rfl)
   have E1 := LH e1
   have E2 := LH e2
   clear e1 e2
   obtain ⟨hf2a, hf2b⟩ := hf2
   go_wp2_with fail
   refine (specIn _ _ _ _).mono ?_
   rintro e w2 ⟨rfl, rfl⟩
   rw [E1.out]
   go_wp2_with fail
   refine (specIn _ _ _ _).mono ?_
   rintro e w2 ⟨rfl, rfl⟩
   rw [E2.out]
   go_wp2_with fail
   go_loopw [5] (fun i wr2 => ∃ (k : Nat), k ≤ (l[j]).list.length ∧ i = .int .i64 k ∧ Hid (OpsTo l j l[j] k) ∧ Below w.heap.size w wr2) (fun i _ => (l[j]).list.length - (intOf i).toNat)
   case atStart => exact ⟨0, by omega, by go_num, LH (fun _ _ h => by omega), hbl⟩
   case round =>
    obtain ⟨k, hk, rfl, HO, hbk⟩ := hrel
    have hszk := hbk.size
    obtain ⟨b', off', A1', c1', eA, hSb', q0, q1, hat'⟩ := GFun.elem (S0.out.below hbk (Nat.le_refl _)) j hlt
    obtain ⟨rfl, rfl⟩ : b0 = b' ∧ off0 = off' := by simpa using eA
    clear eA
    by_cases hkt : k < (l[j]).list.length
    ·
     obtain ⟨b2, off2, rfl, hSb2, p0, p1, p2, hat2⟩ := GOp.elem hat'.2 k hkt
     clear hat' hat2
     go_wp2_with fail
     refine (specOp l _ c j hlt _ _ _ _ hf1a hf1b (S0.out.below hbk hszk)).mono ?_
     rintro e w3 ⟨rfl, hb3⟩
     have B3 := LH (hbk.trans (hb3.mono hszk))
     clear hb3
     cases hop : opB l j l[j] (l[j]).list[k] with
     | false =>
      have HF := LH (funsB_tail j hlt (tailB_op k hkt hop))
      have hop' : decide (opP (l[j]).free (l[j]).list.length l.length (freeAt l) j (l[j]).list[k].code (l[j]).list[k].n (l[j]).list[k].m) = false := hop
      rw [hop']
      clear hop hop'
      go_wp2_with fail
      go_ret
      exact ⟨ret_bool HF.out.symm, B3.out⟩
     | true =>
      have HO2 := LH (HO.out.succ hkt hop)
      have hop' : decide (opP (l[j]).free (l[j]).list.length l.length (freeAt l) j (l[j]).list[k].code (l[j]).list[k].n (l[j]).list[k].m) = true := hop
      rw [hop']
      clear hop hop'
      go_wp2_with fail
      go_roundw
      case rel => exact ⟨k + 1, by omega, by go_num, HO2, B3.out⟩
      case measure => simp [intOf]; omega
    ·
     have hkl : k = (l[j]).list.length := by omega
     have HO1 : OpsTo l j l[j] (l[j]).list.length := hkl ▸ HO.out
     have HO2 := LH (tailB_ops HO1)
     clear HO1 hkl
     obtain ⟨n, hn⟩ : ∃ n, (l[j]).list.length = n + 1 := ⟨(l[j]).list.length - 1, by omega⟩
     have hn' : n < (l[j]).list.length := by omega
     obtain ⟨b2, off2, rfl, hSb2, p0, p1, p2, hat2⟩ := GOp.elem hat'.2 n hn'
     clear hat' hat2 p1 p2
     have hL := HO2.out.trans (lastB_at n hn)
     have HO := LH trivial
     generalize (l[j]).list[n].code = cd at p0 hL
     by_cases hz : cd = 7 ∨ cd = 19 ∨ cd = 21
     · have HT2 := LH (show AllHead l (j + 1) ∧ AllTail l (j + 1) from ⟨HT.out.1.succ hlt HH.out, HT.out.2.succ hlt (hL.trans (decide_eq_true hz))⟩)
       clear hL HO2
       rcases hz with rfl | rfl | rfl
       all_goals
        go_wp2_with fail
        go_roundw
        case rel => exact ⟨j + 1, by omega, by go_num, HT2, hbk⟩
        case measure => simp [intOf]; omega
     · have HF := LH (funsB_tail j hlt (hL.trans (decide_eq_false hz)))
       have z1 : (cd != 7) = true := by simp; omega
       have z2 : (cd != 19) = true := by simp; omega
       have z3 : (cd != 21) = true := by simp; omega
       clear hL HO2 hz
       go_wp2_with fail
       go_ret
       exact ⟨ret_bool HF.out.symm, hbk⟩
  ·
   have hjl : j = l.length := by omega
   have HF := LH (funsB_true HTOP.out (hjl ▸ HT.out.1) (hjl ▸ HT.out.2))
   clear hjl
   go_wp2_with fail
   go_ret
   exact ⟨ret_bool HF.out.symm, hbl⟩
theorem implFunsOk (l : List GFun) (A : Option Addr) (c : Nat) (w : World) (hs : Sl w (Lt w.heap.size) 2 A c (l.map GFun.toD)) :
 Calls Tryz.prog 14 #[.slice A l.length c] w fun e w' => e = .returned (.bool (funsB l)) ∧ Below w.heap.size w w' := by
 have hlen : l.length ≤ 9223372036854775807 := by simpa using hs.len
 have S0 := LH hs
 clear hs
 by_cases htop : 1 ≤ l.length ∧ l.length ≤ 60
 rotate_left
 ·
  have HF := LH (funsB_top (l := l) (fun h => htop h.1))
  go_enter Tryz.func14, Tryz.ntmps14
  go_wp2_with fail
  refine (implWithin _ _ _ _).mono ?_
  rintro e w1 ⟨rfl, rfl⟩
  rw [inB_false (by omega)]
  go_wp2_with fail
  go_ret
  exact ⟨ret_bool HF.out.symm, Below.refl _ _⟩
 obtain ⟨h1, h60⟩ := htop
 obtain ⟨b0, off0, B1, d1, eA0, hSb0, g0, _, _⟩ := GFun.elem S0.out 0 (by omega)
 have g0' : w.cell? ⟨b0, off0, none⟩ = some (.int .i64 (l[0]'(by omega)).free) := by simpa using g0
 clear g0
 by_cases hf0 : (l[0]'(by omega)).free = 0
 rotate_left
 ·
  have HF := LH (funsB_top (topB_not h1 hf0))
  have hne : ((l[0]'(by omega)).free != 0) = true := by simpa using hf0
  subst eA0
  clear hf0
  go_enter Tryz.func14, Tryz.ntmps14
  go_wp2_with fail
  refine (implWithin _ _ _ _).mono ?_
  rintro e w1 ⟨rfl, rfl⟩
  rw [inB_true (by omega)]
  go_wp2_with fail
  go_ret
  exact ⟨ret_bool HF.out.symm, Below.refl _ _⟩
 have HTOP := LH (topB_mk h1 h60 hf0)
 rw [hf0] at g0'
 clear hf0
 subst eA0
 go_enter Tryz.func14, Tryz.ntmps14
 go_wp2_with fail
 refine (implWithin _ _ _ _).mono ?_
 rintro e w1 ⟨rfl, rfl⟩
 rw [inB_true (by omega)]
 go_wp2_with fail
 clear g0'
 go_loopw [23] (fun i wr => ∃ (j : Nat), j ≤ l.length ∧ i = .int .i64 j ∧ Hid (AllHead l j) ∧ Below w.heap.size w wr) (fun i _ => l.length - (intOf i).toNat)
 case atStart => exact ⟨0, by omega, by go_num, LH (fun _ _ h => by omega), Below.refl _ _⟩
 case round =>
  obtain ⟨j, hj, rfl, HT, hbl⟩ := hrel
  have hsz := hbl.size
  by_cases hlt : j < l.length
  ·
   obtain ⟨b, off, A1, c1, eA, hSb, g0, g1, hat⟩ := GFun.elem (S0.out.below hbl (Nat.le_refl _)) j hlt
   obtain ⟨rfl, rfl⟩ : b0 = b ∧ off0 = off := by simpa using eA
   clear eA
   have hcl : (l[j]).list.length ≤ 9223372036854775807 := by simpa using hat.2.len
   clear hat
   by_cases hf1 : 0 ≤ (l[j]).free ∧ (l[j]).free ≤ 20
   rotate_left
   ·
    have HF := LH (funsB_head j hlt (by rw [headB_eq (inB_false hf1) rfl]; rfl))
    go_wp2_with fail
    refine (implWithin _ _ _ _).mono ?_
    rintro e w2 ⟨rfl, rfl⟩
    rw [inB_false hf1]
    clear hf1
    go_wp2_with fail
    go_ret
    exact ⟨ret_bool HF.out.symm, hbl.alloc hsz _⟩
   have e1 := inB_true hf1
   obtain ⟨hf1a, hf1b⟩ := hf1
   by_cases hf2 : 1 ≤ ((l[j]).list.length : Int) ∧ ((l[j]).list.length : Int) ≤ 3000
   rotate_left
   ·
    have HF := LH (funsB_head j hlt (by rw [headB_eq e1 (inB_false hf2)]; rfl))
    have E1 := LH e1
    clear e1
    go_wp2_with fail
    refine (implWithin _ _ _ _).mono ?_
    rintro e w2 ⟨rfl, rfl⟩
    rw [E1.out]
    go_wp2_with fail
    refine (implWithin _ _ _ _).mono ?_
    rintro e w2 ⟨rfl, rfl⟩
    rw [inB_false hf2]
    clear hf2
    go_wp2_with fail
    go_ret
    exact ⟨ret_bool HF.out.symm, hbl.alloc hsz _⟩
   have e2 := inB_true hf2
   have HH := LH (show headB l[j] = true by rw [headB_eq e1 e2]; rfl)
   have E1 := LH e1
   have E2 := LH e2
   have HT2 := LH (HT.out.succ hlt HH.out)
   clear e1 e2
   obtain ⟨hf2a, hf2b⟩ := hf2
   go_wp2_with fail
   refine (implWithin _ _ _ _).mono ?_
   rintro e w2 ⟨rfl, rfl⟩
   rw [E1.out]
   go_wp2_with fail
   refine (implWithin _ _ _ _).mono ?_
   rintro e w2 ⟨rfl, rfl⟩
   rw [E2.out]
   go_wp2_with fail
   go_roundw
   case rel => exact ⟨j + 1, by omega, by go_num, HT2, hbl.alloc hsz _⟩
   case measure => simp [intOf]; omega
  ·
   have hjl : j = l.length := by omega
   have HHEAD := LH (hjl ▸ HT.out)
   clear hjl
   go_wp2_with fail
   go_loopw [41] (fun i wr => ∃ (j : Nat), j ≤ l.length ∧ i = .int .i64 j ∧ Hid (AllTail l j) ∧ Below w.heap.size w wr) (fun i _ => l.length - (intOf i).toNat)
   case atStart => exact ⟨0, by omega, by go_num, LH (fun _ _ h => by omega), hbl⟩
   case round =>
    clear hbl hsz
    obtain ⟨j, hj, rfl, HT, hbl⟩ := hrel
    have hsz := hbl.size
    by_cases hlt : j < l.length
    ·
     obtain ⟨b, off, A1, c1, eA, hSb, g0, g1, hat⟩ := GFun.elem (S0.out.below hbl (Nat.le_refl _)) j hlt
     obtain ⟨rfl, rfl⟩ : b0 = b ∧ off0 = off := by simpa using eA
     clear eA
     have S1 := LH hat.2
     have hcl : (l[j]).list.length ≤ 9223372036854775807 := by simpa using hat.2.len
     have hh := headB_in (HHEAD.out j hlt hlt)
     obtain ⟨hf1a, hf1b, hf2a, hf2b⟩ := hh
     clear hat
     have E1 := LH (show Below w.heap.size w (wr.alloc (.cells #[.int .i64 (l[j]).free, .slice A1 (l[j]).list.length c1] 41)) from hbl.alloc hsz _)
     have R1 := LH (Row.new' wr 41 #[.int .i64 (l[j]).free, .slice A1 (l[j]).list.length c1] (g := wr.heap.size) rfl)
     go_wp2_with fail
     generalize hg : wr.heap.size = g at *
     go_loopw [49] (fun i wr2 => ∃ (k : Nat), k ≤ (l[j]).list.length ∧ i = .int .i64 k ∧ Hid (OpsTo l j l[j] k) ∧ Hid (Row wr2 g 41 #[.int .i64 (l[j]).free, .slice A1 (l[j]).list.length c1]) ∧ Below w.heap.size w wr2) (fun i _ => (l[j]).list.length - (intOf i).toNat)
     case atStart => exact ⟨0, by omega, by go_num, LH (fun _ _ h => by omega), R1, E1.out⟩
     case round =>
      obtain ⟨k, hk, rfl, HO, HR, hbk⟩ := hrel
      have hszk := hbk.size
      have hR := fun i => HR.out.cell i
      have hRl := HR.out.lt
      have S2 := S1.out.keep (w' := wr) (S' := Lt w.heap.size) (fun q hq => ⟨hq, (hbk.block q hq).trans (hbl.block q hq).symm⟩)
      by_cases hkt : k < (l[j]).list.length
      ·
       obtain ⟨b2, off2, rfl, hSb2, p0, p1, p2, hat2⟩ := GOp.elem S2 k hkt
       clear hat2 S2
       have E2 := LH (show Below w.heap.size w (wr.alloc (.cells #[.int .i64 (l[j]).list[k].code, .int .i64 (l[j]).list[k].n, .int .i64 (l[j]).list[k].m] 32)) from hbk.alloc hszk _)
       have R2 := LH (HR.out.alloc (.cells #[.int .i64 (l[j]).list[k].code, .int .i64 (l[j]).list[k].n, .int .i64 (l[j]).list[k].m] 32))
       go_wp2_with fail
       refine (implOp l _ c j hlt _ _ _ _ hf1a hf1b (S0.out.below E2.out E2.out.size)).mono ?_
       rintro e w3 ⟨rfl, hb3⟩
       have B3 := LH (E2.out.trans (hb3.mono E2.out.size))
       have R3 := LH (R2.out.below hb3 R2.out.lt)
       clear hb3
       cases hop : opB l j l[j] (l[j]).list[k] with
       | false =>
        have HF := LH (funsB_tail j hlt (tailB_op k hkt hop))
        have hop' : decide (opP (l[j]).free (l[j]).list.length l.length (freeAt l) j (l[j]).list[k].code (l[j]).list[k].n (l[j]).list[k].m) = false := hop
        rw [hop']
        clear hop hop'
        go_wp2_with fail
        go_ret
        exact ⟨ret_bool HF.out.symm, B3.out⟩
       | true =>
        have HO2 := LH (HO.out.succ hkt hop)
        have hop' : decide (opP (l[j]).free (l[j]).list.length l.length (freeAt l) j (l[j]).list[k].code (l[j]).list[k].n (l[j]).list[k].m) = true := hop
        rw [hop']
        clear hop hop'
        go_wp2_with fail
        go_roundw
        case rel => exact ⟨k + 1, by omega, by go_num, HO2, R3, B3.out⟩
        case measure => simp [intOf]; omega
      ·
       have hkl : k = (l[j]).list.length := by omega
       have HO1 : OpsTo l j l[j] (l[j]).list.length := hkl ▸ HO.out
       have HO2 := LH (tailB_ops HO1)
       clear HO1 hkl
       obtain ⟨n, hn⟩ : ∃ n, (l[j]).list.length = n + 1 := ⟨(l[j]).list.length - 1, by omega⟩
       have hn' : n < (l[j]).list.length := by omega
       obtain ⟨b2, off2, rfl, hSb2, p0, p1, p2, hat2⟩ := GOp.elem S2 n hn'
       clear hat2 p1 p2 S2
       have hL := HO2.out.trans (lastB_at n hn)
       have HO := LH trivial
       generalize (l[j]).list[n].code = cd at p0 hL
       by_cases hz : cd = 7 ∨ cd = 19 ∨ cd = 21
       · have HT2 := LH (HT.out.succ hlt (hL.trans (decide_eq_true hz)))
         clear hL HO2
         rcases hz with rfl | rfl | rfl
         all_goals
          go_wp2_with fail
          go_roundw
          case rel => exact ⟨j + 1, by omega, by go_num, HT2, hbk⟩
          case measure => simp [intOf]; omega
       · have HF := LH (funsB_tail j hlt (hL.trans (decide_eq_false hz)))
         have z1 : (cd != 7) = true := by simp; omega
         have z2 : (cd != 19) = true := by simp; omega
         have z3 : (cd != 21) = true := by simp; omega
         clear hL HO2 hz
         go_wp2_with fail
         go_ret
         exact ⟨ret_bool HF.out.symm, hbk⟩
    · have hjl : j = l.length := by omega
      have HF := LH (funsB_true HTOP.out HHEAD.out (hjl ▸ HT.out))
      clear hjl
      go_wp2_with fail
      go_ret
      exact ⟨ret_bool HF.out.symm, hbl⟩
def afterI (o : GOp) (d : Int) : Option Int :=
 if d - 1 < (effI o.code o.m).1 ∨ (o.code = 2 ∧ d ≤ o.n) ∨ 60 < d - (effI o.code o.m).1 + (effI o.code o.m).2 ∨ (o.code = 7 ∧ ¬ d = 2) then none else some (d - (effI o.code o.m).1 + (effI o.code o.m).2)
def nextI (o : GOp) (q : Nat) : List Int :=
 if o.code = 7 ∨ o.code = 21 then [] else if o.code = 19 then [o.n] else if o.code = 10 ∨ o.code = 11 then [((q + 1 : Nat) : Int), o.m] else if o.code = 18 then [((q + 1 : Nat) : Int), o.n] else [((q + 1 : Nat) : Int)]
theorem effI_snd (c m : Int) : 0 ≤ (effI c m).2 := by
 unfold effI
 split <;> (try split) <;> (try split) <;> (try split) <;> (try split) <;> simp
theorem afterI_ge {o : GOp} {d d' : Int} (h : afterI o d = some d') : 1 ≤ d' := by
 unfold afterI at h
 split at h
 · cases h
 · rename_i hn
   simp only [Option.some.injEq] at h
   have := effI_snd o.code o.m
   omega
inductive Reach (ops : List GOp) : Nat → Int → Prop
 | start : Reach ops 0 1
 | step {q p : Nat} {d d' : Int} (h : q < ops.length) : Reach ops q d → afterI ops[q] d = some d' → (p : Int) ∈ nextI ops[q] q → Reach ops p d'
theorem Reach.ge {ops : List GOp} {k : Nat} {d : Int} (h : Reach ops k d) : 1 ≤ d := by
 cases h with
 | start => omega
 | step hq hr ha hp => exact afterI_ge ha
def Bad (ops : List GOp) : Prop := (∃ q d, ∃ h : q < ops.length, Reach ops q d ∧ afterI ops[q] d = none) ∨ ∃ q d1 d2, Reach ops q d1 ∧ Reach ops q d2 ∧ ¬ d1 = d2
def Found (ops : List GOp) : Option (List Int) → Prop
 | none => Bad ops
 | some l => ¬ Bad ops ∧ l.length = ops.length ∧ ∀ k (h : k < l.length), (l[k] = -1 ∧ ∀ d, ¬ Reach ops k d) ∨ Reach ops k l[k]
theorem Found.one {ops : List GOp} {r r' : Option (List Int)} (h : Found ops r) (h' : Found ops r') : r = r' := by
 match r, r' with
 | none, none => rfl
 | none, some _ => exact absurd h h'.1
 | some _, none => exact absurd h' h.1
 | some l, some l' =>
  congr 1
  refine List.ext_getElem (h.2.1.trans h'.2.1.symm) fun k h1 h2 => ?_
  rcases h.2.2 k h1 with ⟨a, b⟩ | a <;> rcases h'.2.2 k h2 with ⟨a', b'⟩ | a'
  · rw [a, a']
  · exact absurd a' (b _)
  · exact absurd a (b' _)
  · exact Classical.byContradiction fun e => h.1 (.inr ⟨k, _, _, a, a', e⟩)
def JumpsIn (ops : List GOp) : Prop := 1 ≤ ops.length ∧ ∀ q (h : q < ops.length), ∀ x ∈ nextI ops[q] q, 0 ≤ x ∧ x < ops.length
def EffIn (ops : List GOp) : Prop := ∀ q (h : q < ops.length), 0 ≤ (effI ops[q].code ops[q].m).1 ∧ (effI ops[q].code ops[q].m).1 ≤ 1048576 ∧ 0 ≤ (effI ops[q].code ops[q].m).2 ∧ (effI ops[q].code ops[q].m).2 ≤ 1
def Closed (ops : List GOp) (out : List Int) (k : Nat) : Prop := ∃ d', ∃ h : k < ops.length, ∃ h' : k < out.length, afterI ops[k] out[k] = some d' ∧ ∀ x ∈ nextI ops[k] k, out[x.toNat]? = some d'
structure SInv (ops : List GOp) (out : List Int) (todo : List Nat) (ex : Nat → Prop) : Prop where
 len : out.length = ops.length
 val : ∀ k (h : k < out.length), out[k] = -1 ∨ (1 ≤ out[k] ∧ out[k] ≤ 60 ∧ Reach ops k out[k])
 stk : ∀ k ∈ todo, ∃ h : k < out.length, ¬ out[k] = -1
 done : ∀ k (h : k < out.length), ¬ out[k] = -1 → k ∈ todo ∨ ex k ∨ Closed ops out k
 first : out[0]? = some 1
structure PInv (ops : List GOp) (out : List Int) (todo : List Nat) (q : Nat) (d' : Int) (don : Int → Prop) : Prop where
 base : SInv ops out todo (fun k => k = q)
 hq : q < ops.length
 hq' : q < out.length
 at' : afterI ops[q] out[q] = some d'
 mark : ¬ out[q] = -1
 rng : 1 ≤ d' ∧ d' ≤ 60
 nxt : ∀ x ∈ nextI ops[q] q, don x → out[x.toNat]? = some d'
theorem SInv.start {ops : List GOp} {out : List Int} (h1 : 1 ≤ ops.length) (hl : out.length = ops.length) (h0 : out[0]? = some 1) (hr : ∀ k (h : k < out.length), 0 < k → out[k] = -1) : SInv ops out [0] (fun _ => False) := by
 have e0 : out[0]'(by omega) = 1 := by rw [List.getElem?_eq_getElem (by omega)] at h0; exact Option.some.inj h0
 refine ⟨hl, fun k h => ?_, fun k hk => ?_, fun k h hne => ?_, h0⟩
 · by_cases hk : k = 0
   · subst hk; right; rw [e0]; exact ⟨by omega, by omega, .start⟩
   · left; exact hr k h (by omega)
 · simp only [List.mem_singleton] at hk
   subst hk
   exact ⟨by omega, by rw [e0]; omega⟩
 · left
   by_cases hk : k = 0
   · subst hk; simp
   · exact absurd (hr k h (by omega)) hne
theorem SInv.pop {ops : List GOp} {out : List Int} {todo : List Nat} {q : Nat} {d' : Int} (h : SInv ops out (todo ++ [q]) (fun _ => False)) (h' : q < out.length) (hq : q < ops.length) (ha : afterI ops[q] out[q] = some d') : PInv ops out todo q d' (fun _ => False) := by
 obtain ⟨_, hm⟩ := h.stk q (by simp)
 refine ⟨⟨h.len, h.val, fun k hk => h.stk k (by simp [hk]), fun k hk hne => ?_, h.first⟩, hq, h', ha, hm, ?_, fun _ _ hf => hf.elim⟩
 ·
  rcases h.done k hk hne with h1 | h1 | h1
  · rcases List.mem_append.1 h1 with h2 | h2
    · exact .inl h2
    · exact .inr (.inl (by simpa using h2))
  · exact h1.elim
  · exact .inr (.inr h1)
 ·
  have h1 := afterI_ge ha
  unfold afterI at ha
  split at ha
  · cases ha
  · rename_i hn
    simp only [Option.some.injEq] at ha
    omega
theorem SInv.bad {ops : List GOp} {out : List Int} {todo : List Nat} {ex : Nat → Prop} {q : Nat} (h : SInv ops out (todo ++ [q]) ex) (h' : q < out.length) (hq : q < ops.length) (ha : afterI ops[q] out[q] = none) : Bad ops := by
 obtain ⟨_, hm⟩ := h.stk q (by simp)
 rcases h.val q h' with e | ⟨_, _, e⟩
 · exact absurd e hm
 · exact .inl ⟨q, _, hq, e, ha⟩
theorem PInv.reach {ops : List GOp} {out : List Int} {todo : List Nat} {q : Nat} {d' : Int} {don : Int → Prop} (h : PInv ops out todo q d' don) {p : Nat} (hp : (p : Int) ∈ nextI (ops[q]'h.hq) q) : Reach ops p d' := by
 rcases h.base.val q h.hq' with e | ⟨_, _, e⟩
 · exact absurd e h.mark
 · exact .step h.hq e h.at' hp
theorem PInv.bad {ops : List GOp} {out : List Int} {todo : List Nat} {q : Nat} {d' : Int} {don : Int → Prop} (h : PInv ops out todo q d' don) {p : Nat} (hp : (p : Int) ∈ nextI (ops[q]'h.hq) q) (hl : p < out.length) (h1 : ¬ out[p] = -1) (h2 : ¬ out[p] = d') : Bad ops := by
 rcases h.base.val p hl with e | ⟨_, _, e⟩
 · exact absurd e h1
 · exact .inr ⟨p, _, _, e, h.reach hp, h2⟩
theorem PInv.same {ops : List GOp} {out : List Int} {todo : List Nat} {q : Nat} {d' : Int} {don : Int → Prop} (h : PInv ops out todo q d' don) {p : Nat} (hl : p < out.length) (h2 : out[p] = d') : PInv ops out todo q d' (fun x => don x ∨ x = p) :=
 ⟨h.base, h.hq, h.hq', h.at', h.mark, h.rng, fun x hx hd => by
   rcases hd with hd | rfl
   · exact h.nxt x hx hd
   · rw [Int.toNat_natCast, List.getElem?_eq_getElem hl, h2]⟩
theorem PInv.set {ops : List GOp} {out : List Int} {todo : List Nat} {q : Nat} {d' : Int} {don : Int → Prop} (h : PInv ops out todo q d' don) {p : Nat} (hp : (p : Int) ∈ nextI (ops[q]'h.hq) q) (hl : p < out.length) (h1 : out[p] = -1) : PInv ops (out.set p d') (todo ++ [p]) q d' (fun x => don x ∨ x = p) := by
 have hpq : ¬ p = q := fun e => by subst e; exact h.mark h1
 have hd1 : ¬ d' = -1 := by have := h.rng; omega
 have hget : ∀ k (hk : k < (out.set p d').length), ¬ k = p → (out.set p d')[k] = out[k]'(by simpa using hk) := fun k hk hne => List.getElem_set_ne (by omega) _
 have hkeep : ∀ (x : Nat) (d : Int), ¬ d = -1 → out[x]? = some d → (out.set p d')[x]? = some d := fun x d hd he => by
  by_cases hx : x = p
  · subst hx; rw [List.getElem?_eq_getElem hl, h1] at he; simp at he; omega
  · rw [List.getElem?_set_ne (by omega)]; exact he
 refine ⟨⟨by simp [h.base.len], fun k hk => ?_, fun k hk => ?_, fun k hk hne => ?_, ?_⟩, h.hq, by simpa using h.hq', ?_, ?_, h.rng, fun x hx hd => ?_⟩
 ·
  by_cases e : k = p
  · subst e
    right
    rw [List.getElem_set_self]
    exact ⟨h.rng.1, h.rng.2, h.reach hp⟩
  · rw [hget k hk e]; exact h.base.val k (by simpa using hk)
 ·
  rcases List.mem_append.1 hk with h2 | h2
  · obtain ⟨a, b⟩ := h.base.stk k h2
    have e : ¬ k = p := fun e => by subst e; exact b h1
    exact ⟨by simpa using a, by rw [hget k (by simpa using a) e]; exact b⟩
  · obtain rfl : k = p := by simpa using h2
    exact ⟨by simpa using hl, by rw [List.getElem_set_self]; exact hd1⟩
 ·
  by_cases e : k = p
  · subst e; left; simp
  · rw [hget k hk e] at hne
    rcases h.base.done k (by simpa using hk) hne with h2 | h2 | ⟨d2, a1, a2, a3, a4⟩
    · left; simp [h2]
    · exact .inr (.inl h2)
    · refine .inr (.inr ⟨d2, a1, hk, by rw [hget k hk e]; exact a3, fun x hx => hkeep _ _ ?_ (a4 x hx)⟩)
      have := afterI_ge a3; omega
 ·
  rw [List.getElem?_set]
  split
  · rename_i e
    subst e
    have := h.base.first
    rw [List.getElem?_eq_getElem hl, h1] at this
    simp at this
  · exact h.base.first
 · rw [hget q _ (by omega)]; exact h.at'
 · rw [hget q _ (by omega)]; exact h.mark
 · rcases hd with hd | rfl
   · exact hkeep _ _ hd1 (h.nxt x hx hd)
   · rw [Int.toNat_natCast, List.getElem?_set_self hl]
theorem PInv.end {ops : List GOp} {out : List Int} {todo : List Nat} {q : Nat} {d' : Int} {don : Int → Prop} (h : PInv ops out todo q d' don) (hd : ∀ x ∈ nextI (ops[q]'h.hq) q, don x) : SInv ops out todo (fun _ => False) :=
 ⟨h.base.len, h.base.val, h.base.stk, fun k hk hne => by
   rcases h.base.done k hk hne with h2 | rfl | h2
   · exact .inl h2
   · exact .inr (.inr ⟨d', h.hq, h.hq', h.at', fun x hx => h.nxt x hx (hd x hx)⟩)
   · exact .inr (.inr h2), h.base.first⟩
theorem SInv.end {ops : List GOp} {out : List Int} (h : SInv ops out [] (fun _ => False)) : Found ops (some out) := by
 have key : ∀ k d, Reach ops k d → out[k]? = some d := by
  intro k d hr
  induction hr with
  | start => exact h.first
  | @step q p d d' hq hr ha hp ih =>
   obtain ⟨h1, e⟩ := List.getElem?_eq_some_iff.1 ih
   have hne : ¬ out[q] = -1 := by
    rw [e]; have := hr.ge; omega
   rcases h.done q h1 hne with h2 | h2 | ⟨d2, a1, a2, a3, a4⟩
   · cases h2
   · exact h2.elim
   · rw [e, ha] at a3
     cases a3
     have := a4 _ hp
     rwa [Int.toNat_natCast] at this
 refine ⟨?_, h.len, fun k hk => ?_⟩
 ·
  rintro (⟨q, d, hq, hr, ha⟩ | ⟨q, d1, d2, h1, h2, hne⟩)
  ·
   obtain ⟨h1, e⟩ := List.getElem?_eq_some_iff.1 (key q d hr)
   rcases h.val q h1 with e3 | ⟨e3, _, _⟩
   · rw [e3] at e; have := hr.ge; omega
   · rcases h.done q h1 (by omega) with h2 | h2 | ⟨d2, a1, a2, a3, a4⟩
     · cases h2
     · exact h2.elim
     · rw [e, ha] at a3; cases a3
  · have e1 := key _ _ h1
    rw [key _ _ h2] at e1
    cases e1; exact hne rfl
 ·
  rcases h.val k hk with e | ⟨_, _, e⟩
  ·
   left
   refine ⟨e, fun d hr => ?_⟩
   have e1 := key _ _ hr
   rw [List.getElem?_eq_getElem hk, e] at e1
   simp at e1
   have := hr.ge
   omega
  · exact .inr e
def negs : List Int → Nat | [] => 0 | x :: r => (if x = -1 then 1 else 0) + negs r
theorem negs_set : ∀ {l : List Int} {p : Nat} {d : Int} (h : p < l.length), l[p] = -1 → ¬ d = -1 → negs (l.set p d) + 1 = negs l
 | x :: r, 0, d, h, e, hd => by simp at e; simp [negs, e, hd]; omega
 | x :: r, p + 1, d, h, e, hd => by
  have := negs_set (l := r) (p := p) (by simpa using h) (by simpa using e) hd
  simp [negs]; omega
open Classical in
theorem funsB_out {l : List GFun} (h : funsB l = true) : topB l ∧ AllHead l l.length ∧ AllTail l l.length := by
 unfold funsB at h; exact of_decide_eq_true h
theorem funs_op {l : List GFun} (h : funsB l = true) (i : Nat) (hi : i < l.length) (q : Nat) (hq : q < l[i].list.length) : opP l[i].free l[i].list.length l.length (freeAt l) i l[i].list[q].code l[i].list[q].n l[i].list[q].m := by
 have h1 := (funsB_out h).2.2 i hi hi
 unfold tailB at h1
 rw [Bool.and_eq_true, List.all_eq_true] at h1
 have h2 := h1.1 _ (List.getElem_mem hq)
 unfold opB at h2
 exact of_decide_eq_true h2
theorem funs_last {l : List GFun} (h : funsB l = true) (i : Nat) (hi : i < l.length) (q : Nat) (hq : q + 1 = l[i].list.length) : l[i].list[q].code = 7 ∨ l[i].list[q].code = 19 ∨ l[i].list[q].code = 21 := by
 have h1 := (funsB_out h).2.2 i hi hi
 unfold tailB at h1
 rw [Bool.and_eq_true, lastB_at q hq.symm] at h1
 exact of_decide_eq_true h1.2
theorem funs_in {l : List GFun} (h : funsB l = true) (i : Nat) (hi : i < l.length) : JumpsIn l[i].list ∧ EffIn l[i].list ∧ l[i].list.length ≤ 3000 := by
 have hh := headB_in ((funsB_out h).2.1 i hi hi)
 refine ⟨⟨hh.2.2.1, fun q hq x hx => ?_⟩, fun q hq => ?_, hh.2.2.2⟩
 ·
  have ho := funs_op h i hi q hq
  have hl := funs_last h i hi q
  generalize hc : (l[i].list[q]).code = c at *
  generalize hn : (l[i].list[q]).n = n at *
  generalize hm : (l[i].list[q]).m = m at *
  unfold nextI at hx
  rw [hc, hn, hm] at hx
  unfold opP at ho
  split at hx
  · cases hx
  ·
   split at hx
   · rename_i h1 h2
     obtain rfl : x = n := by simpa using hx
     subst h2
     simp at ho
     omega
   ·
    split at hx
    ·
     rename_i h1 h2 h3
     have hq1 : q + 1 < l[i].list.length := by
      rcases Nat.lt_or_ge (q + 1) l[i].list.length with h4 | h4
      · exact h4
      · have := hl (by omega); omega
     simp only [List.mem_cons, List.not_mem_nil, or_false] at hx
     rcases hx with rfl | rfl
     · omega
     · rcases h3 with rfl | rfl <;> simp at ho <;> omega
    ·
     split at hx
     · rename_i h1 h2 h3 h5
       have hq1 : q + 1 < l[i].list.length := by
        rcases Nat.lt_or_ge (q + 1) l[i].list.length with h4 | h4
        · exact h4
        · have := hl (by omega); omega
       simp only [List.mem_cons, List.not_mem_nil, or_false] at hx
       rcases hx with rfl | rfl
       · omega
       · subst h5; simp at ho; omega
     · have hq1 : q + 1 < l[i].list.length := by
        rcases Nat.lt_or_ge (q + 1) l[i].list.length with h4 | h4
        · exact h4
        · have := hl (by omega); omega
       simp only [List.mem_cons, List.not_mem_nil, or_false] at hx
       subst hx
       omega
 ·
  have ho := funs_op h i hi q hq
  have hf : ∀ n : Int, 1 ≤ n → n ≤ (l.length : Int) - 1 → 0 ≤ freeAt l n ∧ freeAt l n ≤ 20 := fun n h1 h2 => by
   have hk : n.toNat < l.length := by omega
   have h3 := headB_in ((funsB_out h).2.1 n.toNat hk hk)
   unfold freeAt
   rw [List.getElem?_eq_getElem hk]
   exact ⟨h3.1, h3.2.1⟩
  generalize hc : (l[i].list[q]).code = c at *
  generalize hn : (l[i].list[q]).n = n at *
  generalize hm : (l[i].list[q]).m = m at *
  unfold opP at ho
  have hm2 : c = 5 ∨ c = 8 → 0 ≤ m ∧ m ≤ 20 := by
   rintro (rfl | rfl)
   · simp at ho; obtain ⟨a, b⟩ := ho; subst b; exact hf n (by omega) (by omega)
   · simp at ho; omega
  unfold effI
  split
  · simp
  ·
   split
   · rename_i h1 h2
     have := hm2 h2
     simp; omega
   · split
     · simp
     · split
       · simp
       · split <;> simp
def IsDepths (l : List GFun) (i : Int) (r : Option (List Int)) : Prop :=
 (funsB l = false ∧ r = none) ∨ (funsB l = true ∧ ¬ (0 ≤ i ∧ i ≤ (l.length : Int) - 1) ∧ r = none) ∨ (funsB l = true ∧ ∃ h : i.toNat < l.length, 0 ≤ i ∧ Found l[i.toNat].list r)
theorem IsDepths.one {l : List GFun} {i : Int} {r r' : Option (List Int)} (h : IsDepths l i r) (h' : IsDepths l i r') : r = r' := by
 rcases h with ⟨a, rfl⟩ | ⟨a, b, rfl⟩ | ⟨a, b, c, d⟩ <;> rcases h' with ⟨a', rfl⟩ | ⟨a', b', rfl⟩ | ⟨a', b', c', d'⟩
 · rfl
 · rfl
 · rw [a] at a'; cases a'
 · rfl
 · rfl
 · omega
 · rw [a] at a'; cases a'
 · omega
 · exact d.one d'
open Classical in
noncomputable def depthsV (l : List GFun) (i : Int) : Option (List Int) := if h : ∃ r, IsDepths l i r then h.choose else none
theorem depthsV_eq {l : List GFun} {i : Int} {r : Option (List Int)} (h : IsDepths l i r) : depthsV l i = r := by
 unfold depthsV
 have he : ∃ r, IsDepths l i r := ⟨r, h⟩
 rw [dif_pos he]
 exact he.choose_spec.one h
end Go.Proofs.YtehpobojopmilaaGreat
namespace Go.Proofs.YtehpobojopmilaaGreat
set_option maxRecDepth 20000
set_option linter.unusedVariables false
set_option linter.unusedSimpArgs false
open Go.RowKit
end Go.Proofs.YtehpobojopmilaaGreat
namespace Go.Proofs.YtehpobojopmilaaGreat
set_option maxRecDepth 20000
set_option linter.unusedVariables false
set_option linter.unusedSimpArgs false
open Go.RowKit
set_option maxHeartbeats 1000000
theorem int_elem {w : World} {S : Nat → Prop} {A : Option Addr} {c : Nat} {l : List Int} (h : Sl w S 1 A c (l.map (D.num .i64))) (i : Nat) (hi : i < l.length) :
 ∃ b off, A = some ⟨b, off, none⟩ ∧ S b ∧ w.cell? ⟨b, off + i, none⟩ = some (.int .i64 l[i]) ∧ (Lit.int .i64 l[i]).wf = true := by
 obtain ⟨b, off, cs, e, hb, hl, hc, hr⟩ := Sl.get h i (by simpa using hi)
 rw [List.getElem_map, D.rd_num] at hr
 obtain ⟨rfl, hw⟩ := hr
 exact ⟨b, off, e, hb, by simpa using hc 0 _ rfl, hw⟩
theorem mkInt (n : Nat) (hn : n ≤ 1048576) (w : World) : (Instr.makeSlice 27 (.int .i64 (n : Int)) (.int .i64 (n : Int))).run Tryz.prog w = .ok (.slice (some ⟨w.heap.size, 0, none⟩) n n) (w.alloc (.cells (zr (.int .i64 0) 1 n) 3)) :=
 run_mk 27 3 (.int .i64 0) 1 8 Tryz.underlying27 (by kernel_rfl) n hn (by omega) w
def rowI (l : List Int) : Array Value := (l.map (Value.int .i64)).toArray
theorem rowI_get {l : List Int} {k : Nat} (h : k < l.length) : (rowI l)[k]? = some (.int .i64 l[k]) := by
 unfold rowI; simp [h]
theorem rowI_set (l : List Int) (k : Nat) (d : Int) : (rowI l).setIfInBounds k (.int .i64 d) = rowI (l.set k d) := by
 unfold rowI; rw [List.map_set]; simp
theorem zr_int (n : Nat) : zr (.int .i64 0) 1 n = rowI (List.replicate n 0) := by
 unfold zr rowI madeCells
 apply Array.ext
 · simp [Value.cells]
 · intro i h1 h2
   have e : i % 1 = 0 := Nat.mod_one i
   simp [Value.cells, e]
theorem wf_i64 {n : Int} (h1 : -9223372036854775808 ≤ n) (h2 : n ≤ 9223372036854775807) : (Lit.int .i64 n).wf = true := by
 simp [Lit.wf, IntKind.min, IntKind.max, IntKind.signed, IntKind.bits]; omega
theorem rowI_ownR {w : World} {b : Nat} : ∀ (l : List Int) (S : Nat → Prop) (off : Nat), (∀ x ∈ l, (Lit.int .i64 x).wf = true) → (∀ k (h : k < l.length), w.cell? ⟨b, off + k, none⟩ = some (.int .i64 l[k])) → D.ownR w 1 b (l.map (D.num .i64)) S off
 | [], _, _, _, _ => by simp only [List.map_nil, D.ownR]
 | x :: r, S, off, hw, hc => by
  simp only [List.map_cons, D.ownR]
  refine ⟨fun _ => False, S, [.int .i64 x], fun _ h => h.elim, fun _ h => h, rfl, fun j v hj => ?_, D.own_num.2 ⟨rfl, hw x (by simp)⟩, rowI_ownR r S (off + 1) (fun y hy => hw y (by simp [hy])) fun k h => ?_⟩
  · match j with
    | 0 => have := hc 0 (by simp); simp at hj; subst hj; simpa using this
    | j + 1 => simp at hj
  · have := hc (k + 1) (by simpa using h)
    rw [show off + 1 + k = off + (k + 1) by omega]
    simpa using this
theorem rowI_osl {w : World} {g B : Nat} {t : TypeId} {l : List Int} (h : Row w g t (rowI l)) (hB : B ≤ g) (hl : l.length ≤ maxLen) (hw : ∀ x ∈ l, (Lit.int .i64 x).wf = true) : Osl w (Btw B w.heap.size) 1 (some ⟨g, 0, none⟩) l.length (l.map (D.num .i64)) :=
 ⟨by simp, hl, .inr ⟨g, rfl, ⟨hB, h.lt⟩, fun o => h.frozen o, rowI_ownR l _ 0 hw fun k hk => by rw [Nat.zero_add, h.cell, rowI_get hk]⟩⟩
theorem rdC_len {w : World} {size : Nat} {S : Nat → Prop} : ∀ (xs : List D) (cs : List Value), rdC w size S xs cs → cs.length = xs.length * size
 | [], cs, h => by simp only [rdC] at h; simp [h]
 | d :: r, cs, h => by
  simp only [rdC] at h
  obtain ⟨c1, c2, rfl, hl, _, h2⟩ := h
  have := rdC_len r c2 h2
  rw [List.length_append, hl, this, List.length_cons, Nat.add_mul]; omega
theorem rdC_init {w : World} {size : Nat} {S : Nat → Prop} {d : D} : ∀ (xs : List D) (cs : List Value), rdC w size S (xs ++ [d]) cs → ∃ c1 c2, cs = c1 ++ c2 ∧ rdC w size S xs c1
 | [], cs, h => ⟨[], cs, rfl, rfl⟩
 | x :: r, cs, h => by
  simp only [List.cons_append, rdC] at h
  obtain ⟨c1, c2, rfl, hl, h1, h2⟩ := h
  obtain ⟨e1, e2, rfl, h3⟩ := rdC_init r c2 h2
  refine ⟨c1 ++ e1, e2, by simp, ?_⟩
  simp only [rdC]
  exact ⟨c1, e1, rfl, hl, h1, h3⟩
theorem Gsh.pop {w : World} {B : Nat} {e : TypeId} {size : Nat} {A : Option Addr} {c n : Nat} {d : D} {xs : List D} (h : Gsh w B e size (.slice A (n + 1) c) (n + 1) (xs ++ [d])) : Gsh w B e size (.slice A n c) n xs := by
 obtain ⟨h1, cs, h2, h4⟩ := h
 have hx : xs.length = n := by simpa using h1
 obtain ⟨c1, c2, rfl, h5⟩ := rdC_init xs cs h4
 have hc1 := rdC_len _ _ h5
 refine ⟨hx, c1, ⟨by rw [hc1, hx], ?_⟩, h5⟩
 rcases h2.2 with ⟨_, h⟩ | ⟨g, cap, cur, hv, a1, a2, a3, a4, a5, a6⟩
 · omega
 ·
  simp only [Value.slice.injEq] at hv
  obtain ⟨rfl, _, rfl⟩ := hv
  refine .inr ⟨g, c, cur, rfl, a1, a2, by omega, a4, a5, ?_⟩
  have e1 : (c1 ++ c2).take (n * size) = c1 := by rw [← hx, ← hc1]; simp
  rw [← a6, List.take_take] at e1
  rwa [Nat.min_eq_left (by rw [Nat.add_mul]; omega)] at e1
theorem Gsh.laid {w : World} {B g : Nat} {e : TypeId} {size : Nat} {cs : Array Value} {n : Nat} {xs : List D} (hr : Row w g e cs) (hB : B ≤ g) (hx : rdC w size (Lt B) xs cs.toList) (hn : xs.length = n) (hm : n ≤ maxLen) : Gsh w B e size (.slice (some ⟨g, 0, none⟩) n n) n xs := by
 have hl := rdC_len _ _ hx
 rw [hn] at hl
 exact ⟨hn, cs.toList, ⟨hl, .inr ⟨g, n, cs, rfl, hB, hr, Nat.le_refl _, hm, by simpa using hl, by rw [← hl]; exact List.take_length⟩⟩, hx⟩
theorem rdC_int {w : World} {S : Nat → Prop} : ∀ (l : List Int), (∀ x ∈ l, (Lit.int .i64 x).wf = true) → rdC w 1 S (l.map (D.num .i64)) (l.map (Value.int .i64))
 | [], _ => rfl
 | x :: r, h => by
  simp only [List.map_cons, rdC]
  exact ⟨[.int .i64 x], r.map (Value.int .i64), rfl, rfl, D.rd_num.2 ⟨rfl, h x (by simp)⟩, rdC_int r fun y hy => h y (by simp [hy])⟩
set_option maxHeartbeats 2000000
theorem ret_ib {a b : Int} {c d : Bool} (h : a = b) (h2 : c = d) : Ending.returned (.tuple #[.int .i64 a, .bool c]) = .returned (.tuple #[.int .i64 b, .bool d]) := by rw [h, h2]
def aftR (x : Option Int) : Int := match x with | some d => d | none => 0
theorem implAfter (o : GOp) (d : Int) (w : World) (h1 : 1 ≤ d ∧ d ≤ 60) (h2 : 0 ≤ (effI o.code o.m).1 ∧ (effI o.code o.m).1 ≤ 1048576 ∧ 0 ≤ (effI o.code o.m).2 ∧ (effI o.code o.m).2 ≤ 1) :
 Calls Tryz.prog 25 #[.agg #[.int .i64 o.code, .int .i64 o.n, .int .i64 o.m], .int .i64 d] w fun e w' => e = .returned (.tuple #[.int .i64 (aftR (afterI o d)), .bool (afterI o d).isSome]) ∧ Below w.heap.size w w' := by
 have E0 := LH (show Below w.heap.size w (w.alloc (.cells #[.int .i64 o.code, .int .i64 o.n, .int .i64 o.m] 32)) from (Below.refl _ _).alloc (Nat.le_refl _) _)
 have R0 := LH (Row.new w 32 #[.int .i64 o.code, .int .i64 o.n, .int .i64 o.m])
 have HA := LH (show afterI o d = if d - 1 < (effI o.code o.m).1 ∨ (o.code = 2 ∧ d ≤ o.n) ∨ 60 < d - (effI o.code o.m).1 + (effI o.code o.m).2 ∨ (o.code = 7 ∧ ¬ d = 2) then none else some (d - (effI o.code o.m).1 + (effI o.code o.m).2) from rfl)
 go_enter Tryz.func25, Tryz.ntmps25
 go_wp2_with fail
 refine (implEffect o.code o.n o.m _).mono ?_
 rintro e w1 ⟨rfl, hb1⟩
 have B1 := LH (E0.out.trans (hb1.mono E0.out.size))
 have R1 := LH (R0.out.below hb1 R0.out.lt)
 have hR := fun i => R1.out.cell i
 generalize (effI o.code o.m).1 = T at *
 generalize (effI o.code o.m).2 = U at *
 clear hb1
 by_cases g1 : d - 1 < T
 ·
  have e1 := decide_eq_true g1
  have HV := LH (HA.out.trans (if_pos (by omega)))
  try clear g1
  try clear g2
  try clear g3
  try clear g4
  try clear g5
  try clear g6
  go_wp2_with fail
  go_ret2
  exact ⟨ret_ib (by rw [HV.out]; rfl) (by rw [HV.out]; rfl), B1.out⟩
 ·
  have e1 := decide_eq_false g1
  by_cases g2 : o.code = 2
  ·
   have e2 : (o.code == 2) = true := by rw [beq_iff_eq]; exact g2
   by_cases g3 : d ≤ o.n
   ·
    have e3 := decide_eq_true g3
    have HV := LH (HA.out.trans (if_pos (by omega)))
    try clear g1
    try clear g2
    try clear g3
    try clear g4
    try clear g5
    try clear g6
    go_wp2_with fail
    go_ret2
    exact ⟨ret_ib (by rw [HV.out]; rfl) (by rw [HV.out]; rfl), B1.out⟩
   ·
    have e3 := decide_eq_false g3
    by_cases g4 : 60 < d - T + U
    ·
     have e4 := decide_eq_true g4
     have HV := LH (HA.out.trans (if_pos (by omega)))
     try clear g1
     try clear g2
     try clear g3
     try clear g4
     try clear g5
     try clear g6
     go_wp2_with fail
     go_ret2
     exact ⟨ret_ib (by rw [HV.out]; rfl) (by rw [HV.out]; rfl), B1.out⟩
    ·
     have e4 := decide_eq_false g4
     have g5 : ¬ o.code = 7 := by omega
     have e5 : (o.code == 7) = false := by rw [beq_eq_false_iff_ne]; exact g5
     have HV := LH (HA.out.trans (if_neg (by omega)))
     try clear g1
     try clear g2
     try clear g3
     try clear g4
     try clear g5
     try clear g6
     go_wp2_with fail
     go_ret2
     exact ⟨ret_ib (by rw [HV.out]; rfl) (by rw [HV.out]; rfl), B1.out⟩
  ·
   have e2 : (o.code == 2) = false := by rw [beq_eq_false_iff_ne]; exact g2
   by_cases g4 : 60 < d - T + U
   ·
    have e4 := decide_eq_true g4
    have HV := LH (HA.out.trans (if_pos (by omega)))
    try clear g1
    try clear g2
    try clear g3
    try clear g4
    try clear g5
    try clear g6
    go_wp2_with fail
    go_ret2
    exact ⟨ret_ib (by rw [HV.out]; rfl) (by rw [HV.out]; rfl), B1.out⟩
   ·
    have e4 := decide_eq_false g4
    by_cases g5 : o.code = 7
    ·
     have e5 : (o.code == 7) = true := by rw [beq_iff_eq]; exact g5
     by_cases g6 : d = 2
     ·
      have e6 : (d != 2) = false := by rw [bne_eq_false_iff_eq]; exact g6
      have HV := LH (HA.out.trans (if_neg (by omega)))
      try clear g1
      try clear g2
      try clear g3
      try clear g4
      try clear g5
      try clear g6
      go_wp2_with fail
      go_ret2
      exact ⟨ret_ib (by rw [HV.out]; rfl) (by rw [HV.out]; rfl), B1.out⟩
     ·
      have e6 : (d != 2) = true := by rw [bne_iff_ne]; exact g6
      have HV := LH (HA.out.trans (if_pos (by omega)))
      try clear g1
      try clear g2
      try clear g3
      try clear g4
      try clear g5
      try clear g6
      go_wp2_with fail
      go_ret2
      exact ⟨ret_ib (by rw [HV.out]; rfl) (by rw [HV.out]; rfl), B1.out⟩
    ·
     have e5 : (o.code == 7) = false := by rw [beq_eq_false_iff_ne]; exact g5
     have HV := LH (HA.out.trans (if_neg (by omega)))
     try clear g1
     try clear g2
     try clear g3
     try clear g4
     try clear g5
     try clear g6
     go_wp2_with fail
     go_ret2
     exact ⟨ret_ib (by rw [HV.out]; rfl) (by rw [HV.out]; rfl), B1.out⟩
def FollowsTo (l : List Int) (w : World) (e : Ending) (w' : World) : Prop := ∃ A c, e = .returned (.slice A l.length c) ∧ Sl w' (Btw w.heap.size w'.heap.size) 1 A c (l.map (D.num .i64)) ∧ Below w.heap.size w w'
theorem implFollows (o : GOp) (q : Nat) (w : World) (hq : q ≤ 1048576) (h1 : (Lit.int .i64 o.n).wf = true) (h2 : (Lit.int .i64 o.m).wf = true) :
 Calls Tryz.prog 26 #[.agg #[.int .i64 o.code, .int .i64 o.n, .int .i64 o.m], .int .i64 (q : Int)] w (FollowsTo (nextI o q) w) := by
 have E0 := LH (show Below w.heap.size w (w.alloc (.cells #[.int .i64 o.code, .int .i64 o.n, .int .i64 o.m] 32)) from (Below.refl _ _).alloc (Nat.le_refl _) _)
 have R0 := LH (Row.new w 32 #[.int .i64 o.code, .int .i64 o.n, .int .i64 o.m])
 have hR := fun i => R0.out.cell i
 have W1 := LH h1
 have W2 := LH h2
 have W3 := LH (show (Lit.int .i64 ((q + 1 : Nat) : Int)).wf = true from wf_i64 (by omega) (by omega))
 have hq1 : ((q + 1 : Nat) : Int) = (q : Int) + 1 := by omega
 have HN := LH (show nextI o q = if o.code = 7 ∨ o.code = 21 then [] else if o.code = 19 then [o.n] else if o.code = 10 ∨ o.code = 11 then [((q + 1 : Nat) : Int), o.m] else if o.code = 18 then [((q + 1 : Nat) : Int), o.n] else [((q + 1 : Nat) : Int)] from rfl)
 rw [hq1] at HN W3
 clear h1 h2 hq1
 by_cases g7 : o.code = 7
 ·
  have e7 : (o.code == 7) = true := by rw [beq_iff_eq]; exact g7
  have HV := LH (show nextI o q = [] by rw [HN.out]; simp [g7])
  clear g7
  go_enter Tryz.func26, Tryz.ntmps26
  go_wp2_with fail
  go_ret
  unfold FollowsTo
  rw [HV.out]
  exact ⟨none, 0, rfl, Sl.nil (by unfold maxLen; omega), E0.out⟩
 have e7 : (o.code == 7) = false := by rw [beq_eq_false_iff_ne]; exact g7
 by_cases g21 : o.code = 21
 ·
  have e21 : (o.code == 21) = true := by rw [beq_iff_eq]; exact g21
  have HV := LH (show nextI o q = [] by rw [HN.out]; simp [g7, g21])
  clear g7 g21
  go_enter Tryz.func26, Tryz.ntmps26
  go_wp2_with fail
  go_ret
  unfold FollowsTo
  rw [HV.out]
  exact ⟨none, 0, rfl, Sl.nil (by unfold maxLen; omega), E0.out⟩
 have e21 : (o.code == 21) = false := by rw [beq_eq_false_iff_ne]; exact g21
 by_cases g19 : o.code = 19
 ·
  have e19 : (o.code == 19) = true := by rw [beq_iff_eq]; exact g19
  have HV := LH (show nextI o q = [o.n] by rw [HN.out]; simp [g7, g21, g19])
  clear g7 g21 g19
  go_enter Tryz.func26, Tryz.ntmps26
  go_wp2_with fail
  go_ret
  unfold FollowsTo
  rw [HV.out]
  exact ⟨_, _, rfl, (rowI_osl (l := [o.n]) (Row.new' _ _ _ (by simp)) (by simp) (by simp [maxLen]) (by intro x hx; simp only [List.mem_cons, List.not_mem_nil, or_false] at hx; rw [hx]; exact W1.out)).sl, E0.out.alloc E0.out.size _⟩
 have e19 : (o.code == 19) = false := by rw [beq_eq_false_iff_ne]; exact g19
 by_cases g10 : o.code = 10
 ·
  have e10 : (o.code == 10) = true := by rw [beq_iff_eq]; exact g10
  have HV := LH (show nextI o q = [(q : Int) + 1, o.m] by rw [HN.out]; simp [g7, g21, g19, g10])
  clear g7 g21 g19 g10
  go_enter Tryz.func26, Tryz.ntmps26
  go_wp2_with fail
  go_ret
  unfold FollowsTo
  rw [HV.out]
  exact ⟨_, _, rfl, (rowI_osl (l := [(q : Int) + 1, o.m]) (Row.new' _ _ _ (by simp)) (by simp) (by simp [maxLen]) (by intro x hx; simp only [List.mem_cons, List.not_mem_nil, or_false] at hx; rcases hx with rfl | rfl; exact W3.out; exact W2.out)).sl, E0.out.alloc E0.out.size _⟩
 have e10 : (o.code == 10) = false := by rw [beq_eq_false_iff_ne]; exact g10
 by_cases g11 : o.code = 11
 ·
  have e11 : (o.code == 11) = true := by rw [beq_iff_eq]; exact g11
  have HV := LH (show nextI o q = [(q : Int) + 1, o.m] by rw [HN.out]; simp [g7, g21, g19, g10, g11])
  clear g7 g21 g19 g10 g11
  go_enter Tryz.func26, Tryz.ntmps26
  go_wp2_with fail
  go_ret
  unfold FollowsTo
  rw [HV.out]
  exact ⟨_, _, rfl, (rowI_osl (l := [(q : Int) + 1, o.m]) (Row.new' _ _ _ (by simp)) (by simp) (by simp [maxLen]) (by intro x hx; simp only [List.mem_cons, List.not_mem_nil, or_false] at hx; rcases hx with rfl | rfl; exact W3.out; exact W2.out)).sl, E0.out.alloc E0.out.size _⟩
 have e11 : (o.code == 11) = false := by rw [beq_eq_false_iff_ne]; exact g11
 by_cases g18 : o.code = 18
 ·
  have e18 : (o.code == 18) = true := by rw [beq_iff_eq]; exact g18
  have HV := LH (show nextI o q = [(q : Int) + 1, o.n] by rw [HN.out]; simp [g7, g21, g19, g10, g11, g18])
  clear g7 g21 g19 g10 g11 g18
  go_enter Tryz.func26, Tryz.ntmps26
  go_wp2_with fail
  go_ret
  unfold FollowsTo
  rw [HV.out]
  exact ⟨_, _, rfl, (rowI_osl (l := [(q : Int) + 1, o.n]) (Row.new' _ _ _ (by simp)) (by simp) (by simp [maxLen]) (by intro x hx; simp only [List.mem_cons, List.not_mem_nil, or_false] at hx; rcases hx with rfl | rfl; exact W3.out; exact W1.out)).sl, E0.out.alloc E0.out.size _⟩
 have e18 : (o.code == 18) = false := by rw [beq_eq_false_iff_ne]; exact g18
 have HV := LH (show nextI o q = [(q : Int) + 1] by rw [HN.out]; simp [g7, g21, g19, g10, g11, g18])
 clear g7 g21 g19 g10 g11 g18
 go_enter Tryz.func26, Tryz.ntmps26
 go_wp2_with fail
 go_ret
 unfold FollowsTo
 rw [HV.out]
 exact ⟨_, _, rfl, (rowI_osl (l := [(q : Int) + 1]) (Row.new' _ _ _ (by simp)) (by simp) (by simp [maxLen]) (by intro x hx; simp only [List.mem_cons, List.not_mem_nil, or_false] at hx; rw [hx]; exact W3.out)).sl, E0.out.alloc E0.out.size _⟩
def DepthsTo (l : List GFun) (i : Int) (w : World) (e : Ending) (w' : World) : Prop :=
 ∃ r A c, IsDepths l i r ∧ e = .returned (.tuple #[.slice A (r.getD []).length c, .bool r.isSome]) ∧ Osl w' (Btw w.heap.size w'.heap.size) 1 A c ((r.getD []).map (D.num .i64)) ∧ Below w.heap.size w w'
theorem DepthsTo.no {l : List GFun} {i : Int} {w w' : World} {A : Option Addr} {c : Nat} (h : IsDepths l i none) (hc : c ≤ maxLen) (hb : Below w.heap.size w w') : DepthsTo l i w (.returned (.tuple #[.slice A 0 c, .bool false])) w' :=
 ⟨none, A, c, h, rfl, Osl.nil hc, hb⟩
theorem DepthsTo.yes {l : List GFun} {i : Int} {w w' : World} {g n : Nat} {t : TypeId} {out : List Int} (h : IsDepths l i (some out)) (hr : Row w' g t (rowI out)) (hg : w.heap.size ≤ g) (hl : out.length = n) (hn : n ≤ 3000) (hw : ∀ x ∈ out, (Lit.int .i64 x).wf = true) (hb : Below w.heap.size w w') : DepthsTo l i w (.returned (.tuple #[.slice (some ⟨g, 0, none⟩) n n, .bool true])) w' := by
 subst hl
 exact ⟨some out, _, _, h, rfl, rowI_osl hr hg (by unfold maxLen; omega) hw, hb⟩
theorem SInv.wf {ops : List GOp} {out : List Int} {todo : List Nat} {ex : Nat → Prop} (h : SInv ops out todo ex) : ∀ x ∈ out, (Lit.int .i64 x).wf = true := fun x hx => by
 obtain ⟨k, hk, rfl⟩ := List.getElem_of_mem hx
 rcases h.val k hk with e | ⟨a, b, _⟩
 · rw [e]; exact wf_i64 (by omega) (by omega)
 · exact wf_i64 (by omega) (by omega)
def tdI (todo : List Nat) : List Int := todo.map fun k => ((k : Nat) : Int)
theorem tdI_length (todo : List Nat) : (tdI todo).length = todo.length := by unfold tdI; simp
theorem rdC_num {w w' : World} {S S' : Nat → Prop} : ∀ (l : List Int) (cs : List Value), rdC w 1 S (l.map (D.num .i64)) cs → rdC w' 1 S' (l.map (D.num .i64)) cs
 | [], _, h => h
 | x :: r, cs, h => by
  simp only [List.map_cons, rdC] at h ⊢
  obtain ⟨c1, c2, e, hl, h1, h2⟩ := h
  exact ⟨c1, c2, e, hl, D.rd_num.2 (D.rd_num.1 h1), rdC_num r c2 h2⟩
theorem Gsh.setFar {w : World} {B : Nat} {e : TypeId} {v : Value} {n : Nat} {l : List Int} (h : Gsh w B e 1 v n (l.map (D.num .i64))) {p : Addr} (hp : p.block < B) (u : Value) : Gsh (w.setCell p u) B e 1 v n (l.map (D.num .i64)) := by
 obtain ⟨h1, cs, h2, h4⟩ := h
 refine ⟨h1, cs, ⟨h2.1, ?_⟩, rdC_num l cs h4⟩
 rcases h2.2 with h | ⟨g, cap, cur, hv, a1, a2, a3⟩
 · exact .inl h
 · exact .inr ⟨g, cap, cur, hv, a1, (Below.heap_setCell w p u g (by omega)).trans a2, a3⟩
theorem Gsh.top {w : World} {B : Nat} {e : TypeId} {A : Option Addr} {c n : Nat} {ts : List Nat} {q : Nat} (h : Gsh w B e 1 (.slice A (n + 1) c) (n + 1) ((tdI (ts ++ [q])).map (D.num .i64))) (hB : B ≤ w.heap.size) (hn : ts.length = n) :
 ∃ b off, A = some ⟨b, off, none⟩ ∧ w.cell? ⟨b, off + n, none⟩ = some (.int .i64 (q : Int)) ∧ n + 1 ≤ c ∧ c ≤ maxLen := by
 obtain ⟨A', c', e', hs⟩ := h.sl hB
 obtain ⟨rfl, rfl⟩ : A = A' ∧ c = c' := by simpa using e'
 have hl : (tdI (ts ++ [q])).length = n + 1 := by rw [tdI_length]; simp [hn]
 obtain ⟨b, off, e1, hS, hc, hw⟩ := int_elem hs n (by omega)
 have h1 := hs.1
 rw [List.length_map, hl] at h1
 refine ⟨b, off, e1, ?_, h1, hs.2.1⟩
 rw [hc]
 congr 2
 subst hn
 simp [tdI]
theorem tdI_snoc (ts : List Nat) (q : Nat) : (tdI (ts ++ [q])).map (D.num .i64) = (tdI ts).map (D.num .i64) ++ [D.num .i64 (q : Int)] := by simp [tdI]
theorem SInv.rng {ops : List GOp} {out : List Int} {todo : List Nat} {ex : Nat → Prop} (h : SInv ops out todo ex) {q : Nat} (hq : q < out.length) (hne : ¬ out[q] = -1) : 1 ≤ out[q] ∧ out[q] ≤ 60 := by
 rcases h.val q hq with e | ⟨a, b, _⟩
 · exact absurd e hne
 · exact ⟨a, b⟩
theorem PInv.mono {ops : List GOp} {out : List Int} {todo : List Nat} {q : Nat} {d' : Int} {don don' : Int → Prop} (h : PInv ops out todo q d' don) (hd : ∀ x, don' x → don x) : PInv ops out todo q d' don' :=
 ⟨h.base, h.hq, h.hq', h.at', h.mark, h.rng, fun x hx hd' => h.nxt x hx (hd x hd')⟩
theorem mem_take_succ {ns : List Int} {j : Nat} (h : j < ns.length) {x : Int} (hx : x ∈ ns.take (j + 1)) : x ∈ ns.take j ∨ x = ns[j] := by
 rw [take_snoc' ns j h, List.mem_append] at hx
 exact hx.imp id fun h => by simpa using h
theorem SInv.begin {ops : List GOp} {out : List Int} (h1 : 1 ≤ ops.length) (hl : out.length = ops.length) (h2 : ∀ k (h : k < out.length), k < ops.length → out[k] = -1) : SInv ops (out.set 0 1) [0] (fun _ => False) :=
 SInv.start h1 (by simp [hl]) (by rw [List.getElem?_set_self (by omega)]) (fun k h hk => by rw [List.getElem_set_ne (by omega)]; exact h2 k (by simpa using h) (by simp at h; omega))
theorem negs_le : ∀ (l : List Int), negs l ≤ l.length
 | [] => by simp [negs]
 | x :: r => by have := negs_le r; simp only [negs, List.length_cons]; split <;> omega
theorem implDepths (l : List GFun) (A : Option Addr) (c : Nat) (i : Int) (w : World) (hi : -9223372036854775808 ≤ i ∧ i ≤ 9223372036854775807) (hs : Sl w (Lt w.heap.size) 2 A c (l.map GFun.toD)) :
 Calls Tryz.prog 6 #[.slice A l.length c, .int .i64 i] w (DepthsTo l i w) := by
 have hlen : l.length ≤ 9223372036854775807 := by simpa using hs.len
 have S0 := LH hs
 clear hs
 cases hf : funsB l
 ·
  have HR := LH (show IsDepths l i none from .inl ⟨hf, rfl⟩)
  go_enter Tryz.func6, Tryz.ntmps6
  go_wp2_with fail
  refine (implFunsOk l A c w S0.out).mono ?_
  rintro e w1 ⟨rfl, hb1⟩
  rw [hf]
  go_wp2_with fail
  go_ret2
  exact DepthsTo.no HR.out (by unfold maxLen; omega) hb1
 have HF := LH hf
 have ht := (funsB_out hf).1.1
 have hl1 := ht.1
 have hl2 := ht.2
 clear ht
 by_cases hin : 0 ≤ i ∧ i ≤ (l.length : Int) - 1
 rotate_left
 ·
  have HR := LH (show IsDepths l i none from .inr (.inl ⟨hf, hin, rfl⟩))
  have hn := inB_false hin
  clear hin
  go_enter Tryz.func6, Tryz.ntmps6
  go_wp2_with fail
  refine (implFunsOk l A c w S0.out).mono ?_
  rintro e w1 ⟨rfl, hb1⟩
  rw [hf]
  clear hf
  go_wp2_with fail
  refine (implWithin i 0 ((l.length : Int) - 1) w1).mono ?_
  rintro e w2 ⟨rfl, rfl⟩
  rw [hn]
  go_wp2_with fail
  go_ret2
  exact DepthsTo.no HR.out (by unfold maxLen; omega) hb1
 have hn := inB_true hin
 obtain ⟨p, rfl⟩ : ∃ p : Nat, i = (p : Int) := ⟨i.toNat, by omega⟩
 have hp : p < l.length := by omega
 obtain ⟨hJ, hE, hops⟩ := funs_in hf p hp
 have HJ := LH hJ
 have HE := LH hE
 have HID := LH (show ∀ r, Found l[p].list r → IsDepths l (p : Int) r from fun r h => .inr (.inr ⟨hf, by simpa using hp, by omega, by simpa using h⟩))
 have h1n := hJ.1
 clear hJ hE hi hin
 go_enter Tryz.func6, Tryz.ntmps6
 go_wp2_with fail
 refine (implFunsOk l A c w S0.out).mono ?_
 rintro e w1 ⟨rfl, hb1⟩
 have B1 := LH hb1
 rw [hf]
 clear hf hb1
 go_wp2_with fail
 refine (implWithin (p : Int) 0 ((l.length : Int) - 1) w1).mono ?_
 rintro e w2 ⟨rfl, rfl⟩
 rw [hn]
 clear hn
 obtain ⟨b, off, A1, c1, rfl, hSb, g0, g1, hat⟩ := GFun.elem (S0.out.below B1.out (Nat.le_refl _)) p hp
 have HT := LH hat.2
 have hmk := mkInt l[p].list.length (by omega)
 clear hat g0
 go_wp2_with fail
 clear hmk g1
 generalize l[p].list = ops at *
 rw [zr_int]
 obtain ⟨g, hg⟩ : ∃ g, g = w1.heap.size := ⟨_, rfl⟩
 have R0 := LH (show Row (w1.alloc (.cells (rowI (List.replicate ops.length 0)) 3)) g 3 (rowI (List.replicate ops.length 0)) by rw [hg]; exact Row.new' _ _ _ rfl)
 have B2 := LH (B1.out.alloc B1.out.size (.cells (rowI (List.replicate ops.length 0)) 3))
 have hgw : w.heap.size ≤ g := by rw [hg]; exact B1.out.size
 have HSl := LH (show ∀ w', Below w.heap.size w w' → Sl w' (Lt w.heap.size) 3 A1 c1 (ops.map GOp.toD) from fun w' hb => HT.out.keep fun q hq => ⟨hq, (hb.block q hq).trans (B1.out.block q hq).symm⟩)
 rw [← hg]
 clear hg HT S0 B1
 obtain ⟨bo, oo, rfl, -, -, -, -⟩ := GOp.elem (HSl.out w (Below.refl _ _)) 0 h1n
 go_loopw [36] (fun i wr => ∃ (j : Nat) (out : List Int), j ≤ ops.length ∧ i = .int .i64 j ∧ Hid (out.length = ops.length) ∧ Hid (∀ k (h : k < out.length), k < j → out[k] = -1) ∧ Hid (Row wr g 3 (rowI out)) ∧ Below w.heap.size w wr) (fun i _ => ops.length - (intOf i).toNat)
 case atStart => exact ⟨0, List.replicate ops.length 0, by omega, by go_num, LH (by simp), LH (fun k h hk => by omega), R0, B2.out⟩
 case round =>
  clear R0 B2
  obtain ⟨j, out, hj, rfl, HL, HN, HR, hbl⟩ := hrel
  have hol := HL.out
  by_cases hlt : j < ops.length
  ·
   have x0 := (HR.out.cell j).trans (rowI_get (l := out) (k := j) (by omega))
   have hfz := HR.out.frozen j
   go_wp2_with fail
   go_roundw
   case rel =>
    refine ⟨j + 1, out.set j (-1), by omega, by go_num, LH (by simp [HL.out]), LH (fun k h hk => ?_), LH (by rw [← rowI_set]; exact HR.out.set j _), hbl.setCell (p := ⟨g, j, none⟩) hgw _⟩
    rw [List.getElem_set]
    split
    · rfl
    · exact HN.out k (by simpa using h) (by omega)
   case measure => simp [intOf]; omega
  ·
   have hjl : j = ops.length := by omega
   have SB := LH (SInv.begin h1n HL.out (by have h := HN.out; rw [hjl] at h; exact h))
   have x0 := (HR.out.cell 0).trans (rowI_get (l := out) (k := 0) (by omega))
   have hfz := HR.out.frozen 0
   obtain ⟨w3, e3⟩ : ∃ w3, w3 = (wr.setCell ⟨g, 0, none⟩ (.int .i64 1)).alloc (.cells #[.int .i64 0] 3) := ⟨_, rfl⟩
   have ess : (wr.setCell ⟨g, 0, none⟩ (.int .i64 1)).heap.size = wr.heap.size := by simp [World.setCell]
   have hgl := HR.out.lt
   have B3 := LH (show Below w.heap.size w w3 by rw [e3]; exact (hbl.setCell (p := ⟨g, 0, none⟩) hgw _).alloc (by rw [ess]; exact hbl.size) _)
   have R3 := LH (show Row w3 g 3 (rowI (out.set 0 1)) by rw [e3, ← rowI_set]; exact (HR.out.set 0 _).alloc _)
   have G3 := LH (show Gsh w3 (g + 1) 3 1 (.slice (some ⟨wr.heap.size, 0, none⟩) ([0] : List Nat).length 1) ([0] : List Nat).length ((tdI [0]).map (D.num .i64)) by
     rw [e3]
     exact Gsh.laid (Row.new' _ _ _ ess.symm) (by omega) (rdC_int [0] (by simp [wf_i64])) rfl (by simp [maxLen]))
   have hs3 : g + 1 ≤ w3.heap.size := by rw [e3]; simp [World.setCell]; omega
   have HNG := LH (show 2 * negs (out.set 0 1) + ([0] : List Nat).length < 2 * ops.length + 2 ∧ 2 * ops.length + 2 ≤ 2 * ops.length + 2 by have := negs_le (out.set 0 1); simp only [List.length_set, List.length_singleton] at *; omega)
   clear hj HN hjl
   go_wp2_with fail
   rw [← e3]
   clear e3 x0 hfz ess hbl HR hgl hol HL
   go_loopg [9] (2 * ops.length + 2) (fun k v wr => ∃ (out : List Int) (todo : List Nat) (A : Option Addr) (c : Nat), v = .slice A todo.length c ∧ Hid (SInv ops out todo (fun _ => False)) ∧ Hid (Gsh wr (g + 1) 3 1 (.slice A todo.length c) todo.length ((tdI todo).map (D.num .i64))) ∧ Hid (Row wr g 3 (rowI out)) ∧ g + 1 ≤ wr.heap.size ∧ Hid (2 * negs out + todo.length < k ∧ k ≤ 2 * ops.length + 2) ∧ Below w.heap.size w wr)
   case atStart => exact ⟨_, [0], _, _, rfl, SB, G3, R3, hs3, HNG, B3.out⟩
   case round =>
    clear SB G3 R3 hs3 B3 HNG
    obtain ⟨out, todo, A, c, rfl, HI, HG, HR, hgs, HM, hbl⟩ := hrel
    obtain ⟨k', rfl⟩ : ∃ k', gk = k' + 1 := ⟨gk - 1, by have := HM.out; omega⟩
    have hol := HI.out.len
    have hsz := hbl.size
    rcases List.eq_nil_or_concat todo with rfl | ⟨ts, q, rfl⟩
    · simp only [List.length_nil]
      go_wp2_with fail
      go_ret2
      exact DepthsTo.yes (HID.out _ HI.out.end) HR.out hgw hol hops HI.out.wf hbl
    rw [List.concat_eq_append] at *
    rw [show (ts ++ [q]).length = ts.length + 1 by simp] at *
    obtain ⟨hq', hne⟩ := HI.out.stk q (by simp)
    have hq : q < ops.length := by omega
    have hrg := HI.out.rng hq' hne
    obtain ⟨bt, ot, rfl, ct, hct, hcm⟩ := HG.out.top hgs rfl
    have hml : ts.length + 1 ≤ 9223372036854775807 := by unfold maxLen at hcm; omega
    obtain ⟨b', off', eA, hSb', k0, k1, k2, kat⟩ := GOp.elem (HSl.out wr hbl) q hq
    obtain ⟨rfl, rfl⟩ : bo = b' ∧ oo = off' := by simpa using eA
    have xq := (HR.out.cell q).trans (rowI_get (l := out) hq')
    have HG' := LH (show Gsh wr (g + 1) 3 1 (.slice (some ⟨bt, ot, none⟩) ts.length c) ts.length ((tdI ts).map (D.num .i64)) from Gsh.pop (by have h := HG.out; rw [tdI_snoc] at h; exact h))
    have hql : q ≤ 3000 := by omega
    have HW := LH kat
    have EFF := LH (HE.out q hq)
    have HV0 := LH hne
    have HQ := LH hq'
    clear kat hne
    go_wp2_with fail
    have hbo := Nat.lt_of_lt_of_le hSb' hsz
    have hgl := HR.out.lt
    go_region_held3 (fun w' => w'.cell? ⟨bo, oo + q * 3, none⟩ = some (.int .i64 ops[q].code) ∧ w'.cell? ⟨bo, oo + q * 3 + 1, none⟩ = some (.int .i64 ops[q].n) ∧ w'.cell? ⟨bo, oo + q * 3 + 2, none⟩ = some (.int .i64 ops[q].m) ∧ w'.cell? ⟨g, q, none⟩ = some (.int .i64 out[q])) (first | exact ⟨k0, k1, k2, xq⟩ | exact ⟨k3, k4, k5, xq3⟩) (first
      | (go_at_call 25
         refine (implAfter ops[q] out[q] wr.drew hrg EFF.out).mono ?_
         rintro e w4 ⟨rfl, hb4⟩
         have HBB := LH (show Below wr.heap.size wr w4 from (Below.drew (Below.refl _ _)).trans hb4)
         have k3 := (HBB.out.cell (p := ⟨bo, oo + q * 3, none⟩) hbo).trans k0
         have k4 := (HBB.out.cell (p := ⟨bo, oo + q * 3 + 1, none⟩) hbo).trans k1
         have k5 := (HBB.out.cell (p := ⟨bo, oo + q * 3 + 2, none⟩) hbo).trans k2
         have xq3 := (HBB.out.cell (p := ⟨g, q, none⟩) hgl).trans xq
         clear hb4))
    have B4 := LH (hbl.trans (HBB.out.mono hsz))
    have R4 := LH (HR.out.below HBB.out HR.out.lt)
    have G4 := LH (HG'.out.below HBB.out hgs)
    have hs4 := Nat.le_trans hgs HBB.out.size
    clear k0 k1 k2 xq ct HG HG' HR k3 k4 k5 xq3
    cases ha : afterI ops[q] out[q] with
    | none =>
     have HBAD := LH (HID.out none (HI.out.bad HQ.out hq ha))
     clear ha
     simp only [aftR, Option.isSome]
     go_wp2_with fail
     go_ret2
     exact DepthsTo.no HBAD.out (by unfold maxLen; omega) B4.out
    | some d' =>
     have HP := LH (HI.out.pop HQ.out hq ha)
     clear ha HI
     have hdr := HP.out.rng
     simp only [aftR, Option.isSome]
     obtain ⟨b', off', eA, hSb', k0, k1, k2, kat⟩ := GOp.elem (HSl.out w4 B4.out) q hq
     obtain ⟨rfl, rfl⟩ : bo = b' ∧ oo = off' := by simpa using eA
     have HNX := LH (HJ.out.2 q hq)
     clear kat
     go_wp2_with fail
     refine (implFollows ops[q] q w4 (by omega) HW.out.2.1 HW.out.2.2).mono ?_
     rintro e w5 ⟨A5, c5, rfl, hsl5, hb5⟩
     have B5 := LH (B4.out.trans (hb5.mono B4.out.size))
     have R5 := LH (R4.out.below hb5 R4.out.lt)
     have G5 := LH (G4.out.below hb5 hs4)
     have hs5 := Nat.le_trans hs4 hb5.size
     have HOW : Hid (∀ gg, (Value.slice (some ⟨bt, ot, none⟩) ts.length c).ownBlock = some gg → gg < w4.heap.size) := LH (fun gg e => (G4.out.own gg e).2)
     have S5 := LH (show Sl w5 (fun b => b < w5.heap.size ∧ b ≠ g ∧ (Value.slice (some ⟨bt, ot, none⟩) ts.length c).ownBlock ≠ some b) 1 A5 c5 ((nextI ops[q] q).map (D.num .i64)) from hsl5.keep fun x hx => ⟨⟨hx.2, by have := hx.1; omega, fun e => by have := HOW.out x e; have := hx.1; omega⟩, rfl⟩)
     have hn5 : (nextI ops[q] q).length ≤ 9223372036854775807 := by simpa using hsl5.len
     clear hb5 hsl5 k0 k1 k2 R4 G4 HOW
     obtain ⟨ns, hns⟩ : ∃ ns, ns = nextI ops[q] q := ⟨_, rfl⟩
     have HM' := LH (show 2 * negs out + ts.length < k' by have := HM.out.1; omega)
     have hk' : k' ≤ 6002 := by have := HM.out.2; omega
     have hk2 : k' ≤ 2 * ops.length + 2 := by have := HM.out.2; omega
     rw [← hns] at HNX S5 hn5 ⊢
     have HNS := LH hns
     clear hns HM hol
     go_wp2_with fail
     go_loopw [9, 81] (fun v i wr => ∃ (j : Nat) (out : List Int) (todo : List Nat) (A : Option Addr) (c : Nat), j ≤ ns.length ∧ i = .int .i64 j ∧ v = .slice A todo.length c ∧ Hid (PInv ops out todo q d' (fun x => x ∈ ns.take j)) ∧ Hid (Gsh wr (g + 1) 3 1 (.slice A todo.length c) todo.length ((tdI todo).map (D.num .i64))) ∧ Hid (Row wr g 3 (rowI out)) ∧ Hid (Sl wr (fun b => b < wr.heap.size ∧ b ≠ g ∧ (Value.slice A todo.length c).ownBlock ≠ some b) 1 A5 c5 (ns.map (D.num .i64))) ∧ g + 1 ≤ wr.heap.size ∧ Hid (2 * negs out + todo.length < k') ∧ Below w.heap.size w wr) (fun _ i _ => ns.length - (intOf i).toNat)
     case atStart => exact ⟨0, out, ts, _, _, by omega, by go_num, rfl, LH (HP.out.mono (by simp)), G5, R5, S5, hs5, HM', B5.out⟩
     case round =>
      clear HP G5 R5 S5 hs5 HM' B5
      obtain ⟨j, out2, todo2, A2, c2, hj, rfl, rfl, HP2, HG2, HR2, HS2, hs2, HM2, hb2⟩ := hrel
      have hgl2 := HR2.out.lt
      by_cases hlt : j < ns.length
      ·
       have hx := HNX.out ns[j] (List.getElem_mem hlt)
       obtain ⟨m, hm⟩ : ∃ m : Nat, ns[j] = (m : Int) := ⟨(ns[j]).toNat, by omega⟩
       have hmo : m < ops.length := by omega
       have hml : m < out2.length := by have := HP2.out.base.len; omega
       obtain ⟨bn, onn, rfl, hSn, cn, -⟩ := int_elem HS2.out j hlt
       rw [hm] at cn
       have HME := LH (show (m : Int) ∈ nextI (ops[q]'HP2.out.hq) q by rw [← HNS.out, ← hm]; exact List.getElem_mem hlt)
       have HMJ := LH hm
       have xm := (HR2.out.cell m).trans (rowI_get hml)
       have xf := HR2.out.frozen m
       have hol2 := HP2.out.base.len
       clear hx hm
       by_cases hneg : out2[m] = -1
       ·
        rw [hneg] at xm
        have HP3 := LH (HP2.out.set HME.out hml hneg)
        have HN3 := LH (negs_set (d := d') hml hneg (by omega))
        have ess : (wr.setCell ⟨g, m, none⟩ (.int .i64 d')).heap.size = wr.heap.size := by simp [World.setCell]
        have HG3 := LH (HG2.out.setFar (p := ⟨g, m, none⟩) (by simp) (.int .i64 d'))
        have HR3 := LH (show Row (wr.setCell ⟨g, m, none⟩ (.int .i64 d')) g 3 (rowI (out2.set m d')) by rw [← rowI_set]; exact HR2.out.set m _)
        have HD := LH (show (D.num .i64 (m : Int)).rd (wr.setCell ⟨g, m, none⟩ (.int .i64 d')) (Lt (g + 1)) [.int .i64 (m : Int)] from D.rd_num.2 ⟨rfl, wf_i64 (by omega) (by omega)⟩)
        have htl : todo2.length < 1048577 := by have := HM2.out; omega
        have hs2' : g + 1 ≤ (wr.setCell ⟨g, m, none⟩ (.int .i64 d')).heap.size := by rw [ess]; exact hs2
        have hown : (Value.slice A2 todo2.length c2).ownBlock ≠ some g := fun e => by have := (HG2.out.own g e).1; omega
        have hml3 : m < (out2.set m d').length := by simpa using hml
        have HB3 := LH (hb2.setCell (p := ⟨g, m, none⟩) hgw (.int .i64 d'))
        have HS3 := LH (HS2.out.keep (w' := wr.setCell ⟨g, m, none⟩ (.int .i64 d')) (S' := fun b => b < wr.heap.size ∧ b ≠ g ∧ (Value.slice A2 todo2.length c2).ownBlock ≠ some b) (fun x hx => ⟨hx, Below.heap_setCell wr ⟨g, m, none⟩ _ x (by have := hx.2.1; simpa using this)⟩))
        clear hneg
        go_wp2_with (first | (at_builtin; refine wpList_append_G (wr.setCell ⟨g, m, none⟩ (.int .i64 d')) rfl (.tmp 94) (.tmp 96) 27 rfl 3 (.int .i64 0) 1 8 Tryz.underlying27 (by kernel_rfl) rfl (by omega) (g + 1) (.slice A2 todo2.length c2) todo2.length _ HG3.out (D.num .i64 (m : Int)) [.int .i64 (m : Int)] HD.out hs2' rfl (by simp [Value.oneCell']) htl (by omega) 3 rfl wr.heap.size ess.symm rfl ?_; intro gg cap w6 G6 hGr6; have R6 := LH (hGr6.row HR3.out hown); have xm6 := (R6.out.cell m).trans ((rowI_get hml3).trans (by rw [List.getElem_set_self])); have G6h := LH G6; have GR6 := LH hGr6; clear G6 hGr6))
        go_roundw
        case rel =>
         refine ⟨j + 1, out2.set m d', todo2 ++ [m], some ⟨gg, 0, none⟩, cap, by omega, by go_num, by simp, LH (HP3.out.mono fun x hx => ?_), LH ?_, R6, LH (HS3.out.keep fun x hx => ⟨⟨?_, hx.2.1, ?_⟩, ?_⟩), ?_, LH ?_, HB3.out.trans (GR6.out.below (B := w.heap.size) ?_ ?_)⟩
         · rcases mem_take_succ hlt hx with h | h
           · exact .inl h
           · exact .inr (h.trans HMJ.out)
         · rw [tdI_snoc]; simpa using G6h.out
         · have := GR6.out.size; rw [ess] at this; omega
         · have h := GR6.out.ne hx.2.2 (by rw [ess]; exact hx.1); simpa using h
         · exact GR6.out.grow.block x (by rw [ess]; exact hx.1) (fun e => hx.2.2 e.symm)
         · have := GR6.out.size; rw [ess] at this; omega
         · have h1 := HM2.out; have h2 := HN3.out; simp only [List.length_append, List.length_singleton]; omega
         · rw [ess]; omega
         · intro gg' e; have := (HG2.out.own gg' e).1; omega
        case measure => simp [intOf]; omega
       ·
        have hpos := HP2.out.base.rng hml hneg
        have ed : decide (out2[m] < 0) = false := decide_eq_false (by omega)
        by_cases hsame : out2[m] = d'
        · have e7 : (out2[m] != d') = false := by rw [bne_eq_false_iff_eq]; exact hsame
          have HP3 := LH (HP2.out.same hml hsame)
          clear hsame hneg
          go_wp2_with fail
          go_roundw
          case rel =>
           refine ⟨j + 1, out2, todo2, A2, c2, by omega, by go_num, rfl, LH (HP3.out.mono fun x hx => ?_), HG2, HR2, HS2, hs2, HM2, hb2⟩
           rcases mem_take_succ hlt hx with h | h
           · exact .inl h
           · exact .inr (h.trans HMJ.out)
          case measure => simp [intOf]; omega
        · have e7 : (out2[m] != d') = true := by rw [bne_iff_ne]; exact hsame
          have HBAD := LH (HID.out none (HP2.out.bad HME.out hml hneg hsame))
          clear hsame hneg
          go_wp2_with fail
          go_ret2
          exact DepthsTo.no HBAD.out (by unfold maxLen; omega) hb2
      · have HEND := LH (HP2.out.end (fun x hx => by rw [← HNS.out] at hx; rwa [show j = ns.length by omega, List.take_length]))
        go_wp2_with fail
        go_roundg k'
        case measure => omega
        case rel => exact ⟨out2, todo2, A2, c2, rfl, HEND, HG2, HR2, hs2, LH ⟨HM2.out, by omega⟩, hb2⟩
end Go.Proofs.YtehpobojopmilaaGreat
