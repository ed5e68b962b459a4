/- Texts of the claim LForAll in one: EwV CTy TySize DrawTy5 GBind Gov GScheme EwX SortL GOp Effect GFun OpOk FunsOk DepthsP Depths DepthsS FreeVars FInt DelI. Conditions: none but bounds on sizes. -/
import Derived.Test.YtlpichogambpfaaGreatZLForAll12
import Derived.Test.YtlpichogambpfaaGreatZLForAll11
import Derived.Test.YtlpichogambpfaaGreatZLForAll10
import Derived.OwnWalk
import Derived.Deep.RegionLaw
import Derived.Test.YtlpichogambpfaaGreatRows
import Derived.Test.YtlpichogambpfaaGreatZLForAll8
import Derived.Test.YtlpichogambpfaaGreatZLForAll0
import Derived.Lib.Hide
import Derived.Deep.RegionHeld3
import Derived.Deep.CutRange
import Derived.Shelf.SortM.Plain
import Derived.Shelf.SortM.SortNone
import Derived.BigQuiet
import Derived.Deep.LoopGhost
import Derived.IntWalk
import Derived.Sort.OwnSortedInts
import Derived.Lib.SliceRun
namespace Go.Proofs.YtlpichogambpfaaGreat
set_option maxRecDepth 20000
set_option linter.unusedVariables false
set_option linter.unusedSimpArgs false
open Go.RowKit
set_option maxHeartbeats 2000000
def DrawnTt (w : World) (e : Ending) (w' : World) : Prop :=
 ∃ (tt : GTyped) (A1 : Option Addr) (c1 : Nat) (A2 : Option Addr) (c2 : Nat) (A3 : Option Addr) (c3 : Nat) (A4 : Option Addr) (c4 : Nat), e = .returned (.agg #[.int .i64 tt.op, .int .i64 tt.n, .string tt.s, .string tt.t, .int .i64 tt.ty.op, .int .i64 tt.ty.n, .string tt.ty.s, .slice A1 tt.ty.kids.length c1, .slice A2 tt.inst.length c2, .slice A3 tt.vars.length c3, .slice A4 tt.kids.length c4]) ∧ GTyped.At w' (Lt w'.heap.size) A1 c1 A2 c2 A3 c3 A4 c4 tt ∧ tt.bulk ≤ 1048576 ∧ Below w.heap.size w w'
theorem drawEraseE (l : List Int) (A : Option Addr) (c : Nat) (w : World) (hs : Sl w (Lt w.heap.size) 1 A c (l.map (D.num .u8))) (hl : l.length ≤ 1048576) :
 Calls Tryz.prog 10 #[.slice A l.length c] w (DrawnTt w) := by
 obtain ⟨w0, e0, R0, hz0, K0⟩ := boxed w 40 #[.int .i64 0, .int .i64 0, .string ⟨#[]⟩, .string ⟨#[]⟩, .int .i64 0, .int .i64 0, .string ⟨#[]⟩, .slice none 0 0, .slice none 0 0, .slice none 0 0, .slice none 0 0]
 have B0 := LH (show Below w.heap.size w w0 by rw [e0]; exact (Below.refl _ _).alloc (Nat.le_refl _) _)
 have HN := LH (newCur l A c w0 (hs.below B0.out B0.out.size) hl)
 replace hz0 : w.heap.size + 1 ≤ w0.heap.size ∧ w0.heap.size ≤ w.heap.size + 1 := by omega
 clear hs K0
 go_enter Tryz.func10, Tryz.ntmps10
 refine wp_hide (fun BP hBP => ?_)
 have HBP := LH hBP
 clear hBP
 go_wp2_with fail
 rw [← e0]
 clear e0
 refine HN.out.mono ?_
 clear HN
 rintro e w1 ⟨h, rfl, hc1, hb1⟩
 have hz1 := hb1.size
 have B1 := LH (B0.out.trans (hb1.mono B0.out.size))
 have R1 := LH (R0.out.below hb1 R0.out.lt)
 have M1 := LH (Dm.start hc1)
 have hl1 := hc1.row.lt
 clear hc1 hb1 R0 B0
 go_wp2_with fail
 refine (draw7 M1.out).mono ?_
 rintro e w2 ⟨a0, a1, a2, a3, a4, a5, tt, A1, c1, A2, c2, A3, c3, A4, c4, rfl, hu, hat, hbk, hm2⟩
 have hz2 := hm2.size
 have B2 := LH (B1.out.trans (hm2.bx.below (by omega) (by omega)))
 have R2 := LH (hm2.bx.row R1.out (by omega))
 have HAT2 := LH hat
 have s0 := storeOne (hu a0 (by simp))
 have s1 := storeOne (hu a1 (by simp))
 have s2 := storeOne (hu a2 (by simp))
 have s3 := storeOne (hu a3 (by simp))
 have s4 := storeOne (hu a4 (by simp))
 have s5 := storeOne (hu a5 (by simp))
 clear hu hat hm2 R1 M1 B1
 go_upto_region 2 with (fail)
 obtain ⟨w3, e3, Rp3, hz3, K3⟩ := boxed w2 64 #[a0, a1, a2, a3, a4, a5]
 rw [← e3]
 clear e3
 obtain ⟨w4, e4, Rt4, hz4, K4⟩ := boxed w3 40 #[.int .i64 tt.op, .int .i64 tt.n, .string tt.s, .string tt.t, .int .i64 tt.ty.op, .int .i64 tt.ty.n, .string tt.ty.s, .slice A1 tt.ty.kids.length c1, .slice A2 tt.inst.length c2, .slice A3 tt.vars.length c3, .slice A4 tt.kids.length c4]
 rw [← e4]
 clear e4
 rw [hz3] at Rt4
 have B4 := LH (B2.out.trans (((K3.out.below (Nat.le_refl _) (Nat.le_refl _)).trans ((K4.out.below (Nat.le_refl _) (Nat.le_refl _)).mono (by omega))).mono B2.out.size))
 have R4 := LH (K4.out.row (K3.out.row R2.out (by omega)) (by omega))
 have HAT4 := LH (HAT2.out.keep (w' := w4) (S' := InL w1.heap.size w4) fun b hb => ⟨⟨hb.1, by have := hb.2; omega⟩, (K4.out.block b (by have := hb.2; omega) (by have := hb.2; omega)).trans (K3.out.block b hb.2 (by have := hb.2; omega))⟩)
 clear B2 R2 HAT2 K3 K4
 have hcr4 := fun i => R4.out.cell i
 have hfr4 := fun i => R4.out.frozen i
 have hlr4 := R4.out.lt
 have hct4 := fun i => Rt4.out.cell i
 have hlt4 := Rt4.out.lt
 go_wp2_with fail
 clear hcr4 hfr4 hlr4 hct4 hlt4
 obtain ⟨w5, e5, R5, hz5, K5⟩ := storedEleven R4.out (.int .i64 tt.op) (.int .i64 tt.n) (.string tt.s) (.string tt.t) (.int .i64 tt.ty.op) (.int .i64 tt.ty.n) (.string tt.ty.s) (.slice A1 tt.ty.kids.length c1) (.slice A2 tt.inst.length c2) (.slice A3 tt.vars.length c3) (.slice A4 tt.kids.length c4)
 have HAT5 := LH (HAT4.out.keep (w' := w5) (S' := Lt w5.heap.size) fun b hb => ⟨show b < w5.heap.size by have := hb.2; omega, K5.out.block b hb.2 (by have := hb.1; omega)⟩)
 have B5 := LH (B4.out.trans (K5.out.below (B := w.heap.size) (by have := B4.out.size; omega) (Nat.le_refl _)))
 rw [← e5]
 clear e5
 have hcr5 := fun i => R5.out.cell i
 show BP _ _
 rw [HBP.out]
 refine bodyPost_ret (v := .agg #[.int .i64 tt.op, .int .i64 tt.n, .string tt.s, .string tt.t, .int .i64 tt.ty.op, .int .i64 tt.ty.n, .string tt.ty.s, .slice A1 tt.ty.kids.length c1, .slice A2 tt.inst.length c2, .slice A3 tt.vars.length c3, .slice A4 tt.kids.length c4]) (by simp [results, Tryz.results10, go_sem, hcr5]) rfl ?_
 exact ⟨tt, A1, c1, A2, c2, A3, c3, A4, c4, rfl, HAT5.out, hbk, B5.out⟩
set_option maxHeartbeats 1000000
theorem implCopyTy (k : Nat) : ∀ (t : GTy) (A1 : Option Addr) (c1 : Nat) (w : World), t.bulk < k → t.bulk ≤ 1048576 → GTy.At w (Lt w.heap.size) A1 c1 t →
 Calls Tryz.prog 44 #[.agg #[.int .i64 t.op, .int .i64 t.n, .string t.s, .slice A1 t.kids.length c1]] w (ToTy t w) := by
 induction k with
 | zero => intro t A1 c1 w hk; omega
 | succ k ih =>
  intro t A1 c1 w hk h1 hat
  have hbe := t.bulk_eq
  have hlen : t.kids.length ≤ 1048576 := by have := bulkL_len GTy.bulk t.kids; omega
  have HH := LH (fun (j : Nat) (h : j < t.kids.length) (A1 : Option Addr) (c1 : Nat) (w : World) => ih t.kids[j] A1 c1 w (by have := bulkL_mem GTy.bulk t.kids _ (List.getElem_mem h); omega) (by have := bulkL_mem GTy.bulk t.kids _ (List.getElem_mem h); omega))
  have T0 := LH hat
  clear ih hbe hk h1 hat
  obtain ⟨w0, e0⟩ : ∃ w0, w0 = ((w.alloc (.cells #[.int .i64 t.op, .int .i64 t.n, .string t.s, .slice A1 t.kids.length c1] 27)).alloc (.cells #[.int .i64 0, .int .i64 0, .string ⟨#[]⟩, .slice none 0 0] 27)).alloc (.cells #[] 27) := ⟨_, rfl⟩
  have B0 : Below w.heap.size w w0 := by rw [e0]; exact (((Below.refl _ _).alloc (Nat.le_refl _) _).alloc (by simp) _).alloc (by simp; omega) _
  have S0 : w0.heap.size = w.heap.size + 3 := by rw [e0]; simp
  have Ra0 : Row w0 w.heap.size 27 #[.int .i64 t.op, .int .i64 t.n, .string t.s, .slice A1 t.kids.length c1] := by rw [e0]; exact ((Row.new' _ _ _ rfl).alloc _).alloc _
  have Rz0 : Row w0 (w.heap.size + 1) 27 #[.int .i64 0, .int .i64 0, .string ⟨#[]⟩, .slice none 0 0] := by rw [e0]; exact (Row.new' _ _ _ (by simp)).alloc _
  have Re0 : Row w0 (w.heap.size + 1 + 1) 27 #[] := by rw [e0]; exact Row.new' _ _ _ (by simp)
  have G0 := LH (Gow.made (B := w.heap.size + 2) (m := w0.heap.size) (size := 4) Re0 (by omega) (by omega))
  have HB0 := LH B0
  have HRa0 := LH Ra0
  have HRz0 := LH Rz0
  clear B0 S0 Ra0 Rz0 Re0
  go_enter Tryz.func44, Tryz.ntmps44
  go_wp2_with fail
  rw [← e0]
  clear e0
  go_loopw [3, 10] (fun v i wr => ∃ (j : Nat) (A : Option Addr) (c : Nat), j ≤ t.kids.length ∧ i = .int .i64 j ∧ v = .slice A j c ∧ Hid (Gow wr (w.heap.size + 2) wr.heap.size 27 4 (.slice A j c) j ((t.kids.take j).map GTy.toD)) ∧ Hid (Row wr w.heap.size 27 #[.int .i64 t.op, .int .i64 t.n, .string t.s, .slice A1 t.kids.length c1]) ∧ Hid (Row wr (w.heap.size + 1) 27 #[.int .i64 0, .int .i64 0, .string ⟨#[]⟩, .slice none 0 0]) ∧ Below w.heap.size w wr) (fun _ i _ => t.kids.length - (intOf i).toNat)
  case atStart => exact ⟨0, _, _, by omega, by go_num, rfl, G0, HRa0, HRz0, HB0.out⟩
  case round =>
   clear G0 HRa0 HRz0 HB0
   obtain ⟨j, A, c, hj, rfl, rfl, HG, HRa, HRz, hbl⟩ := hrel
   have hsz := hbl.size
   have hzl := HRz.out.lt
   by_cases hlt : j < t.kids.length
   ·
    obtain ⟨b, off, A2, c2, eA, hSb, g0, g1, g2, g3, hat⟩ := GTy.elem (T0.out.below hbl (Nat.le_refl _)).2.2.2 j hlt
    have eA' := LH eA
    have E1 := LH (show Below wr.heap.size wr (wr.alloc (.cells #[.int .i64 (t.kids[j]).op, .int .i64 (t.kids[j]).n, .string (t.kids[j]).s, .slice A2 (t.kids[j]).kids.length c2] 27)) from (Below.refl _ _).alloc (Nat.le_refl _) _)
    have HA := LH (hat.keep (S' := Lt (wr.alloc (.cells #[.int .i64 (t.kids[j]).op, .int .i64 (t.kids[j]).n, .string (t.kids[j]).s, .slice A2 (t.kids[j]).kids.length c2] 27)).heap.size) (w' := wr.alloc (.cells #[.int .i64 (t.kids[j]).op, .int .i64 (t.kids[j]).n, .string (t.kids[j]).s, .slice A2 (t.kids[j]).kids.length c2] 27)) fun q hq => ⟨Nat.lt_of_lt_of_le hq (Nat.le_trans hsz E1.out.size), Below.heap_alloc _ _ _ (Nat.lt_of_lt_of_le hq hsz)⟩)
    clear hat
    subst eA
    go_wp2_with fail
    refine (HH.out j hlt A2 c2 _ HA.out).mono ?_
    rintro e w1 ⟨A3, c3, rfl, how, hb1⟩
    have B1 := LH (E1.out.trans (hb1.mono E1.out.size))
    have HG1 := HG.out.below B1.out (Nat.le_refl _)
    have how1 := GTy.own_mk (how.keep (S' := Btw wr.heap.size w1.heap.size) (w' := w1) fun q hq => ⟨⟨Nat.le_trans E1.out.size hq.1, hq.2⟩, rfl⟩)
    clear how hb1
    go_wp2_with (first | (at_builtin; refine wpList_append_D w1 rfl (.tmp 14) (.tmp 17) 25 rfl 27 zTy 4 56 Tryz.underlying25 (by kernel_rfl) rfl (by omega) (w.heap.size + 2) wr.heap.size _ j _ HG1 (t.kids[j]).toD [.int .i64 (t.kids[j]).op, .int .i64 (t.kids[j]).n, .string (t.kids[j]).s, .slice A3 (t.kids[j]).kids.length c3] how1 (by omega) B1.out.size rfl (by simp [Value.oneCell']) (by omega) (by omega) 27 rfl w1.heap.size rfl rfl ?_; intro g cap w2 G2 Bq2 hs2 hg2 hgl2))
    go_roundw
    case rel =>
     have X2 := (Bq2.mono (show w.heap.size ≤ w.heap.size + 2 by omega))
     exact ⟨j + 1, _, _, by omega, by go_num, rfl, LH (by rw [take_snoc' t.kids j hlt, List.map_append]; exact G2), LH ((HRa.out.below B1.out (by omega)).below Bq2 (by omega)), LH ((HRz.out.below B1.out (by omega)).below Bq2 (by omega)), (hbl.trans (B1.out.mono hsz)).trans X2⟩
    case measure => simp [intOf]; omega
   ·
    have hjl : j = t.kids.length := by omega
    obtain ⟨A', c', eV, how⟩ := HG.out.osl
    obtain ⟨rfl, rfl⟩ : A = A' ∧ c = c' := by simpa using eV
    subst hjl
    rw [List.take_length] at how
    clear eV HG hlt hj
    obtain ⟨p0, p1, p2, -⟩ := T0.out
    have hca := fun i => HRa.out.cell i
    have hcz := fun i => HRz.out.cell i
    have hfa := fun i => HRa.out.frozen i
    have hfz := fun i => HRz.out.frozen i
    have B1 := setCells_below hbl w.heap.size 3 (Nat.le_refl _) [.slice A t.kids.length c]
    have BF := setCells_below B1 (w.heap.size + 1) 0 (by omega) [.int .i64 t.op, .int .i64 t.n, .string t.s, .slice A t.kids.length c]
    have SF : (setCells (setCells wr w.heap.size 3 [.slice A t.kids.length c]) (w.heap.size + 1) 0 [.int .i64 t.op, .int .i64 t.n, .string t.s, .slice A t.kids.length c]).heap.size = wr.heap.size := by rw [setCells_size, setCells_size]
    have how2 := how.keep (S' := Btw w.heap.size (setCells (setCells wr w.heap.size 3 [.slice A t.kids.length c]) (w.heap.size + 1) 0 [.int .i64 t.op, .int .i64 t.n, .string t.s, .slice A t.kids.length c]).heap.size) (w' := setCells (setCells wr w.heap.size 3 [.slice A t.kids.length c]) (w.heap.size + 1) 0 [.int .i64 t.op, .int .i64 t.n, .string t.s, .slice A t.kids.length c]) fun q hq => ⟨⟨by have := hq.1; omega, by rw [SF]; exact hq.2⟩, (setCells_block _ _ _ _ _ (by have := hq.1; omega)).trans (setCells_block _ _ _ _ _ (by have := hq.1; omega))⟩
    have HOW := LH how2
    have HBF := LH BF
    clear how how2 BF B1 SF
    go_wp2_with fail
    exact bodyPost_ret (v := .agg #[.int .i64 t.op, .int .i64 t.n, .string t.s, .slice A t.kids.length c]) (by simp [results, Tryz.results44, go_sem, hca, hcz]) rfl ⟨A, c, rfl, ⟨p0, p1, p2, HOW.out⟩, HBF.out⟩
theorem implCopyTy' (t : GTy) (A1 : Option Addr) (c1 : Nat) (w : World) (h1 : t.bulk ≤ 1048576) (hat : GTy.At w (Lt w.heap.size) A1 c1 t) :
 Calls Tryz.prog 44 #[.agg #[.int .i64 t.op, .int .i64 t.n, .string t.s, .slice A1 t.kids.length c1]] w (ToTy t w) := implCopyTy (t.bulk + 1) t A1 c1 w (by omega) h1 hat
theorem specTyCopy (k : Nat) : ∀ (t : GTy) (A1 : Option Addr) (c1 : Nat) (w : World), t.bulk < k → t.bulk ≤ 1048576 → GTy.At w (Lt w.heap.size) A1 c1 t →
 Calls Tryz.prog 40 #[.agg #[.int .i64 t.op, .int .i64 t.n, .string t.s, .slice A1 t.kids.length c1]] w (ToTy t w) := by
 induction k with
 | zero => intro t A1 c1 w hk; omega
 | succ k ih =>
  intro t A1 c1 w hk h1 hat
  have hbe := t.bulk_eq
  have hlen : t.kids.length ≤ 1048576 := by have := bulkL_len GTy.bulk t.kids; omega
  have HH := LH (fun (j : Nat) (h : j < t.kids.length) (A1 : Option Addr) (c1 : Nat) (w : World) => ih t.kids[j] A1 c1 w (by have := bulkL_mem GTy.bulk t.kids _ (List.getElem_mem h); omega) (by have := bulkL_mem GTy.bulk t.kids _ (List.getElem_mem h); omega))
  have T0 := LH hat
  clear ih hbe hk h1 hat
  obtain ⟨w0, e0⟩ : ∃ w0, w0 = ((w.alloc (.cells #[.int .i64 t.op, .int .i64 t.n, .string t.s, .slice A1 t.kids.length c1] 27)).alloc (.cells #[.int .i64 0, .int .i64 0, .string ⟨#[]⟩, .slice none 0 0] 27)).alloc (.cells #[.int .i64 t.op, .int .i64 t.n, .string t.s, .slice none 0 0] 27) := ⟨_, rfl⟩
  have B0 : Below w.heap.size w w0 := by rw [e0]; exact (((Below.refl _ _).alloc (Nat.le_refl _) _).alloc (by simp) _).alloc (by simp; omega) _
  have S0 : w0.heap.size = w.heap.size + 3 := by rw [e0]; simp
  have Ra0 : Row w0 w.heap.size 27 #[.int .i64 t.op, .int .i64 t.n, .string t.s, .slice A1 t.kids.length c1] := by rw [e0]; exact ((Row.new' _ _ _ rfl).alloc _).alloc _
  have Rz0 : Row w0 (w.heap.size + 1) 27 #[.int .i64 0, .int .i64 0, .string ⟨#[]⟩, .slice none 0 0] := by rw [e0]; exact (Row.new' _ _ _ (by simp)).alloc _
  have Ro0 : Row w0 (w.heap.size + 1 + 1) 27 #[.int .i64 t.op, .int .i64 t.n, .string t.s, .slice none 0 0] := by rw [e0]; exact Row.new' _ _ _ (by simp)
  have HB0 := LH B0
  have HRa0 := LH Ra0
  have HRz0 := LH Rz0
  have HRo0 := LH Ro0
  have hs0 : w.heap.size + 3 ≤ w0.heap.size := by omega
  clear B0 S0 Ra0 Rz0 Ro0
  go_enter Tryz.func40, Tryz.ntmps40
  go_wp2_with fail
  rw [← e0]
  clear e0
  go_loopw [4] (fun i wr => ∃ (j : Nat) (A : Option Addr) (c : Nat), j ≤ t.kids.length ∧ i = .int .i64 j ∧ Hid (Gow wr (w.heap.size + 3) wr.heap.size 27 4 (.slice A j c) j ((t.kids.take j).map GTy.toD)) ∧ Hid (Row wr w.heap.size 27 #[.int .i64 t.op, .int .i64 t.n, .string t.s, .slice A1 t.kids.length c1]) ∧ Hid (Row wr (w.heap.size + 1) 27 #[.int .i64 0, .int .i64 0, .string ⟨#[]⟩, .slice none 0 0]) ∧ Hid (Row wr (w.heap.size + 1 + 1) 27 #[.int .i64 t.op, .int .i64 t.n, .string t.s, .slice A j c]) ∧ w.heap.size + 3 ≤ wr.heap.size ∧ Below w.heap.size w wr) (fun i _ => t.kids.length - (intOf i).toNat)
  case atStart => exact ⟨0, none, 0, by omega, by go_num, LH (Gow.nil _ _ _ _ _), HRa0, HRz0, HRo0, hs0, HB0.out⟩
  case round =>
   clear HRa0 HRz0 HRo0 HB0 hs0
   obtain ⟨j, A, c, hj, rfl, HG, HRa, HRz, HRo, hs3, hbl⟩ := hrel
   have hsz := hbl.size
   have hca := fun i => HRa.out.cell i
   have hco := fun i => HRo.out.cell i
   by_cases hlt : j < t.kids.length
   ·
    obtain ⟨b, off, A2, c2, eA, hSb, g0, g1, g2, g3, hat⟩ := GTy.elem (T0.out.below hbl (Nat.le_refl _)).2.2.2 j hlt
    subst eA
    have hblt : b < wr.heap.size := Nat.lt_of_lt_of_le hSb hsz
    have hSb' : b < w.heap.size := hSb
    have HA := LH (hat.keep (S' := Lt wr.drew.heap.size) (w' := wr.drew) fun q hq => ⟨Nat.lt_of_lt_of_le hq hsz, rfl⟩)
    clear hat
    go_wp2_with fail
    go_region_law (first
      | (refine step_append_D w1 rfl (.tmp 20) (.tmp 27) 25 rfl 27 zTy 4 56 Tryz.underlying25 (by kernel_rfl) rfl (by omega) (w.heap.size + 3) wr.heap.size _ j _ HG1.out (t.kids[j]).toD [.int .i64 (t.kids[j]).op, .int .i64 (t.kids[j]).n, .string (t.kids[j]).s, .slice A3 (t.kids[j]).kids.length c3] how1.out (by omega) B1.out.size rfl (by simp [Value.oneCell']) (by omega) (by omega) 27 rfl w1.heap.size rfl rfl ?_
         intro g cap w2 G2 Bq2 hs2 hg2 hgl2
         have G3 := LH G2
         have B2 := LH Bq2
         have Ro3 := LH (Ro1.out.below Bq2 (by omega))
         have hco3 := fun i => Ro3.out.cell i
         have hfo3 := fun i => Ro3.out.frozen i
         clear G2 Bq2)
      | (go_simp
         go_at_call 40
         refine (HH.out j hlt A2 c2 _ HA.out).mono ?_
         rintro e w1 ⟨A3, c3, rfl, how, hb1⟩
         have B1 := LH (((Below.refl wr.heap.size wr).drew).trans hb1)
         have Ra1 := LH (HRa.out.below B1.out (by omega))
         have Ro1 := LH (HRo.out.below B1.out (by omega))
         have hca1 := fun i => Ra1.out.cell i
         have hco1 := fun i => Ro1.out.cell i
         have hco2 := Ro1.out.lt
         have HG1 := LH (HG.out.below B1.out (Nat.le_refl _))
         have how1 := LH (GTy.own_mk (how.keep (S' := Btw wr.heap.size w1.heap.size) (w' := w1) fun q hq => ⟨hq, rfl⟩))
         clear how hb1))
    all_goals
     go_wp2_with fail
     go_roundw
     case rel =>
      have B3 := (hbl.trans (B1.out.mono hsz)).trans (B2.out.mono (show w.heap.size ≤ w.heap.size + 3 by omega))
      refine ⟨j + 1, _, _, by omega, by go_num, LH (show Gow (w2.setCell ⟨w.heap.size + 1 + 1, 3, none⟩ (.slice (some ⟨g, 0, none⟩) (j + 1) cap)) (w.heap.size + 3) (w2.setCell ⟨w.heap.size + 1 + 1, 3, none⟩ (.slice (some ⟨g, 0, none⟩) (j + 1) cap)).heap.size 27 4 (.slice (some ⟨g, 0, none⟩) (j + 1) cap) (j + 1) ((t.kids.take (j + 1)).map GTy.toD) from ?_), LH (((HRa.out.below B1.out (by omega)).below B2.out (by omega)).far (p := ⟨w.heap.size + 1 + 1, 3, none⟩) (by simp <;> omega) _), LH (((HRz.out.below B1.out (by omega)).below B2.out (by omega)).far (p := ⟨w.heap.size + 1 + 1, 3, none⟩) (by simp <;> omega) _), LH (Ro3.out.set 3 _), ?_, B3.setCell (p := ⟨w.heap.size + 1 + 1, 3, none⟩) (by simp <;> omega) _⟩
      · rw [take_snoc' t.kids j hlt, List.map_append]
        exact G3.out.keep (by simp [World.setCell]) (fun q hq _ => Below.heap_setCell _ ⟨w.heap.size + 1 + 1, 3, none⟩ _ q (by simp <;> omega))
      · have := B3.size; have := B1.out.size; simp [World.setCell]; omega
     case measure => simp [intOf]; omega
   ·
    have hjl : j = t.kids.length := by omega
    obtain ⟨A', c', eV, how⟩ := HG.out.osl
    obtain ⟨rfl, rfl⟩ : A = A' ∧ c = c' := by simpa using eV
    subst hjl
    rw [List.take_length] at how
    clear eV HG hlt hj hca hco
    obtain ⟨p0, p1, p2, -⟩ := T0.out
    have hca := fun i => HRa.out.cell i
    have hco := fun i => HRo.out.cell i
    have hcz := fun i => HRz.out.cell i
    have hfz := fun i => HRz.out.frozen i
    have BF := setCells_below hbl (w.heap.size + 1) 0 (by omega) [.int .i64 t.op, .int .i64 t.n, .string t.s, .slice A t.kids.length c]
    have SF : (setCells wr (w.heap.size + 1) 0 [.int .i64 t.op, .int .i64 t.n, .string t.s, .slice A t.kids.length c]).heap.size = wr.heap.size := by rw [setCells_size]
    have how2 := how.keep (S' := Btw w.heap.size (setCells wr (w.heap.size + 1) 0 [.int .i64 t.op, .int .i64 t.n, .string t.s, .slice A t.kids.length c]).heap.size) (w' := setCells wr (w.heap.size + 1) 0 [.int .i64 t.op, .int .i64 t.n, .string t.s, .slice A t.kids.length c]) fun q hq => ⟨⟨by have := hq.1; omega, by rw [SF]; exact hq.2⟩, setCells_block _ _ _ _ _ (by have := hq.1; omega)⟩
    have HOW := LH how2
    have HBF := LH BF
    clear how how2 BF SF
    go_wp2_with fail
    exact bodyPost_ret (v := .agg #[.int .i64 t.op, .int .i64 t.n, .string t.s, .slice A t.kids.length c]) (by simp [results, Tryz.results40, go_sem, hca, hcz, hco]) rfl ⟨A, c, rfl, ⟨p0, p1, p2, HOW.out⟩, HBF.out⟩
theorem specTyCopy' (t : GTy) (A1 : Option Addr) (c1 : Nat) (w : World) (h1 : t.bulk ≤ 1048576) (hat : GTy.At w (Lt w.heap.size) A1 c1 t) :
 Calls Tryz.prog 40 #[.agg #[.int .i64 t.op, .int .i64 t.n, .string t.s, .slice A1 t.kids.length c1]] w (ToTy t w) := specTyCopy (t.bulk + 1) t A1 c1 w (by omega) h1 hat
set_option maxHeartbeats 400000
mutual
def GTy.nodes : GTy → Nat | .mk _ _ _ kids => 1 + GTy.nodesL kids
def GTy.nodesL : List GTy → Nat | [] => 0 | t :: r => t.nodes + GTy.nodesL r
end
theorem GTy.nodes_eq (t : GTy) : t.nodes = 1 + GTy.nodesL t.kids := by cases t; simp only [GTy.nodes, GTy.kids]
def drT5 (t : GTy) : Prop := t.bulk + 2 ≤ 6144 ∧ (∀ n, t.has n = true → -1 ≤ n ∧ n < 5) ∧ t.tx = true ∧ (200 < t.nodes ∨ shT 3 t)
def drG (j : Nat) (t : GTy) : Prop := t.bulk + 2 ≤ 48 * 2 ^ j ∧ (∀ n, t.has n = true → 0 ≤ n ∧ n < 5) ∧ t.tx = true ∧ (j = 0 → shT 3 t) ∧ 2 ^ (j + 1) ≤ t.nodes + 1
theorem drG_step {j : Nat} {t : GTy} (h : drG j t) : drG (j + 1) (.mk 3 0 ⟨#[]⟩ [t, t]) := by
 refine ⟨?_, fun m hm => ?_, ?_, fun e => by omega, ?_⟩
 · have : (GTy.mk 3 0 ⟨#[]⟩ [t, t]).bulk = t.bulk + t.bulk + 2 := by rw [GTy.bulk_eq]; simp only [GTy.s, GTy.kids, bulkL]; have : (ByteArray.mk #[]).size = 0 := rfl; omega
   have h1 := h.1
   rw [Nat.pow_succ]
   omega
 ·
  rw [GTy.has_eq] at hm
  simp only [GTy.op, GTy.n, GTy.kids, GTy.hasL, Bool.or_false, Bool.or_eq_true, Bool.and_eq_true, beq_iff_eq] at hm
  rcases hm with hm | hm | hm
  · exact absurd hm.1 (by decide)
  · exact h.2.1 m hm
  · exact h.2.1 m hm
 · rw [GTy.tx, GTy.txL, GTy.txL, GTy.txL, h.2.2.1]; rfl
 · have h1 := h.2.2.2.2
   rw [GTy.nodes, GTy.nodesL, GTy.nodesL, GTy.nodesL, Nat.pow_succ]
   omega
theorem drG_zero {t : GTy} (h : drG 0 t) : drT5 t := by
 refine ⟨?_, fun n hn => ⟨by have := (h.2.1 n hn).1; omega, (h.2.1 n hn).2⟩, h.2.2.1, .inr (h.2.2.2.1 rfl)⟩
 have h1 := h.1
 omega
theorem drG_bulk {j : Nat} {t : GTy} (hj : j ≤ 7) (h : drG j t) : t.bulk + 2 ≤ 6144 := by
 have h1 := h.1
 have h2 : 2 ^ j ≤ 2 ^ 7 := Nat.pow_le_pow_right (by omega) hj
 have h3 : (2 : Nat) ^ 7 = 128 := rfl
 omega
theorem drG_done {j : Nat} {t : GTy} (hj : j = 7) (h : drG j t) : drT5 t := by
 refine ⟨drG_bulk (by omega) h, fun n hn => ⟨by have := (h.2.1 n hn).1; omega, (h.2.1 n hn).2⟩, h.2.2.1, .inl ?_⟩
 have h1 := h.2.2.2.2
 subst hj
 have h3 : (2 : Nat) ^ (7 + 1) = 256 := rfl
 omega
theorem drT5_op' {op n x : Int} {s : ByteArray} {kids : List GTy} (h : drG 0 (.mk op n s kids)) (hm : 0 ≤ n ∧ n < 5) : drT5 (.mk x n s kids) := by
 refine ⟨?_, fun m hh => ?_, ?_, .inr (h.2.2.2.1 rfl)⟩
 · have e2 : (GTy.mk x n s kids).bulk = (GTy.mk op n s kids).bulk := by rw [GTy.bulk_eq, GTy.bulk_eq]; rfl
   have := h.1
   omega
 · rw [GTy.has, Bool.or_eq_true, Bool.and_eq_true, beq_iff_eq, beq_iff_eq] at hh
   rcases hh with hh | hh
   · rw [← hh.2]; exact ⟨by omega, hm.2⟩
   · have := h.2.1 m (by rw [GTy.has, hh, Bool.or_true]); omega
 · have := h.2.2.1
   rw [GTy.tx] at this ⊢; exact this
theorem drT5_n' {op n x : Int} {s : ByteArray} {kids : List GTy} (h : drG 0 (.mk op n s kids)) (hx : -1 ≤ x ∧ x < 5) : drT5 (.mk op x s kids) := by
 refine ⟨?_, fun m hh => ?_, ?_, .inr (h.2.2.2.1 rfl)⟩
 · have e2 : (GTy.mk op x s kids).bulk = (GTy.mk op n s kids).bulk := by rw [GTy.bulk_eq, GTy.bulk_eq]; rfl
   have := h.1
   omega
 · rw [GTy.has, Bool.or_eq_true, Bool.and_eq_true, beq_iff_eq, beq_iff_eq] at hh
   rcases hh with hh | hh
   · rw [← hh.2]; exact hx
   · have := h.2.1 m (by rw [GTy.has, hh, Bool.or_true]); omega
 · have := h.2.2.1
   rw [GTy.tx] at this ⊢; exact this
theorem drT5_op {t : GTy} {x : Int} (h : drG 0 t) (hm : 0 ≤ t.n ∧ t.n < 5) : drT5 (.mk x t.n t.s t.kids) := by cases t; exact drT5_op' h hm
theorem drT5_n {t : GTy} {x : Int} (h : drG 0 t) (hx : -1 ≤ x ∧ x < 5) : drT5 (.mk t.op x t.s t.kids) := by cases t; exact drT5_n' h hx
theorem wf1 {n : Int} (h : -1 ≤ n ∧ n < 7) : (Lit.int .i64 n).wf = true := by
 simp [Lit.wf, IntKind.min, IntKind.max, IntKind.signed, IntKind.bits]; omega
theorem drawTy5 {l : List Int} {A : Option Addr} {c : Nat} {w : World} {g i : Nat} {h : Int} (hc : Cur l A c w g i h) :
 Calls Tryz.prog 22 #[.pointer (some ⟨g, 0, none⟩)] w (DrawnT l A c g drT5 w) := by
 have hg := hc.row.lt
 have E0 := LH (show Below w.heap.size w (w.alloc (.cells #[.int .i64 0, .int .i64 0, .string ⟨#[]⟩, .slice none 0 0] 27)) from (Below.refl _ _).alloc (Nat.le_refl _) _)
 have C0 := LH (hc.below E0.out hg)
 have R0 := LH (Row.new w 27 #[.int .i64 0, .int .i64 0, .string ⟨#[]⟩, .slice none 0 0])
 have T0 := LH ((Turned.refl g w).alloc (.cells #[.int .i64 0, .int .i64 0, .string ⟨#[]⟩, .slice none 0 0] 27))
 have hgr : w.heap.size ≠ g := by omega
 clear hc
 go_enter Tryz.func22, Tryz.ntmps22
 go_wp2_with fail
 refine (drawTy 3 3 rfl (by omega) C0.out).mono ?_
 rintro e w1 ⟨t, A1, c1, i1, h1, rfl, pt, att, hc1, ht1⟩
 have hs01 : w.heap.size + 1 ≤ w1.heap.size := by have := ht1.size; simpa using this
 have T1 := LH (T0.out.trans ht1)
 have R1 := LH (R0.out.turned ht1 hgr)
 obtain ⟨v1, ev1⟩ : ∃ v1, v1 = w1.alloc (.cells #[.int .i64 t.op, .int .i64 t.n, .string t.s, .slice A1 t.kids.length c1] 27) := ⟨_, rfl⟩
 have EV := LH (show Below w1.heap.size w1 v1 by rw [ev1]; exact (Below.refl _ _).alloc (Nat.le_refl _) _)
 have CV := LH (hc1.below EV.out hc1.row.lt)
 have TV := LH (show Turned g w v1 by rw [ev1]; exact T1.out.alloc _)
 have RV := LH (R1.out.below EV.out R1.out.lt)
 have RT := LH (show Row v1 w1.heap.size 27 #[.int .i64 t.op, .int .i64 t.n, .string t.s, .slice A1 t.kids.length c1] by rw [ev1]; exact Row.new' _ _ _ rfl)
 have hsv : v1.heap.size = w1.heap.size + 1 := by rw [ev1]; simp
 have hgt : w1.heap.size ≠ g := by have := hc1.row.lt; omega
 have AT := LH (att.keep (w' := v1) (S' := fun b => (w.heap.size < b ∧ b < v1.heap.size) ∧ b ≠ w1.heap.size) (fun b hb => ⟨⟨⟨by have := hb.1; simp at this; omega, by have := hb.2; omega⟩, by have := hb.2; omega⟩, EV.out.block b hb.2⟩))
 have HN := LH (show 0 ≤ t.n ∧ t.n < 5 from pt.1.2)
 have PT := LH (show drG 0 t from ⟨pt.1.1, pt.2.1, pt.2.2.2, fun _ => pt.2.2.1, by have := t.nodes_eq; show 2 ≤ t.nodes + 1; omega⟩)
 have EQV := LH ev1
 obtain ⟨rt, hrt⟩ : ∃ rt, rt = w1.heap.size := ⟨_, rfl⟩
 rw [← hrt] at RT hgt AT
 have hrt1 : w.heap.size < rt := by omega
 have hrt2 : rt < v1.heap.size := by omega
 have HRT := LH hrt
 clear hc1 ht1 pt att ev1
 go_wp2_with fail
 rw [← EQV.out]
 refine (drawBelow CV.out 14 (by omega) (by omega)).mono ?_
 rintro e w2 ⟨x, i2, h2, rfl, hx, hc2, ht2⟩
 have C2 := LH hc2
 have T2 := LH (TV.out.trans ht2)
 have R2 := LH (RV.out.turned ht2 hgr)
 have RT2 := LH (RT.out.turned ht2 hgt)
 have AT2 := LH (AT.out.keep (w' := w2) (S' := fun b => (w.heap.size < b ∧ b < w2.heap.size) ∧ b ≠ rt) (fun b hb => ⟨⟨⟨hb.1.1, by have := ht2.size; have := hb.1.2; omega⟩, hb.2⟩, ht2.block b hb.1.2 (by have := hb.1.1; omega)⟩))
 have hrt3 : rt < w2.heap.size := by have := ht2.size; omega
 clear hc2 ht2
 rw [← HRT.out]
 clear hrt hs01 hsv hrt2 CV TV RV RT AT EV R0 R1 T0 T1 C0 E0 EQV
 by_cases x0 : x = 0
 ·
  have y0 : (x == 0) = true := beq_iff_eq.2 x0
  clear x0 hx
  go_wp2_with fail
  refine (drawBelow C2.out 7 (by omega) (by omega)).mono ?_
  rintro e w3 ⟨y, i3, h3, rfl, hy, hc3, ht3⟩
  have T3 := LH (T2.out.trans ht3)
  have R3 := LH (R2.out.turned ht3 hgr)
  have RT3 := LH (RT2.out.turned ht3 hgt)
  obtain ⟨V, eV⟩ : ∃ V, V = w3.setCell ⟨rt, 0, none⟩ (.int .i64 (y - 1)) := ⟨_, rfl⟩
  have TV := LH (show Turned rt w3 V by rw [eV]; exact (Turned.refl _ _).setCell _ _)
  have RTV := LH (show Row V rt 27 #[.int .i64 (y - 1), .int .i64 t.n, .string t.s, .slice A1 t.kids.length c1] by rw [eV]; exact RT3.out.set 0 _)
  have RV := LH (R3.out.turned TV.out (by omega))
  have CV := LH (hc3.turned TV.out (by omega))
  have TGV := LH (show Turned g w V from ⟨TV.out.os.trans T3.out.os, TV.out.tape.trans T3.out.tape, TV.out.output.trans T3.out.output, Nat.le_trans T3.out.size TV.out.size, fun k hk hkg => (TV.out.block k (Nat.lt_of_lt_of_le hk T3.out.size) (by omega)).trans (T3.out.block k hk hkg)⟩)
  have hs23 := ht3.size
  have hsV := TV.out.size
  have ATV := LH (show GTy.At V (fun b => (w.heap.size < b ∧ b < V.heap.size) ∧ b ≠ rt) A1 c1 (GTy.mk (y - 1) t.n t.s t.kids) from by
    have a := AT2.out.keep (w' := V) (S' := fun b => (w.heap.size < b ∧ b < V.heap.size) ∧ b ≠ rt) (fun b hb => ⟨⟨⟨hb.1.1, by have := hb.1.2; omega⟩, hb.2⟩, (TV.out.block b (by have := hb.1.2; omega) hb.2).trans (ht3.block b hb.1.2 (by have := hb.1.1; omega))⟩)
    exact ⟨show (Lit.int .i64 (y - 1)).wf = true from wf1 ⟨by omega, by omega⟩, a.2.1, a.2.2.1, a.2.2.2⟩)
  have hwr : IntKind.i64.wrap (y - 1) = y - 1 := by rw [IntKind.wrap_i64]; omega
  have EQV := LH eV
  have hct := fun i => RT3.out.cell i
  have hft := fun i => RT3.out.frozen i
  have hcz3 := fun i => R3.out.cell i
  have hfz3 := fun i => R3.out.frozen i
  have hne1 : rt ≠ w.heap.size := by omega
  have hne2 : w.heap.size ≠ rt := by omega
  have hcz := fun i => RV.out.cell i
  have hfz := fun i => RV.out.frozen i
  have hca := fun i => RTV.out.cell i
  have FIN := LH (drawn_fin (r := w.heap.size) (t := (GTy.mk (y - 1) t.n t.s t.kids)) (P := drT5) (vs := [.int .i64 (y - 1), .int .i64 t.n, .string t.s, .slice A1 t.kids.length c1]) (drT5_op PT.out HN.out) CV.out TGV.out hg (Nat.le_refl _) (ATV.out.keep (fun b hb => ⟨⟨⟨Nat.le_of_lt hb.1.1, hb.1.2⟩, by have := hb.1.1; omega⟩, rfl⟩)))
  clear hc3 ht3 eV
  go_wp2_with fail
  rw [← EQV.out]
  exact bodyPost_ret (v := .agg #[.int .i64 (y - 1), .int .i64 t.n, .string t.s, .slice A1 t.kids.length c1]) (by simp [results, Tryz.results22, go_sem, hcz, hca]) rfl FIN.out
 by_cases x1 : x = 1
 ·
  have y0 : (x == 0) = false := beq_eq_false_iff_ne.2 (by omega)
  have y1 : (x == 1) = true := beq_iff_eq.2 x1
  clear x0 x1 hx
  go_wp2_with fail
  refine (drawBelow C2.out 3 (by omega) (by omega)).mono ?_
  rintro e w3 ⟨y, i3, h3, rfl, hy, hc3, ht3⟩
  have T3 := LH (T2.out.trans ht3)
  have R3 := LH (R2.out.turned ht3 hgr)
  have RT3 := LH (RT2.out.turned ht3 hgt)
  obtain ⟨V, eV⟩ : ∃ V, V = w3.setCell ⟨rt, 1, none⟩ (.int .i64 (y - 1)) := ⟨_, rfl⟩
  have TV := LH (show Turned rt w3 V by rw [eV]; exact (Turned.refl _ _).setCell _ _)
  have RTV := LH (show Row V rt 27 #[.int .i64 t.op, .int .i64 (y - 1), .string t.s, .slice A1 t.kids.length c1] by rw [eV]; exact RT3.out.set 1 _)
  have RV := LH (R3.out.turned TV.out (by omega))
  have CV := LH (hc3.turned TV.out (by omega))
  have TGV := LH (show Turned g w V from ⟨TV.out.os.trans T3.out.os, TV.out.tape.trans T3.out.tape, TV.out.output.trans T3.out.output, Nat.le_trans T3.out.size TV.out.size, fun k hk hkg => (TV.out.block k (Nat.lt_of_lt_of_le hk T3.out.size) (by omega)).trans (T3.out.block k hk hkg)⟩)
  have hs23 := ht3.size
  have hsV := TV.out.size
  have ATV := LH (show GTy.At V (fun b => (w.heap.size < b ∧ b < V.heap.size) ∧ b ≠ rt) A1 c1 (GTy.mk t.op (y - 1) t.s t.kids) from by
    have a := AT2.out.keep (w' := V) (S' := fun b => (w.heap.size < b ∧ b < V.heap.size) ∧ b ≠ rt) (fun b hb => ⟨⟨⟨hb.1.1, by have := hb.1.2; omega⟩, hb.2⟩, (TV.out.block b (by have := hb.1.2; omega) hb.2).trans (ht3.block b hb.1.2 (by have := hb.1.1; omega))⟩)
    exact ⟨a.1, show (Lit.int .i64 (y - 1)).wf = true from wf1 ⟨by omega, by omega⟩, a.2.2.1, a.2.2.2⟩)
  have hwr : IntKind.i64.wrap (y - 1) = y - 1 := by rw [IntKind.wrap_i64]; omega
  have EQV := LH eV
  have hct := fun i => RT3.out.cell i
  have hft := fun i => RT3.out.frozen i
  have hcz3 := fun i => R3.out.cell i
  have hfz3 := fun i => R3.out.frozen i
  have hne1 : rt ≠ w.heap.size := by omega
  have hne2 : w.heap.size ≠ rt := by omega
  have hcz := fun i => RV.out.cell i
  have hfz := fun i => RV.out.frozen i
  have hca := fun i => RTV.out.cell i
  have FIN := LH (drawn_fin (r := w.heap.size) (t := (GTy.mk t.op (y - 1) t.s t.kids)) (P := drT5) (vs := [.int .i64 t.op, .int .i64 (y - 1), .string t.s, .slice A1 t.kids.length c1]) (drT5_n PT.out ⟨by omega, by omega⟩) CV.out TGV.out hg (Nat.le_refl _) (ATV.out.keep (fun b hb => ⟨⟨⟨Nat.le_of_lt hb.1.1, hb.1.2⟩, by have := hb.1.1; omega⟩, rfl⟩)))
  clear hc3 ht3 eV
  go_wp2_with fail
  rw [← EQV.out]
  exact bodyPost_ret (v := .agg #[.int .i64 t.op, .int .i64 (y - 1), .string t.s, .slice A1 t.kids.length c1]) (by simp [results, Tryz.results22, go_sem, hcz, hca]) rfl FIN.out
 by_cases x2 : x = 2
 ·
  have y0 : (x == 0) = false := beq_eq_false_iff_ne.2 (by omega)
  have y1 : (x == 1) = false := beq_eq_false_iff_ne.2 (by omega)
  have y2 : (x == 2) = true := beq_iff_eq.2 x2
  clear x0 x1 x2 hx
  go_wp2_with fail
  go_loopw [4] (fun i wr => ∃ (j : Nat) (u : GTy) (B1 : Option Addr) (d1 : Nat) (iv : Nat) (hv : Int), j ≤ 7 ∧ i = .int .i64 j ∧ Hid (drG j u) ∧ Hid (Row wr rt 27 #[.int .i64 u.op, .int .i64 u.n, .string u.s, .slice B1 u.kids.length d1]) ∧ Hid (Row wr w.heap.size 27 #[.int .i64 0, .int .i64 0, .string ⟨#[]⟩, .slice none 0 0]) ∧ Hid (GTy.At wr (fun b => (w.heap.size < b ∧ b < wr.heap.size) ∧ b ≠ rt) B1 d1 u) ∧ Hid (Cur l A c wr g iv hv) ∧ Hid (Turned g w wr)) (fun i _ => 7 - (intOf i).toNat)
  case atStart => exact ⟨0, t, A1, c1, i2, h2, by omega, by go_num, PT, RT2, R2, AT2, C2, T2⟩
  case round =>
   clear PT RT2 R2 AT2 C2 T2
   obtain ⟨j, u, B1, d1, iv, hv, hj, rfl, PU, RU, RZ, AU, CU, TU⟩ := hrel
   have hrl := RU.out.lt
   have hzl := RZ.out.lt
   have hca := fun i => RU.out.cell i
   by_cases hlt : j < 7
   ·
    obtain ⟨wb, eb⟩ : ∃ wb, wb = wr.alloc (.cells #[.int .i64 u.op, .int .i64 u.n, .string u.s, .slice B1 u.kids.length d1] 27) := ⟨_, rfl⟩
    have EB := LH (show Below wr.heap.size wr wb by rw [eb]; exact (Below.refl _ _).alloc (Nat.le_refl _) _)
    have RB := LH (show Row wb wr.heap.size 27 #[.int .i64 u.op, .int .i64 u.n, .string u.s, .slice B1 u.kids.length d1] by rw [eb]; exact Row.new' _ _ _ rfl)
    have hsb : wb.heap.size = wr.heap.size + 1 := by rw [eb]; simp
    have RUb := LH (RU.out.below EB.out hrl)
    have RZb := LH (RZ.out.below EB.out hzl)
    have hcb := fun i => RB.out.cell i
    have hnb : wr.heap.size ≠ rt := by omega
    have hcbd : ∀ i, wb.drew.cell? ⟨wr.heap.size, i, none⟩ = (#[.int .i64 u.op, .int .i64 u.n, .string u.s, .slice B1 u.kids.length d1] : Array Value)[i]? := hcb
    have hcu := fun i => RUb.out.cell i
    have hub : u.bulk ≤ 1048576 := by have := drG_bulk (by omega : j ≤ 7) PU.out; omega
    have AB := LH (AU.out.keep (w' := wb) (S' := Lt wb.heap.size) (fun b hb => ⟨by have := hb.1.2; unfold Lt; omega, EB.out.block b hb.1.2⟩))
    have HCP := LH (fun (n : Nat) => specTyCopy' u B1 d1 (wb.drewN n) hub (AB.out.keep fun q hq => ⟨hq, rfl⟩))
    have HCD := LH (specTyCopy' u B1 d1 wb.drew hub (AB.out.keep fun q hq => ⟨hq, rfl⟩))
    have EQB := LH eb
    clear eb
    go_wp2_with fail
    rw [← EQB.out]
    go_region_held3 (fun w' => ∀ i, w'.cell? ⟨wr.heap.size, i, none⟩ = (#[.int .i64 u.op, .int .i64 u.n, .string u.s, .slice B1 u.kids.length d1] : Array Value)[i]?) (first | with_reducible exact hcbd | with_reducible exact hcb3 | with_reducible exact hcb4 _ | with_reducible exact hcb5 _ _ _ _ _ | go_keep) (first
      | (go_at_call 40
         refine HCD.out.mono ?_
         rintro e w3 ⟨A3, c3, rfl, how, hb3⟩
         have B3 := LH (show Below wb.heap.size wb w3 from ((Below.refl wb.heap.size wb).drew).trans hb3)
         have RB3 := LH (RB.out.below B3.out RB.out.lt)
         have hcb3 := fun i => RB3.out.cell i
         have RU3 := LH (RUb.out.below B3.out RUb.out.lt)
         have hct3 := fun i => RU3.out.cell i
         have hft3 := fun i => RU3.out.frozen i
         have OW3 := LH how.at
         have hcb4 : ∀ (o : Obj) (i : Nat), (w3.alloc o).cell? ⟨wr.heap.size, i, none⟩ = (#[.int .i64 u.op, .int .i64 u.n, .string u.s, .slice B1 u.kids.length d1] : Array Value)[i]? := fun o i => (RB3.out.alloc o).cell i
         have hcb5 : ∀ (a b c d : Value) (o : Obj) (i : Nat), (((((w3.setCell ⟨rt, 0, none⟩ a).setCell ⟨rt, 1, none⟩ b).setCell ⟨rt, 2, none⟩ c).setCell ⟨rt, 3, none⟩ d).alloc o).cell? ⟨wr.heap.size, i, none⟩ = (#[.int .i64 u.op, .int .i64 u.n, .string u.s, .slice B1 u.kids.length d1] : Array Value)[i]? := fun a b c d o i => (((((RB3.out.far (p := ⟨rt, 0, none⟩) hnb _).far (p := ⟨rt, 1, none⟩) hnb _).far (p := ⟨rt, 2, none⟩) hnb _).far (p := ⟨rt, 3, none⟩) hnb _).alloc _).cell i
         have hrt9 : rt < w3.heap.size := RU3.out.lt
         have hrt8 : rt ≠ w3.heap.size := by omega
         clear hb3 how))
    obtain ⟨V, eV⟩ : ∃ V, V = setCells w3 rt 0 [.int .i64 3, .int .i64 0, .string ⟨#[]⟩, .slice (some ⟨w3.heap.size, 0, none⟩) 2 2] := ⟨_, rfl⟩
    have TV := LH (show Turned rt w3 V by rw [eV]; exact setCells_turned _ _ _ _)
    have SV : V.heap.size = w3.heap.size := by rw [eV, setCells_size]
    have RTV := LH (show Row V rt 27 #[.int .i64 3, .int .i64 0, .string ⟨#[]⟩, .slice (some ⟨w3.heap.size, 0, none⟩) 2 2] by rw [eV]; exact (((RU3.out.set 0 _).set 1 _).set 2 _).set 3 _)
    obtain ⟨W, eW⟩ : ∃ W, W = V.alloc (.cells #[.int .i64 u.op, .int .i64 u.n, .string u.s, .slice B1 u.kids.length d1, .int .i64 u.op, .int .i64 u.n, .string u.s, .slice A3 u.kids.length c3] 27) := ⟨_, rfl⟩
    have EW := LH (show Below V.heap.size V W by rw [eW]; exact (Below.refl _ _).alloc (Nat.le_refl _) _)
    have RW := LH (show Row W w3.heap.size 27 #[.int .i64 u.op, .int .i64 u.n, .string u.s, .slice B1 u.kids.length d1, .int .i64 u.op, .int .i64 u.n, .string u.s, .slice A3 u.kids.length c3] by rw [eW, ← SV]; exact Row.new' _ _ _ rfl)
    have hsW : W.heap.size = w3.heap.size + 1 := by rw [eW]; simp [SV]
    have hs3 := B3.out.size
    have RTW := LH (RTV.out.below EW.out (by omega))
    have RZW := LH (((RZb.out.below B3.out RZb.out.lt).turned TV.out (by omega)).below EW.out (by omega))
    have CW := LH ((((CU.out.below EB.out CU.out.row.lt).below B3.out (by have := CU.out.row.lt; omega)).turned TV.out (by omega)).below EW.out (by have := CU.out.row.lt; omega))
    have BW3 := LH (show Below wr.heap.size wr w3 from EB.out.trans (B3.out.mono (by omega)))
    have TW := LH (show Turned g w W from ⟨((EW.out.os.trans TV.out.os).trans BW3.out.os).trans TU.out.os, ((EW.out.tape.trans TV.out.tape).trans BW3.out.tape).trans TU.out.tape, ((EW.out.output.trans TV.out.output).trans BW3.out.output).trans TU.out.output, by have := TU.out.size; omega, fun k hk hkg => by
      have h1 := TU.out.size
      exact (((EW.out.block k (by omega)).trans (TV.out.block k (by omega) (by omega))).trans (BW3.out.block k (by omega))).trans (TU.out.block k hk hkg)⟩)
    have A1W := LH (AU.out.keep (w' := W) (S' := fun b => (w.heap.size < b ∧ b < W.heap.size) ∧ b ≠ rt) (fun b hb => ⟨⟨⟨hb.1.1, by have := hb.1.2; omega⟩, hb.2⟩, ((EW.out.block b (by have := hb.1.2; omega)).trans (TV.out.block b (by have := hb.1.2; omega) hb.2)).trans (BW3.out.block b hb.1.2)⟩))
    have A2W := LH (OW3.out.keep (w' := W) (S' := fun b => (w.heap.size < b ∧ b < W.heap.size) ∧ b ≠ rt) (fun b hb => by
      have h1 : wb.heap.size ≤ b := hb.1
      have h2 := hb.2
      exact ⟨⟨⟨by omega, by omega⟩, by omega⟩, (EW.out.block b (by omega)).trans (TV.out.block b (by omega) (by omega))⟩))
    have ATW := LH (show GTy.At W (fun b => (w.heap.size < b ∧ b < W.heap.size) ∧ b ≠ rt) (some ⟨w3.heap.size, 0, none⟩) 2 (.mk 3 0 ⟨#[]⟩ [u, u]) from
      ⟨show (Lit.int .i64 3).wf = true by decide, show (Lit.int .i64 0).wf = true by decide, show (ByteArray.mk #[]).size ≤ maxLen by decide, slTwoTy RW.out A1W.out A2W.out ⟨⟨by omega, by omega⟩, by omega⟩⟩)
    have EQW := LH (show W = ((((w3.setCell ⟨rt, 0, none⟩ (.int .i64 3)).setCell ⟨rt, 1, none⟩ (.int .i64 0)).setCell ⟨rt, 2, none⟩ (.string ⟨#[]⟩)).setCell ⟨rt, 3, none⟩ (.slice (some ⟨w3.heap.size, 0, none⟩) 2 2)).alloc (.cells #[.int .i64 u.op, .int .i64 u.n, .string u.s, .slice B1 u.kids.length d1, .int .i64 u.op, .int .i64 u.n, .string u.s, .slice A3 u.kids.length c3] 27) by rw [eW, eV]; rfl)
    have PG := LH (drG_step PU.out)
    clear eV eW
    go_wp2_with fail
    go_roundw
    case rel => rw [← EQW.out]; exact ⟨j + 1, .mk 3 0 ⟨#[]⟩ [u, u], some ⟨w3.heap.size, 0, none⟩, 2, iv, hv, by omega, by go_num, PG, RTW, RZW, ATW, CW, TW⟩
    case measure => simp [intOf]; omega
   · have hcz := fun i => RZ.out.cell i
     have hfz := fun i => RZ.out.frozen i
     have FIN := LH (drawn_fin (r := w.heap.size) (t := u) (P := drT5) (vs := [.int .i64 u.op, .int .i64 u.n, .string u.s, .slice B1 u.kids.length d1]) (drG_done (by omega) PU.out) CU.out TU.out hg (Nat.le_refl _) (AU.out.keep (fun b hb => ⟨⟨⟨Nat.le_of_lt hb.1.1, hb.1.2⟩, by have := hb.1.1; omega⟩, rfl⟩)))
     go_wp2_with fail
     exact bodyPost_ret (v := .agg #[.int .i64 u.op, .int .i64 u.n, .string u.s, .slice B1 u.kids.length d1]) (by simp [results, Tryz.results22, go_sem, hcz, hca]) rfl FIN.out
 have y0 : (x == 0) = false := beq_eq_false_iff_ne.2 (by omega)
 have y1 : (x == 1) = false := beq_eq_false_iff_ne.2 (by omega)
 have y2 : (x == 2) = false := beq_eq_false_iff_ne.2 (by omega)
 clear x0 x1 x2 hx
 have hcz := fun i => R2.out.cell i
 have hfz := fun i => R2.out.frozen i
 have hca := fun i => RT2.out.cell i
 have FIN := LH (drawn_fin (r := w.heap.size) (t := t) (P := drT5) (vs := [.int .i64 t.op, .int .i64 t.n, .string t.s, .slice A1 t.kids.length c1]) (drG_zero PT.out) C2.out T2.out hg (Nat.le_refl _) (AT2.out.keep (fun b hb => ⟨⟨⟨Nat.le_of_lt hb.1.1, hb.1.2⟩, by have := hb.1.1; omega⟩, rfl⟩)))
 go_wp2_with fail
 exact bodyPost_ret (v := .agg #[.int .i64 t.op, .int .i64 t.n, .string t.s, .slice A1 t.kids.length c1]) (by simp [results, Tryz.results22, go_sem, hcz, hca]) rfl FIN.out
structure GBind where
 n : Int
 ty : GTy
def GBind.toD (x : GBind) : D := .agg [.num .i64 x.n, x.ty.toD]
def GBind.bulk (x : GBind) : Nat := x.ty.bulk
theorem GBind.bulk_eq (t : GBind) : t.bulk = t.ty.bulk := rfl
def GBind.At (w : World) (S : Nat → Prop) (A1 : Option Addr) (c1 : Nat) (t : GBind) : Prop :=
 (Lit.int .i64 t.n).wf = true ∧ GTy.At w S A1 c1 t.ty
theorem GBind.rd {w : World} {S : Nat → Prop} {t : GBind} {cs : List Value} (h : t.toD.rd w S cs) : ∃ A1 c1, cs = [.int .i64 t.n, .int .i64 t.ty.op, .int .i64 t.ty.n, .string t.ty.s, .slice A1 t.ty.kids.length c1] ∧ GBind.At w S A1 c1 t := by
 unfold GBind.toD at h
 rw [D.rd_agg] at h
 rw [D.rdF_cons] at h
 obtain ⟨x0, r0, rfl, k0, h⟩ := h
 obtain ⟨rfl, h0⟩ := D.rd_num.1 k0
 rw [D.rdF_cons] at h
 obtain ⟨x1, r1, rfl, k1, h⟩ := h
 obtain ⟨A1, c1, rfl, h1⟩ := GTy.rd k1
 obtain rfl := D.rdF_nil.1 h
 exact ⟨A1, c1, by simp [List.length_map], h0, h1⟩
theorem GBind.rd_mk {w : World} {S : Nat → Prop} {t : GBind} {A1 : Option Addr} {c1 : Nat} (h : GBind.At w S A1 c1 t) : t.toD.rd w S [.int .i64 t.n, .int .i64 t.ty.op, .int .i64 t.ty.n, .string t.ty.s, .slice A1 t.ty.kids.length c1] := by
 unfold GBind.toD
 unfold GBind.At at h
 obtain ⟨h0, h1⟩ := h
 rw [D.rd_agg]
 exact D.rdF_cons.2 ⟨[_], [_, _, _, _], rfl, D.rd_num.2 ⟨rfl, h0⟩, D.rdF_cons.2 ⟨[_, _, _, _], [], rfl, GTy.rd_mk h1, D.rdF_nil.2 rfl⟩⟩
theorem GBind.elem {w : World} {S : Nat → Prop} {A : Option Addr} {c : Nat} {l : List GBind} (h : Sl w S 5 A c (l.map GBind.toD)) (i : Nat) (hi : i < l.length) :
 ∃ b off A1 c1, A = some ⟨b, off, none⟩ ∧ S b ∧ w.cell? ⟨b, off + i * 5, none⟩ = some (.int .i64 l[i].n) ∧ w.cell? ⟨b, off + i * 5 + 1, none⟩ = some (.int .i64 l[i].ty.op) ∧ w.cell? ⟨b, off + i * 5 + 2, none⟩ = some (.int .i64 l[i].ty.n) ∧ w.cell? ⟨b, off + i * 5 + 3, none⟩ = some (.string l[i].ty.s) ∧ w.cell? ⟨b, off + i * 5 + 4, none⟩ = some (.slice A1 l[i].ty.kids.length c1) ∧ GBind.At w S A1 c1 l[i] := by
 obtain ⟨b, off, cs, e, hb, hl, hc, hr⟩ := Sl.get h i (by simpa using hi)
 rw [List.getElem_map] at hr
 obtain ⟨A1, c1, rfl, h1⟩ := GBind.rd hr
 exact ⟨b, off, A1, c1, e, hb, hc 0 _ rfl, hc 1 _ rfl, hc 2 _ rfl, hc 3 _ rfl, hc 4 _ rfl, h1⟩
def Off (w : World) (v : Value) : Nat → Prop := fun b => b < w.heap.size ∧ v.ownBlock ≠ some b
def OffX (X : Nat → Prop) (w : World) (v : Value) : Nat → Prop := fun b => Off w v b ∧ X b
def Gov (X : Nat → Prop) (w : World) (e : TypeId) (size : Nat) (v : Value) (n : Nat) (xs : List D) : Prop :=
 xs.length = n ∧ ∃ cs, w.ownsRow 0 e size v n cs ∧ rdC w size (OffX X w v) xs cs
theorem Gr.off {w w' : World} {v v' : Value} (h : Gr w w' v v') : ∀ b, Off w v b → Off w' v' b ∧ w'.heap[b]? = w.heap[b]? := fun b hb =>
 ⟨⟨Nat.lt_of_lt_of_le hb.1 h.size, h.ne hb.2 hb.1⟩, h.grow.block b hb.1 fun e => hb.2 e.symm⟩
theorem Gr.offX {X : Nat → Prop} {w w' : World} {v v' : Value} (h : Gr w w' v v') : ∀ b, OffX X w v b → OffX X w' v' b ∧ w'.heap[b]? = w.heap[b]? := fun b hb => ⟨⟨(h.off b hb.1).1, hb.2⟩, (h.off b hb.1).2⟩
theorem Below.offX {X : Nat → Prop} {w w' : World} {v : Value} (h : Below w.heap.size w w') : ∀ b, OffX X w v b → OffX X w' v b ∧ w'.heap[b]? = w.heap[b]? := (Gr.of_below h).offX
theorem Gov.below {X : Nat → Prop} {w w' : World} {e : TypeId} {size : Nat} {v : Value} {n : Nat} {xs : List D} (h : Gov X w e size v n xs) (hb : Below w.heap.size w w') : Gov X w' e size v n xs := by
 obtain ⟨h1, cs, h2, h4⟩ := h
 refine ⟨h1, cs, ?_, rdC_keep (Below.offX hb) xs cs h4⟩
 refine ⟨h2.1, ?_⟩
 rcases h2.2 with h | ⟨g, cap, cur, rfl, a1, a2, a3⟩
 · exact .inl h
 · exact .inr ⟨g, cap, cur, rfl, a1, (hb.block g (h2.lt g rfl).2).trans a2, a3⟩
theorem ownC_rdC {w : World} {size : Nat} : ∀ (xs : List D) (S : Nat → Prop) (cs : List Value), ownC w size xs S cs → rdC w size S xs cs
 | [], _, _, h => by simpa only [ownC, rdC] using h
 | d :: r, S, cs, h => by
  simp only [ownC, rdC] at h ⊢
  obtain ⟨S1, S2, c1, c2, g1, g2, e, hl, h1, h2⟩ := h
  exact ⟨c1, c2, e, hl, D.rd_keep (fun b hb => ⟨(g1 b hb).1, rfl⟩) d c1 (D.own_rd d S1 c1 h1), rdC_keep (fun b hb => ⟨g2 b hb, rfl⟩) r c2 (ownC_rdC r S2 c2 h2)⟩
theorem Gov.step {X : Nat → Prop} {w w' : World} {g cap : Nat} {e e' : TypeId} {size : Nat} {v : Value} {n : Nat} {xs : List D} {d : D} {cs cells : List Value}
 (hxs : xs.length = n) (hoc : rdC w size (OffX X w v) xs cells) (hd : d.rd w (OffX X w v) cs) (hcs : cs.length = size)
 (hown : w'.ownsRow 0 e size (.slice (some ⟨g, 0, none⟩) (n + 1) cap) (n + 1) (cells ++ cs)) (hg : Gr w w' v (.slice (some ⟨g, 0, none⟩) (n + 1) cap)) :
 Gov X w' e size (.slice (some ⟨g, 0, none⟩) (n + 1) cap) (n + 1) (xs ++ [d]) :=
 ⟨by simp [hxs], cells ++ cs, hown, rdC_snoc (D.rd_keep hg.offX d cs hd) hcs xs cells (rdC_keep hg.offX xs cells hoc)⟩
theorem wpList_append_V {X : Nat → Prop} {P : Program} (w : World) {ops : Array Oper} {rest : List Oper} {o : Oper} {a : Act} {Q : Exit → Act → World → Prop} (hgd : o.guard = none) (s x : Operand) (t : TypeId) (ho : o.op = .call { callee := .builtin .append, args := #[s, x], argTypes := #[t, t] })
 (e : TypeId) (z : Value) (size bytes : Nat) (ht : P.underlying t = some (.slice e)) (hi : (P.info? e).map (fun i => (i.zero, i.size, i.bytes)) = some (some z, size, bytes)) (hzs : z.cells.size = size) (hsz : 0 < size)
 (v : Value) (n : Nat) (xs : List D) (hg : Gov X w e size v n xs) (d : D) (cs : List Value) (hd : d.rd w (OffX X w v) cs) (hcs : cs.length = size) (h1 : ∀ u ∈ cs, u.oneCell' = true)
 (hn : n < 1048577) (hby : bytes ≤ 1048576) (e' : TypeId) (hs : a.eval s = v) (A : Nat) (hA : A = w.heap.size) (hx : a.eval x = .slice (some ⟨A, 0, none⟩) 1 1)
 (h : ∀ g cap w', Gov X w' e size (.slice (some ⟨g, 0, none⟩) (n + 1) cap) (n + 1) (xs ++ [d]) → Gr w w' v (.slice (some ⟨g, 0, none⟩) (n + 1) cap) → wpList P ops Q rest (a.put o.dst (.slice (some ⟨g, 0, none⟩) (n + 1) cap)) w') : wpList P ops Q (o :: rest) a (w.alloc (.cells cs.toArray e')) := by
 obtain ⟨i, i1, i2, i3, i4⟩ := info_parts hi
 obtain ⟨hxs, cells, g2, g4⟩ := id hg
 have e1 : w.heap.size < (w.alloc (.cells cs.toArray e')).heap.size := by simp
 have hga := g2.alloc (.cells cs.toArray e')
 have hnews : ∀ j u, cs[j]? = some u → (w.alloc (.cells cs.toArray e')).cell? ((⟨A, 0, none⟩ : Addr).add j) = some u := fun j u hu => by
  subst hA
  exact World.news_of_block (cs := cs.toArray) (heap_alloc_new w _) j u (by simpa using hu)
 have hbt : (n + 1) * bytes ≤ 140737488355328 := Nat.le_trans (Nat.mul_le_mul (show n + 1 ≤ 1048577 by omega) hby) (by omega)
 refine wpList_append_lies (w.alloc (.cells cs.toArray e')) hgd s x t ho 0 e i z size bytes ht i1 i2 i3 i4 hzs hsz v n cells hs hga ⟨A, 0, none⟩ 1 1 cs hx (by omega) hnews h1 (by omega) (by unfold maxLen; omega) hbt (by omega) _ rfl fun g cap w' h2 h3 h4 h5 => ?_
 have hgr : Gr w w' v (.slice (some ⟨g, 0, none⟩) (n + 1) cap) := by
  refine (Gr.of_below ((Below.refl _ _).alloc (Nat.le_refl _) _)).trans ⟨h3, ?_⟩
  rcases h4 with h4 | h4
  · exact .inl h4.symm
  · exact .inr ⟨g, rfl, by omega⟩
 exact h g cap w' (Gov.step (e' := e') hxs g4 hd hcs h2 hgr) hgr
theorem Gow.gov {X : Nat → Prop} {w : World} {B m : Nat} {e : TypeId} {size : Nat} {v : Value} {n : Nat} {xs : List D} (h : Gow w B m e size v n xs) (hm : m ≤ w.heap.size) (hX : ∀ b, B ≤ b → X b) : Gov X w e size v n xs := by
 obtain ⟨h1, cs, h2, h3, h4⟩ := h
 refine ⟨h1, cs, ?_, rdC_keep (fun b hb => ⟨⟨⟨by omega, fun e => hb.2.2 e⟩, hX b (by omega)⟩, rfl⟩) xs cs (ownC_rdC xs _ cs h4)⟩
 refine ⟨h2.1, ?_⟩
 rcases h2.2 with h | ⟨g, cap, cur, rfl, a1, a2, a3⟩
 · exact .inl h
 · exact .inr ⟨g, cap, cur, rfl, Nat.zero_le _, a2, a3⟩
structure GScheme where
 vars : List Int
 ty : GTy
def GScheme.toD (x : GScheme) : D := .agg [.sl 1 (x.vars.map (D.num .i64)), x.ty.toD]
def GScheme.bulk (x : GScheme) : Nat := x.vars.length + x.ty.bulk
theorem GScheme.bulk_eq (t : GScheme) : t.bulk = t.vars.length + t.ty.bulk := rfl
def GScheme.At (w : World) (S : Nat → Prop) (A1 : Option Addr) (c1 : Nat) (A2 : Option Addr) (c2 : Nat) (t : GScheme) : Prop :=
 Sl w S 1 A1 c1 (t.vars.map (D.num .i64)) ∧ GTy.At w S A2 c2 t.ty
theorem GScheme.rd {w : World} {S : Nat → Prop} {t : GScheme} {cs : List Value} (h : t.toD.rd w S cs) : ∃ A1 c1 A2 c2, cs = [.slice A1 t.vars.length c1, .int .i64 t.ty.op, .int .i64 t.ty.n, .string t.ty.s, .slice A2 t.ty.kids.length c2] ∧ GScheme.At w S A1 c1 A2 c2 t := by
 unfold GScheme.toD at h
 rw [D.rd_agg] at h
 rw [D.rdF_cons] at h
 obtain ⟨x0, r0, rfl, k0, h⟩ := h
 obtain ⟨A1, c1, rfl, h0⟩ := D.rd_sl.1 k0
 rw [D.rdF_cons] at h
 obtain ⟨x1, r1, rfl, k1, h⟩ := h
 obtain ⟨A2, c2, rfl, h1⟩ := GTy.rd k1
 obtain rfl := D.rdF_nil.1 h
 exact ⟨A1, c1, A2, c2, by simp [List.length_map], h0, h1⟩
theorem GScheme.rd_mk {w : World} {S : Nat → Prop} {t : GScheme} {A1 : Option Addr} {c1 : Nat} {A2 : Option Addr} {c2 : Nat} (h : GScheme.At w S A1 c1 A2 c2 t) : t.toD.rd w S [.slice A1 t.vars.length c1, .int .i64 t.ty.op, .int .i64 t.ty.n, .string t.ty.s, .slice A2 t.ty.kids.length c2] := by
 unfold GScheme.toD
 unfold GScheme.At at h
 obtain ⟨h0, h1⟩ := h
 rw [D.rd_agg]
 exact D.rdF_cons.2 ⟨[_], [_, _, _, _], rfl, D.rd_sl.2 ⟨A1, c1, by simp [List.length_map], h0⟩, D.rdF_cons.2 ⟨[_, _, _, _], [], rfl, GTy.rd_mk h1, D.rdF_nil.2 rfl⟩⟩
theorem GScheme.elem {w : World} {S : Nat → Prop} {A : Option Addr} {c : Nat} {l : List GScheme} (h : Sl w S 5 A c (l.map GScheme.toD)) (i : Nat) (hi : i < l.length) :
 ∃ b off A1 c1 A2 c2, A = some ⟨b, off, none⟩ ∧ S b ∧ w.cell? ⟨b, off + i * 5, none⟩ = some (.slice A1 l[i].vars.length c1) ∧ w.cell? ⟨b, off + i * 5 + 1, none⟩ = some (.int .i64 l[i].ty.op) ∧ w.cell? ⟨b, off + i * 5 + 2, none⟩ = some (.int .i64 l[i].ty.n) ∧ w.cell? ⟨b, off + i * 5 + 3, none⟩ = some (.string l[i].ty.s) ∧ w.cell? ⟨b, off + i * 5 + 4, none⟩ = some (.slice A2 l[i].ty.kids.length c2) ∧ GScheme.At w S A1 c1 A2 c2 l[i] := by
 obtain ⟨b, off, cs, e, hb, hl, hc, hr⟩ := Sl.get h i (by simpa using hi)
 rw [List.getElem_map] at hr
 obtain ⟨A1, c1, A2, c2, rfl, h1⟩ := GScheme.rd hr
 exact ⟨b, off, A1, c1, A2, c2, e, hb, hc 0 _ rfl, hc 1 _ rfl, hc 2 _ rfl, hc 3 _ rfl, hc 4 _ rfl, h1⟩
theorem GScheme.At.keep {w w' : World} {S S' : Nat → Prop} {t : GScheme} {A1 : Option Addr} {c1 : Nat} {A2 : Option Addr} {c2 : Nat} (h : GScheme.At w S A1 c1 A2 c2 t) (hk : ∀ b, S b → S' b ∧ w'.heap[b]? = w.heap[b]?) : GScheme.At w' S' A1 c1 A2 c2 t := by
 unfold GScheme.At at h ⊢
 obtain ⟨h0, h1⟩ := h
 exact ⟨h0.keep hk, h1.keep hk⟩
theorem GScheme.At.below {w w' : World} {B B' : Nat} {t : GScheme} {A1 : Option Addr} {c1 : Nat} {A2 : Option Addr} {c2 : Nat} (h : GScheme.At w (Lt B) A1 c1 A2 c2 t) (hb : Below B w w') (hB : B ≤ B') : GScheme.At w' (Lt B') A1 c1 A2 c2 t :=
 h.keep (keep_below hb hB)
set_option maxHeartbeats 2000000
def zSchemeE : Value := .agg #[.slice none 0 0, .int .i64 0, .int .i64 0, .string ⟨#[]⟩, .slice none 0 0]
def zTyE : Value := .agg #[.int .i64 0, .int .i64 0, .string ⟨#[]⟩, .slice none 0 0]
theorem Gov.bxE {X : Nat → Prop} {w w' : World} {e : TypeId} {size : Nat} {v : Value} {n : Nat} {xs : List D} {g : Nat} (h : Gov X w e size v n xs) (ht : Bx g w w') (hX : ∀ b, X b → b ≠ g) (hv : ∀ q, v.ownBlock = some q → q ≠ g) : Gov X w' e size v n xs := by
 obtain ⟨h1, cs, h2, h4⟩ := h
 refine ⟨h1, cs, ?_, rdC_keep (fun b hb => ⟨⟨⟨Nat.lt_of_lt_of_le hb.1.1 ht.size, hb.1.2⟩, hb.2⟩, ht.block b hb.1.1 (hX b hb.2)⟩) xs cs h4⟩
 refine ⟨h2.1, ?_⟩
 have hlt := h2.lt
 rcases h2.2 with h | ⟨q, cap, cur, rfl, a1, a2, a3⟩
 · exact .inl h
 · exact .inr ⟨q, cap, cur, rfl, a1, (ht.block q (hlt q rfl).2 (hv q rfl)).trans a2, a3⟩
theorem Gov.ltE {X : Nat → Prop} {w : World} {e : TypeId} {size : Nat} {v : Value} {n : Nat} {xs : List D} (h : Gov X w e size v n xs) {g : Nat} (hg : v.ownBlock = some g) : g < w.heap.size := by
 obtain ⟨h1, cs, h2, h4⟩ := h
 exact (h2.lt g hg).2
theorem Gov.slE {X : Nat → Prop} {w : World} {e : TypeId} {size B : Nat} {A : Option Addr} {k c n : Nat} {xs : List D} (h : Gov X w e size (.slice A k c) n xs) (hX : ∀ b, X b → B ≤ b) (hO : ∀ q, (Value.slice A k c).ownBlock = some q → B ≤ q) : Sl w (Btw B w.heap.size) size A c xs := by
 obtain ⟨h1, cs, h2, h4⟩ := h
 have hlt := h2.lt
 rcases h2.2 with ⟨h0, h⟩ | ⟨g, cap, cur, h0, a1, a2, a3, a4, a5, a6⟩
 · cases h0
   have : xs = [] := List.eq_nil_of_length_eq_zero (by omega)
   subst this
   exact Sl.nil (by unfold maxLen; omega)
 ·
  cases h0
  refine ⟨by omega, a4, .inr ⟨g, 0, rfl, ⟨hO g rfl, (hlt g rfl).2⟩, ?_⟩⟩
  refine rdC_row xs cs 0 (fun j v hj => ?_) (rdC_keep (fun b hb => ⟨⟨hX b hb.2, hb.1.1⟩, rfl⟩) xs cs h4)
  rw [Nat.zero_add, Row.cell (t := e) (cs := cur) a2]
  rw [← a6, List.getElem?_take] at hj
  split at hj
  · simpa using hj
  · cases hj
theorem slIntsE {w : World} {S : Nat → Prop} {b : Nat} {T : TypeId} {zs : List Int} (hr : Row w b T (zs.map (Value.int .i64)).toArray) (hS : S b) (hz : ∀ z ∈ zs, (Lit.int .i64 z).wf = true) (hl : zs.length ≤ maxLen) : Sl w S 1 (some ⟨b, 0, none⟩) zs.length (zs.map (D.num .i64)) := by
 refine ⟨by simp, hl, .inr ⟨b, 0, rfl, hS, D.rdR_mk fun i hi => ?_⟩⟩
 rw [List.length_map] at hi
 refine ⟨[.int .i64 zs[i]], rfl, fun j v hj => ?_, by rw [List.getElem_map]; exact D.rd_num.2 ⟨rfl, hz _ (List.getElem_mem hi)⟩⟩
 match j, hj with
 | 0, hj =>
  cases hj
  rw [Nat.mul_one, Nat.add_zero, Nat.zero_add, hr.cell]
  simp [hi]
 | j + 1, hj => cases hj
theorem Gov.someE {X : Nat → Prop} {w : World} {e : TypeId} {size : Nat} {A : Option Addr} {k c n : Nat} {xs : List D} (h : Gov X w e size (.slice A k c) n xs) (hn : 0 < n) : ∃ q, A = some ⟨q, 0, none⟩ ∧ n ≤ c := by
 obtain ⟨h1, cs, h2, h4⟩ := h
 rcases h2.2 with ⟨h0, h⟩ | ⟨g, cap, cur, h0, a1, a2, a3, a4, a5, a6⟩
 · omega
 · cases h0
   exact ⟨g, rfl, by omega⟩
theorem bulkL_takeE {α : Type} (f : α → Nat) : ∀ (n : Nat) (l : List α), bulkL f (l.take n) ≤ bulkL f l
 | 0, l => by simp [bulkL]
 | n + 1, [] => by simp
 | n + 1, x :: r => by simp only [List.take_succ_cons, bulkL]; have := bulkL_takeE f n r; omega
theorem takeOneE {w : World} {S : Nat → Prop} {A : Option Addr} {c : Nat} {l : List GTy} (h : Sl w S 4 A c (l.map GTy.toD)) (hl : l.length = 2) : Sl w S 4 A c ((l.take 1).map GTy.toD) := by
 rw [List.map_take]; exact h.take 1
theorem bulkL_endE {α : Type} (f : α → Nat) (x : α) : ∀ l : List α, bulkL f (l ++ [x]) = bulkL f l + (1 + f x)
 | [] => by simp [bulkL]
 | y :: r => by simp only [List.cons_append, bulkL, bulkL_endE f x r]; omega
theorem drawTyB {l : List Int} {A : Option Addr} {c : Nat} {g : Nat} {a w : World} (m : Dm l A c g a w) (d : Nat) (dd : Int) (h1 : dd = (d : Int)) (h2 : d ≤ 2) :
 Calls Tryz.prog 21 #[.pointer (some ⟨g, 0, none⟩), .int .i64 dd] w fun e w' => ∃ (t : GTy) (A1 : Option Addr) (c1 : Nat), e = .returned (.agg #[.int .i64 t.op, .int .i64 t.n, .string t.s, .slice A1 t.kids.length c1]) ∧ t.bulk ≤ 30 ∧ GTy.At w' (Btw w.heap.size w'.heap.size) A1 c1 t ∧ Dm l A c g w w' := by
 obtain ⟨i, h, hc⟩ := m.cur
 refine Calls.mono (drawTy d dd h1 (by omega) hc) ?_
 rintro e w' ⟨t, A1, c1, i2, h2', rfl, hp, hat, hc2, ht⟩
 refine ⟨t, A1, c1, rfl, ?_, hat, ⟨i2, h2', hc2⟩, ht.bx⟩
 have h3 := hp.1.1
 have h4 : 2 ^ d ≤ 2 ^ 2 := Nat.pow_le_pow_right (by omega) h2
 omega
theorem drawTyF {l : List Int} {A : Option Addr} {c : Nat} {g : Nat} {a w : World} (m : Dm l A c g a w) :
 Calls Tryz.prog 22 #[.pointer (some ⟨g, 0, none⟩)] w fun e w' => ∃ (t : GTy) (A1 : Option Addr) (c1 : Nat), e = .returned (.agg #[.int .i64 t.op, .int .i64 t.n, .string t.s, .slice A1 t.kids.length c1]) ∧ t.bulk ≤ 6142 ∧ GTy.At w' (Btw w.heap.size w'.heap.size) A1 c1 t ∧ Dm l A c g w w' := by
 obtain ⟨i, h, hc⟩ := m.cur
 refine Calls.mono (drawTy5 hc) ?_
 rintro e w' ⟨t, A1, c1, i2, h2', rfl, hp, hat, hc2, ht⟩
 exact ⟨t, A1, c1, rfl, by have := hp.1; omega, hat, ⟨i2, h2', hc2⟩, ht.bx⟩
theorem Dm.bel9 {l : List Int} {A : Option Addr} {c g : Nat} {a b d : World} (h : Dm l A c g a b) (k : Below a.heap.size b d) (hg : g < a.heap.size) : Dm l A c g a d := by
 obtain ⟨i, z, hc⟩ := h.cur
 exact ⟨⟨i, z, hc.below k hg⟩, ⟨k.os.trans h.bx.os, k.tape.trans h.bx.tape, k.output.trans h.bx.output, Nat.le_trans h.bx.size k.size, fun x hx hne => (k.block x hx).trans (h.bx.block x hx hne)⟩⟩
def DrawnGen (w : World) (e : Ending) (w' : World) : Prop :=
 ∃ (env : List GScheme) (A : Option Addr) (c : Nat) (t : GTy) (A1 : Option Addr) (c1 : Nat), e = .returned (.tuple #[.slice A env.length c, .agg #[.int .i64 t.op, .int .i64 t.n, .string t.s, .slice A1 t.kids.length c1]]) ∧ bulkL GScheme.bulk env ≤ 200 ∧ t.bulk ≤ 6142 ∧ Sl w' (Lt w'.heap.size) 5 A c (env.map GScheme.toD) ∧ GTy.At w' (Lt w'.heap.size) A1 c1 t ∧ Below w.heap.size w w'
def DrawnIns (w : World) (e : Ending) (w' : World) : Prop :=
 ∃ (s : GScheme) (A1 : Option Addr) (c1 : Nat) (A2 : Option Addr) (c2 : Nat) (list : List GTy) (A : Option Addr) (c : Nat), e = .returned (.tuple #[.agg #[.slice A1 s.vars.length c1, .int .i64 s.ty.op, .int .i64 s.ty.n, .string s.ty.s, .slice A2 s.ty.kids.length c2], .slice A list.length c]) ∧ s.bulk ≤ 7000 ∧ bulkL GTy.bulk list ≤ 100 ∧ GScheme.At w' (Lt w'.heap.size) A1 c1 A2 c2 s ∧ Sl w' (Lt w'.heap.size) 4 A c (list.map GTy.toD) ∧ Below w.heap.size w w'
theorem drawGenericE (l : List Int) (A : Option Addr) (c : Nat) (w : World) (hs : Sl w (Lt w.heap.size) 1 A c (l.map (D.num .u8))) (hl : l.length ≤ 1048576) :
 Calls Tryz.prog 5 #[.slice A l.length c] w (DrawnGen w) := by
 obtain ⟨w0, e0, R0, hz0, K0⟩ := boxed w 27 #[.int .i64 0, .int .i64 0, .string ⟨#[]⟩, .slice none 0 0]
 have B0 := LH (show Below w.heap.size w w0 by rw [e0]; exact (Below.refl _ _).alloc (Nat.le_refl _) _)
 have HN := LH (newCur l A c w0 (hs.below B0.out B0.out.size) hl)
 replace hz0 : w.heap.size + 1 ≤ w0.heap.size ∧ w0.heap.size ≤ w.heap.size + 1 := by omega
 clear hs K0
 go_enter Tryz.func5, Tryz.ntmps5
 refine wp_hide (fun BP hBP => ?_)
 have HBP := LH hBP
 clear hBP
 go_wp2_with fail
 rw [← e0]
 clear e0
 refine HN.out.mono ?_
 clear HN
 rintro e w1 ⟨h, rfl, hc1, hb1⟩
 have hz1 := hb1.size
 have B1 := LH (B0.out.trans (hb1.mono B0.out.size))
 have R1 := LH (R0.out.below hb1 R0.out.lt)
 have M1 := LH (Dm.start hc1)
 have hl1 := hc1.row.lt
 clear hc1 hb1 R0 B0
 go_wp2_with fail
 obtain ⟨w2, e2, R2, hz2, K2⟩ := boxed w1 33 #[]
 rw [← e2]
 clear e2
 have M2 := LH (M1.out.chg K2.out (Nat.le_refl _) hl1)
 have G2 := LH (show Gov (fun b => w1.heap.size ≤ b) w2 33 5 (.slice (some ⟨w1.heap.size, 0, none⟩) 0 0) 0 [] from (Gow.made (B := w1.heap.size) (m := w2.heap.size) R2.out (Nat.le_refl _) (by omega)).gov (Nat.le_refl _) (fun b hb => hb))
 have H2 := LH (fun q (hq : (Value.slice (some ⟨w1.heap.size, 0, none⟩) 0 0).ownBlock = some q) => show w1.heap.size ≤ q by
   have e : w1.heap.size = q := by simpa [Value.ownBlock] using hq
   omega)
 clear R2 K2
 go_loopw [5, 6] (fun v iv wr => ∃ (j : Nat) (env : List GScheme) (As : Option Addr) (cs : Nat), j ≤ 2 ∧ iv = .int .i64 j ∧ v = .slice As env.length cs ∧ Hid (bulkL GScheme.bulk env ≤ j * 40) ∧ Hid (env.length = j) ∧ Hid (Gov (fun b => w1.heap.size ≤ b) wr 33 5 (.slice As env.length cs) env.length (env.map GScheme.toD)) ∧ Hid (∀ q, (Value.slice As env.length cs).ownBlock = some q → w1.heap.size ≤ q) ∧ Hid (Dm l A c w0.heap.size w1 wr)) (fun _ iv _ => 3 - (intOf iv).toNat)
 case atStart => exact ⟨0, [], _, _, by omega, by go_num, rfl, LH (by simp [bulkL]), LH rfl, G2, H2, M2⟩
 case round =>
  clear G2 H2 M2 M1
  obtain ⟨j, env, As, cs, hj, rfl, rfl, HB, HL, HG, HO, HM⟩ := hrel
  have hzr := HM.out.size
  go_wp2_with fail
  refine (drawBelowD HM.out 3 (by omega) (by omega)).mono ?_
  rintro e w3 ⟨x, rfl, hx, hm3⟩
  have hz3 := hm3.size
  have M3 := LH (HM.out.trans hm3)
  have G3 := LH (HG.out.bxE hm3.bx (fun b hb => by omega) (fun q hq => by have := HO.out q hq; omega))
  clear hm3 HM HG
  by_cases hjx : (j : Int) < x
  ·
   have hd : decide ((j : Int) < x) = true := decide_eq_true hjx
   have hj2 : j ≤ 1 := by omega
   clear hx
   go_wp2_with fail
   refine (drawBelowD M3.out 4 (by omega) (by omega)).mono ?_
   rintro e w4 ⟨y, rfl, hy, hm4⟩
   have hz4 := hm4.size
   have M4 := LH (M3.out.trans hm4)
   have G4 := LH (G3.out.bxE hm4.bx (fun b hb => by omega) (fun q hq => by have := HO.out q hq; omega))
   clear hm4 M3 G3
   go_wp2_with fail
   obtain ⟨w5, e5, R5, hz5, K5⟩ := boxed w4 3 #[.int .i64 y]
   rw [← e5]
   clear e5
   have M5 := LH (M4.out.chg K5.out (by omega) hl1)
   have KB5 := LH (K5.out.below (B := w4.heap.size) (Nat.le_refl _) (Nat.le_refl _))
   have G5 := LH (G4.out.below KB5.out)
   have hlt5 : ∀ q, (Value.slice As env.length cs).ownBlock = some q → q < w4.heap.size := fun q hq => G4.out.ltE hq
   have HLT := LH hlt5
   clear M4 G4 hlt5
   refine (drawTyB M5.out 2 2 (by rfl) (by omega)).mono ?_
   rintro e w6 ⟨ty, AY, cY, rfl, hyb, hyat, hm6⟩
   have hz6 := hm6.size
   have M6 := LH (M5.out.trans hm6)
   have G6 := LH (G5.out.bxE hm6.bx (fun b hb => by omega) (fun q hq => by have := HO.out q hq; omega))
   have R6 := LH (hm6.bx.row R5.out (by omega))
   have HD := LH (GScheme.rd_mk (w := w6) (S := OffX (fun b => w1.heap.size ≤ b) w6 (.slice As env.length cs)) (t := ⟨[y], ty⟩) (A1 := some ⟨w4.heap.size, 0, none⟩) (c1 := 1) (A2 := AY) (c2 := cY) ⟨slIntsE (zs := [y]) R6.out ⟨⟨by omega, fun e => by have := HLT.out _ e; omega⟩, by omega⟩ (by simp; exact int_wfS ⟨by omega, by omega⟩) (by simp [maxLen]), hyat.keep fun q hq => ⟨⟨⟨hq.2, fun e => by have := HLT.out _ e; have h1 := hq.1; omega⟩, by have h1 := hq.1; omega⟩, rfl⟩⟩)
   have HYB := LH hyb
   clear hm6 hyat hyb M5 G5 R5 R6 KB5
   go_wp2_with (first | (at_builtin; refine wpList_append_V (X := fun b => w1.heap.size ≤ b) w6 rfl (.tmp 16) (.tmp 23) 24 rfl 33 zSchemeE 5 80 Tryz.underlying24 (by kernel_rfl) rfl (by omega) (.slice As env.length cs) env.length _ G6.out (GScheme.mk [y] ty).toD [.slice (some ⟨w4.heap.size, 0, none⟩) 1 1, .int .i64 ty.op, .int .i64 ty.n, .string ty.s, .slice AY ty.kids.length cY] HD.out rfl (by simp [Value.oneCell']) (by have := HL.out; omega) (by omega) 33 rfl w6.heap.size rfl rfl ?_; intro g9 cap w9 G9 R9))
   have HB9 := LH (R9.below (B := w1.heap.size) (by omega) HO.out)
   have M9 := LH (M6.out.bel9 HB9.out hl1)
   have G10 := LH (show Gov (fun b => w1.heap.size ≤ b) w9 33 5 (.slice (some ⟨g9, 0, none⟩) (env ++ [GScheme.mk [y] ty]).length cap) (env ++ [GScheme.mk [y] ty]).length ((env ++ [GScheme.mk [y] ty]).map GScheme.toD) by rw [List.map_append, List.length_append]; exact G9)
   have H10 := LH (fun q (hq : (Value.slice (some ⟨g9, 0, none⟩) (env ++ [GScheme.mk [y] ty]).length cap).ownBlock = some q) => show w1.heap.size ≤ q by
     rcases R9.own with e | ⟨g, e, hg⟩
     · exact HO.out q (e.symm.trans hq)
     · cases hq; cases e; omega)
   have L10 := LH (show Value.slice (some ⟨g9, 0, none⟩) (env.length + 1) cap = .slice (some ⟨g9, 0, none⟩) (env ++ [GScheme.mk [y] ty]).length cap by simp)
   have HB10 := LH (show bulkL GScheme.bulk (env ++ [GScheme.mk [y] ty]) ≤ (j + 1) * 40 by
     rw [bulkL_endE]
     have h1 := HB.out
     have h2 := HYB.out
     simp only [GScheme.bulk, List.length_cons, List.length_nil]
     omega)
   have HL10 := LH (show (env ++ [GScheme.mk [y] ty]).length = j + 1 by rw [List.length_append, HL.out]; rfl)
   clear G9 R9 G6 M6 HD
   go_wp2_with fail
   go_roundw
   case rel => exact ⟨j + 1, env ++ [GScheme.mk [y] ty], _, _, by omega, by go_num, L10.out, HB10, HL10, G10, H10, M9⟩
   case measure => simp [intOf]; omega
  ·
   have hd : decide ((j : Int) < x) = false := decide_eq_false hjx
   clear hx
   go_wp2_with fail
   refine (drawTyF M3.out).mono ?_
   rintro e w4 ⟨t, A1, c1, rfl, htb, htat, hm4⟩
   have hz4 := hm4.size
   have M4 := LH (M3.out.trans hm4)
   have G4 := LH (G3.out.bxE hm4.bx (fun b hb => by omega) (fun q hq => by have := HO.out q hq; omega))
   have R4 := LH ((M4.out.bx).row R1.out (by omega))
   have HAT := LH htat
   have HTB := LH htb
   have B4 := LH (B1.out.trans (M4.out.bx.below (by omega) (by omega)))
   clear hm4 M3 G3 htat htb
   have hcr4 := fun i => R4.out.cell i
   have hfr4 := fun i => R4.out.frozen i
   have hlr4 := R4.out.lt
   go_wp2_with fail
   clear hcr4 hfr4 hlr4
   obtain ⟨w5, e5⟩ : ∃ x, x = setCells w4 w.heap.size 0 [.int .i64 t.op, .int .i64 t.n, .string t.s, .slice A1 t.kids.length c1] := ⟨_, rfl⟩
   obtain ⟨row5, u1, u2, u3, u4⟩ := setCells_row R4.out 0 [.int .i64 t.op, .int .i64 t.n, .string t.s, .slice A1 t.kids.length c1]
   have K5 := LH (show Below w.heap.size w w5 by rw [e5]; exact setCells_below B4.out w.heap.size 0 (Nat.le_refl _) _)
   have hz5 : w5.heap.size = w4.heap.size := by rw [e5]; exact setCells_size _ _ _ _
   have hk5 : ∀ b, w1.heap.size ≤ b → w5.heap[b]? = w4.heap[b]? := fun b hb => by rw [e5]; exact setCells_block _ _ _ _ b (by omega)
   rw [← e5] at u1
   have q0 := (u1.cell 0).trans (u4 0 _ rfl (by simp))
   have q1 := (u1.cell 1).trans (u4 1 _ rfl (by simp))
   have q2 := (u1.cell 2).trans (u4 2 _ rfl (by simp))
   have q3 := (u1.cell 3).trans (u4 3 _ rfl (by simp))
   rw [show (((w4.setCell ⟨w.heap.size, 0, none⟩ (.int .i64 t.op)).setCell ⟨w.heap.size, 1, none⟩ (.int .i64 t.n)).setCell ⟨w.heap.size, 2, none⟩ (.string t.s)).setCell ⟨w.heap.size, 3, none⟩ (.slice A1 t.kids.length c1) = w5 from e5.symm]
   have S5 := LH ((G4.out.slE (B := w1.heap.size) (fun b hb => hb) HO.out).keep (w' := w5) (S' := Lt w5.heap.size) fun b hb => ⟨show b < w5.heap.size by have := hb.2; omega, hk5 b hb.1⟩)
   have A5 := LH (HAT.out.keep (w' := w5) (S' := Lt w5.heap.size) fun b hb => ⟨show b < w5.heap.size by have := hb.2; omega, hk5 b (by have := hb.1; omega)⟩)
   clear e5 u1 u2 u3 u4 hk5
   show BP _ _
   rw [HBP.out]
   refine bodyPost_ret (v := .tuple #[.slice As env.length cs, .agg #[.int .i64 t.op, .int .i64 t.n, .string t.s, .slice A1 t.kids.length c1]]) (by simp [results, Tryz.results5, go_sem, q0, q1, q2, q3]) rfl ?_
   exact ⟨env, As, cs, t, A1, c1, rfl, by have := HB.out; omega, HTB.out, S5.out, A5.out, K5.out⟩
theorem storedFiveE {w : World} {n : Nat} {T : TypeId} {x0 x1 x2 x3 x4 : Value} (h : Row w n T #[x0, x1, x2, x3, x4]) (y0 y1 y2 y3 y4 : Value) : ∃ x, x = (((((w.setCell ⟨n, 0, none⟩ y0).setCell ⟨n, 1, none⟩ y1).setCell ⟨n, 2, none⟩ y2).setCell ⟨n, 3, none⟩ y3).setCell ⟨n, 4, none⟩ y4) ∧ Hid (Row x n T #[y0, y1, y2, y3, y4]) ∧ x.heap.size = w.heap.size ∧ Hid (Bx n w x) :=
 ⟨_, rfl, LH (((((h.set 0 y0).set 1 y1).set 2 y2).set 3 y3).set 4 y4), by simp [World.setCell], LH ((((((Bx.refl _ _).set (p := ⟨n, 0, none⟩) (.inl rfl) _).set (p := ⟨n, 1, none⟩) (.inl rfl) _).set (p := ⟨n, 2, none⟩) (.inl rfl) _).set (p := ⟨n, 3, none⟩) (.inl rfl) _).set (p := ⟨n, 4, none⟩) (.inl rfl) _)⟩
theorem drawInstanceE (l : List Int) (A : Option Addr) (c : Nat) (w : World) (hs : Sl w (Lt w.heap.size) 1 A c (l.map (D.num .u8))) (hl : l.length ≤ 1048576) :
 Calls Tryz.prog 7 #[.slice A l.length c] w (DrawnIns w) := by
 obtain ⟨w0, e0, R0, hz0, K0⟩ := boxed w 33 #[.slice none 0 0, .int .i64 0, .int .i64 0, .string ⟨#[]⟩, .slice none 0 0]
 have B0 := LH (show Below w.heap.size w w0 by rw [e0]; exact (Below.refl _ _).alloc (Nat.le_refl _) _)
 have HN := LH (newCur l A c w0 (hs.below B0.out B0.out.size) hl)
 replace hz0 : w.heap.size + 1 ≤ w0.heap.size ∧ w0.heap.size ≤ w.heap.size + 1 := by omega
 clear hs K0
 go_enter Tryz.func7, Tryz.ntmps7
 refine wp_hide (fun BP hBP => ?_)
 have HBP := LH hBP
 clear hBP
 go_wp2_with fail
 rw [← e0]
 clear e0
 refine HN.out.mono ?_
 clear HN
 rintro e w1 ⟨h, rfl, hc1, hb1⟩
 have hz1 := hb1.size
 have B1 := LH (B0.out.trans (hb1.mono B0.out.size))
 have R1 := LH (R0.out.below hb1 R0.out.lt)
 have M1 := LH (Dm.start hc1)
 have hl1 := hc1.row.lt
 clear hc1 hb1 R0 B0
 go_wp2_with fail
 refine (drawBelowD M1.out 3 (by omega) (by omega)).mono ?_
 rintro e w2 ⟨x, rfl, hx, hm2⟩
 have hz2 := hm2.size
 have M2 := LH (M1.out.trans hm2)
 clear hm2
 go_wp2_with fail
 refine (drawBelowD M2.out 2 (by omega) (by omega)).mono ?_
 rintro e w3 ⟨y, rfl, hy, hm3⟩
 have hz3 := hm3.size
 have M3 := LH (M2.out.trans hm3)
 have hw3 : IntKind.i64.wrap (3 + y) = 3 + y := (IntWalk.i64_left _).trans (IntWalk.wrap64_in (3 + y) (by omega))
 clear hm3 M2
 go_wp2_with fail
 obtain ⟨w4, e4, R4, hz4, K4⟩ := boxed w3 3 #[.int .i64 x, .int .i64 (3 + y)]
 rw [← e4]
 clear e4
 replace hz4 : w3.heap.size + 1 ≤ w4.heap.size ∧ w4.heap.size ≤ w3.heap.size + 1 := by omega
 have M4 := LH (M3.out.chg K4.out (by omega) hl1)
 clear M3 K4
 refine (drawTyF M4.out).mono ?_
 rintro e w5 ⟨t, A1, c1, rfl, htb, htat, hm5⟩
 have hz5 := hm5.size
 have M5 := LH (M4.out.trans hm5)
 have RI5 := LH (hm5.bx.row R4.out (by omega))
 have HA5 := LH htat
 have HTB := LH htb
 clear hm5 M4 R4 htat htb
 go_wp2_with fail
 obtain ⟨w6, e6, R6, hz6, K6⟩ := boxed w5 33 #[.slice (some ⟨w3.heap.size, 0, none⟩) 2 2, .int .i64 t.op, .int .i64 t.n, .string t.s, .slice A1 t.kids.length c1]
 rw [← e6]
 clear e6
 have KB6 := LH (K6.out.below (B := w5.heap.size) (Nat.le_refl _) (Nat.le_refl _))
 obtain ⟨w7, e7, R7, hz7, K7⟩ := boxed w6 27 #[]
 rw [← e7]
 clear e7
 rw [hz6] at R7
 replace hz6 : w5.heap.size + 1 ≤ w6.heap.size ∧ w6.heap.size ≤ w5.heap.size + 1 := by omega
 have G7 := LH (show Gov (fun b => w6.heap.size ≤ b) w7 27 4 (.slice (some ⟨w5.heap.size + 1, 0, none⟩) 0 0) 0 [] from (Gow.made (B := w6.heap.size) (m := w7.heap.size) R7.out (by omega) (by omega)).gov (Nat.le_refl _) (fun b hb => hb))
 replace hz7 : w6.heap.size + 1 ≤ w7.heap.size ∧ w7.heap.size ≤ w6.heap.size + 1 := by omega
 have M6 := LH (M5.out.chg K6.out (by omega) hl1)
 have M7 := LH (M6.out.again.chg K7.out (by omega) (by omega))
 have HS6 := LH (show GScheme.At w6 (fun q => w3.heap.size ≤ q ∧ q < w5.heap.size) (some ⟨w3.heap.size, 0, none⟩) 2 A1 c1 ⟨[x, 3 + y], t⟩ from ⟨slIntsE (zs := [x, 3 + y]) (RI5.out.below KB6.out RI5.out.lt) ⟨Nat.le_refl _, by omega⟩ (by intro z hz; simp at hz; rcases hz with rfl | rfl <;> exact int_wfS ⟨by omega, by omega⟩) (by simp [maxLen]), HA5.out.keep fun q hq => ⟨⟨by have := hq.1; omega, hq.2⟩, KB6.out.block q hq.2⟩⟩)
 have RT6 := LH (K6.out.row (M5.out.bx.row R1.out (by omega)) (by omega))
 have B6 := LH (B1.out.trans (M6.out.bx.below (by omega) (by omega)))
 have H7 := LH (fun q (hq : (Value.slice (some ⟨w5.heap.size + 1, 0, none⟩) 0 0).ownBlock = some q) => show w6.heap.size ≤ q by
   have e : w5.heap.size + 1 = q := by simpa [Value.ownBlock] using hq
   omega)
 clear K6 KB6 R7 K7 M5 R1 RI5 HA5 B1
 go_loopw [6, 7] (fun v iv wr => ∃ (j : Nat) (list : List GTy) (As : Option Addr) (cs : Nat), j ≤ 2 ∧ iv = .int .i64 j ∧ v = .slice As list.length cs ∧ Hid (bulkL GTy.bulk list ≤ j * 40) ∧ Hid (list.length = j) ∧ Hid (Gov (fun b => w6.heap.size ≤ b) wr 27 4 (.slice As list.length cs) list.length (list.map GTy.toD)) ∧ Hid (∀ q, (Value.slice As list.length cs).ownBlock = some q → w6.heap.size ≤ q) ∧ Hid (Dm l A c w0.heap.size w6 wr)) (fun _ iv _ => 3 - (intOf iv).toNat)
 case atStart => exact ⟨0, [], _, _, by omega, by go_num, rfl, LH (by simp [bulkL]), LH rfl, G7, H7, M7⟩
 case round =>
  clear G7 H7
  obtain ⟨j, list, As, cs, hj, rfl, rfl, HB, HL, HG, HO, HM⟩ := hrel
  have hzr := HM.out.size
  by_cases hjx : (j : Int) < 2
  ·
   have hd : decide ((j : Int) < 2) = true := decide_eq_true hjx
   go_wp2_with fail
   refine (drawTyB HM.out 1 1 (by rfl) (by omega)).mono ?_
   rintro e w8 ⟨ty, AY, cY, rfl, hyb, hyat, hm8⟩
   have hz8 := hm8.size
   have M8 := LH (HM.out.trans hm8)
   have G8 := LH (HG.out.bxE hm8.bx (fun b hb => by omega) (fun q hq => by have := HO.out q hq; omega))
   have hlt8 : ∀ q, (Value.slice As list.length cs).ownBlock = some q → q < wr.heap.size := fun q hq => HG.out.ltE hq
   have HD := LH (GTy.rd_mk (w := w8) (S := OffX (fun b => w6.heap.size ≤ b) w8 (.slice As list.length cs)) (t := ty) (A1 := AY) (c1 := cY) (hyat.keep fun q hq => ⟨⟨⟨hq.2, fun e => by have := hlt8 _ e; have h1 := hq.1; omega⟩, by have h1 := hq.1; omega⟩, rfl⟩))
   have HYB := LH hyb
   clear hm8 hyat hyb HM HG hlt8
   go_wp2_with (first | (at_builtin; refine wpList_append_V (X := fun b => w6.heap.size ≤ b) w8 rfl (.tmp 24) (.tmp 27) 25 rfl 27 zTyE 4 56 Tryz.underlying25 (by kernel_rfl) rfl (by omega) (.slice As list.length cs) list.length _ G8.out ty.toD [.int .i64 ty.op, .int .i64 ty.n, .string ty.s, .slice AY ty.kids.length cY] HD.out rfl (by simp [Value.oneCell']) (by have := HL.out; omega) (by omega) 27 rfl w8.heap.size rfl rfl ?_; intro g9 cap w9 G9 R9))
   have HB9 := LH (R9.below (B := w6.heap.size) (by omega) HO.out)
   have hz9 := R9.size
   have M9 := LH (M8.out.bel9 HB9.out (by omega))
   have G10 := LH (show Gov (fun b => w6.heap.size ≤ b) w9 27 4 (.slice (some ⟨g9, 0, none⟩) (list ++ [ty]).length cap) (list ++ [ty]).length ((list ++ [ty]).map GTy.toD) by rw [List.map_append, List.length_append]; exact G9)
   have H10 := LH (fun q (hq : (Value.slice (some ⟨g9, 0, none⟩) (list ++ [ty]).length cap).ownBlock = some q) => show w6.heap.size ≤ q by
     rcases R9.own with e | ⟨g, e, hg⟩
     · exact HO.out q (e.symm.trans hq)
     · cases hq; cases e; omega)
   have L10 := LH (show Value.slice (some ⟨g9, 0, none⟩) (list.length + 1) cap = .slice (some ⟨g9, 0, none⟩) (list ++ [ty]).length cap by simp)
   have HB10 := LH (show bulkL GTy.bulk (list ++ [ty]) ≤ (j + 1) * 40 by
     rw [bulkL_endE]
     have h1 := HB.out
     have h2 := HYB.out
     omega)
   have HL10 := LH (show (list ++ [ty]).length = j + 1 by rw [List.length_append, HL.out]; rfl)
   clear G9 R9 G8 M8 HD
   go_wp2_with fail
   go_roundw
   case rel => exact ⟨j + 1, list ++ [ty], _, _, by omega, by go_num, L10.out, HB10, HL10, G10, H10, M9⟩
   case measure => simp [intOf]; omega
  ·
   have hd : decide ((j : Int) < 2) = false := decide_eq_false hjx
   have HJ := LH (show list.length = 2 by rw [HL.out]; omega)
   go_wp2_with fail
   refine (drawOnceD HM.out 6 (by omega) (by omega)).mono ?_
   rintro e w8 ⟨b1, rfl, hm8⟩
   have hz8 := hm8.size
   have M8 := LH (HM.out.trans hm8)
   have G8 := LH (HG.out.bxE hm8.bx (fun b hb => by omega) (fun q hq => by have := HO.out q hq; omega))
   have hfm := HG.out.someE (by have := HJ.out; omega)
   obtain ⟨qs, rfl, hcs⟩ := hfm
   have HS8 := LH (HS6.out.keep (w' := w8) (S' := fun q => w3.heap.size ≤ q ∧ q < w5.heap.size) fun q hq => ⟨hq, M8.out.bx.block q (by have := hq.2; omega) (by have := hq.1; omega)⟩)
   have RS8 := LH (M8.out.bx.row R6.out (by omega))
   have RT8 := LH (M8.out.bx.row RT6.out (by omega))
   have B8 := LH (B6.out.trans (M8.out.bx.below (by omega) (by omega)))
   have HTL := LH (show bulkL GTy.bulk list ≤ 100 by have h1 := HB.out; have h2 := HL.out; omega)
   have hcs2 : 2 ≤ cs := by have := HJ.out; omega
   have hl2 : list.length = 2 := HJ.out
   rw [hl2]
   clear hm8 HG HM HS6 RT6 R6 HB hcs
   cases b1
   ·
    have hcs8 := fun i => RS8.out.cell i
    have hls8 := RS8.out.lt
    have hct8 := fun i => RT8.out.cell i
    have hft8 := fun i => RT8.out.frozen i
    have hlt8 := RT8.out.lt
    go_wp2_with fail
    clear hcs8 hls8 hct8 hft8 hlt8
    obtain ⟨w9, e9, R9, hz9, K9⟩ := storedFiveE RT8.out (.slice (some ⟨w3.heap.size, 0, none⟩) 2 2) (.int .i64 t.op) (.int .i64 t.n) (.string t.s) (.slice A1 t.kids.length c1)
    rw [← e9]
    clear e9
    have hc9 := fun i => R9.out.cell i
    have HS9 := LH (HS8.out.keep (w' := w9) (S' := Lt w9.heap.size) fun q hq => ⟨show q < w9.heap.size by have := hq.2; omega, K9.out.block q (by have := hq.2; omega) (by have := hq.1; omega)⟩)
    have SL9 := LH ((G8.out.slE (B := w6.heap.size) (fun b hb => hb) HO.out).keep (w' := w9) (S' := Lt w9.heap.size) fun q hq => ⟨show q < w9.heap.size by have := hq.2; omega, K9.out.block q hq.2 (by have := hq.1; omega)⟩)
    have B9 := LH (B8.out.trans (K9.out.below (B := w.heap.size) (by have := B8.out.size; omega) (Nat.le_refl _)))
    show BP _ _
    rw [HBP.out]
    refine bodyPost_ret (v := .tuple #[.agg #[.slice (some ⟨w3.heap.size, 0, none⟩) 2 2, .int .i64 t.op, .int .i64 t.n, .string t.s, .slice A1 t.kids.length c1], .slice (some ⟨qs, 0, none⟩) 2 cs]) (by simp [results, Tryz.results7, go_sem, hc9]) rfl ?_
    exact ⟨⟨[x, 3 + y], t⟩, _, _, _, _, list, _, _, by rw [hl2]; rfl, by have := HTB.out; simp only [GScheme.bulk, List.length_cons, List.length_nil]; omega, HTL.out, HS9.out, SL9.out, B9.out⟩
   ·
    go_wp2_with fail
    refine wp_region_T (fun z => Row z w5.heap.size 33 #[.slice (some ⟨w3.heap.size, 0, none⟩) 2 2, .int .i64 t.op, .int .i64 t.n, .string t.s, .slice A1 t.kids.length c1]) 100 (by kernel_rfl) ?_
    obtain ⟨wA, eA⟩ : ∃ z, z = w8.drew := ⟨_, rfl⟩
    rw [← eA]
    have KA := LH (show Below w8.heap.size w8 wA by rw [eA]; exact (Below.refl _ _).drew)
    have hzA : wA.heap.size ≤ w8.heap.size ∧ w8.heap.size ≤ wA.heap.size := by rw [eA]; exact ⟨Nat.le_refl _, Nat.le_refl _⟩
    clear eA
    have RSA := RS8.out.below KA.out RS8.out.lt
    have RTA := LH (RT8.out.below KA.out RT8.out.lt)
    have HSA := LH (HS8.out.keep (w' := wA) (S' := fun q => w3.heap.size ≤ q ∧ q < w5.heap.size) fun q hq => ⟨hq, KA.out.block q (by have := hq.2; omega)⟩)
    have SLA := LH ((G8.out.slE (B := w6.heap.size) (fun b hb => hb) HO.out).keep (w' := wA) (S' := fun q => w6.heap.size ≤ q ∧ q < wA.heap.size) fun q hq => ⟨⟨hq.1, by have := hq.2; omega⟩, KA.out.block q hq.2⟩)
    have BA := LH (B8.out.trans (KA.out.mono B8.out.size))
    clear RT8 HS8 RS8 G8 KA B8
    have i1 : (1 : Int) ≤ (cs : Int) := by omega
    have i2 : 1 ≤ cs := by omega
    refine wpAnyT_tk (i := 0) (oi := _) (v := ?tvx1) rfl (Or.inl ⟨by rfl, ?thx1⟩) RSA ?_
    case thx1 => (intro z hSx; have hcS := fun i => (show Row z w5.heap.size 33 #[.slice (some ⟨w3.heap.size, 0, none⟩) 2 2, .int .i64 t.op, .int .i64 t.n, .string t.s, .slice A1 t.kids.length c1] from hSx).cell i; clear hSx; go_simp; (try with_reducible rfl))
    try simp only [List.getElem_toArray, List.getElem_cons_succ, List.getElem_cons_zero, Act.put, List.setIfInBounds_toArray, List.set_cons_zero, List.set_cons_succ]
    refine wpAnyT_tk (i := 1) (oi := _) (v := ?tvx2) rfl (Or.inl ⟨by rfl, ?thx2⟩) RSA ?_
    case thx2 => (intro z hSx; clear hSx; go_simp; (try with_reducible rfl))
    try simp only [List.getElem_toArray, List.getElem_cons_succ, List.getElem_cons_zero, Act.put, List.setIfInBounds_toArray, List.set_cons_zero, List.set_cons_succ]
    refine wpAnyT_tk (i := 2) (oi := _) (v := ?tvx3) rfl (Or.inl ⟨by rfl, ?thx3⟩) RSA ?_
    case thx3 => (intro z hSx; clear hSx; go_simp; (try with_reducible rfl))
    try simp only [List.getElem_toArray, List.getElem_cons_succ, List.getElem_cons_zero, Act.put, List.setIfInBounds_toArray, List.set_cons_zero, List.set_cons_succ]
    have hct8 := fun i => RTA.out.cell i
    have hft8 := fun i => RTA.out.frozen i
    have hlt8 := RTA.out.lt
    refine wpAnyT_step (i := 3) (by kernel_rfl) rfl (fun K hK => ?_)
    try simp only [List.getElem_toArray, List.getElem_cons_succ, List.getElem_cons_zero]
    go_simp
    obtain ⟨w9, e9, R9, hz9, K9⟩ := storedFiveE RTA.out (.slice (some ⟨w3.heap.size, 0, none⟩) 2 2) (.int .i64 t.op) (.int .i64 t.n) (.string t.s) (.slice A1 t.kids.length c1)
    rw [← e9]
    clear e9 hct8 hft8 hlt8
    have RS9 := K9.out.row RSA (by omega)
    have HS9 := LH (HSA.out.keep (w' := w9) (S' := Lt w9.heap.size) fun q hq => ⟨show q < w9.heap.size by have := hq.2; omega, K9.out.block q (by have := hq.2; omega) (by have := hq.1; omega)⟩)
    have SL9 := LH (SLA.out.keep (w' := w9) (S' := Lt w9.heap.size) fun q hq => ⟨show q < w9.heap.size by have := hq.2; omega, K9.out.block q hq.2 (by have := hq.1; omega)⟩)
    have B9 := LH (BA.out.trans (K9.out.below (B := w.heap.size) (by have := BA.out.size; omega) (Nat.le_refl _)))
    refine hK.out _ _ RS9 (fun _ => ?_)
    clear hK K
    try simp only [List.getElem_toArray, List.getElem_cons_succ, List.getElem_cons_zero, Act.put, List.setIfInBounds_toArray, List.set_cons_zero, List.set_cons_succ]
    refine wpAnyT_step (i := 4) (by kernel_rfl) rfl (fun K hK => ?_)
    try simp only [List.getElem_toArray, List.getElem_cons_succ, List.getElem_cons_zero]
    go_simp
    refine hK.out _ _ RS9 (fun _ => ?_)
    refine wpAnyT_done (by kernel_rfl) ?_ _
    clear hK K RS9 RSA
    have hc9 := fun i => R9.out.cell i
    go_wp2_with fail
    show BP _ _
    rw [HBP.out]
    refine bodyPost_ret (v := .tuple #[.agg #[.slice (some ⟨w3.heap.size, 0, none⟩) 2 2, .int .i64 t.op, .int .i64 t.n, .string t.s, .slice A1 t.kids.length c1], .slice (some ⟨qs, 0, none⟩) 1 cs]) (by simp [results, Tryz.results7, go_sem, hc9]) rfl ?_
    have hT := takeOneE SL9.out hl2
    exact ⟨⟨[x, 3 + y], t⟩, _, _, _, _, list.take 1, _, _, by rw [List.length_take, hl2]; rfl, by have := HTB.out; simp only [GScheme.bulk, List.length_cons, List.length_nil]; omega, Nat.le_trans (bulkL_takeE GTy.bulk 1 list) HTL.out, HS9.out, hT, B9.out⟩
def sortRen : Go.Shelf.Ren := ⟨fun | 5 => 37  | 8 => 51  | 7 => 50  | 19 => 65  | 20 => 66  | 10 => 56  | 11 => 57  | 12 => 58  | 13 => 59  | 14 => 60  | 15 => 61  | 16 => 62  | 17 => 63  | 18 => 64  | 30 => 73  | 31 => 74  | 32 => 75  | 33 => 76  | 34 => 77  | 35 => 78  | 40 => 98 | n => n, fun | 23 => 30  | 25 => 3  | 3 => 3  | 32 => 89  | 22 => 30  | 0 => 0  | 44 => 105  | 46 => 107  | 4 => 4  | 36 => 97  | 35 => 96  | 41 => 102  | 5 => 5  | 9 => 9  | 53 => 118  | 57 => 122  | 63 => 154  | 64 => 149 | n => n, fun | n => n⟩
theorem sortLays : SlLaysM.n5 Tryz.prog sortRen :=
 { mixed := by kernel_rfl
   f5 := ⟨Tryz.f37.name, by decide, Tryz.func37.trans (congrArg some (by kernel_rfl))⟩
   f7 := ⟨Tryz.f50.name, by decide, Tryz.func50.trans (congrArg some (by kernel_rfl))⟩
   f8 := Tryz.func51.trans (congrArg some (by kernel_rfl))
   f10 := ⟨Tryz.f56.name, by decide, Tryz.func56.trans (congrArg some (by kernel_rfl))⟩
   f11 := ⟨Tryz.f57.name, by decide, Tryz.func57.trans (congrArg some (by kernel_rfl))⟩
   f12 := ⟨Tryz.f58.name, by decide, Tryz.func58.trans (congrArg some (by kernel_rfl))⟩
   f13 := ⟨Tryz.f59.name, by decide, Tryz.func59.trans (congrArg some (by kernel_rfl))⟩
   f14 := ⟨Tryz.f60.name, by decide, Tryz.func60.trans (congrArg some (by kernel_rfl))⟩
   f15 := ⟨Tryz.f61.name, by decide, Tryz.func61.trans (congrArg some (by kernel_rfl))⟩
   f16 := ⟨Tryz.f62.name, by decide, Tryz.func62.trans (congrArg some (by kernel_rfl))⟩
   f17 := ⟨Tryz.f63.name, by decide, Tryz.func63.trans (congrArg some (by kernel_rfl))⟩
   f18 := ⟨Tryz.f64.name, by decide, Tryz.func64.trans (congrArg some (by kernel_rfl))⟩
   f19 := Tryz.func65.trans (congrArg some (by kernel_rfl))
   f20 := Tryz.func66.trans (congrArg some (by kernel_rfl))
   f30 := ⟨Tryz.f73.name, by decide, Tryz.func73.trans (congrArg some (by kernel_rfl))⟩
   f31 := Tryz.func74.trans (congrArg some (by kernel_rfl))
   f32 := Tryz.func75.trans (congrArg some (by kernel_rfl))
   f33 := ⟨Tryz.f76.name, by decide, Tryz.func76.trans (congrArg some (by kernel_rfl))⟩
   f34 := ⟨Tryz.f77.name, by decide, Tryz.func77.trans (congrArg some (by kernel_rfl))⟩
   f35 := ⟨Tryz.f78.name, by decide, Tryz.func78.trans (congrArg some (by kernel_rfl))⟩
   f40 := ⟨Tryz.f98.name, by decide, Tryz.func98.trans (congrArg some (by kernel_rfl))⟩
   t0 := Tryz.underlying0
   a0 := Tryz.isAgg0
   z0 := Tryz.sizeOf0
   v0 := Tryz.zeroValue0
   t3 := Tryz.underlying3
   a3 := Tryz.isAgg3
   z3 := Tryz.sizeOf3
   v3 := Tryz.zeroValue3
   t4 := Tryz.underlying4
   a4 := Tryz.isAgg4
   z4 := Tryz.sizeOf4
   v4 := Tryz.zeroValue4
   t5 := Tryz.underlying5
   a5 := Tryz.isAgg5
   z5 := Tryz.sizeOf5
   v5 := Tryz.zeroValue5
   t9 := Tryz.underlying9
   a9 := Tryz.isAgg9
   z9 := Tryz.sizeOf9
   v9 := Tryz.zeroValue9
   t22 := Tryz.underlying30
   a22 := Tryz.isAgg30
   z22 := Tryz.sizeOf30
   v22 := Tryz.zeroValue30
   t23 := Tryz.underlying30
   a23 := Tryz.isAgg30
   z23 := Tryz.sizeOf30
   v23 := Tryz.zeroValue30
   t25 := Tryz.underlying3
   a25 := Tryz.isAgg3
   z25 := Tryz.sizeOf3
   v25 := Tryz.zeroValue3
   t32 := Tryz.underlying89
   a32 := Tryz.isAgg89
   z32 := Tryz.sizeOf89
   v32 := Tryz.zeroValue89
   t35 := Tryz.underlying96
   a35 := Tryz.isAgg96
   z35 := Tryz.sizeOf96
   v35 := Tryz.zeroValue96
   t36 := Tryz.underlying97
   a36 := Tryz.isAgg97
   z36 := Tryz.sizeOf97
   v36 := Tryz.zeroValue97
   t41 := Tryz.underlying102
   a41 := Tryz.isAgg102
   z41 := Tryz.sizeOf102
   v41 := Tryz.zeroValue102
   t44 := Tryz.underlying105
   a44 := Tryz.isAgg105
   z44 := Tryz.sizeOf105
   v44 := Tryz.zeroValue105
   t46 := Tryz.underlying107
   a46 := Tryz.isAgg107
   z46 := Tryz.sizeOf107
   v46 := Tryz.zeroValue107
   t53 := Tryz.underlying118
   a53 := Tryz.isAgg118
   z53 := Tryz.sizeOf118
   v53 := Tryz.zeroValue118
   t57 := Tryz.underlying122
   a57 := Tryz.isAgg122
   z57 := Tryz.sizeOf122
   v57 := Tryz.zeroValue122
   t63 := Tryz.underlying154
   a63 := Tryz.isAgg154
   z63 := Tryz.sizeOf154
   v63 := Tryz.zeroValue154
   t64 := Tryz.underlying149
   a64 := Tryz.isAgg149
   z64 := Tryz.sizeOf149
   v64 := Tryz.zeroValue149 }
structure GOp where
 code : Int
 n : Int
 m : Int
set_option maxHeartbeats 1000000
def effI (c m : Int) : Int × Int :=
 if c = 1 ∨ c = 2 ∨ c = 3 ∨ c = 4 then (0, 1) else if c = 5 ∨ c = 8 then (m, 1) else
 if c = 6 ∨ c = 12 ∨ c = 13 ∨ c = 14 ∨ c = 15 ∨ c = 16 ∨ c = 20 then (2, 1) else if c = 7 ∨ c = 10 ∨ c = 11 ∨ c = 18 then (1, 0) else if c = 9 ∨ c = 17 then (1, 1) else (0, 0)
end Go.Proofs.YtlpichogambpfaaGreat
namespace Go.Proofs.YtlpichogambpfaaGreat
set_option maxRecDepth 20000
set_option linter.unusedVariables false
set_option linter.unusedSimpArgs false
open Go.RowKit
end Go.Proofs.YtlpichogambpfaaGreat
namespace Go.Proofs.YtlpichogambpfaaGreat
set_option maxRecDepth 20000
set_option linter.unusedVariables false
set_option linter.unusedSimpArgs false
open Go.RowKit
set_option maxHeartbeats 2000000
def opP (fr : Int) (ln ll : Nat) (fa : Int → Int) (i : Nat) (c n m : Int) : Prop :=
 if c = 1 then (-1073741824 ≤ n ∧ n ≤ 1073741823) ∧ m = 0
 else if c = 2 then (0 ≤ n ∧ n ≤ 2999) ∧ m = 0
 else if c = 3 then (0 ≤ n ∧ n ≤ fr - 1) ∧ m = 0
 else if c = 4 then 0 < i ∧ n = 0 ∧ m = 0
 else if c = 5 then (1 ≤ n ∧ n ≤ (ll : Int) - 1) ∧ m = fa n
 else if c = 8 then (0 ≤ n ∧ n ≤ 59) ∧ 0 ≤ m ∧ m ≤ 20
 else if c = 9 then (0 ≤ n ∧ n ≤ 59) ∧ m = 0
 else if c = 10 then (0 ≤ n ∧ n ≤ 59) ∧ 0 ≤ m ∧ m ≤ (ln : Int) - 1
 else if c = 11 then (-1073741824 ≤ n ∧ n ≤ 1073741823) ∧ 0 ≤ m ∧ m ≤ (ln : Int) - 1
 else if c = 18 ∨ c = 19 then (0 ≤ n ∧ n ≤ (ln : Int) - 1) ∧ m = 0
 else (1 ≤ c ∧ c ≤ 21) ∧ n = 0 ∧ m = 0
instance (fr : Int) (ln ll : Nat) (fa : Int → Int) (i : Nat) (c n m : Int) : Decidable (opP fr ln ll fa i c n m) := by unfold opP; infer_instance
set_option maxHeartbeats 1000000
def afterI (o : GOp) (d : Int) : Option Int :=
 if d - 1 < (effI o.code o.m).1 ∨ (o.code = 2 ∧ d ≤ o.n) ∨ 60 < d - (effI o.code o.m).1 + (effI o.code o.m).2 ∨ (o.code = 7 ∧ ¬ d = 2) then none else some (d - (effI o.code o.m).1 + (effI o.code o.m).2)
def nextI (o : GOp) (q : Nat) : List Int :=
 if o.code = 7 ∨ o.code = 21 then [] else if o.code = 19 then [o.n] else if o.code = 10 ∨ o.code = 11 then [((q + 1 : Nat) : Int), o.m] else if o.code = 18 then [((q + 1 : Nat) : Int), o.n] else [((q + 1 : Nat) : Int)]
inductive Reach (ops : List GOp) : Nat → Int → Prop
 | start : Reach ops 0 1
 | step {q p : Nat} {d d' : Int} (h : q < ops.length) : Reach ops q d → afterI ops[q] d = some d' → (p : Int) ∈ nextI ops[q] q → Reach ops p d'
set_option maxHeartbeats 2000000
theorem rdC_intC {w : World} {S : Nat → Prop} : ∀ (l : List Int) (cs : List Value), rdC w 1 S (l.map (D.num .i64)) cs → cs = l.map (Value.int .i64)
 | [], cs, h => h
 | x :: r, cs, h => by
  simp only [List.map_cons, rdC] at h
  obtain ⟨c1, c2, rfl, hl, h1, h2⟩ := h
  rw [(D.rd_num.1 h1).1, rdC_intC r c2 h2]; rfl
theorem GI.form {w : World} {B : Nat} {e : TypeId} {A : Option Addr} {c n : Nat} {l : List Int} (h : Gre w B e 1 (.slice A n c) n (l.map (D.num .i64))) (k : Nat) (hk : k < l.length) :
 ∃ g, A = some ⟨g, 0, none⟩ ∧ w.cell? ⟨g, k, none⟩ = some (.int .i64 l[k]) ∧ (∀ q, w.frozen? ⟨g, q, none⟩ = false) ∧ n ≤ c ∧ c ≤ maxLen := by
 obtain ⟨h1, cs, h2, h4⟩ := h
 have hcs := rdC_intC l cs h4
 simp only [List.length_map] at h1
 rcases h2.2 with ⟨_, h⟩ | ⟨g, cap, cur, hv, a1, a2, a3, a4, a5, a6⟩
 · omega
 ·
  simp only [Value.slice.injEq] at hv
  obtain ⟨rfl, _, rfl⟩ := hv
  refine ⟨g, rfl, ?_, fun q => Row.frozen (t := e) (cs := cur) a2 q, a3, a4⟩
  rw [Row.cell (t := e) (cs := cur) a2, ← Array.getElem?_toList]
  have : (cur.toList.take (n * 1))[k]? = some (.int .i64 l[k]) := by rw [a6, hcs]; simp [hk]
  rwa [List.getElem?_take_of_lt (by omega)] at this
theorem GI.set {w : World} {B : Nat} {e : TypeId} {g c n : Nat} {l : List Int} (h : Gre w B e 1 (.slice (some ⟨g, 0, none⟩) n c) n (l.map (D.num .i64))) (k : Nat) (hk : k < l.length) (d : Int) (hd : (Lit.int .i64 d).wf = true) :
 Gre (w.setCell ⟨g, k, none⟩ (.int .i64 d)) B e 1 (.slice (some ⟨g, 0, none⟩) n c) n ((l.set k d).map (D.num .i64)) := by
 obtain ⟨h1, cs, h2, h4⟩ := h
 have hcs := rdC_intC l cs h4
 simp only [List.length_map] at h1
 have hw : ∀ x ∈ l, (Lit.int .i64 x).wf = true := by
  clear hk h1 h2
  revert cs
  induction l with
  | nil => intro _ _ _ x hx; cases hx
  | cons y r ih =>
   intro cs h4 hcs x hx
   simp only [List.map_cons, rdC] at h4
   obtain ⟨c1, c2, e1, hl, k1, k2⟩ := h4
   rcases List.mem_cons.1 hx with rfl | hx
   · exact (D.rd_num.1 k1).2
   · exact ih c2 k2 (rdC_intC r c2 k2) x hx
 refine ⟨by simpa using h1, (l.set k d).map (Value.int .i64), ⟨by simp [h1], ?_⟩, rdC_int _ fun x hx => ?_⟩
 ·
  rcases h2.2 with ⟨h, _⟩ | ⟨g', cap, cur, hv, a1, a2, a3, a4, a5, a6⟩
  · cases h
  · simp only [Value.slice.injEq, Option.some.injEq, Addr.mk.injEq, and_true, true_and] at hv
    obtain ⟨rfl, rfl⟩ := hv
    refine .inr ⟨g, c, cur.setIfInBounds k (.int .i64 d), rfl, a1, Row.set (t := e) (cs := cur) a2 k _, a3, a4, by simp [a5], ?_⟩
    rw [Array.toList_setIfInBounds, List.take_set, a6, hcs, List.map_set]
 · rcases List.mem_or_eq_of_mem_set hx with h | rfl
   · exact hw x h
   · exact hd
theorem GI.osl {w : World} {B : Nat} {e : TypeId} {A : Option Addr} {c n : Nat} {l : List Int} (h : Gre w B e 1 (.slice A n c) n (l.map (D.num .i64))) (hw : ∀ x ∈ l, (Lit.int .i64 x).wf = true) : Osl w (Btw B w.heap.size) 1 A c (l.map (D.num .i64)) := by
 have hl : l.length = n := by have := h.1; simpa using this
 by_cases hn : 0 < l.length
 ·
  obtain ⟨g, rfl, _, hf, h1, h2⟩ := GI.form h 0 hn
  have ho := h.own g rfl
  refine ⟨by simpa [hl] using h1, h2, .inr ⟨g, rfl, ho, hf, rowI_ownR l _ 0 hw fun k hk => ?_⟩⟩
  obtain ⟨g', e', hc, _⟩ := GI.form h k hk
  obtain rfl : g = g' := by simpa using e'
  rw [Nat.zero_add]; exact hc
 · have hn' : l = [] := List.eq_nil_of_length_eq_zero (by omega)
   subst hn'
   obtain ⟨A', c', e', hs⟩ := h.sl
   obtain ⟨rfl, rfl⟩ : A = A' ∧ c = c' := by simpa using e'
   exact Osl.nil hs.2.1
end Go.Proofs.YtlpichogambpfaaGreat
namespace Go.Proofs.YtlpichogambpfaaGreat
set_option maxRecDepth 20000
set_option linter.unusedVariables false
set_option linter.unusedSimpArgs false
open Go.RowKit Go.Sort
theorem rdC_wf {w : World} {S : Nat → Prop} : ∀ (l : List Int) (cs : List Value), rdC w 1 S (l.map (D.num .i64)) cs → ∀ x ∈ l, (Lit.int .i64 x).wf = true
 | [], _, _, _, h => by cases h
 | x :: r, cs, h, y, hy => by
  simp only [List.map_cons, rdC] at h
  obtain ⟨c1, c2, rfl, hl, h1, h2⟩ := h
  rcases List.mem_cons.1 hy with rfl | hy
  · exact (D.rd_num.1 h1).2
  · exact rdC_wf r c2 h2 y hy
theorem GI.wf {w : World} {B : Nat} {e : TypeId} {v : Value} {n : Nat} {l : List Int} (h : Gre w B e 1 v n (l.map (D.num .i64))) : ∀ x ∈ l, (Lit.int .i64 x).wf = true := by
 obtain ⟨_, cs, _, h4⟩ := h
 exact rdC_wf l cs h4
theorem implSort (B : Nat) (xs : List Int) (A : Option Addr) (c : Nat) (w : World) (hl : xs.length ≤ 1048577) (hG : Gre w B 3 1 (.slice A xs.length c) xs.length (xs.map (D.num .i64))) :
 Calls Tryz.prog 37 #[.slice A xs.length c] w (fun e w' => e = .returned (.tuple #[]) ∧ Gre w' B 3 1 (.slice A xs.length c) xs.length ((xs.mergeSort fun x y => decide (x ≤ y)).map (D.num .i64)) ∧ Gr w w' (.slice A xs.length c) (.slice A xs.length c)) := by
 by_cases hn : xs.length = 0
 · have hx : xs = [] := List.eq_nil_of_length_eq_zero hn
   subst hx
   refine (AnyM.slices_Sort_int_none sortLays A c w).mono ?_
   rintro e w' ⟨rfl, rfl⟩
   exact ⟨rfl, by simpa using hG, Gr.refl _ _⟩
 ·
  obtain ⟨h1, cs, h2, h4⟩ := hG
  have hcs := rdC_intC xs cs h4
  subst hcs
  have hwf := rdC_wf xs _ h4
  rcases h2.2 with ⟨_, h⟩ | ⟨g, cap, cur, hv, a1, a2, a3, a4, a5, a6⟩
  · exact absurd h hn
  ·
   simp only [Value.slice.injEq] at hv
   obtain ⟨rfl, _, rfl⟩ := hv
   have hg : g < w.heap.size := (Array.getElem?_eq_some_iff.1 a2).1
   have hlen : xs.length < 4611686018427387904 := by omega
   refine (AnyM.slices_Sort_int sortLays g 0 c xs w (holds_of_blockI a2 (by simpa using a6)) hg hlen).mono ?_
   rintro e w' ⟨rfl, n, os, rfl⟩
   have hp := List.mergeSort_perm xs (fun x y => decide (x ≤ y))
   refine ⟨rfl, ⟨by simp [hp.length_eq], _, ownsRow_sortedI hp.length_eq a1 a2 a3 a4 a5, ?_⟩, ⟨grownBy_sortedI _, .inl rfl⟩⟩
   exact rdC_int _ fun x hx => hwf x (hp.mem_iff.1 hx)
def FVTo (t : GTy) (w : World) (e : Ending) (w' : World) : Prop := ∃ A c, e = .returned (.slice A (t.vs []).length c) ∧ Osl w' (Btw w.heap.size w'.heap.size) 1 A c ((t.vs []).map (D.num .i64)) ∧ Below w.heap.size w w'
theorem specFreeVars (t : GTy) (A1 : Option Addr) (c1 : Nat) (w : World) (hb : t.bulk ≤ 1048576) (hat : GTy.At w (Lt w.heap.size) A1 c1 t) :
 Calls Tryz.prog 32 #[.agg #[.int .i64 t.op, .int .i64 t.n, .string t.s, .slice A1 t.kids.length c1]] w (FVTo t w) := by
 have T0 := LH hat
 obtain ⟨w0, e0⟩ : ∃ w0, w0 = w.alloc (.cells #[.int .i64 t.op, .int .i64 t.n, .string t.s, .slice A1 t.kids.length c1] 27) := ⟨_, rfl⟩
 have E0 := LH (show Below w.heap.size w w0 by rw [e0]; exact (Below.refl _ _).alloc (Nat.le_refl _) _)
 have Ra0 := LH (show Row w0 w.heap.size 27 #[.int .i64 t.op, .int .i64 t.n, .string t.s, .slice A1 t.kids.length c1] by rw [e0]; exact Row.new' _ _ _ rfl)
 have S0 : w0.heap.size = w.heap.size + 1 := by rw [e0]; simp
 have hca0 := fun i => Ra0.out.cell i
 obtain ⟨w1, e1⟩ : ∃ w1, w1 = w0.alloc (.cells #[] 3) := ⟨_, rfl⟩
 have E1 := LH (show Below w.heap.size w w1 by rw [e1]; exact E0.out.alloc (by omega) _)
 have R1 := LH (show Row w1 w0.heap.size 3 #[] by rw [e1]; exact Row.new' _ _ _ rfl)
 have S1 : w1.heap.size = w.heap.size + 2 := by rw [e1]; simp [S0]
 clear hat
 go_enter Tryz.func32, Tryz.ntmps32
 go_wp2_with fail
 rw [← e0]
 rw [← e1]
 clear e0 e1 hca0
 have HG := LH (show Gre w1 w.heap.size 3 1 (.slice (some ⟨w.heap.size + 1, 0, none⟩) 0 0) 0 (([] : List Int).map (D.num .i64)) from Gre.made (by rw [← S0]; exact R1.out) (by omega))
 have HC := specVars w.heap.size (t.bulk + 1) t A1 c1 [] (some ⟨w.heap.size + 1, 0, none⟩) 0 w1 (by omega) (by simp; omega) (by omega) HG.out (T0.out.below E1.out (by omega))
 simp only [List.length_nil] at HC
 refine HC.mono ?_
 clear HC
 rintro e w2 ⟨A, c, rfl, hG, hb2⟩
 have B2 := LH (E1.out.trans (hb2.mono (by omega)))
 have HG2 := LH hG
 clear hG hb2
 go_wp2_with fail
 go_ret
 exact ⟨A, c, rfl, GI.osl HG2.out (GI.wf HG2.out), B2.out⟩
theorem implFreeVars (t : GTy) (A1 : Option Addr) (c1 : Nat) (w : World) (hb : t.bulk ≤ 1048576) (hat : GTy.At w (Lt w.heap.size) A1 c1 t) :
 Calls Tryz.prog 17 #[.agg #[.int .i64 t.op, .int .i64 t.n, .string t.s, .slice A1 t.kids.length c1]] w (FVTo t w) := by
 have HL := LH (t.vi_len [])
 have HB := LH hb
 have HS := LH ((GTy.same t [] [] ⟨List.Pairwise.nil, List.nodup_nil, fun _ => Iff.rfl⟩).sorted)
 obtain ⟨w0, e0⟩ : ∃ w0, w0 = w.alloc (.cells #[.int .i64 t.op, .int .i64 t.n, .string t.s, .slice A1 t.kids.length c1] 27) := ⟨_, rfl⟩
 have E0 := LH (show Below w.heap.size w w0 by rw [e0]; exact (Below.refl _ _).alloc (Nat.le_refl _) _)
 have Ra0 := LH (show Row w0 w.heap.size 27 #[.int .i64 t.op, .int .i64 t.n, .string t.s, .slice A1 t.kids.length c1] by rw [e0]; exact Row.new' _ _ _ rfl)
 have S0 : w0.heap.size = w.heap.size + 1 := by rw [e0]; simp
 have T0 := LH (hat.below E0.out (Nat.le_refl _))
 have hca0 := fun i => Ra0.out.cell i
 clear hat hb
 go_enter Tryz.func17, Tryz.ntmps17
 go_wp2_with fail
 rw [← e0]
 clear e0
 refine (implVars w.heap.size (t.bulk + 1) t A1 c1 [] none 0 w0 (by omega) (by have := HB.out; simp; omega) (by omega) (Gre.nil _ _ _ _) T0.out).mono ?_
 rintro e w1 ⟨A, c, rfl, hG, hGr⟩
 have HG := LH hG
 have B1 := LH (E0.out.trans (hGr.below (by omega) (fun g h => by cases h)))
 clear hG hGr hca0
 go_wp2_with fail
 refine (implSort w.heap.size (t.vi []) A c w1 (by have h1 := HL.out; have h2 := HB.out; simp at h1; omega) HG.out).mono ?_
 rintro e w2 ⟨rfl, hG2, hGr2⟩
 rw [HS.out] at hG2
 have HG2 := LH hG2
 have B2 := LH (B1.out.trans (hGr2.below (by have := B1.out.size; omega) (fun g h => (HG.out.own g h).1)))
 have HLE := LH (show (t.vi []).length = (t.vs []).length from by rw [← HS.out]; exact (List.mergeSort_perm _ _).length_eq.symm)
 clear hG2 hGr2
 go_wp2_with fail
 go_ret
 have h := HG2.out
 rw [HLE.out] at h ⊢
 exact ⟨A, c, rfl, GI.osl h (GI.wf h), B2.out⟩
end Go.Proofs.YtlpichogambpfaaGreat
namespace Go.Proofs.YtlpichogambpfaaGreat
set_option maxRecDepth 20000
set_option linter.unusedVariables false
set_option linter.unusedSimpArgs false
open Go.RowKit
set_option maxHeartbeats 400000
theorem indexFuncint (K : Nat) (hK : ∀ (args : Array Value) (w : World), (callFunc K args).run Tryz.prog w = .ok (.enter K args) w) (caps : Array Value) (p : Int → Bool) (l : List Int) (A : Option Addr) (c : Nat) (w : World) (hs : Sl w (Lt w.heap.size) 1 A c (l.map (D.num .i64)))
 (H : ∀ x, x ∈ l → ∀ (w2 : World), Below w.heap.size w w2 → True →
   Calls Tryz.prog K (#[.int .i64 x] ++ caps) w2 fun e w' => e = .returned (.bool (p x)) ∧ Below w2.heap.size w2 w') :
 Calls Tryz.prog 41 #[.slice A l.length c, .func (.func K) #[] caps] w fun e w' => e = .returned (.int .i64 (idxI p l)) ∧ Below w.heap.size w w' := by
 have hlen : l.length ≤ 9223372036854775807 := by simpa using hs.len
 have HH := LH H
 clear H
 go_enter Tryz.func41, Tryz.ntmps41
 go_wp2_with fail
 go_loopw [8] (fun i wr => ∃ j : Nat, j ≤ l.length ∧ i = .int .i64 j ∧ noneTo p l j ∧ Below w.heap.size w wr) (fun i _ => l.length - (intOf i).toNat)
 case atStart => exact ⟨0, by omega, by go_num, noneTo_zero p l, Below.refl _ _⟩
 case round =>
  obtain ⟨j, hj, rfl, hno, hbl⟩ := hrel
  have Hno := LH hno
  clear hno
  have hsz := hbl.size
  by_cases hlt : j < l.length
  ·
   have htr := int_elem (hs.below hbl (Nat.le_refl _)) j hlt
   obtain ⟨b, off, rfl, hSb, g0, hat⟩ := htr
   have hmem : l[j] ∈ l := List.getElem_mem hlt
   go_wp2_with fail
   refine (HH.out _ hmem  _ hbl trivial).mono ?_
   rintro e w1 ⟨rfl, hb1⟩
   cases he : p l[j]
   · have hn := LH (noneTo_succ Hno.out hlt he)
     go_wp2_with fail
     go_roundw
     case rel => exact ⟨j + 1, by omega, by go_num, hn.out, hbl.trans (hb1.mono hsz)⟩
     case measure => simp [intOf]; omega
   · have hn := LH (idxI_at Hno.out hlt he)
     go_wp2_with fail
     go_ret
     exact ⟨ret_int hn.out.symm, hbl.trans (hb1.mono hsz)⟩
  ·
   have hjl : j = l.length := by omega
   have Hj := LH hjl
   clear hjl
   go_wp2_with fail
   go_ret
   exact ⟨ret_int (idxI_none (by have := Hno.out; rw [Hj.out] at this; exact this)).symm, hbl⟩
set_option maxHeartbeats 1000000
theorem GI.cut {w : World} {B : Nat} {e : TypeId} {A : Option Addr} {c n : Nat} {l : List Int} (h : Gre w B e 1 (.slice A n c) n (l.map (D.num .i64))) (i : Nat) (hi : i ≤ n) : Gre w B e 1 (.slice A i c) i ((l.take i).map (D.num .i64)) := by
 have hw := GI.wf h
 obtain ⟨h1, cs, h2, h4⟩ := h
 have hcs := rdC_intC l cs h4
 simp only [List.length_map] at h1
 refine ⟨by simp; omega, (l.take i).map (Value.int .i64), ⟨by simp; omega, ?_⟩, rdC_int _ fun x hx => hw x (List.mem_of_mem_take hx)⟩
 rcases h2.2 with ⟨hv, h⟩ | ⟨g, cap, cur, hv, a1, a2, a3, a4, a5, a6⟩
 · obtain ⟨rfl, rfl, rfl⟩ : A = none ∧ n = 0 ∧ c = 0 := by simpa using hv
   obtain rfl : i = 0 := by omega
   exact .inl ⟨rfl, by simp⟩
 ·
  simp only [Value.slice.injEq] at hv
  obtain ⟨rfl, _, rfl⟩ := hv
  refine .inr ⟨g, c, cur, rfl, a1, a2, by omega, a4, a5, ?_⟩
  rw [Nat.mul_one, List.map_take, ← hcs, ← a6, List.take_take]
  congr 1
  omega
theorem GI.setTail {B : Nat} {e : TypeId} {g c n : Nat} (m : Nat) : ∀ {w : World} {l : List Int} (i : Nat), i + m ≤ l.length → Gre w B e 1 (.slice (some ⟨g, 0, none⟩) n c) n (l.map (D.num .i64)) →
 ∃ l' : List Int, l'.length = l.length ∧ l'.take i = l.take i ∧ Gre (w.setCells g i (List.replicate m (.int .i64 0))) B e 1 (.slice (some ⟨g, 0, none⟩) n c) n (l'.map (D.num .i64)) ∧ Gr w (w.setCells g i (List.replicate m (.int .i64 0))) (.slice (some ⟨g, 0, none⟩) n c) (.slice (some ⟨g, 0, none⟩) n c) := by
 induction m with
 | zero => intro w l i hi h; exact ⟨l, rfl, rfl, by simpa [World.setCells] using h, by simpa [World.setCells] using Gr.refl w (.slice (some ⟨g, 0, none⟩) n c)⟩
 | succ m ih =>
  intro w l i hi h
  have h1 := GI.set h i (by omega) 0 (wf_i64 (by omega) (by omega))
  obtain ⟨l', e1, e2, e3, e4⟩ := ih (i + 1) (by simp; omega) h1
  rw [List.replicate_succ, World.setCells]
  refine ⟨l', by simpa using e1, ?_, e3, ?_⟩
  · have := congrArg (List.take i) e2
    rw [List.take_take, List.take_take, show min i (i + 1) = i by omega, List.take_set_of_le (by omega)] at this
    exact this
  · exact Gr.trans ⟨by
      refine ⟨by simp [World.setCell], by simp [World.setCell], by simp [World.setCell], by simp [World.setCell], fun b hb hne => ?_⟩
      exact Below.heap_setCell w _ _ b (fun e => hne (by rw [e]; rfl)), .inl rfl⟩ e4
theorem deleteFuncint (B K : Nat) (hK : ∀ (args : Array Value) (w : World), (callFunc K args).run Tryz.prog w = .ok (.enter K args) w) (caps : Array Value) (p : Int → Bool) (l : List Int) (A : Option Addr) (c : Nat) (w : World) (hl : l.length ≤ 1048577) (hB : B ≤ w.heap.size)
 (hG : Gre w B 3 1 (.slice A l.length c) l.length (l.map (D.num .i64)))
 (H : ∀ x, x ∈ l → ∀ (w2 : World), Gr w w2 (.slice A l.length c) (.slice A l.length c) →
   Calls Tryz.prog K (#[.int .i64 x] ++ caps) w2 fun e w' => e = .returned (.bool (p x)) ∧ Below w2.heap.size w2 w') :
 Calls Tryz.prog 23 #[.slice A l.length c, .func (.func K) #[] caps] w fun e w' => e = .returned (.slice A (l.filter fun x => !p x).length c) ∧ Gre w' B 3 1 (.slice A (l.filter fun x => !p x).length c) (l.filter fun x => !p x).length ((l.filter fun x => !p x).map (D.num .i64)) ∧ Gr w w' (.slice A l.length c) (.slice A l.length c) := by
 have HG := LH hG
 have HH := LH H
 have SL := LH (show Sl w (Lt w.heap.size) 1 A c (l.map (D.num .i64)) from by obtain ⟨A', c', e, h⟩ := hG.sl; cases e; exact h)
 clear hG H
 cases ha : l.any p
 ·
  have hi := idxI_any_false ha
  have HF := LH (show (l.filter fun x => !p x) = l from List.filter_eq_self.2 fun x hx => by rw [List.any_eq_false] at ha; simpa using ha x hx)
  clear ha
  go_enter Tryz.func23, Tryz.ntmps23
  go_wp2_with fail
  refine (indexFuncint K hK caps p l A c _ SL.out (fun x hx w2 hb2 _ => HH.out x hx w2 (Gr.of_below hb2))).mono ?_
  rintro e w1 ⟨rfl, hb1⟩
  rw [hi]
  clear hi
  go_wp2_with fail
  go_ret
  rw [HF.out]
  exact ⟨rfl, HG.out.below hb1, Gr.of_below hb1⟩
 ·
  have hi := idxI_any_true ha
  obtain ⟨k0, hk0, e0, hp0, hn0⟩ := idxI_spec (p := p) (l := l) (by omega)
  obtain ⟨g, rfl, _, _, _, hc0⟩ := GI.form HG.out k0 hk0
  have HP := LH hp0
  have HN := LH hn0
  have hnc : l.length ≤ c := by obtain ⟨_, _, _, _, h, _⟩ := GI.form HG.out k0 hk0; exact h
  have hcm : c ≤ 9223372036854775807 := hc0
  clear ha hi hp0 hn0 hc0
  go_enter Tryz.func23, Tryz.ntmps23
  go_wp2_with fail
  refine (indexFuncint K hK caps p l _ c _ SL.out (fun x hx w2 hb2 _ => HH.out x hx w2 (Gr.of_below hb2))).mono ?_
  rintro e w1 ⟨rfl, hb1⟩
  rw [e0]
  clear e0
  have G1 := LH (HG.out.below hb1)
  have GR1 := LH (Gr.of_below (v := .slice (some ⟨g, 0, none⟩) l.length c) hb1)
  clear hb1
  have hne : ((k0 : Int) == -1) = false := beq_eq_false_iff_ne.2 (by omega)
  go_wp2_with fail
  clear hne
  go_loopw [5, 6] (fun s5 s6 wr => ∃ (i j : Nat) (zs : List Int), s5 = .int .i64 i ∧ s6 = .int .i64 j ∧ i < j ∧ j ≤ l.length ∧ Hid (zs.length = l.length) ∧ Hid (zs.take i = (l.take j).filter fun x => !p x) ∧ Hid (∀ k, j ≤ k → zs[k]? = l[k]?) ∧ Hid (Gre wr B 3 1 (.slice (some ⟨g, 0, none⟩) l.length c) l.length (zs.map (D.num .i64))) ∧ Hid (Gr w wr (.slice (some ⟨g, 0, none⟩) l.length c) (.slice (some ⟨g, 0, none⟩) l.length c))) (fun _ i _ => l.length - (intOf i).toNat)
  case atStart => exact ⟨k0, k0 + 1, l, by go_num, by go_num, by omega, by omega, LH rfl, LH (by
    rw [take_snoc' l k0 hk0, List.filter_append, List.filter_eq_self.2 (fun x hx => by
      obtain ⟨i, hi, rfl⟩ := List.getElem_of_mem hx
      rw [List.getElem_take, HN.out i (by simp at hi; omega) (by simp at hi; omega)]; rfl)]
    simp [HP.out]), LH (fun _ _ => rfl), G1, GR1⟩
  case round =>
   obtain ⟨i, j, zs, rfl, rfl, hij, hj, HL, HT, HX, HGr, HR⟩ := hrel
   by_cases hlt : j < l.length
   ·
    obtain ⟨g', eg, xj, _⟩ := GI.form HGr.out j (by rw [HL.out]; exact hlt)
    obtain rfl : g = g' := by simpa using eg
    have hzj : zs[j]'(by rw [HL.out]; exact hlt) = l[j] := by
     have := HX.out j (Nat.le_refl _)
     rw [List.getElem?_eq_getElem (by rw [HL.out]; exact hlt), List.getElem?_eq_getElem hlt] at this
     simpa using this
    rw [hzj] at xj
    clear hzj eg
    have hmem : l[j] ∈ l := List.getElem_mem hlt
    have hcall := HH.out _ hmem _ HR.out
    clear hmem
    go_wp2_with fail
    refine hcall.mono ?_
    rintro e w2 ⟨rfl, hb2⟩
    have G2 := LH (HGr.out.below hb2)
    have GR2 := LH (HR.out.trans (Gr.of_below (v := .slice (some ⟨g, 0, none⟩) l.length c) hb2))
    clear hcall xj hb2
    cases hp : p l[j]
    ·
     obtain ⟨g', eg, xi, xf, _⟩ := GI.form G2.out i (by rw [HL.out]; omega)
     obtain rfl : g = g' := by simpa using eg
     have hwj := GI.wf HG.out l[j] (List.getElem_mem hlt)
     have G3 := LH (GI.set G2.out i (by rw [HL.out]; omega) l[j] hwj)
     have GR3 := LH (GR2.out.trans (show Gr w2 (w2.setCell ⟨g, i, none⟩ (.int .i64 l[j])) (.slice (some ⟨g, 0, none⟩) l.length c) (.slice (some ⟨g, 0, none⟩) l.length c) from ⟨by
       refine ⟨by simp [World.setCell], by simp [World.setCell], by simp [World.setCell], by simp [World.setCell], fun b hb hne => ?_⟩
       exact Below.heap_setCell w2 _ _ b (fun e => hne (by rw [e]; rfl)), .inl rfl⟩))
     have HN2 := LH (show (zs.set i l[j]).take (i + 1) = (l.take (j + 1)).filter fun x => !p x from by
       rw [take_snoc' l j hlt, List.filter_append, ← HT.out, take_snoc' _ i (by simp [HL.out]; omega), List.take_set_of_le (Nat.le_refl _)]
       simp [hp])
     have HX2 := LH (show ∀ k, j + 1 ≤ k → (zs.set i l[j])[k]? = l[k]? from fun k hk => by rw [List.getElem?_set_ne (by omega)]; exact HX.out k (by omega))
     clear eg hwj hp
     go_wp2_with fail
     go_roundw
     case rel => exact ⟨i + 1, j + 1, zs.set i l[j], by go_num, by go_num, by omega, by omega, LH (by rw [List.length_set]; exact HL.out), HN2, HX2, G3, GR3⟩
     case measure => simp [intOf]; omega
    · have HN2 := LH (show zs.take i = (l.take (j + 1)).filter fun x => !p x from by
        rw [take_snoc' l j hlt, List.filter_append, ← HT.out]
        simp [hp])
      clear hp
      go_wp2_with fail
      go_roundw
      case rel => exact ⟨i, j + 1, zs, by go_num, by go_num, by omega, by omega, HL, HN2, LH (fun k hk => HX.out k (by omega)), G2, GR2⟩
      case measure => simp [intOf]; omega
   ·
    have HJ := LH (show j = l.length by omega)
    have HE := LH (show zs.take i = l.filter fun x => !p x from by rw [HT.out, HJ.out, List.take_length])
    have hil : i < l.length := by omega
    have HEL := LH (show (l.filter fun x => !p x).length = i from by rw [← HE.out, List.length_take, HL.out]; omega)
    obtain ⟨zs', e1, e2, e3, e4⟩ := GI.setTail (l.length - i) i (by rw [HL.out]; omega) HGr.out
    have E2 := LH e2
    have E3 := LH (GI.cut e3 i (by omega))
    have E4 := LH (HR.out.trans e4)
    have hcl : ∀ ty, (Builtin.clear_ #[30] ty #[.slice (some ⟨g, i, none⟩) (l.length - i) (c - i)]).run Tryz.prog wr = .ok (.tuple #[]) (wr.setCells g i (List.replicate (l.length - i) (.int .i64 0))) :=
     fun ty => Lib.run_clear_slice wr _ 3 ty (.int .i64 0) Tryz.underlying30 Tryz.zeroValue3 rfl rfl g i _ _ (by omega)
      (fun t ht => by obtain ⟨g', eg, x, _⟩ := GI.form HGr.out (i + t) (by rw [HL.out]; omega); obtain rfl : g = g' := by simpa using eg
                      rw [x]; rfl)
      (fun t ht => by obtain ⟨g', eg, _, x, _⟩ := GI.form HGr.out (i + t) (by rw [HL.out]; omega); obtain rfl : g = g' := by simpa using eg
                      exact x _)
    clear e1 e2 e3 e4
    go_wp2_with fail
    go_ret
    rw [HEL.out, ← HE.out, ← E2.out]
    exact ⟨rfl, E3.out, E4.out⟩
end Go.Proofs.YtlpichogambpfaaGreat
