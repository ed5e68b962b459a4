/- Copies of the trees of the Go struct Ty, in the program and in the reference. Conditions: none but a bound on the size. -/
import Derived.Test.YtgbcdfeflgnogaaATy
import Derived.Test.YtgbcdfeflgnogaaApp
import Derived.OwnWalk
import Derived.Deep.RegionLaw
namespace Go.Proofs.Ytgbcdfeflgnogaa
open Go.RowKit
set_option linter.unusedVariables false
set_option linter.unusedSimpArgs false
set_option maxHeartbeats 1000000

set_option maxRecDepth 20000 in
theorem implCopyTy (k : Nat) : ∀ (t : GTy) (A1 : Option Addr) (c1 : Nat) (w : World), t.bulk < k → t.bulk ≤ 1048576 → GTy.At w (Lt w.heap.size) A1 c1 t →
    Calls Try.prog 123 #[.agg #[.int .i64 t.op, .int .i64 t.n, .string t.s, .slice A1 t.kids.length c1]] w (ToTy t w) := by
  induction k with
  | zero => intro t A1 c1 w hk; omega
  | succ k ih =>
    intro t A1 c1 w hk h1 hat
    have hbe := t.bulk_eq
    have hlen : t.kids.length ≤ 1048576 := by have := bulkL_len GTy.bulk t.kids; omega
    have HH := Lib.hid (fun (j : Nat) (h : j < t.kids.length) (A1 : Option Addr) (c1 : Nat) (w : World) => ih t.kids[j] A1 c1 w (by have := bulkL_mem GTy.bulk t.kids _ (List.getElem_mem h); omega) (by have := bulkL_mem GTy.bulk t.kids _ (List.getElem_mem h); omega))
    have T0 := Lib.hid hat
    clear ih hbe hk h1 hat
    obtain ⟨w0, e0⟩ : ∃ w0, w0 = ((w.alloc (.cells #[.int .i64 t.op, .int .i64 t.n, .string t.s, .slice A1 t.kids.length c1] 59)).alloc (.cells #[.int .i64 0, .int .i64 0, .string ⟨#[]⟩, .slice none 0 0] 59)).alloc (.cells #[] 59) := ⟨_, rfl⟩
    have B0 : Below w.heap.size w w0 := by rw [e0]; exact (((Below.refl _ _).alloc (Nat.le_refl _) _).alloc (by simp) _).alloc (by simp; omega) _
    have S0 : w0.heap.size = w.heap.size + 3 := by rw [e0]; simp
    have Ra0 : Row w0 w.heap.size 59 #[.int .i64 t.op, .int .i64 t.n, .string t.s, .slice A1 t.kids.length c1] := by rw [e0]; exact ((Row.new' _ _ _ rfl).alloc _).alloc _
    have Rz0 : Row w0 (w.heap.size + 1) 59 #[.int .i64 0, .int .i64 0, .string ⟨#[]⟩, .slice none 0 0] := by rw [e0]; exact (Row.new' _ _ _ (by simp)).alloc _
    have Re0 : Row w0 (w.heap.size + 1 + 1) 59 #[] := by rw [e0]; exact Row.new' _ _ _ (by simp)
    have G0 := Lib.hid (Gow.made (B := w.heap.size + 2) (m := w0.heap.size) (size := 4) Re0 (by omega) (by omega))
    have HB0 := Lib.hid B0
    have HRa0 := Lib.hid Ra0
    have HRz0 := Lib.hid Rz0
    clear B0 S0 Ra0 Rz0 Re0
    go_enter Try.func123, Try.ntmps123
    go_wp2_with fail
    rw [← e0]
    clear e0
    go_loopw [3, 10] (fun v i wr => ∃ (j : Nat) (A : Option Addr) (c : Nat), j ≤ t.kids.length ∧ i = .int .i64 j ∧ v = .slice A j c ∧ Hid (Gow wr (w.heap.size + 2) wr.heap.size 59 4 (.slice A j c) j ((t.kids.take j).map GTy.toD)) ∧ Hid (Row wr w.heap.size 59 #[.int .i64 t.op, .int .i64 t.n, .string t.s, .slice A1 t.kids.length c1]) ∧ Hid (Row wr (w.heap.size + 1) 59 #[.int .i64 0, .int .i64 0, .string ⟨#[]⟩, .slice none 0 0]) ∧ Below w.heap.size w wr) (fun _ i _ => t.kids.length - (intOf i).toNat)
    case atStart => exact ⟨0, _, _, by omega, by go_num, rfl, G0, HRa0, HRz0, HB0.out⟩
    case round =>
      clear G0 HRa0 HRz0 HB0
      obtain ⟨j, A, c, hj, rfl, rfl, HG, HRa, HRz, hbl⟩ := hrel
      have hsz := hbl.size
      have hzl := HRz.out.lt
      by_cases hlt : j < t.kids.length
      · obtain ⟨b, off, A2, c2, eA, hSb, g0, g1, g2, g3, hat⟩ := GTy.elem (T0.out.below hbl (Nat.le_refl _)).2.2.2 j hlt
        have eA' := Lib.hid eA
        have E1 := Lib.hid (show Below wr.heap.size wr (wr.alloc (.cells #[.int .i64 (t.kids[j]).op, .int .i64 (t.kids[j]).n, .string (t.kids[j]).s, .slice A2 (t.kids[j]).kids.length c2] 59)) from (Below.refl _ _).alloc (Nat.le_refl _) _)
        have HA := Lib.hid (hat.keep (S' := Lt (wr.alloc (.cells #[.int .i64 (t.kids[j]).op, .int .i64 (t.kids[j]).n, .string (t.kids[j]).s, .slice A2 (t.kids[j]).kids.length c2] 59)).heap.size) (w' := wr.alloc (.cells #[.int .i64 (t.kids[j]).op, .int .i64 (t.kids[j]).n, .string (t.kids[j]).s, .slice A2 (t.kids[j]).kids.length c2] 59)) fun q hq => ⟨Nat.lt_of_lt_of_le hq (Nat.le_trans hsz E1.out.size), Below.heap_alloc _ _ _ (Nat.lt_of_lt_of_le hq hsz)⟩)
        clear hat
        subst eA
        go_wp2_with fail
        refine (HH.out j hlt A2 c2 _ HA.out).mono ?_
        rintro e w1 ⟨A3, c3, rfl, how, hb1⟩
        have B1 := Lib.hid (E1.out.trans (hb1.mono E1.out.size))
        have HG1 := HG.out.below B1.out (Nat.le_refl _)
        have how1 := GTy.own_mk (how.keep (S' := Btw wr.heap.size w1.heap.size) (w' := w1) fun q hq => ⟨⟨Nat.le_trans E1.out.size hq.1, hq.2⟩, rfl⟩)
        clear how hb1
        go_wp2_with (first | (at_builtin; refine wpList_append_D w1 rfl (.tmp 14) (.tmp 17) 57 rfl 59 zTy 4 56 Try.underlying57 (by kernel_rfl) rfl (by omega) (w.heap.size + 2) wr.heap.size _ j _ HG1 (t.kids[j]).toD [.int .i64 (t.kids[j]).op, .int .i64 (t.kids[j]).n, .string (t.kids[j]).s, .slice A3 (t.kids[j]).kids.length c3] how1 (by omega) B1.out.size rfl (by simp [Value.oneCell']) (by omega) (by omega) 59 rfl w1.heap.size rfl rfl ?_; intro g cap w2 G2 Bq2 hs2 hg2 hgl2))
        go_roundw
        case rel =>
          have X2 := (Bq2.mono (show w.heap.size ≤ w.heap.size + 2 by omega))
          exact ⟨j + 1, _, _, by omega, by go_num, rfl, Lib.hid (by rw [take_snoc' t.kids j hlt, List.map_append]; exact G2), Lib.hid ((HRa.out.below B1.out (by omega)).below Bq2 (by omega)), Lib.hid ((HRz.out.below B1.out (by omega)).below Bq2 (by omega)), (hbl.trans (B1.out.mono hsz)).trans X2⟩
        case measure => simp [intOf]; omega
      · have hjl : j = t.kids.length := by omega
        obtain ⟨A', c', eV, how⟩ := HG.out.osl
        obtain ⟨rfl, rfl⟩ : A = A' ∧ c = c' := by simpa using eV
        subst hjl
        rw [List.take_length] at how
        clear eV HG hlt hj
        obtain ⟨p0, p1, p2, -⟩ := T0.out
        have hca := fun i => HRa.out.cell i
        have hcz := fun i => HRz.out.cell i
        have hfa := fun i => HRa.out.frozen i
        have hfz := fun i => HRz.out.frozen i
        have B1 := setCells_below hbl w.heap.size 3 (Nat.le_refl _) [.slice A t.kids.length c]
        have BF := setCells_below B1 (w.heap.size + 1) 0 (by omega) [.int .i64 t.op, .int .i64 t.n, .string t.s, .slice A t.kids.length c]
        have SF : (setCells (setCells wr w.heap.size 3 [.slice A t.kids.length c]) (w.heap.size + 1) 0 [.int .i64 t.op, .int .i64 t.n, .string t.s, .slice A t.kids.length c]).heap.size = wr.heap.size := by rw [setCells_size, setCells_size]
        have how2 := how.keep (S' := Btw w.heap.size (setCells (setCells wr w.heap.size 3 [.slice A t.kids.length c]) (w.heap.size + 1) 0 [.int .i64 t.op, .int .i64 t.n, .string t.s, .slice A t.kids.length c]).heap.size) (w' := setCells (setCells wr w.heap.size 3 [.slice A t.kids.length c]) (w.heap.size + 1) 0 [.int .i64 t.op, .int .i64 t.n, .string t.s, .slice A t.kids.length c]) fun q hq => ⟨⟨by have := hq.1; omega, by rw [SF]; exact hq.2⟩, (setCells_block _ _ _ _ _ (by have := hq.1; omega)).trans (setCells_block _ _ _ _ _ (by have := hq.1; omega))⟩
        have HOW := Lib.hid how2
        have HBF := Lib.hid BF
        clear how how2 BF B1 SF
        go_wp2_with fail
        exact bodyPost_ret (v := .agg #[.int .i64 t.op, .int .i64 t.n, .string t.s, .slice A t.kids.length c]) (by simp [results, Try.results123, go_sem, hca, hcz]) rfl ⟨A, c, rfl, ⟨p0, p1, p2, HOW.out⟩, HBF.out⟩

theorem implCopyTy' (t : GTy) (A1 : Option Addr) (c1 : Nat) (w : World) (h1 : t.bulk ≤ 1048576) (hat : GTy.At w (Lt w.heap.size) A1 c1 t) :
    Calls Try.prog 123 #[.agg #[.int .i64 t.op, .int .i64 t.n, .string t.s, .slice A1 t.kids.length c1]] w (ToTy t w) := implCopyTy (t.bulk + 1) t A1 c1 w (by omega) h1 hat

set_option maxRecDepth 20000 in
theorem specTyCopy (k : Nat) : ∀ (t : GTy) (A1 : Option Addr) (c1 : Nat) (w : World), t.bulk < k → t.bulk ≤ 1048576 → GTy.At w (Lt w.heap.size) A1 c1 t →
    Calls Try.prog 115 #[.agg #[.int .i64 t.op, .int .i64 t.n, .string t.s, .slice A1 t.kids.length c1]] w (ToTy t w) := by
  induction k with
  | zero => intro t A1 c1 w hk; omega
  | succ k ih =>
    intro t A1 c1 w hk h1 hat
    have hbe := t.bulk_eq
    have hlen : t.kids.length ≤ 1048576 := by have := bulkL_len GTy.bulk t.kids; omega
    have HH := Lib.hid (fun (j : Nat) (h : j < t.kids.length) (A1 : Option Addr) (c1 : Nat) (w : World) => ih t.kids[j] A1 c1 w (by have := bulkL_mem GTy.bulk t.kids _ (List.getElem_mem h); omega) (by have := bulkL_mem GTy.bulk t.kids _ (List.getElem_mem h); omega))
    have T0 := Lib.hid hat
    clear ih hbe hk h1 hat
    obtain ⟨w0, e0⟩ : ∃ w0, w0 = ((w.alloc (.cells #[.int .i64 t.op, .int .i64 t.n, .string t.s, .slice A1 t.kids.length c1] 59)).alloc (.cells #[.int .i64 0, .int .i64 0, .string ⟨#[]⟩, .slice none 0 0] 59)).alloc (.cells #[.int .i64 t.op, .int .i64 t.n, .string t.s, .slice none 0 0] 59) := ⟨_, rfl⟩
    have B0 : Below w.heap.size w w0 := by rw [e0]; exact (((Below.refl _ _).alloc (Nat.le_refl _) _).alloc (by simp) _).alloc (by simp; omega) _
    have S0 : w0.heap.size = w.heap.size + 3 := by rw [e0]; simp
    have Ra0 : Row w0 w.heap.size 59 #[.int .i64 t.op, .int .i64 t.n, .string t.s, .slice A1 t.kids.length c1] := by rw [e0]; exact ((Row.new' _ _ _ rfl).alloc _).alloc _
    have Rz0 : Row w0 (w.heap.size + 1) 59 #[.int .i64 0, .int .i64 0, .string ⟨#[]⟩, .slice none 0 0] := by rw [e0]; exact (Row.new' _ _ _ (by simp)).alloc _
    have Ro0 : Row w0 (w.heap.size + 1 + 1) 59 #[.int .i64 t.op, .int .i64 t.n, .string t.s, .slice none 0 0] := by rw [e0]; exact Row.new' _ _ _ (by simp)
    have HB0 := Lib.hid B0
    have HRa0 := Lib.hid Ra0
    have HRz0 := Lib.hid Rz0
    have HRo0 := Lib.hid Ro0
    have hs0 : w.heap.size + 3 ≤ w0.heap.size := by omega
    clear B0 S0 Ra0 Rz0 Ro0
    go_enter Try.func115, Try.ntmps115
    go_wp2_with fail
    rw [← e0]
    clear e0
    go_loopw [4] (fun i wr => ∃ (j : Nat) (A : Option Addr) (c : Nat), j ≤ t.kids.length ∧ i = .int .i64 j ∧ Hid (Gow wr (w.heap.size + 3) wr.heap.size 59 4 (.slice A j c) j ((t.kids.take j).map GTy.toD)) ∧ Hid (Row wr w.heap.size 59 #[.int .i64 t.op, .int .i64 t.n, .string t.s, .slice A1 t.kids.length c1]) ∧ Hid (Row wr (w.heap.size + 1) 59 #[.int .i64 0, .int .i64 0, .string ⟨#[]⟩, .slice none 0 0]) ∧ Hid (Row wr (w.heap.size + 1 + 1) 59 #[.int .i64 t.op, .int .i64 t.n, .string t.s, .slice A j c]) ∧ w.heap.size + 3 ≤ wr.heap.size ∧ Below w.heap.size w wr) (fun i _ => t.kids.length - (intOf i).toNat)
    case atStart => exact ⟨0, none, 0, by omega, by go_num, Lib.hid (Gow.nil _ _ _ _ _), HRa0, HRz0, HRo0, hs0, HB0.out⟩
    case round =>
      clear HRa0 HRz0 HRo0 HB0 hs0
      obtain ⟨j, A, c, hj, rfl, HG, HRa, HRz, HRo, hs3, hbl⟩ := hrel
      have hsz := hbl.size
      have hca := fun i => HRa.out.cell i
      have hco := fun i => HRo.out.cell i
      by_cases hlt : j < t.kids.length
      · obtain ⟨b, off, A2, c2, eA, hSb, g0, g1, g2, g3, hat⟩ := GTy.elem (T0.out.below hbl (Nat.le_refl _)).2.2.2 j hlt
        subst eA
        have hblt : b < wr.heap.size := Nat.lt_of_lt_of_le hSb hsz
        have hSb' : b < w.heap.size := hSb
        have HA := Lib.hid (hat.keep (S' := Lt wr.drew.heap.size) (w' := wr.drew) fun q hq => ⟨Nat.lt_of_lt_of_le hq hsz, rfl⟩)
        clear hat
        go_wp2_with fail
        go_region_law (first
          | (refine step_append_D w1 rfl (.tmp 20) (.tmp 27) 57 rfl 59 zTy 4 56 Try.underlying57 (by kernel_rfl) rfl (by omega) (w.heap.size + 3) wr.heap.size _ j _ HG1.out (t.kids[j]).toD [.int .i64 (t.kids[j]).op, .int .i64 (t.kids[j]).n, .string (t.kids[j]).s, .slice A3 (t.kids[j]).kids.length c3] how1.out (by omega) B1.out.size rfl (by simp [Value.oneCell']) (by omega) (by omega) 59 rfl w1.heap.size rfl rfl ?_
             intro g cap w2 G2 Bq2 hs2 hg2 hgl2
             have G3 := Lib.hid G2
             have B2 := Lib.hid Bq2
             have Ro3 := Lib.hid (Ro1.out.below Bq2 (by omega))
             have hco3 := fun i => Ro3.out.cell i
             have hfo3 := fun i => Ro3.out.frozen i
             clear G2 Bq2)
          | (go_simp
             go_at_call 115
             refine (HH.out j hlt A2 c2 _ HA.out).mono ?_
             rintro e w1 ⟨A3, c3, rfl, how, hb1⟩
             have B1 := Lib.hid (((Below.refl wr.heap.size wr).drew).trans hb1)
             have Ra1 := Lib.hid (HRa.out.below B1.out (by omega))
             have Ro1 := Lib.hid (HRo.out.below B1.out (by omega))
             have hca1 := fun i => Ra1.out.cell i
             have hco1 := fun i => Ro1.out.cell i
             have hco2 := Ro1.out.lt
             have HG1 := Lib.hid (HG.out.below B1.out (Nat.le_refl _))
             have how1 := Lib.hid (GTy.own_mk (how.keep (S' := Btw wr.heap.size w1.heap.size) (w' := w1) fun q hq => ⟨hq, rfl⟩))
             clear how hb1))
        all_goals
          go_wp2_with fail
          go_roundw
          case rel =>
            have B3 := (hbl.trans (B1.out.mono hsz)).trans (B2.out.mono (show w.heap.size ≤ w.heap.size + 3 by omega))
            refine ⟨j + 1, _, _, by omega, by go_num, Lib.hid (show Gow (w2.setCell ⟨w.heap.size + 1 + 1, 3, none⟩ (.slice (some ⟨g, 0, none⟩) (j + 1) cap)) (w.heap.size + 3) (w2.setCell ⟨w.heap.size + 1 + 1, 3, none⟩ (.slice (some ⟨g, 0, none⟩) (j + 1) cap)).heap.size 59 4 (.slice (some ⟨g, 0, none⟩) (j + 1) cap) (j + 1) ((t.kids.take (j + 1)).map GTy.toD) from ?_), Lib.hid (((HRa.out.below B1.out (by omega)).below B2.out (by omega)).far (p := ⟨w.heap.size + 1 + 1, 3, none⟩) (by simp <;> omega) _), Lib.hid (((HRz.out.below B1.out (by omega)).below B2.out (by omega)).far (p := ⟨w.heap.size + 1 + 1, 3, none⟩) (by simp <;> omega) _), Lib.hid (Ro3.out.set 3 _), ?_, B3.setCell (p := ⟨w.heap.size + 1 + 1, 3, none⟩) (by simp <;> omega) _⟩
            · rw [take_snoc' t.kids j hlt, List.map_append]
              exact G3.out.keep (by simp [World.setCell]) (fun q hq _ => Below.heap_setCell _ ⟨w.heap.size + 1 + 1, 3, none⟩ _ q (by simp <;> omega))
            · have := B3.size; have := B1.out.size; simp [World.setCell]; omega
          case measure => simp [intOf]; omega
      · have hjl : j = t.kids.length := by omega
        obtain ⟨A', c', eV, how⟩ := HG.out.osl
        obtain ⟨rfl, rfl⟩ : A = A' ∧ c = c' := by simpa using eV
        subst hjl
        rw [List.take_length] at how
        clear eV HG hlt hj hca hco
        obtain ⟨p0, p1, p2, -⟩ := T0.out
        have hca := fun i => HRa.out.cell i
        have hco := fun i => HRo.out.cell i
        have hcz := fun i => HRz.out.cell i
        have hfz := fun i => HRz.out.frozen i
        have BF := setCells_below hbl (w.heap.size + 1) 0 (by omega) [.int .i64 t.op, .int .i64 t.n, .string t.s, .slice A t.kids.length c]
        have SF : (setCells wr (w.heap.size + 1) 0 [.int .i64 t.op, .int .i64 t.n, .string t.s, .slice A t.kids.length c]).heap.size = wr.heap.size := by rw [setCells_size]
        have how2 := how.keep (S' := Btw w.heap.size (setCells wr (w.heap.size + 1) 0 [.int .i64 t.op, .int .i64 t.n, .string t.s, .slice A t.kids.length c]).heap.size) (w' := setCells wr (w.heap.size + 1) 0 [.int .i64 t.op, .int .i64 t.n, .string t.s, .slice A t.kids.length c]) fun q hq => ⟨⟨by have := hq.1; omega, by rw [SF]; exact hq.2⟩, setCells_block _ _ _ _ _ (by have := hq.1; omega)⟩
        have HOW := Lib.hid how2
        have HBF := Lib.hid BF
        clear how how2 BF SF
        go_wp2_with fail
        exact bodyPost_ret (v := .agg #[.int .i64 t.op, .int .i64 t.n, .string t.s, .slice A t.kids.length c]) (by simp [results, Try.results115, go_sem, hca, hcz, hco]) rfl ⟨A, c, rfl, ⟨p0, p1, p2, HOW.out⟩, HBF.out⟩

theorem specTyCopy' (t : GTy) (A1 : Option Addr) (c1 : Nat) (w : World) (h1 : t.bulk ≤ 1048576) (hat : GTy.At w (Lt w.heap.size) A1 c1 t) :
    Calls Try.prog 115 #[.agg #[.int .i64 t.op, .int .i64 t.n, .string t.s, .slice A1 t.kids.length c1]] w (ToTy t w) := specTyCopy (t.bulk + 1) t A1 c1 w (by omega) h1 hat

end Go.Proofs.Ytgbcdfeflgnogaa
