/- Several texts of this claim in one: WrS WrS2 WrS3 WrS4 WrS5. Conditions: none but bounds on sizes. -/
import Derived.Test.YtgbcdfeflgnogaaMh4
import Derived.Test.YtgbcdfeflgnogaaUp
import Derived.Test.YtgbcdfeflgnogaaWithin
import Derived.Deep.RegionHeld3
/- Expressions and patterns as text, in the reference. Conditions: what the program holds is at most 1048576. -/
namespace Go.Proofs.Ytgbcdfeflgnogaa
open Go.RowKit Go.BigFrame
set_option linter.unusedVariables false
set_option linter.unusedSimpArgs false
set_option maxHeartbeats 4000000

theorem big_size {x : GNode} (h : x.bulk ≤ 1048576) : x.text.size ≤ 41943060 := by have := x.text_size; omega

set_option maxRecDepth 20000 in
theorem specPatText (k : Nat) : ∀ (t : GNode) (A1 : Option Addr) (c1 : Nat) (w : World), t.bulk < k → t.bulk ≤ 1048576 → t.pat = true → GNode.At w (Lt w.heap.size) A1 c1 t →
    Calls Try.prog 287 #[.agg #[.int .i64 t.op, .int .i64 t.n, .string t.s, .string t.t, .slice A1 t.kids.length c1]] w fun e w' => e = .returned (.string t.text) ∧ Below w.heap.size w w' := by
  induction k with
  | zero => intros; omega
  | succ k ih =>
    intro t A1 c1 w hk0 hb hp ht
    obtain ⟨h0, h1, h2, h3, hk⟩ := id ht
    have hn := wf64 h1
    have hlen : t.kids.length ≤ 9223372036854775807 := by simpa using hk.len
    have hbe := t.bulk_eq
    have K0 := Lib.hid hk
    have HX := Lib.hid (fun (j : Nat) (hj : j < t.kids.length) (A2 : Option Addr) (c2 : Nat) (w2 : World) (hx2 : GNode.At w2 (Lt w2.heap.size) A2 c2 t.kids[j]) =>
      ih t.kids[j] A2 c2 w2 (by have := bulkL_mem GNode.bulk t.kids _ (List.getElem_mem hj); omega) (by have := bulkL_mem GNode.bulk t.kids _ (List.getElem_mem hj); omega) (pat_kids hp _ (List.getElem_mem hj)) hx2)
    have hv := Lib.hid t.text_eq
    have hzl := t.lens_kids
    have hzt : (spaced (t.kids.map GNode.text)).size ≤ 41943040 := by rw [spaced_tail]; have := tailB_size (sep := ⟨#[32]⟩) (by rw [ba1]; omega) (t.kids.map GNode.text); omega
    have hzs : t.s.size ≤ 1048576 := by omega
    have HZK := Lib.hid (fun (j : Nat) (hj : j < t.kids.length) => show (t.kids[j]).text.size ≤ 41943060 from big_size (by have := bulkL_mem GNode.bulk t.kids _ (List.getElem_mem hj); omega))
    have R0 := Lib.hid (Row.new w 49 #[.int .i64 t.op, .int .i64 t.n, .string t.s, .string t.t, .slice A1 t.kids.length c1])
    have E0 := Lib.hid (show Below w.heap.size w (w.alloc (.cells #[.int .i64 t.op, .int .i64 t.n, .string t.s, .string t.t, .slice A1 t.kids.length c1] 49)) from (Below.refl _ _).alloc (Nat.le_refl _) _)
    have hops := pat_ops hp
    clear ih hk0 hb hp ht h0 h1 h2 h3 hk hbe hzl
    by_cases o17 : t.op = 17
    · have HE := Lib.hid (show t.text = ⟨#[95]⟩ by rw [hv.out]; unfold nodeTextOf; rw [if_neg (by omega), if_neg (by omega), if_pos o17])
      have p17 : (t.op == 17) = true := beq_iff_eq.2 o17
      clear hops o17
      go_enter Try.func287, Try.ntmps287
      go_wp2_with fail
      go_ret
      exact ⟨ret_str HE.out.symm, E0.out⟩
    by_cases o19 : t.op = 19
    · have hin : inB t.n 0 1073741823 = true := by rcases hops with h | h | h | h <;> first | exact h.2 | omega
      have HE := Lib.hid (show t.text = digI t.n by rw [hv.out]; unfold nodeTextOf; rw [if_pos (.inr o19), if_pos hin])
      have HD := Lib.hid (fun (wx : World) => specDigits t.n wx hn.1 hn.2)
      clear hin
      have p17 : (t.op == 17) = false := beq_eq_false_iff_ne.2 o17
      have p19 : (t.op == 19) = true := beq_iff_eq.2 o19
      clear hops o17 o19
      go_enter Try.func287, Try.ntmps287
      go_wp2_with fail
      refine (HD.out _).mono ?_
      rintro e w1 ⟨rfl, hb1⟩
      go_wp2_with fail
      go_ret
      exact ⟨ret_str HE.out.symm, E0.out.trans (hb1.mono E0.out.size)⟩
    by_cases o18 : t.op = 18
    · have HE := Lib.hid (show t.text = t.s by rw [hv.out]; unfold nodeTextOf; rw [if_neg (by omega), if_pos (.inr o18)])
      have p17 : (t.op == 17) = false := beq_eq_false_iff_ne.2 o17
      have p19 : (t.op == 19) = false := beq_eq_false_iff_ne.2 o19
      have p18 : (t.op == 18) = true := beq_iff_eq.2 o18
      clear hops o17 o19 o18
      go_enter Try.func287, Try.ntmps287
      go_wp2_with fail
      go_ret
      exact ⟨ret_str HE.out.symm, E0.out⟩
    have o20 : t.op = 20 := by omega
    have HE0 := Lib.hid (show t.kids.length = 0 → t.text = t.s from fun h => by rw [hv.out]; unfold nodeTextOf; rw [if_neg (by omega), if_neg (by omega), if_neg (by omega), if_neg (by omega), if_pos (.inr o20), List.length_map, if_pos h])
    have HE1 := Lib.hid (show 0 < t.kids.length → t.text = ⟨#[40]⟩ ++ (t.s ++ spaced (t.kids.map GNode.text)) ++ ⟨#[41]⟩ from fun h => by
      rw [hv.out]; unfold nodeTextOf; rw [if_neg (by omega), if_neg (by omega), if_neg (by omega), if_neg (by omega), if_pos (.inr o20), List.length_map, if_neg (by omega), spaced_join (by intro e; rw [List.map_eq_nil_iff] at e; rw [e] at h; simp at h)]; simp only [ba_assoc])
    have p17 : (t.op == 17) = false := beq_eq_false_iff_ne.2 o17
    have p18 : (t.op == 18) = false := beq_eq_false_iff_ne.2 o18
    have p19 : (t.op == 19) = false := beq_eq_false_iff_ne.2 o19
    clear hops o17 o18 o19 o20
    go_enter Try.func287, Try.ntmps287
    go_wp2_with fail
    go_loopw [3, 4] (fun s i wr => ∃ (j : Nat), j ≤ t.kids.length ∧ i = .int .i64 j ∧ s = .string (t.s ++ spaced ((t.kids.map GNode.text).take j)) ∧ Hid (Row wr w.heap.size 49 #[.int .i64 t.op, .int .i64 t.n, .string t.s, .string t.t, .slice A1 t.kids.length c1]) ∧ Below w.heap.size w wr) (fun _ i _ => t.kids.length - (intOf i).toNat)
    case atStart => exact ⟨0, by omega, by go_num, by rw [List.take_zero]; simp only [spaced, tnil], R0, E0.out⟩
    case round =>
      clear R0 E0
      obtain ⟨j, hj, rfl, rfl, HR, hbl⟩ := hrel
      have hsz := hbl.size
      have hR := fun i => HR.out.cell i
      have hRl := HR.out.lt
      have hzj := spaced_le (t.kids.map GNode.text) j
      have hzj2 : (spaced ((t.kids.map GNode.text).take j)).size ≤ 41943040 := by omega
      clear hzj
      by_cases hlt : j < t.kids.length
      · obtain ⟨b, off, A2, c2, eA, hSb, g0, g1, g2, g3, g4, hat⟩ := GNode.elem (K0.out.below hbl (Nat.le_refl _)) j hlt
        subst eA
        have HA := Lib.hid (hat.below (Below.refl _ _) hsz)
        have hzk := HZK.out j hlt
        have HT := Lib.hid (spaced_take (t.kids.map GNode.text) j (by simpa using hlt))
        rw [List.getElem_map] at HT
        have HXJ := Lib.hid (HX.out j hlt A2 c2)
        clear hat
        have z1 : ¬ 9223372036854775807 < t.s.size + (spaced ((t.kids.map GNode.text).take j)).size := by omega
        have z2 : ¬ 9223372036854775807 < t.s.size + (spaced ((t.kids.map GNode.text).take j)).size + 1 := by omega
        have z3 : ¬ 9223372036854775807 < t.s.size + (spaced ((t.kids.map GNode.text).take j)).size + 1 + (t.kids[j]).text.size := by omega
        go_wp2_with fail
        refine (HXJ.out _ HA.out).mono ?_
        rintro e w1 ⟨rfl, hb1⟩
        have B1 := Lib.hid (hbl.trans (hb1.mono hsz))
        have R1 := Lib.hid (HR.out.below hb1 hRl)
        clear hb1
        go_wp2_with fail
        go_roundw
        case rel => exact ⟨j + 1, by omega, by go_num, by rw [HT.out]; simp only [ba_assoc], R1, B1.out⟩
        case measure => simp [intOf]; omega
      · have hjl : j = t.kids.length := by omega
        have HT := Lib.hid (show (t.kids.map GNode.text).take j = t.kids.map GNode.text by rw [hjl, List.take_of_length_le (by simp)])
        rw [HT.out] at hzj2
        rw [HT.out]
        by_cases hk0 : t.kids.length = 0
        · have HE := Lib.hid (HE0.out hk0)
          have hS := Lib.hid (show spaced (t.kids.map GNode.text) = ⟨#[]⟩ by rw [List.eq_nil_of_length_eq_zero hk0]; rfl)
          have hg : ¬ (0 : Int) < (t.kids.length : Int) := by omega
          have hg2 : decide ((0 : Int) < (t.kids.length : Int)) = false := decide_eq_false hg
          have hg3 : ¬ 0 < t.kids.length := by omega
          go_wp2_with fail
          go_ret
          exact ⟨ret_str (by rw [HE.out, hS.out, tnil]), hbl⟩
        · have HE := Lib.hid (HE1.out (by omega))
          have hg : (0 : Int) < (t.kids.length : Int) := by omega
          have hg2 : decide ((0 : Int) < (t.kids.length : Int)) = true := decide_eq_true hg
          have hg3 : 0 < t.kids.length := by omega
          have z1 : ¬ 9223372036854775807 < t.s.size + (spaced (t.kids.map GNode.text)).size := by omega
          have z2 : ¬ 9223372036854775807 < 1 + (t.s.size + (spaced (t.kids.map GNode.text)).size) := by omega
          have z3 : ¬ 9223372036854775807 < 1 + (t.s.size + (spaced (t.kids.map GNode.text)).size) + 1 := by omega
          clear hk0
          go_wp2_with fail
          go_ret
          exact ⟨ret_str (by rw [HE.out]), hbl⟩

set_option maxRecDepth 20000 in
theorem specBody_3 (t : GNode) (A1 : Option Addr) (c1 : Nat) (w : World) (hb : t.bulk ≤ 1048576) (o3 : t.op = 3) (hl : t.kids.length = 1) (HE : ∀ x ∈ t.kids, ∀ (A2 : Option Addr) (c2 : Nat) (w2 : World), GNode.At w2 (Lt w2.heap.size) A2 c2 x → Calls Try.prog 165 #[.agg #[.int .i64 x.op, .int .i64 x.n, .string x.s, .string x.t, .slice A2 x.kids.length c2]] w2 fun e w' => e = .returned (.string x.text) ∧ Below w2.heap.size w2 w') (ht : GNode.At w (Lt w.heap.size) A1 c1 t) :
    Calls Try.prog 231 #[.agg #[.int .i64 t.op, .int .i64 t.n, .string t.s, .string t.t, .slice A1 t.kids.length c1]] w fun e w' => e = .returned (.string (bodyOf t.op t.s t.t (bareL t.kids) (t.kids.map GNode.text))) ∧ Below w.heap.size w w' := by
  obtain ⟨h0, h1, h2, h3, hk⟩ := id ht
  have hlen : t.kids.length ≤ 9223372036854775807 := by simpa using hk.len
  have hbe := t.bulk_eq
  have hzs : t.s.size ≤ 1048576 := by omega
  have hzt : t.t.size ≤ 1048576 := by omega
  obtain ⟨w0, ew⟩ : ∃ w0, w0 = (w.alloc (.cells #[.int .i64 t.op, .int .i64 t.n, .string t.s, .string t.t, .slice A1 t.kids.length c1] 49)).alloc (.cells #[.string ⟨#[32, 43, 32]⟩, .string ⟨#[32, 45, 32]⟩, .string ⟨#[32, 42, 32]⟩, .string ⟨#[32, 60, 32]⟩, .string ⟨#[32, 61, 61, 32]⟩] 9) := ⟨_, rfl⟩
  have E := Lib.hid (show Below w.heap.size w w0 by rw [ew]; exact ((Below.refl _ _).alloc (Nat.le_refl _) _).alloc (by simp) _)
  have R := Lib.hid (show Row w0 w.heap.size 49 #[.int .i64 t.op, .int .i64 t.n, .string t.s, .string t.t, .slice A1 t.kids.length c1] by rw [ew]; exact (Row.new _ _ _).alloc _)
  have EQ := Lib.hid ew
  obtain ⟨b0, off0, B0, d0, e0, hS0, x00, x01, x02, x03, x04, hat0⟩ := GNode.elem hk 0 (by omega)
  obtain ⟨x, hx⟩ : ∃ x, x = t.kids[0]'(by omega) := ⟨_, rfl⟩
  rw [← hx] at x00 x01 x02 x03 x04 hat0
  have hmx : x ∈ t.kids := by rw [hx]; exact List.getElem_mem _
  have hzx : x.text.size ≤ 41943060 := big_size (by have := bulkL_mem GNode.bulk t.kids _ hmx; omega)
  have Hx := Lib.hid (fun (wx : World) (hb : Below w0.heap.size w0 wx) => HE x hmx B0 d0 wx (hat0.keep (keep_below (E.out.trans (hb.mono E.out.size)) (Nat.le_trans E.out.size hb.size))))
  have htx := Lib.hid (show atB (t.kids.map GNode.text) 0 = x.text by rw [atB_get (by simp; omega), List.getElem_map, hx])
  simp only [Nat.zero_mul, Nat.one_mul, Nat.add_zero, Nat.reduceMul] at x00 x01 x02 x03 x04
  have e0a := e0
  have eA := e0a
  subst eA
  have u00 : ∀ yy : Up w0, yy.v.cell? ⟨b0, off0, none⟩ = some (.int .i64 x.op) := fun yy => (yy.h.cell (p := ⟨b0, off0, none⟩) (Nat.lt_of_lt_of_le hS0 E.out.size)).trans ((E.out.cell (p := ⟨b0, off0, none⟩) hS0).trans x00)
  have u01 : ∀ yy : Up w0, yy.v.cell? ⟨b0, off0 + 1, none⟩ = some (.int .i64 x.n) := fun yy => (yy.h.cell (p := ⟨b0, off0 + 1, none⟩) (Nat.lt_of_lt_of_le hS0 E.out.size)).trans ((E.out.cell (p := ⟨b0, off0 + 1, none⟩) hS0).trans x01)
  have u02 : ∀ yy : Up w0, yy.v.cell? ⟨b0, off0 + 2, none⟩ = some (.string x.s) := fun yy => (yy.h.cell (p := ⟨b0, off0 + 2, none⟩) (Nat.lt_of_lt_of_le hS0 E.out.size)).trans ((E.out.cell (p := ⟨b0, off0 + 2, none⟩) hS0).trans x02)
  have u03 : ∀ yy : Up w0, yy.v.cell? ⟨b0, off0 + 3, none⟩ = some (.string x.t) := fun yy => (yy.h.cell (p := ⟨b0, off0 + 3, none⟩) (Nat.lt_of_lt_of_le hS0 E.out.size)).trans ((E.out.cell (p := ⟨b0, off0 + 3, none⟩) hS0).trans x03)
  have u04 : ∀ yy : Up w0, yy.v.cell? ⟨b0, off0 + 4, none⟩ = some (.slice B0 x.kids.length d0) := fun yy => (yy.h.cell (p := ⟨b0, off0 + 4, none⟩) (Nat.lt_of_lt_of_le hS0 E.out.size)).trans ((E.out.cell (p := ⟨b0, off0 + 4, none⟩) hS0).trans x04)
  have zz0 : ¬ 9223372036854775807 < 4 + t.s.size := by omega
  have zz1 : ¬ 9223372036854775807 < 4 + t.s.size + 4 := by omega
  have zz2 : ¬ 9223372036854775807 < 4 + t.s.size + 4 + x.text.size := by omega
  have hv := Lib.hid (show bodyOf t.op t.s t.t (bareL t.kids) (t.kids.map GNode.text) = ⟨#[102, 117, 110, 32]⟩ ++ t.s ++ ⟨#[32, 45, 62, 32]⟩ ++ x.text by unfold bodyOf; rw [if_pos o3]; simp only [htx.out, ba_assoc])
  have q0 := upRow R.out
  have hn0 : (0 : Int) < (t.kids.length : Int) := by omega
  have hnn0 : 0 < t.kids.length := by omega
  have p3 : (t.op == 3) = true := beq_iff_eq.2 o3
  clear o3
  clear hl HE ht h0 h1 h2 h3 hk hbe ew hat0 hx hmx x00 x01 x02 x03 x04
  go_enter Try.func231, Try.ntmps231
  go_wp2_with fail
  rw [← EQ.out]
  refine wp_region_up w0 (Below.refl _ _) (by kernel_rfl) (by kernel_rfl) ?_
  repeat (go_big_quiet_step (first | (go_at_call_of 165 x; exact upCall (Hx.out _ (Up.h _)))))
  refine wpQuiet_nil ?_
  rintro w9 ⟨x9, e9⟩
  have B9 := Lib.hid (show Below w0.heap.size w0 w9 by rw [e9]; exact x9.h)
  clear e9 x9 q0
  go_wp2_with fail
  go_ret
  exact ⟨ret_str (by rw [hv.out]), E.out.trans (B9.out.mono E.out.size)⟩

set_option maxRecDepth 20000 in
theorem specBody_5 (t : GNode) (A1 : Option Addr) (c1 : Nat) (w : World) (hb : t.bulk ≤ 1048576) (o5 : t.op = 5) (hl : t.kids.length = 2) (HE : ∀ x ∈ t.kids, ∀ (A2 : Option Addr) (c2 : Nat) (w2 : World), GNode.At w2 (Lt w2.heap.size) A2 c2 x → Calls Try.prog 165 #[.agg #[.int .i64 x.op, .int .i64 x.n, .string x.s, .string x.t, .slice A2 x.kids.length c2]] w2 fun e w' => e = .returned (.string x.text) ∧ Below w2.heap.size w2 w') (ht : GNode.At w (Lt w.heap.size) A1 c1 t) :
    Calls Try.prog 231 #[.agg #[.int .i64 t.op, .int .i64 t.n, .string t.s, .string t.t, .slice A1 t.kids.length c1]] w fun e w' => e = .returned (.string (bodyOf t.op t.s t.t (bareL t.kids) (t.kids.map GNode.text))) ∧ Below w.heap.size w w' := by
  obtain ⟨h0, h1, h2, h3, hk⟩ := id ht
  have hlen : t.kids.length ≤ 9223372036854775807 := by simpa using hk.len
  have hbe := t.bulk_eq
  have hzs : t.s.size ≤ 1048576 := by omega
  have hzt : t.t.size ≤ 1048576 := by omega
  obtain ⟨w0, ew⟩ : ∃ w0, w0 = (w.alloc (.cells #[.int .i64 t.op, .int .i64 t.n, .string t.s, .string t.t, .slice A1 t.kids.length c1] 49)).alloc (.cells #[.string ⟨#[32, 43, 32]⟩, .string ⟨#[32, 45, 32]⟩, .string ⟨#[32, 42, 32]⟩, .string ⟨#[32, 60, 32]⟩, .string ⟨#[32, 61, 61, 32]⟩] 9) := ⟨_, rfl⟩
  have E := Lib.hid (show Below w.heap.size w w0 by rw [ew]; exact ((Below.refl _ _).alloc (Nat.le_refl _) _).alloc (by simp) _)
  have R := Lib.hid (show Row w0 w.heap.size 49 #[.int .i64 t.op, .int .i64 t.n, .string t.s, .string t.t, .slice A1 t.kids.length c1] by rw [ew]; exact (Row.new _ _ _).alloc _)
  have EQ := Lib.hid ew
  obtain ⟨b0, off0, B0, d0, e0, hS0, x00, x01, x02, x03, x04, hat0⟩ := GNode.elem hk 0 (by omega)
  obtain ⟨x, hx⟩ : ∃ x, x = t.kids[0]'(by omega) := ⟨_, rfl⟩
  rw [← hx] at x00 x01 x02 x03 x04 hat0
  have hmx : x ∈ t.kids := by rw [hx]; exact List.getElem_mem _
  have hzx : x.text.size ≤ 41943060 := big_size (by have := bulkL_mem GNode.bulk t.kids _ hmx; omega)
  have Hx := Lib.hid (fun (wx : World) (hb : Below w0.heap.size w0 wx) => HE x hmx B0 d0 wx (hat0.keep (keep_below (E.out.trans (hb.mono E.out.size)) (Nat.le_trans E.out.size hb.size))))
  have htx := Lib.hid (show atB (t.kids.map GNode.text) 0 = x.text by rw [atB_get (by simp; omega), List.getElem_map, hx])
  obtain ⟨b1, off1, B1, d1, e1, hS1, x10, x11, x12, x13, x14, hat1⟩ := GNode.elem hk 1 (by omega)
  obtain ⟨y, hy⟩ : ∃ y, y = t.kids[1]'(by omega) := ⟨_, rfl⟩
  rw [← hy] at x10 x11 x12 x13 x14 hat1
  have hmy : y ∈ t.kids := by rw [hy]; exact List.getElem_mem _
  have hzy : y.text.size ≤ 41943060 := big_size (by have := bulkL_mem GNode.bulk t.kids _ hmy; omega)
  have Hy := Lib.hid (fun (wx : World) (hb : Below w0.heap.size w0 wx) => HE y hmy B1 d1 wx (hat1.keep (keep_below (E.out.trans (hb.mono E.out.size)) (Nat.le_trans E.out.size hb.size))))
  have hty := Lib.hid (show atB (t.kids.map GNode.text) 1 = y.text by rw [atB_get (by simp; omega), List.getElem_map, hy])
  simp only [Nat.zero_mul, Nat.one_mul, Nat.add_zero, Nat.reduceMul] at x00 x01 x02 x03 x04
  have e0a := e0
  simp only [Nat.zero_mul, Nat.one_mul, Nat.add_zero, Nat.reduceMul] at x10 x11 x12 x13 x14
  rw [e0a, Option.some.injEq, Addr.mk.injEq] at e1
  obtain ⟨rfl, rfl, -⟩ := e1
  have eA := e0a
  subst eA
  have u00 : ∀ yy : Up w0, yy.v.cell? ⟨b0, off0, none⟩ = some (.int .i64 x.op) := fun yy => (yy.h.cell (p := ⟨b0, off0, none⟩) (Nat.lt_of_lt_of_le hS0 E.out.size)).trans ((E.out.cell (p := ⟨b0, off0, none⟩) hS0).trans x00)
  have u01 : ∀ yy : Up w0, yy.v.cell? ⟨b0, off0 + 1, none⟩ = some (.int .i64 x.n) := fun yy => (yy.h.cell (p := ⟨b0, off0 + 1, none⟩) (Nat.lt_of_lt_of_le hS0 E.out.size)).trans ((E.out.cell (p := ⟨b0, off0 + 1, none⟩) hS0).trans x01)
  have u02 : ∀ yy : Up w0, yy.v.cell? ⟨b0, off0 + 2, none⟩ = some (.string x.s) := fun yy => (yy.h.cell (p := ⟨b0, off0 + 2, none⟩) (Nat.lt_of_lt_of_le hS0 E.out.size)).trans ((E.out.cell (p := ⟨b0, off0 + 2, none⟩) hS0).trans x02)
  have u03 : ∀ yy : Up w0, yy.v.cell? ⟨b0, off0 + 3, none⟩ = some (.string x.t) := fun yy => (yy.h.cell (p := ⟨b0, off0 + 3, none⟩) (Nat.lt_of_lt_of_le hS0 E.out.size)).trans ((E.out.cell (p := ⟨b0, off0 + 3, none⟩) hS0).trans x03)
  have u04 : ∀ yy : Up w0, yy.v.cell? ⟨b0, off0 + 4, none⟩ = some (.slice B0 x.kids.length d0) := fun yy => (yy.h.cell (p := ⟨b0, off0 + 4, none⟩) (Nat.lt_of_lt_of_le hS0 E.out.size)).trans ((E.out.cell (p := ⟨b0, off0 + 4, none⟩) hS0).trans x04)
  have u10 : ∀ yy : Up w0, yy.v.cell? ⟨b0, off0 + 5, none⟩ = some (.int .i64 y.op) := fun yy => (yy.h.cell (p := ⟨b0, off0 + 5, none⟩) (Nat.lt_of_lt_of_le hS0 E.out.size)).trans ((E.out.cell (p := ⟨b0, off0 + 5, none⟩) hS0).trans x10)
  have u11 : ∀ yy : Up w0, yy.v.cell? ⟨b0, off0 + 5 + 1, none⟩ = some (.int .i64 y.n) := fun yy => (yy.h.cell (p := ⟨b0, off0 + 5 + 1, none⟩) (Nat.lt_of_lt_of_le hS0 E.out.size)).trans ((E.out.cell (p := ⟨b0, off0 + 5 + 1, none⟩) hS0).trans x11)
  have u12 : ∀ yy : Up w0, yy.v.cell? ⟨b0, off0 + 5 + 2, none⟩ = some (.string y.s) := fun yy => (yy.h.cell (p := ⟨b0, off0 + 5 + 2, none⟩) (Nat.lt_of_lt_of_le hS0 E.out.size)).trans ((E.out.cell (p := ⟨b0, off0 + 5 + 2, none⟩) hS0).trans x12)
  have u13 : ∀ yy : Up w0, yy.v.cell? ⟨b0, off0 + 5 + 3, none⟩ = some (.string y.t) := fun yy => (yy.h.cell (p := ⟨b0, off0 + 5 + 3, none⟩) (Nat.lt_of_lt_of_le hS0 E.out.size)).trans ((E.out.cell (p := ⟨b0, off0 + 5 + 3, none⟩) hS0).trans x13)
  have u14 : ∀ yy : Up w0, yy.v.cell? ⟨b0, off0 + 5 + 4, none⟩ = some (.slice B1 y.kids.length d1) := fun yy => (yy.h.cell (p := ⟨b0, off0 + 5 + 4, none⟩) (Nat.lt_of_lt_of_le hS0 E.out.size)).trans ((E.out.cell (p := ⟨b0, off0 + 5 + 4, none⟩) hS0).trans x14)
  have zz0 : ¬ 9223372036854775807 < 4 + t.s.size := by omega
  have zz1 : ¬ 9223372036854775807 < 4 + t.s.size + 3 := by omega
  have zz2 : ¬ 9223372036854775807 < 4 + t.s.size + 3 + x.text.size := by omega
  have zz3 : ¬ 9223372036854775807 < 4 + t.s.size + 3 + x.text.size + 4 := by omega
  have zz4 : ¬ 9223372036854775807 < 4 + t.s.size + 3 + x.text.size + 4 + y.text.size := by omega
  have hv := Lib.hid (show bodyOf t.op t.s t.t (bareL t.kids) (t.kids.map GNode.text) = ⟨#[108, 101, 116, 32]⟩ ++ t.s ++ ⟨#[32, 61, 32]⟩ ++ x.text ++ ⟨#[32, 105, 110, 32]⟩ ++ y.text by unfold bodyOf; rw [if_neg (by omega), if_neg (by omega), if_pos o5]; simp only [htx.out, hty.out, ba_assoc])
  have q0 := upRow R.out
  have hn0 : (0 : Int) < (t.kids.length : Int) := by omega
  have hn1 : (1 : Int) < (t.kids.length : Int) := by omega
  have hnn0 : 0 < t.kids.length := by omega
  have hnn1 : 1 < t.kids.length := by omega
  have p3 : (t.op == 3) = false := beq_eq_false_iff_ne.2 (by omega)
  have p5 : (t.op == 5) = true := beq_iff_eq.2 o5
  clear o5
  clear hl HE ht h0 h1 h2 h3 hk hbe ew hat0 hx hmx x00 x01 x02 x03 x04 hat1 hy hmy x10 x11 x12 x13 x14
  go_enter Try.func231, Try.ntmps231
  go_wp2_with fail
  rw [← EQ.out]
  refine wp_region_up w0 (Below.refl _ _) (by kernel_rfl) (by kernel_rfl) ?_
  repeat (go_big_quiet_step (first | (go_at_call_of 165 x; exact upCall (Hx.out _ (Up.h _))) | (go_at_call_of 165 y; exact upCall (Hy.out _ (Up.h _)))))
  refine wpQuiet_nil ?_
  rintro w9 ⟨x9, e9⟩
  have B9 := Lib.hid (show Below w0.heap.size w0 w9 by rw [e9]; exact x9.h)
  clear e9 x9 q0
  go_wp2_with fail
  go_ret
  exact ⟨ret_str (by rw [hv.out]), E.out.trans (B9.out.mono E.out.size)⟩

set_option maxRecDepth 20000 in
theorem specBody_6 (t : GNode) (A1 : Option Addr) (c1 : Nat) (w : World) (hb : t.bulk ≤ 1048576) (o6 : t.op = 6) (hl : t.kids.length = 2) (HE : ∀ x ∈ t.kids, ∀ (A2 : Option Addr) (c2 : Nat) (w2 : World), GNode.At w2 (Lt w2.heap.size) A2 c2 x → Calls Try.prog 165 #[.agg #[.int .i64 x.op, .int .i64 x.n, .string x.s, .string x.t, .slice A2 x.kids.length c2]] w2 fun e w' => e = .returned (.string x.text) ∧ Below w2.heap.size w2 w') (ht : GNode.At w (Lt w.heap.size) A1 c1 t) :
    Calls Try.prog 231 #[.agg #[.int .i64 t.op, .int .i64 t.n, .string t.s, .string t.t, .slice A1 t.kids.length c1]] w fun e w' => e = .returned (.string (bodyOf t.op t.s t.t (bareL t.kids) (t.kids.map GNode.text))) ∧ Below w.heap.size w w' := by
  obtain ⟨h0, h1, h2, h3, hk⟩ := id ht
  have hlen : t.kids.length ≤ 9223372036854775807 := by simpa using hk.len
  have hbe := t.bulk_eq
  have hzs : t.s.size ≤ 1048576 := by omega
  have hzt : t.t.size ≤ 1048576 := by omega
  obtain ⟨w0, ew⟩ : ∃ w0, w0 = (w.alloc (.cells #[.int .i64 t.op, .int .i64 t.n, .string t.s, .string t.t, .slice A1 t.kids.length c1] 49)).alloc (.cells #[.string ⟨#[32, 43, 32]⟩, .string ⟨#[32, 45, 32]⟩, .string ⟨#[32, 42, 32]⟩, .string ⟨#[32, 60, 32]⟩, .string ⟨#[32, 61, 61, 32]⟩] 9) := ⟨_, rfl⟩
  have E := Lib.hid (show Below w.heap.size w w0 by rw [ew]; exact ((Below.refl _ _).alloc (Nat.le_refl _) _).alloc (by simp) _)
  have R := Lib.hid (show Row w0 w.heap.size 49 #[.int .i64 t.op, .int .i64 t.n, .string t.s, .string t.t, .slice A1 t.kids.length c1] by rw [ew]; exact (Row.new _ _ _).alloc _)
  have EQ := Lib.hid ew
  obtain ⟨b0, off0, B0, d0, e0, hS0, x00, x01, x02, x03, x04, hat0⟩ := GNode.elem hk 0 (by omega)
  obtain ⟨x, hx⟩ : ∃ x, x = t.kids[0]'(by omega) := ⟨_, rfl⟩
  rw [← hx] at x00 x01 x02 x03 x04 hat0
  have hmx : x ∈ t.kids := by rw [hx]; exact List.getElem_mem _
  have hzx : x.text.size ≤ 41943060 := big_size (by have := bulkL_mem GNode.bulk t.kids _ hmx; omega)
  have Hx := Lib.hid (fun (wx : World) (hb : Below w0.heap.size w0 wx) => HE x hmx B0 d0 wx (hat0.keep (keep_below (E.out.trans (hb.mono E.out.size)) (Nat.le_trans E.out.size hb.size))))
  have htx := Lib.hid (show atB (t.kids.map GNode.text) 0 = x.text by rw [atB_get (by simp; omega), List.getElem_map, hx])
  obtain ⟨b1, off1, B1, d1, e1, hS1, x10, x11, x12, x13, x14, hat1⟩ := GNode.elem hk 1 (by omega)
  obtain ⟨y, hy⟩ : ∃ y, y = t.kids[1]'(by omega) := ⟨_, rfl⟩
  rw [← hy] at x10 x11 x12 x13 x14 hat1
  have hmy : y ∈ t.kids := by rw [hy]; exact List.getElem_mem _
  have hzy : y.text.size ≤ 41943060 := big_size (by have := bulkL_mem GNode.bulk t.kids _ hmy; omega)
  have Hy := Lib.hid (fun (wx : World) (hb : Below w0.heap.size w0 wx) => HE y hmy B1 d1 wx (hat1.keep (keep_below (E.out.trans (hb.mono E.out.size)) (Nat.le_trans E.out.size hb.size))))
  have hty := Lib.hid (show atB (t.kids.map GNode.text) 1 = y.text by rw [atB_get (by simp; omega), List.getElem_map, hy])
  simp only [Nat.zero_mul, Nat.one_mul, Nat.add_zero, Nat.reduceMul] at x00 x01 x02 x03 x04
  have e0a := e0
  simp only [Nat.zero_mul, Nat.one_mul, Nat.add_zero, Nat.reduceMul] at x10 x11 x12 x13 x14
  rw [e0a, Option.some.injEq, Addr.mk.injEq] at e1
  obtain ⟨rfl, rfl, -⟩ := e1
  have eA := e0a
  subst eA
  have u00 : ∀ yy : Up w0, yy.v.cell? ⟨b0, off0, none⟩ = some (.int .i64 x.op) := fun yy => (yy.h.cell (p := ⟨b0, off0, none⟩) (Nat.lt_of_lt_of_le hS0 E.out.size)).trans ((E.out.cell (p := ⟨b0, off0, none⟩) hS0).trans x00)
  have u01 : ∀ yy : Up w0, yy.v.cell? ⟨b0, off0 + 1, none⟩ = some (.int .i64 x.n) := fun yy => (yy.h.cell (p := ⟨b0, off0 + 1, none⟩) (Nat.lt_of_lt_of_le hS0 E.out.size)).trans ((E.out.cell (p := ⟨b0, off0 + 1, none⟩) hS0).trans x01)
  have u02 : ∀ yy : Up w0, yy.v.cell? ⟨b0, off0 + 2, none⟩ = some (.string x.s) := fun yy => (yy.h.cell (p := ⟨b0, off0 + 2, none⟩) (Nat.lt_of_lt_of_le hS0 E.out.size)).trans ((E.out.cell (p := ⟨b0, off0 + 2, none⟩) hS0).trans x02)
  have u03 : ∀ yy : Up w0, yy.v.cell? ⟨b0, off0 + 3, none⟩ = some (.string x.t) := fun yy => (yy.h.cell (p := ⟨b0, off0 + 3, none⟩) (Nat.lt_of_lt_of_le hS0 E.out.size)).trans ((E.out.cell (p := ⟨b0, off0 + 3, none⟩) hS0).trans x03)
  have u04 : ∀ yy : Up w0, yy.v.cell? ⟨b0, off0 + 4, none⟩ = some (.slice B0 x.kids.length d0) := fun yy => (yy.h.cell (p := ⟨b0, off0 + 4, none⟩) (Nat.lt_of_lt_of_le hS0 E.out.size)).trans ((E.out.cell (p := ⟨b0, off0 + 4, none⟩) hS0).trans x04)
  have u10 : ∀ yy : Up w0, yy.v.cell? ⟨b0, off0 + 5, none⟩ = some (.int .i64 y.op) := fun yy => (yy.h.cell (p := ⟨b0, off0 + 5, none⟩) (Nat.lt_of_lt_of_le hS0 E.out.size)).trans ((E.out.cell (p := ⟨b0, off0 + 5, none⟩) hS0).trans x10)
  have u11 : ∀ yy : Up w0, yy.v.cell? ⟨b0, off0 + 5 + 1, none⟩ = some (.int .i64 y.n) := fun yy => (yy.h.cell (p := ⟨b0, off0 + 5 + 1, none⟩) (Nat.lt_of_lt_of_le hS0 E.out.size)).trans ((E.out.cell (p := ⟨b0, off0 + 5 + 1, none⟩) hS0).trans x11)
  have u12 : ∀ yy : Up w0, yy.v.cell? ⟨b0, off0 + 5 + 2, none⟩ = some (.string y.s) := fun yy => (yy.h.cell (p := ⟨b0, off0 + 5 + 2, none⟩) (Nat.lt_of_lt_of_le hS0 E.out.size)).trans ((E.out.cell (p := ⟨b0, off0 + 5 + 2, none⟩) hS0).trans x12)
  have u13 : ∀ yy : Up w0, yy.v.cell? ⟨b0, off0 + 5 + 3, none⟩ = some (.string y.t) := fun yy => (yy.h.cell (p := ⟨b0, off0 + 5 + 3, none⟩) (Nat.lt_of_lt_of_le hS0 E.out.size)).trans ((E.out.cell (p := ⟨b0, off0 + 5 + 3, none⟩) hS0).trans x13)
  have u14 : ∀ yy : Up w0, yy.v.cell? ⟨b0, off0 + 5 + 4, none⟩ = some (.slice B1 y.kids.length d1) := fun yy => (yy.h.cell (p := ⟨b0, off0 + 5 + 4, none⟩) (Nat.lt_of_lt_of_le hS0 E.out.size)).trans ((E.out.cell (p := ⟨b0, off0 + 5 + 4, none⟩) hS0).trans x14)
  have zz0 : ¬ 9223372036854775807 < 4 + t.s.size := by omega
  have zz1 : ¬ 9223372036854775807 < 4 + t.s.size + 1 := by omega
  have zz2 : ¬ 9223372036854775807 < 4 + t.s.size + 1 + t.t.size := by omega
  have zz3 : ¬ 9223372036854775807 < 4 + t.s.size + 1 + t.t.size + 3 := by omega
  have zz4 : ¬ 9223372036854775807 < 4 + t.s.size + 1 + t.t.size + 3 + x.text.size := by omega
  have zz5 : ¬ 9223372036854775807 < 4 + t.s.size + 1 + t.t.size + 3 + x.text.size + 4 := by omega
  have zz6 : ¬ 9223372036854775807 < 4 + t.s.size + 1 + t.t.size + 3 + x.text.size + 4 + y.text.size := by omega
  have hv := Lib.hid (show bodyOf t.op t.s t.t (bareL t.kids) (t.kids.map GNode.text) = ⟨#[114, 101, 99, 32]⟩ ++ t.s ++ ⟨#[32]⟩ ++ t.t ++ ⟨#[32, 61, 32]⟩ ++ x.text ++ ⟨#[32, 105, 110, 32]⟩ ++ y.text by unfold bodyOf; rw [if_neg (by omega), if_neg (by omega), if_neg (by omega), if_pos o6]; simp only [htx.out, hty.out, ba_assoc])
  have q0 := upRow R.out
  have hn0 : (0 : Int) < (t.kids.length : Int) := by omega
  have hn1 : (1 : Int) < (t.kids.length : Int) := by omega
  have hnn0 : 0 < t.kids.length := by omega
  have hnn1 : 1 < t.kids.length := by omega
  have p3 : (t.op == 3) = false := beq_eq_false_iff_ne.2 (by omega)
  have p5 : (t.op == 5) = false := beq_eq_false_iff_ne.2 (by omega)
  have p6 : (t.op == 6) = true := beq_iff_eq.2 o6
  clear o6
  clear hl HE ht h0 h1 h2 h3 hk hbe ew hat0 hx hmx x00 x01 x02 x03 x04 hat1 hy hmy x10 x11 x12 x13 x14
  go_enter Try.func231, Try.ntmps231
  go_wp2_with fail
  rw [← EQ.out]
  refine wp_region_up w0 (Below.refl _ _) (by kernel_rfl) (by kernel_rfl) ?_
  repeat (go_big_quiet_step (first | (go_at_call_of 165 x; exact upCall (Hx.out _ (Up.h _))) | (go_at_call_of 165 y; exact upCall (Hy.out _ (Up.h _)))))
  refine wpQuiet_nil ?_
  rintro w9 ⟨x9, e9⟩
  have B9 := Lib.hid (show Below w0.heap.size w0 w9 by rw [e9]; exact x9.h)
  clear e9 x9 q0
  go_wp2_with fail
  go_ret
  exact ⟨ret_str (by rw [hv.out]), E.out.trans (B9.out.mono E.out.size)⟩

set_option maxRecDepth 20000 in
theorem specBody_9 (t : GNode) (A1 : Option Addr) (c1 : Nat) (w : World) (hb : t.bulk ≤ 1048576) (o9 : t.op = 9) (hl : t.kids.length = 3) (HE : ∀ x ∈ t.kids, ∀ (A2 : Option Addr) (c2 : Nat) (w2 : World), GNode.At w2 (Lt w2.heap.size) A2 c2 x → Calls Try.prog 165 #[.agg #[.int .i64 x.op, .int .i64 x.n, .string x.s, .string x.t, .slice A2 x.kids.length c2]] w2 fun e w' => e = .returned (.string x.text) ∧ Below w2.heap.size w2 w') (ht : GNode.At w (Lt w.heap.size) A1 c1 t) :
    Calls Try.prog 231 #[.agg #[.int .i64 t.op, .int .i64 t.n, .string t.s, .string t.t, .slice A1 t.kids.length c1]] w fun e w' => e = .returned (.string (bodyOf t.op t.s t.t (bareL t.kids) (t.kids.map GNode.text))) ∧ Below w.heap.size w w' := by
  obtain ⟨h0, h1, h2, h3, hk⟩ := id ht
  have hlen : t.kids.length ≤ 9223372036854775807 := by simpa using hk.len
  have hbe := t.bulk_eq
  have hzs : t.s.size ≤ 1048576 := by omega
  have hzt : t.t.size ≤ 1048576 := by omega
  obtain ⟨w0, ew⟩ : ∃ w0, w0 = (w.alloc (.cells #[.int .i64 t.op, .int .i64 t.n, .string t.s, .string t.t, .slice A1 t.kids.length c1] 49)).alloc (.cells #[.string ⟨#[32, 43, 32]⟩, .string ⟨#[32, 45, 32]⟩, .string ⟨#[32, 42, 32]⟩, .string ⟨#[32, 60, 32]⟩, .string ⟨#[32, 61, 61, 32]⟩] 9) := ⟨_, rfl⟩
  have E := Lib.hid (show Below w.heap.size w w0 by rw [ew]; exact ((Below.refl _ _).alloc (Nat.le_refl _) _).alloc (by simp) _)
  have R := Lib.hid (show Row w0 w.heap.size 49 #[.int .i64 t.op, .int .i64 t.n, .string t.s, .string t.t, .slice A1 t.kids.length c1] by rw [ew]; exact (Row.new _ _ _).alloc _)
  have EQ := Lib.hid ew
  obtain ⟨b0, off0, B0, d0, e0, hS0, x00, x01, x02, x03, x04, hat0⟩ := GNode.elem hk 0 (by omega)
  obtain ⟨x, hx⟩ : ∃ x, x = t.kids[0]'(by omega) := ⟨_, rfl⟩
  rw [← hx] at x00 x01 x02 x03 x04 hat0
  have hmx : x ∈ t.kids := by rw [hx]; exact List.getElem_mem _
  have hzx : x.text.size ≤ 41943060 := big_size (by have := bulkL_mem GNode.bulk t.kids _ hmx; omega)
  have Hx := Lib.hid (fun (wx : World) (hb : Below w0.heap.size w0 wx) => HE x hmx B0 d0 wx (hat0.keep (keep_below (E.out.trans (hb.mono E.out.size)) (Nat.le_trans E.out.size hb.size))))
  have htx := Lib.hid (show atB (t.kids.map GNode.text) 0 = x.text by rw [atB_get (by simp; omega), List.getElem_map, hx])
  obtain ⟨b1, off1, B1, d1, e1, hS1, x10, x11, x12, x13, x14, hat1⟩ := GNode.elem hk 1 (by omega)
  obtain ⟨y, hy⟩ : ∃ y, y = t.kids[1]'(by omega) := ⟨_, rfl⟩
  rw [← hy] at x10 x11 x12 x13 x14 hat1
  have hmy : y ∈ t.kids := by rw [hy]; exact List.getElem_mem _
  have hzy : y.text.size ≤ 41943060 := big_size (by have := bulkL_mem GNode.bulk t.kids _ hmy; omega)
  have Hy := Lib.hid (fun (wx : World) (hb : Below w0.heap.size w0 wx) => HE y hmy B1 d1 wx (hat1.keep (keep_below (E.out.trans (hb.mono E.out.size)) (Nat.le_trans E.out.size hb.size))))
  have hty := Lib.hid (show atB (t.kids.map GNode.text) 1 = y.text by rw [atB_get (by simp; omega), List.getElem_map, hy])
  obtain ⟨b2, off2, B2, d2, e2, hS2, x20, x21, x22, x23, x24, hat2⟩ := GNode.elem hk 2 (by omega)
  obtain ⟨z, hz⟩ : ∃ z, z = t.kids[2]'(by omega) := ⟨_, rfl⟩
  rw [← hz] at x20 x21 x22 x23 x24 hat2
  have hmz : z ∈ t.kids := by rw [hz]; exact List.getElem_mem _
  have hzz : z.text.size ≤ 41943060 := big_size (by have := bulkL_mem GNode.bulk t.kids _ hmz; omega)
  have Hz := Lib.hid (fun (wx : World) (hb : Below w0.heap.size w0 wx) => HE z hmz B2 d2 wx (hat2.keep (keep_below (E.out.trans (hb.mono E.out.size)) (Nat.le_trans E.out.size hb.size))))
  have htz := Lib.hid (show atB (t.kids.map GNode.text) 2 = z.text by rw [atB_get (by simp; omega), List.getElem_map, hz])
  simp only [Nat.zero_mul, Nat.one_mul, Nat.add_zero, Nat.reduceMul] at x00 x01 x02 x03 x04
  have e0a := e0
  simp only [Nat.zero_mul, Nat.one_mul, Nat.add_zero, Nat.reduceMul] at x10 x11 x12 x13 x14
  rw [e0a, Option.some.injEq, Addr.mk.injEq] at e1
  obtain ⟨rfl, rfl, -⟩ := e1
  simp only [Nat.zero_mul, Nat.one_mul, Nat.add_zero, Nat.reduceMul] at x20 x21 x22 x23 x24
  rw [e0a, Option.some.injEq, Addr.mk.injEq] at e2
  obtain ⟨rfl, rfl, -⟩ := e2
  have eA := e0a
  subst eA
  have u00 : ∀ yy : Up w0, yy.v.cell? ⟨b0, off0, none⟩ = some (.int .i64 x.op) := fun yy => (yy.h.cell (p := ⟨b0, off0, none⟩) (Nat.lt_of_lt_of_le hS0 E.out.size)).trans ((E.out.cell (p := ⟨b0, off0, none⟩) hS0).trans x00)
  have u01 : ∀ yy : Up w0, yy.v.cell? ⟨b0, off0 + 1, none⟩ = some (.int .i64 x.n) := fun yy => (yy.h.cell (p := ⟨b0, off0 + 1, none⟩) (Nat.lt_of_lt_of_le hS0 E.out.size)).trans ((E.out.cell (p := ⟨b0, off0 + 1, none⟩) hS0).trans x01)
  have u02 : ∀ yy : Up w0, yy.v.cell? ⟨b0, off0 + 2, none⟩ = some (.string x.s) := fun yy => (yy.h.cell (p := ⟨b0, off0 + 2, none⟩) (Nat.lt_of_lt_of_le hS0 E.out.size)).trans ((E.out.cell (p := ⟨b0, off0 + 2, none⟩) hS0).trans x02)
  have u03 : ∀ yy : Up w0, yy.v.cell? ⟨b0, off0 + 3, none⟩ = some (.string x.t) := fun yy => (yy.h.cell (p := ⟨b0, off0 + 3, none⟩) (Nat.lt_of_lt_of_le hS0 E.out.size)).trans ((E.out.cell (p := ⟨b0, off0 + 3, none⟩) hS0).trans x03)
  have u04 : ∀ yy : Up w0, yy.v.cell? ⟨b0, off0 + 4, none⟩ = some (.slice B0 x.kids.length d0) := fun yy => (yy.h.cell (p := ⟨b0, off0 + 4, none⟩) (Nat.lt_of_lt_of_le hS0 E.out.size)).trans ((E.out.cell (p := ⟨b0, off0 + 4, none⟩) hS0).trans x04)
  have u10 : ∀ yy : Up w0, yy.v.cell? ⟨b0, off0 + 5, none⟩ = some (.int .i64 y.op) := fun yy => (yy.h.cell (p := ⟨b0, off0 + 5, none⟩) (Nat.lt_of_lt_of_le hS0 E.out.size)).trans ((E.out.cell (p := ⟨b0, off0 + 5, none⟩) hS0).trans x10)
  have u11 : ∀ yy : Up w0, yy.v.cell? ⟨b0, off0 + 5 + 1, none⟩ = some (.int .i64 y.n) := fun yy => (yy.h.cell (p := ⟨b0, off0 + 5 + 1, none⟩) (Nat.lt_of_lt_of_le hS0 E.out.size)).trans ((E.out.cell (p := ⟨b0, off0 + 5 + 1, none⟩) hS0).trans x11)
  have u12 : ∀ yy : Up w0, yy.v.cell? ⟨b0, off0 + 5 + 2, none⟩ = some (.string y.s) := fun yy => (yy.h.cell (p := ⟨b0, off0 + 5 + 2, none⟩) (Nat.lt_of_lt_of_le hS0 E.out.size)).trans ((E.out.cell (p := ⟨b0, off0 + 5 + 2, none⟩) hS0).trans x12)
  have u13 : ∀ yy : Up w0, yy.v.cell? ⟨b0, off0 + 5 + 3, none⟩ = some (.string y.t) := fun yy => (yy.h.cell (p := ⟨b0, off0 + 5 + 3, none⟩) (Nat.lt_of_lt_of_le hS0 E.out.size)).trans ((E.out.cell (p := ⟨b0, off0 + 5 + 3, none⟩) hS0).trans x13)
  have u14 : ∀ yy : Up w0, yy.v.cell? ⟨b0, off0 + 5 + 4, none⟩ = some (.slice B1 y.kids.length d1) := fun yy => (yy.h.cell (p := ⟨b0, off0 + 5 + 4, none⟩) (Nat.lt_of_lt_of_le hS0 E.out.size)).trans ((E.out.cell (p := ⟨b0, off0 + 5 + 4, none⟩) hS0).trans x14)
  have u20 : ∀ yy : Up w0, yy.v.cell? ⟨b0, off0 + 10, none⟩ = some (.int .i64 z.op) := fun yy => (yy.h.cell (p := ⟨b0, off0 + 10, none⟩) (Nat.lt_of_lt_of_le hS0 E.out.size)).trans ((E.out.cell (p := ⟨b0, off0 + 10, none⟩) hS0).trans x20)
  have u21 : ∀ yy : Up w0, yy.v.cell? ⟨b0, off0 + 10 + 1, none⟩ = some (.int .i64 z.n) := fun yy => (yy.h.cell (p := ⟨b0, off0 + 10 + 1, none⟩) (Nat.lt_of_lt_of_le hS0 E.out.size)).trans ((E.out.cell (p := ⟨b0, off0 + 10 + 1, none⟩) hS0).trans x21)
  have u22 : ∀ yy : Up w0, yy.v.cell? ⟨b0, off0 + 10 + 2, none⟩ = some (.string z.s) := fun yy => (yy.h.cell (p := ⟨b0, off0 + 10 + 2, none⟩) (Nat.lt_of_lt_of_le hS0 E.out.size)).trans ((E.out.cell (p := ⟨b0, off0 + 10 + 2, none⟩) hS0).trans x22)
  have u23 : ∀ yy : Up w0, yy.v.cell? ⟨b0, off0 + 10 + 3, none⟩ = some (.string z.t) := fun yy => (yy.h.cell (p := ⟨b0, off0 + 10 + 3, none⟩) (Nat.lt_of_lt_of_le hS0 E.out.size)).trans ((E.out.cell (p := ⟨b0, off0 + 10 + 3, none⟩) hS0).trans x23)
  have u24 : ∀ yy : Up w0, yy.v.cell? ⟨b0, off0 + 10 + 4, none⟩ = some (.slice B2 z.kids.length d2) := fun yy => (yy.h.cell (p := ⟨b0, off0 + 10 + 4, none⟩) (Nat.lt_of_lt_of_le hS0 E.out.size)).trans ((E.out.cell (p := ⟨b0, off0 + 10 + 4, none⟩) hS0).trans x24)
  have zz0 : ¬ 9223372036854775807 < 3 + x.text.size := by omega
  have zz1 : ¬ 9223372036854775807 < 3 + x.text.size + 6 := by omega
  have zz2 : ¬ 9223372036854775807 < 3 + x.text.size + 6 + y.text.size := by omega
  have zz3 : ¬ 9223372036854775807 < 3 + x.text.size + 6 + y.text.size + 6 := by omega
  have zz4 : ¬ 9223372036854775807 < 3 + x.text.size + 6 + y.text.size + 6 + z.text.size := by omega
  have hv := Lib.hid (show bodyOf t.op t.s t.t (bareL t.kids) (t.kids.map GNode.text) = ⟨#[105, 102, 32]⟩ ++ x.text ++ ⟨#[32, 116, 104, 101, 110, 32]⟩ ++ y.text ++ ⟨#[32, 101, 108, 115, 101, 32]⟩ ++ z.text by unfold bodyOf; rw [if_neg (by omega), if_neg (by omega), if_neg (by omega), if_neg (by omega), if_neg (by omega), if_pos o9]; simp only [htx.out, hty.out, htz.out, ba_assoc])
  have q0 := upRow R.out
  have hn0 : (0 : Int) < (t.kids.length : Int) := by omega
  have hn1 : (1 : Int) < (t.kids.length : Int) := by omega
  have hn2 : (2 : Int) < (t.kids.length : Int) := by omega
  have hnn0 : 0 < t.kids.length := by omega
  have hnn1 : 1 < t.kids.length := by omega
  have hnn2 : 2 < t.kids.length := by omega
  have p3 : (t.op == 3) = false := beq_eq_false_iff_ne.2 (by omega)
  have p5 : (t.op == 5) = false := beq_eq_false_iff_ne.2 (by omega)
  have p6 : (t.op == 6) = false := beq_eq_false_iff_ne.2 (by omega)
  have p9 : (t.op == 9) = true := beq_iff_eq.2 o9
  clear o9
  clear hl HE ht h0 h1 h2 h3 hk hbe ew hat0 hx hmx x00 x01 x02 x03 x04 hat1 hy hmy x10 x11 x12 x13 x14 hat2 hz hmz x20 x21 x22 x23 x24
  go_enter Try.func231, Try.ntmps231
  go_wp2_with fail
  rw [← EQ.out]
  refine wp_region_up w0 (Below.refl _ _) (by kernel_rfl) (by kernel_rfl) ?_
  repeat (go_big_quiet_step (first | (go_at_call_of 165 x; exact upCall (Hx.out _ (Up.h _))) | (go_at_call_of 165 y; exact upCall (Hy.out _ (Up.h _))) | (go_at_call_of 165 z; exact upCall (Hz.out _ (Up.h _)))))
  refine wpQuiet_nil ?_
  rintro w9 ⟨x9, e9⟩
  have B9 := Lib.hid (show Below w0.heap.size w0 w9 by rw [e9]; exact x9.h)
  clear e9 x9 q0
  go_wp2_with fail
  go_ret
  exact ⟨ret_str (by rw [hv.out]), E.out.trans (B9.out.mono E.out.size)⟩

set_option maxRecDepth 20000 in
theorem specBody_16 (t : GNode) (A1 : Option Addr) (c1 : Nat) (w : World) (hb : t.bulk ≤ 1048576) (o16 : t.op = 16) (hl : t.kids.length = 1) (HE : ∀ x ∈ t.kids, ∀ (A2 : Option Addr) (c2 : Nat) (w2 : World), GNode.At w2 (Lt w2.heap.size) A2 c2 x → Calls Try.prog 165 #[.agg #[.int .i64 x.op, .int .i64 x.n, .string x.s, .string x.t, .slice A2 x.kids.length c2]] w2 fun e w' => e = .returned (.string x.text) ∧ Below w2.heap.size w2 w') (ht : GNode.At w (Lt w.heap.size) A1 c1 t) :
    Calls Try.prog 231 #[.agg #[.int .i64 t.op, .int .i64 t.n, .string t.s, .string t.t, .slice A1 t.kids.length c1]] w fun e w' => e = .returned (.string (bodyOf t.op t.s t.t (bareL t.kids) (t.kids.map GNode.text))) ∧ Below w.heap.size w w' := by
  obtain ⟨h0, h1, h2, h3, hk⟩ := id ht
  have hlen : t.kids.length ≤ 9223372036854775807 := by simpa using hk.len
  have hbe := t.bulk_eq
  have hzs : t.s.size ≤ 1048576 := by omega
  have hzt : t.t.size ≤ 1048576 := by omega
  obtain ⟨w0, ew⟩ : ∃ w0, w0 = (w.alloc (.cells #[.int .i64 t.op, .int .i64 t.n, .string t.s, .string t.t, .slice A1 t.kids.length c1] 49)).alloc (.cells #[.string ⟨#[32, 43, 32]⟩, .string ⟨#[32, 45, 32]⟩, .string ⟨#[32, 42, 32]⟩, .string ⟨#[32, 60, 32]⟩, .string ⟨#[32, 61, 61, 32]⟩] 9) := ⟨_, rfl⟩
  have E := Lib.hid (show Below w.heap.size w w0 by rw [ew]; exact ((Below.refl _ _).alloc (Nat.le_refl _) _).alloc (by simp) _)
  have R := Lib.hid (show Row w0 w.heap.size 49 #[.int .i64 t.op, .int .i64 t.n, .string t.s, .string t.t, .slice A1 t.kids.length c1] by rw [ew]; exact (Row.new _ _ _).alloc _)
  have EQ := Lib.hid ew
  obtain ⟨b0, off0, B0, d0, e0, hS0, x00, x01, x02, x03, x04, hat0⟩ := GNode.elem hk 0 (by omega)
  obtain ⟨x, hx⟩ : ∃ x, x = t.kids[0]'(by omega) := ⟨_, rfl⟩
  rw [← hx] at x00 x01 x02 x03 x04 hat0
  have hmx : x ∈ t.kids := by rw [hx]; exact List.getElem_mem _
  have hzx : x.text.size ≤ 41943060 := big_size (by have := bulkL_mem GNode.bulk t.kids _ hmx; omega)
  have Hx := Lib.hid (fun (wx : World) (hb : Below w0.heap.size w0 wx) => HE x hmx B0 d0 wx (hat0.keep (keep_below (E.out.trans (hb.mono E.out.size)) (Nat.le_trans E.out.size hb.size))))
  have htx := Lib.hid (show atB (t.kids.map GNode.text) 0 = x.text by rw [atB_get (by simp; omega), List.getElem_map, hx])
  simp only [Nat.zero_mul, Nat.one_mul, Nat.add_zero, Nat.reduceMul] at x00 x01 x02 x03 x04
  have e0a := e0
  have eA := e0a
  subst eA
  have u00 : ∀ yy : Up w0, yy.v.cell? ⟨b0, off0, none⟩ = some (.int .i64 x.op) := fun yy => (yy.h.cell (p := ⟨b0, off0, none⟩) (Nat.lt_of_lt_of_le hS0 E.out.size)).trans ((E.out.cell (p := ⟨b0, off0, none⟩) hS0).trans x00)
  have u01 : ∀ yy : Up w0, yy.v.cell? ⟨b0, off0 + 1, none⟩ = some (.int .i64 x.n) := fun yy => (yy.h.cell (p := ⟨b0, off0 + 1, none⟩) (Nat.lt_of_lt_of_le hS0 E.out.size)).trans ((E.out.cell (p := ⟨b0, off0 + 1, none⟩) hS0).trans x01)
  have u02 : ∀ yy : Up w0, yy.v.cell? ⟨b0, off0 + 2, none⟩ = some (.string x.s) := fun yy => (yy.h.cell (p := ⟨b0, off0 + 2, none⟩) (Nat.lt_of_lt_of_le hS0 E.out.size)).trans ((E.out.cell (p := ⟨b0, off0 + 2, none⟩) hS0).trans x02)
  have u03 : ∀ yy : Up w0, yy.v.cell? ⟨b0, off0 + 3, none⟩ = some (.string x.t) := fun yy => (yy.h.cell (p := ⟨b0, off0 + 3, none⟩) (Nat.lt_of_lt_of_le hS0 E.out.size)).trans ((E.out.cell (p := ⟨b0, off0 + 3, none⟩) hS0).trans x03)
  have u04 : ∀ yy : Up w0, yy.v.cell? ⟨b0, off0 + 4, none⟩ = some (.slice B0 x.kids.length d0) := fun yy => (yy.h.cell (p := ⟨b0, off0 + 4, none⟩) (Nat.lt_of_lt_of_le hS0 E.out.size)).trans ((E.out.cell (p := ⟨b0, off0 + 4, none⟩) hS0).trans x04)
  have zz0 : ¬ 9223372036854775807 < 4 + x.text.size := by omega
  have hv := Lib.hid (show bodyOf t.op t.s t.t (bareL t.kids) (t.kids.map GNode.text) = ⟨#[112, 117, 116, 32]⟩ ++ x.text by unfold bodyOf; rw [if_neg (by omega), if_neg (by omega), if_neg (by omega), if_neg (by omega), if_neg (by omega), if_neg (by omega), if_pos o16]; simp only [htx.out, ba_assoc])
  have q0 := upRow R.out
  have hn0 : (0 : Int) < (t.kids.length : Int) := by omega
  have hnn0 : 0 < t.kids.length := by omega
  have hc0 := fun i => R.out.cell i
  have y00 : w0.cell? ⟨b0, off0, none⟩ = some (.int .i64 x.op) := u00 ⟨w0, Below.refl _ _⟩
  have y01 : w0.cell? ⟨b0, off0 + 1, none⟩ = some (.int .i64 x.n) := u01 ⟨w0, Below.refl _ _⟩
  have y02 : w0.cell? ⟨b0, off0 + 2, none⟩ = some (.string x.s) := u02 ⟨w0, Below.refl _ _⟩
  have y03 : w0.cell? ⟨b0, off0 + 3, none⟩ = some (.string x.t) := u03 ⟨w0, Below.refl _ _⟩
  have y04 : w0.cell? ⟨b0, off0 + 4, none⟩ = some (.slice B0 x.kids.length d0) := u04 ⟨w0, Below.refl _ _⟩
  rw [EQ.out] at y00 y01 y02 y03 y04
  clear u00 u01 u02 u03 u04
  have p3 : (t.op == 3) = false := beq_eq_false_iff_ne.2 (by omega)
  have p5 : (t.op == 5) = false := beq_eq_false_iff_ne.2 (by omega)
  have p6 : (t.op == 6) = false := beq_eq_false_iff_ne.2 (by omega)
  have p9 : (t.op == 9) = false := beq_eq_false_iff_ne.2 (by omega)
  have p7 : (t.op == 7) = false := beq_eq_false_iff_ne.2 (by omega)
  have p16 : (t.op == 16) = true := beq_iff_eq.2 o16
  clear o16
  clear hl HE ht h0 h1 h2 h3 hk hbe ew hat0 hx hmx x00 x01 x02 x03 x04
  go_enter Try.func231, Try.ntmps231
  go_wp2_with fail
  rw [← EQ.out]
  refine (Hx.out _ (Below.refl _ _)).mono ?_
  rintro e w9 ⟨rfl, hb9⟩
  have B9 := Lib.hid hb9
  clear hb9
  go_wp2_with fail
  go_ret
  exact ⟨ret_str (by rw [hv.out]), E.out.trans (B9.out.mono E.out.size)⟩

end Go.Proofs.Ytgbcdfeflgnogaa

/- Reckonings as text, in the reference. Conditions: what the program holds is at most 1048576. -/
namespace Go.Proofs.Ytgbcdfeflgnogaa
open Go.RowKit Go.BigFrame
set_option linter.unusedVariables false
set_option linter.unusedSimpArgs false
set_option maxHeartbeats 4000000

theorem sgn3 (a : UInt8) (z : ByteArray) : (⟨#[32]⟩ ++ (⟨#[a]⟩ ++ (⟨#[32]⟩ ++ z)) : ByteArray) = ⟨#[32, a, 32]⟩ ++ z := by rw [← ba_assoc, ← ba_assoc]; rfl
theorem sgn4 (a b : UInt8) (z : ByteArray) : (⟨#[32]⟩ ++ (⟨#[a, b]⟩ ++ (⟨#[32]⟩ ++ z)) : ByteArray) = ⟨#[32, a, b, 32]⟩ ++ z := by rw [← ba_assoc, ← ba_assoc]; rfl

set_option maxRecDepth 20000 in
theorem specBody_10 (t : GNode) (A1 : Option Addr) (c1 : Nat) (w : World) (hb : t.bulk ≤ 1048576) (o10 : t.op = 10) (hl : t.kids.length = 2) (HE : ∀ x ∈ t.kids, ∀ (A2 : Option Addr) (c2 : Nat) (w2 : World), GNode.At w2 (Lt w2.heap.size) A2 c2 x → Calls Try.prog 165 #[.agg #[.int .i64 x.op, .int .i64 x.n, .string x.s, .string x.t, .slice A2 x.kids.length c2]] w2 fun e w' => e = .returned (.string x.text) ∧ Below w2.heap.size w2 w') (ht : GNode.At w (Lt w.heap.size) A1 c1 t) :
    Calls Try.prog 231 #[.agg #[.int .i64 t.op, .int .i64 t.n, .string t.s, .string t.t, .slice A1 t.kids.length c1]] w fun e w' => e = .returned (.string (bodyOf t.op t.s t.t (bareL t.kids) (t.kids.map GNode.text))) ∧ Below w.heap.size w w' := by
  obtain ⟨h0, h1, h2, h3, hk⟩ := id ht
  have hlen : t.kids.length ≤ 9223372036854775807 := by simpa using hk.len
  have hbe := t.bulk_eq
  have hzs : t.s.size ≤ 1048576 := by omega
  have hzt : t.t.size ≤ 1048576 := by omega
  obtain ⟨w0, ew⟩ : ∃ w0, w0 = (w.alloc (.cells #[.int .i64 t.op, .int .i64 t.n, .string t.s, .string t.t, .slice A1 t.kids.length c1] 49)).alloc (.cells #[.string ⟨#[32, 43, 32]⟩, .string ⟨#[32, 45, 32]⟩, .string ⟨#[32, 42, 32]⟩, .string ⟨#[32, 60, 32]⟩, .string ⟨#[32, 61, 61, 32]⟩] 9) := ⟨_, rfl⟩
  have E := Lib.hid (show Below w.heap.size w w0 by rw [ew]; exact ((Below.refl _ _).alloc (Nat.le_refl _) _).alloc (by simp) _)
  have R := Lib.hid (show Row w0 w.heap.size 49 #[.int .i64 t.op, .int .i64 t.n, .string t.s, .string t.t, .slice A1 t.kids.length c1] by rw [ew]; exact (Row.new _ _ _).alloc _)
  have EQ := Lib.hid ew
  have RS := Lib.hid (show Row w0 (w.heap.size + 1) 9 #[.string ⟨#[32, 43, 32]⟩, .string ⟨#[32, 45, 32]⟩, .string ⟨#[32, 42, 32]⟩, .string ⟨#[32, 60, 32]⟩, .string ⟨#[32, 61, 61, 32]⟩] by rw [ew]; exact Row.new' _ _ _ (by simp))
  obtain ⟨b0, off0, B0, d0, e0, hS0, x00, x01, x02, x03, x04, hat0⟩ := GNode.elem hk 0 (by omega)
  obtain ⟨x, hx⟩ : ∃ x, x = t.kids[0]'(by omega) := ⟨_, rfl⟩
  rw [← hx] at x00 x01 x02 x03 x04 hat0
  have hmx : x ∈ t.kids := by rw [hx]; exact List.getElem_mem _
  have hzx : x.text.size ≤ 41943060 := big_size (by have := bulkL_mem GNode.bulk t.kids _ hmx; omega)
  have Hx := Lib.hid (fun (wx : World) (hb : Below w0.heap.size w0 wx) => HE x hmx B0 d0 wx (hat0.keep (keep_below (E.out.trans (hb.mono E.out.size)) (Nat.le_trans E.out.size hb.size))))
  have htx := Lib.hid (show atB (t.kids.map GNode.text) 0 = x.text by rw [atB_get (by simp; omega), List.getElem_map, hx])
  obtain ⟨b1, off1, B1, d1, e1, hS1, x10, x11, x12, x13, x14, hat1⟩ := GNode.elem hk 1 (by omega)
  obtain ⟨y, hy⟩ : ∃ y, y = t.kids[1]'(by omega) := ⟨_, rfl⟩
  rw [← hy] at x10 x11 x12 x13 x14 hat1
  have hmy : y ∈ t.kids := by rw [hy]; exact List.getElem_mem _
  have hzy : y.text.size ≤ 41943060 := big_size (by have := bulkL_mem GNode.bulk t.kids _ hmy; omega)
  have Hy := Lib.hid (fun (wx : World) (hb : Below w0.heap.size w0 wx) => HE y hmy B1 d1 wx (hat1.keep (keep_below (E.out.trans (hb.mono E.out.size)) (Nat.le_trans E.out.size hb.size))))
  have hty := Lib.hid (show atB (t.kids.map GNode.text) 1 = y.text by rw [atB_get (by simp; omega), List.getElem_map, hy])
  simp only [Nat.zero_mul, Nat.one_mul, Nat.add_zero, Nat.reduceMul] at x00 x01 x02 x03 x04
  have e0a := e0
  simp only [Nat.zero_mul, Nat.one_mul, Nat.add_zero, Nat.reduceMul] at x10 x11 x12 x13 x14
  rw [e0a, Option.some.injEq, Addr.mk.injEq] at e1
  obtain ⟨rfl, rfl, -⟩ := e1
  have eA := e0a
  subst eA
  have u00 : ∀ yy : Up w0, yy.v.cell? ⟨b0, off0, none⟩ = some (.int .i64 x.op) := fun yy => (yy.h.cell (p := ⟨b0, off0, none⟩) (Nat.lt_of_lt_of_le hS0 E.out.size)).trans ((E.out.cell (p := ⟨b0, off0, none⟩) hS0).trans x00)
  have u01 : ∀ yy : Up w0, yy.v.cell? ⟨b0, off0 + 1, none⟩ = some (.int .i64 x.n) := fun yy => (yy.h.cell (p := ⟨b0, off0 + 1, none⟩) (Nat.lt_of_lt_of_le hS0 E.out.size)).trans ((E.out.cell (p := ⟨b0, off0 + 1, none⟩) hS0).trans x01)
  have u02 : ∀ yy : Up w0, yy.v.cell? ⟨b0, off0 + 2, none⟩ = some (.string x.s) := fun yy => (yy.h.cell (p := ⟨b0, off0 + 2, none⟩) (Nat.lt_of_lt_of_le hS0 E.out.size)).trans ((E.out.cell (p := ⟨b0, off0 + 2, none⟩) hS0).trans x02)
  have u03 : ∀ yy : Up w0, yy.v.cell? ⟨b0, off0 + 3, none⟩ = some (.string x.t) := fun yy => (yy.h.cell (p := ⟨b0, off0 + 3, none⟩) (Nat.lt_of_lt_of_le hS0 E.out.size)).trans ((E.out.cell (p := ⟨b0, off0 + 3, none⟩) hS0).trans x03)
  have u04 : ∀ yy : Up w0, yy.v.cell? ⟨b0, off0 + 4, none⟩ = some (.slice B0 x.kids.length d0) := fun yy => (yy.h.cell (p := ⟨b0, off0 + 4, none⟩) (Nat.lt_of_lt_of_le hS0 E.out.size)).trans ((E.out.cell (p := ⟨b0, off0 + 4, none⟩) hS0).trans x04)
  have u10 : ∀ yy : Up w0, yy.v.cell? ⟨b0, off0 + 5, none⟩ = some (.int .i64 y.op) := fun yy => (yy.h.cell (p := ⟨b0, off0 + 5, none⟩) (Nat.lt_of_lt_of_le hS0 E.out.size)).trans ((E.out.cell (p := ⟨b0, off0 + 5, none⟩) hS0).trans x10)
  have u11 : ∀ yy : Up w0, yy.v.cell? ⟨b0, off0 + 5 + 1, none⟩ = some (.int .i64 y.n) := fun yy => (yy.h.cell (p := ⟨b0, off0 + 5 + 1, none⟩) (Nat.lt_of_lt_of_le hS0 E.out.size)).trans ((E.out.cell (p := ⟨b0, off0 + 5 + 1, none⟩) hS0).trans x11)
  have u12 : ∀ yy : Up w0, yy.v.cell? ⟨b0, off0 + 5 + 2, none⟩ = some (.string y.s) := fun yy => (yy.h.cell (p := ⟨b0, off0 + 5 + 2, none⟩) (Nat.lt_of_lt_of_le hS0 E.out.size)).trans ((E.out.cell (p := ⟨b0, off0 + 5 + 2, none⟩) hS0).trans x12)
  have u13 : ∀ yy : Up w0, yy.v.cell? ⟨b0, off0 + 5 + 3, none⟩ = some (.string y.t) := fun yy => (yy.h.cell (p := ⟨b0, off0 + 5 + 3, none⟩) (Nat.lt_of_lt_of_le hS0 E.out.size)).trans ((E.out.cell (p := ⟨b0, off0 + 5 + 3, none⟩) hS0).trans x13)
  have u14 : ∀ yy : Up w0, yy.v.cell? ⟨b0, off0 + 5 + 4, none⟩ = some (.slice B1 y.kids.length d1) := fun yy => (yy.h.cell (p := ⟨b0, off0 + 5 + 4, none⟩) (Nat.lt_of_lt_of_le hS0 E.out.size)).trans ((E.out.cell (p := ⟨b0, off0 + 5 + 4, none⟩) hS0).trans x14)
  have zz0 : ¬ 9223372036854775807 < x.text.size + 3 := by omega
  have zz1 : ¬ 9223372036854775807 < x.text.size + 3 + y.text.size := by omega
  have hv := Lib.hid (show bodyOf t.op t.s t.t (bareL t.kids) (t.kids.map GNode.text) = x.text ++ ⟨#[32, 43, 32]⟩ ++ y.text by unfold bodyOf signT; rw [if_neg (by omega), if_neg (by omega), if_neg (by omega), if_neg (by omega), if_neg (by omega), if_neg (by omega), if_neg (by omega), o10]; simp only [htx.out, hty.out, ba_assoc, sgn3, sgn4, if_pos, Int.reduceEq, if_false, if_true, reduceIte])
  have q0 := upRow R.out
  have q9 := upRow RS.out
  have hn0 : (0 : Int) < (t.kids.length : Int) := by omega
  have hn1 : (1 : Int) < (t.kids.length : Int) := by omega
  have hnn0 : 0 < t.kids.length := by omega
  have hnn1 : 1 < t.kids.length := by omega
  have hs1 : IntKind.i64.wrap (t.op - 10) = (0 : Int) := by rw [o10]; rfl
  have hs2 : t.op - 10 = (0 : Int) := by omega
  have p3 : (t.op == 3) = false := beq_eq_false_iff_ne.2 (by omega)
  have p5 : (t.op == 5) = false := beq_eq_false_iff_ne.2 (by omega)
  have p6 : (t.op == 6) = false := beq_eq_false_iff_ne.2 (by omega)
  have p9 : (t.op == 9) = false := beq_eq_false_iff_ne.2 (by omega)
  have p7 : (t.op == 7) = false := beq_eq_false_iff_ne.2 (by omega)
  have p16 : (t.op == 16) = false := beq_eq_false_iff_ne.2 (by omega)
  have p15 : (t.op == 15) = false := beq_eq_false_iff_ne.2 (by omega)
  have p4 : (t.op == 4) = false := beq_eq_false_iff_ne.2 (by omega)
  clear o10
  clear hl HE ht h0 h1 h2 h3 hk hbe ew hat0 hx hmx x00 x01 x02 x03 x04 hat1 hy hmy x10 x11 x12 x13 x14
  go_enter Try.func231, Try.ntmps231
  go_wp2_with fail
  rw [← EQ.out]
  refine wp_region_up w0 (Below.refl _ _) (by kernel_rfl) (by kernel_rfl) ?_
  repeat (go_big_quiet_step (first | (go_at_call_of 165 x; exact upCall (Hx.out _ (Up.h _))) | (go_at_call_of 165 y; exact upCall (Hy.out _ (Up.h _)))))
  refine wpQuiet_nil ?_
  rintro w9 ⟨x9, e9⟩
  have B9 := Lib.hid (show Below w0.heap.size w0 w9 by rw [e9]; exact x9.h)
  clear e9 x9 q0 q9
  go_wp2_with fail
  go_ret
  exact ⟨ret_str (by rw [hv.out]), E.out.trans (B9.out.mono E.out.size)⟩

set_option maxRecDepth 20000 in
theorem specBody_11 (t : GNode) (A1 : Option Addr) (c1 : Nat) (w : World) (hb : t.bulk ≤ 1048576) (o11 : t.op = 11) (hl : t.kids.length = 2) (HE : ∀ x ∈ t.kids, ∀ (A2 : Option Addr) (c2 : Nat) (w2 : World), GNode.At w2 (Lt w2.heap.size) A2 c2 x → Calls Try.prog 165 #[.agg #[.int .i64 x.op, .int .i64 x.n, .string x.s, .string x.t, .slice A2 x.kids.length c2]] w2 fun e w' => e = .returned (.string x.text) ∧ Below w2.heap.size w2 w') (ht : GNode.At w (Lt w.heap.size) A1 c1 t) :
    Calls Try.prog 231 #[.agg #[.int .i64 t.op, .int .i64 t.n, .string t.s, .string t.t, .slice A1 t.kids.length c1]] w fun e w' => e = .returned (.string (bodyOf t.op t.s t.t (bareL t.kids) (t.kids.map GNode.text))) ∧ Below w.heap.size w w' := by
  obtain ⟨h0, h1, h2, h3, hk⟩ := id ht
  have hlen : t.kids.length ≤ 9223372036854775807 := by simpa using hk.len
  have hbe := t.bulk_eq
  have hzs : t.s.size ≤ 1048576 := by omega
  have hzt : t.t.size ≤ 1048576 := by omega
  obtain ⟨w0, ew⟩ : ∃ w0, w0 = (w.alloc (.cells #[.int .i64 t.op, .int .i64 t.n, .string t.s, .string t.t, .slice A1 t.kids.length c1] 49)).alloc (.cells #[.string ⟨#[32, 43, 32]⟩, .string ⟨#[32, 45, 32]⟩, .string ⟨#[32, 42, 32]⟩, .string ⟨#[32, 60, 32]⟩, .string ⟨#[32, 61, 61, 32]⟩] 9) := ⟨_, rfl⟩
  have E := Lib.hid (show Below w.heap.size w w0 by rw [ew]; exact ((Below.refl _ _).alloc (Nat.le_refl _) _).alloc (by simp) _)
  have R := Lib.hid (show Row w0 w.heap.size 49 #[.int .i64 t.op, .int .i64 t.n, .string t.s, .string t.t, .slice A1 t.kids.length c1] by rw [ew]; exact (Row.new _ _ _).alloc _)
  have EQ := Lib.hid ew
  have RS := Lib.hid (show Row w0 (w.heap.size + 1) 9 #[.string ⟨#[32, 43, 32]⟩, .string ⟨#[32, 45, 32]⟩, .string ⟨#[32, 42, 32]⟩, .string ⟨#[32, 60, 32]⟩, .string ⟨#[32, 61, 61, 32]⟩] by rw [ew]; exact Row.new' _ _ _ (by simp))
  obtain ⟨b0, off0, B0, d0, e0, hS0, x00, x01, x02, x03, x04, hat0⟩ := GNode.elem hk 0 (by omega)
  obtain ⟨x, hx⟩ : ∃ x, x = t.kids[0]'(by omega) := ⟨_, rfl⟩
  rw [← hx] at x00 x01 x02 x03 x04 hat0
  have hmx : x ∈ t.kids := by rw [hx]; exact List.getElem_mem _
  have hzx : x.text.size ≤ 41943060 := big_size (by have := bulkL_mem GNode.bulk t.kids _ hmx; omega)
  have Hx := Lib.hid (fun (wx : World) (hb : Below w0.heap.size w0 wx) => HE x hmx B0 d0 wx (hat0.keep (keep_below (E.out.trans (hb.mono E.out.size)) (Nat.le_trans E.out.size hb.size))))
  have htx := Lib.hid (show atB (t.kids.map GNode.text) 0 = x.text by rw [atB_get (by simp; omega), List.getElem_map, hx])
  obtain ⟨b1, off1, B1, d1, e1, hS1, x10, x11, x12, x13, x14, hat1⟩ := GNode.elem hk 1 (by omega)
  obtain ⟨y, hy⟩ : ∃ y, y = t.kids[1]'(by omega) := ⟨_, rfl⟩
  rw [← hy] at x10 x11 x12 x13 x14 hat1
  have hmy : y ∈ t.kids := by rw [hy]; exact List.getElem_mem _
  have hzy : y.text.size ≤ 41943060 := big_size (by have := bulkL_mem GNode.bulk t.kids _ hmy; omega)
  have Hy := Lib.hid (fun (wx : World) (hb : Below w0.heap.size w0 wx) => HE y hmy B1 d1 wx (hat1.keep (keep_below (E.out.trans (hb.mono E.out.size)) (Nat.le_trans E.out.size hb.size))))
  have hty := Lib.hid (show atB (t.kids.map GNode.text) 1 = y.text by rw [atB_get (by simp; omega), List.getElem_map, hy])
  simp only [Nat.zero_mul, Nat.one_mul, Nat.add_zero, Nat.reduceMul] at x00 x01 x02 x03 x04
  have e0a := e0
  simp only [Nat.zero_mul, Nat.one_mul, Nat.add_zero, Nat.reduceMul] at x10 x11 x12 x13 x14
  rw [e0a, Option.some.injEq, Addr.mk.injEq] at e1
  obtain ⟨rfl, rfl, -⟩ := e1
  have eA := e0a
  subst eA
  have u00 : ∀ yy : Up w0, yy.v.cell? ⟨b0, off0, none⟩ = some (.int .i64 x.op) := fun yy => (yy.h.cell (p := ⟨b0, off0, none⟩) (Nat.lt_of_lt_of_le hS0 E.out.size)).trans ((E.out.cell (p := ⟨b0, off0, none⟩) hS0).trans x00)
  have u01 : ∀ yy : Up w0, yy.v.cell? ⟨b0, off0 + 1, none⟩ = some (.int .i64 x.n) := fun yy => (yy.h.cell (p := ⟨b0, off0 + 1, none⟩) (Nat.lt_of_lt_of_le hS0 E.out.size)).trans ((E.out.cell (p := ⟨b0, off0 + 1, none⟩) hS0).trans x01)
  have u02 : ∀ yy : Up w0, yy.v.cell? ⟨b0, off0 + 2, none⟩ = some (.string x.s) := fun yy => (yy.h.cell (p := ⟨b0, off0 + 2, none⟩) (Nat.lt_of_lt_of_le hS0 E.out.size)).trans ((E.out.cell (p := ⟨b0, off0 + 2, none⟩) hS0).trans x02)
  have u03 : ∀ yy : Up w0, yy.v.cell? ⟨b0, off0 + 3, none⟩ = some (.string x.t) := fun yy => (yy.h.cell (p := ⟨b0, off0 + 3, none⟩) (Nat.lt_of_lt_of_le hS0 E.out.size)).trans ((E.out.cell (p := ⟨b0, off0 + 3, none⟩) hS0).trans x03)
  have u04 : ∀ yy : Up w0, yy.v.cell? ⟨b0, off0 + 4, none⟩ = some (.slice B0 x.kids.length d0) := fun yy => (yy.h.cell (p := ⟨b0, off0 + 4, none⟩) (Nat.lt_of_lt_of_le hS0 E.out.size)).trans ((E.out.cell (p := ⟨b0, off0 + 4, none⟩) hS0).trans x04)
  have u10 : ∀ yy : Up w0, yy.v.cell? ⟨b0, off0 + 5, none⟩ = some (.int .i64 y.op) := fun yy => (yy.h.cell (p := ⟨b0, off0 + 5, none⟩) (Nat.lt_of_lt_of_le hS0 E.out.size)).trans ((E.out.cell (p := ⟨b0, off0 + 5, none⟩) hS0).trans x10)
  have u11 : ∀ yy : Up w0, yy.v.cell? ⟨b0, off0 + 5 + 1, none⟩ = some (.int .i64 y.n) := fun yy => (yy.h.cell (p := ⟨b0, off0 + 5 + 1, none⟩) (Nat.lt_of_lt_of_le hS0 E.out.size)).trans ((E.out.cell (p := ⟨b0, off0 + 5 + 1, none⟩) hS0).trans x11)
  have u12 : ∀ yy : Up w0, yy.v.cell? ⟨b0, off0 + 5 + 2, none⟩ = some (.string y.s) := fun yy => (yy.h.cell (p := ⟨b0, off0 + 5 + 2, none⟩) (Nat.lt_of_lt_of_le hS0 E.out.size)).trans ((E.out.cell (p := ⟨b0, off0 + 5 + 2, none⟩) hS0).trans x12)
  have u13 : ∀ yy : Up w0, yy.v.cell? ⟨b0, off0 + 5 + 3, none⟩ = some (.string y.t) := fun yy => (yy.h.cell (p := ⟨b0, off0 + 5 + 3, none⟩) (Nat.lt_of_lt_of_le hS0 E.out.size)).trans ((E.out.cell (p := ⟨b0, off0 + 5 + 3, none⟩) hS0).trans x13)
  have u14 : ∀ yy : Up w0, yy.v.cell? ⟨b0, off0 + 5 + 4, none⟩ = some (.slice B1 y.kids.length d1) := fun yy => (yy.h.cell (p := ⟨b0, off0 + 5 + 4, none⟩) (Nat.lt_of_lt_of_le hS0 E.out.size)).trans ((E.out.cell (p := ⟨b0, off0 + 5 + 4, none⟩) hS0).trans x14)
  have zz0 : ¬ 9223372036854775807 < x.text.size + 3 := by omega
  have zz1 : ¬ 9223372036854775807 < x.text.size + 3 + y.text.size := by omega
  have hv := Lib.hid (show bodyOf t.op t.s t.t (bareL t.kids) (t.kids.map GNode.text) = x.text ++ ⟨#[32, 45, 32]⟩ ++ y.text by unfold bodyOf signT; rw [if_neg (by omega), if_neg (by omega), if_neg (by omega), if_neg (by omega), if_neg (by omega), if_neg (by omega), if_neg (by omega), o11]; simp only [htx.out, hty.out, ba_assoc, sgn3, sgn4, if_pos, Int.reduceEq, if_false, if_true, reduceIte])
  have q0 := upRow R.out
  have q9 := upRow RS.out
  have hn0 : (0 : Int) < (t.kids.length : Int) := by omega
  have hn1 : (1 : Int) < (t.kids.length : Int) := by omega
  have hnn0 : 0 < t.kids.length := by omega
  have hnn1 : 1 < t.kids.length := by omega
  have hs1 : IntKind.i64.wrap (t.op - 10) = (1 : Int) := by rw [o11]; rfl
  have hs2 : t.op - 10 = (1 : Int) := by omega
  have p3 : (t.op == 3) = false := beq_eq_false_iff_ne.2 (by omega)
  have p5 : (t.op == 5) = false := beq_eq_false_iff_ne.2 (by omega)
  have p6 : (t.op == 6) = false := beq_eq_false_iff_ne.2 (by omega)
  have p9 : (t.op == 9) = false := beq_eq_false_iff_ne.2 (by omega)
  have p7 : (t.op == 7) = false := beq_eq_false_iff_ne.2 (by omega)
  have p16 : (t.op == 16) = false := beq_eq_false_iff_ne.2 (by omega)
  have p15 : (t.op == 15) = false := beq_eq_false_iff_ne.2 (by omega)
  have p4 : (t.op == 4) = false := beq_eq_false_iff_ne.2 (by omega)
  clear o11
  clear hl HE ht h0 h1 h2 h3 hk hbe ew hat0 hx hmx x00 x01 x02 x03 x04 hat1 hy hmy x10 x11 x12 x13 x14
  go_enter Try.func231, Try.ntmps231
  go_wp2_with fail
  rw [← EQ.out]
  refine wp_region_up w0 (Below.refl _ _) (by kernel_rfl) (by kernel_rfl) ?_
  repeat (go_big_quiet_step (first | (go_at_call_of 165 x; exact upCall (Hx.out _ (Up.h _))) | (go_at_call_of 165 y; exact upCall (Hy.out _ (Up.h _)))))
  refine wpQuiet_nil ?_
  rintro w9 ⟨x9, e9⟩
  have B9 := Lib.hid (show Below w0.heap.size w0 w9 by rw [e9]; exact x9.h)
  clear e9 x9 q0 q9
  go_wp2_with fail
  go_ret
  exact ⟨ret_str (by rw [hv.out]), E.out.trans (B9.out.mono E.out.size)⟩

set_option maxRecDepth 20000 in
theorem specBody_12 (t : GNode) (A1 : Option Addr) (c1 : Nat) (w : World) (hb : t.bulk ≤ 1048576) (o12 : t.op = 12) (hl : t.kids.length = 2) (HE : ∀ x ∈ t.kids, ∀ (A2 : Option Addr) (c2 : Nat) (w2 : World), GNode.At w2 (Lt w2.heap.size) A2 c2 x → Calls Try.prog 165 #[.agg #[.int .i64 x.op, .int .i64 x.n, .string x.s, .string x.t, .slice A2 x.kids.length c2]] w2 fun e w' => e = .returned (.string x.text) ∧ Below w2.heap.size w2 w') (ht : GNode.At w (Lt w.heap.size) A1 c1 t) :
    Calls Try.prog 231 #[.agg #[.int .i64 t.op, .int .i64 t.n, .string t.s, .string t.t, .slice A1 t.kids.length c1]] w fun e w' => e = .returned (.string (bodyOf t.op t.s t.t (bareL t.kids) (t.kids.map GNode.text))) ∧ Below w.heap.size w w' := by
  obtain ⟨h0, h1, h2, h3, hk⟩ := id ht
  have hlen : t.kids.length ≤ 9223372036854775807 := by simpa using hk.len
  have hbe := t.bulk_eq
  have hzs : t.s.size ≤ 1048576 := by omega
  have hzt : t.t.size ≤ 1048576 := by omega
  obtain ⟨w0, ew⟩ : ∃ w0, w0 = (w.alloc (.cells #[.int .i64 t.op, .int .i64 t.n, .string t.s, .string t.t, .slice A1 t.kids.length c1] 49)).alloc (.cells #[.string ⟨#[32, 43, 32]⟩, .string ⟨#[32, 45, 32]⟩, .string ⟨#[32, 42, 32]⟩, .string ⟨#[32, 60, 32]⟩, .string ⟨#[32, 61, 61, 32]⟩] 9) := ⟨_, rfl⟩
  have E := Lib.hid (show Below w.heap.size w w0 by rw [ew]; exact ((Below.refl _ _).alloc (Nat.le_refl _) _).alloc (by simp) _)
  have R := Lib.hid (show Row w0 w.heap.size 49 #[.int .i64 t.op, .int .i64 t.n, .string t.s, .string t.t, .slice A1 t.kids.length c1] by rw [ew]; exact (Row.new _ _ _).alloc _)
  have EQ := Lib.hid ew
  have RS := Lib.hid (show Row w0 (w.heap.size + 1) 9 #[.string ⟨#[32, 43, 32]⟩, .string ⟨#[32, 45, 32]⟩, .string ⟨#[32, 42, 32]⟩, .string ⟨#[32, 60, 32]⟩, .string ⟨#[32, 61, 61, 32]⟩] by rw [ew]; exact Row.new' _ _ _ (by simp))
  obtain ⟨b0, off0, B0, d0, e0, hS0, x00, x01, x02, x03, x04, hat0⟩ := GNode.elem hk 0 (by omega)
  obtain ⟨x, hx⟩ : ∃ x, x = t.kids[0]'(by omega) := ⟨_, rfl⟩
  rw [← hx] at x00 x01 x02 x03 x04 hat0
  have hmx : x ∈ t.kids := by rw [hx]; exact List.getElem_mem _
  have hzx : x.text.size ≤ 41943060 := big_size (by have := bulkL_mem GNode.bulk t.kids _ hmx; omega)
  have Hx := Lib.hid (fun (wx : World) (hb : Below w0.heap.size w0 wx) => HE x hmx B0 d0 wx (hat0.keep (keep_below (E.out.trans (hb.mono E.out.size)) (Nat.le_trans E.out.size hb.size))))
  have htx := Lib.hid (show atB (t.kids.map GNode.text) 0 = x.text by rw [atB_get (by simp; omega), List.getElem_map, hx])
  obtain ⟨b1, off1, B1, d1, e1, hS1, x10, x11, x12, x13, x14, hat1⟩ := GNode.elem hk 1 (by omega)
  obtain ⟨y, hy⟩ : ∃ y, y = t.kids[1]'(by omega) := ⟨_, rfl⟩
  rw [← hy] at x10 x11 x12 x13 x14 hat1
  have hmy : y ∈ t.kids := by rw [hy]; exact List.getElem_mem _
  have hzy : y.text.size ≤ 41943060 := big_size (by have := bulkL_mem GNode.bulk t.kids _ hmy; omega)
  have Hy := Lib.hid (fun (wx : World) (hb : Below w0.heap.size w0 wx) => HE y hmy B1 d1 wx (hat1.keep (keep_below (E.out.trans (hb.mono E.out.size)) (Nat.le_trans E.out.size hb.size))))
  have hty := Lib.hid (show atB (t.kids.map GNode.text) 1 = y.text by rw [atB_get (by simp; omega), List.getElem_map, hy])
  simp only [Nat.zero_mul, Nat.one_mul, Nat.add_zero, Nat.reduceMul] at x00 x01 x02 x03 x04
  have e0a := e0
  simp only [Nat.zero_mul, Nat.one_mul, Nat.add_zero, Nat.reduceMul] at x10 x11 x12 x13 x14
  rw [e0a, Option.some.injEq, Addr.mk.injEq] at e1
  obtain ⟨rfl, rfl, -⟩ := e1
  have eA := e0a
  subst eA
  have u00 : ∀ yy : Up w0, yy.v.cell? ⟨b0, off0, none⟩ = some (.int .i64 x.op) := fun yy => (yy.h.cell (p := ⟨b0, off0, none⟩) (Nat.lt_of_lt_of_le hS0 E.out.size)).trans ((E.out.cell (p := ⟨b0, off0, none⟩) hS0).trans x00)
  have u01 : ∀ yy : Up w0, yy.v.cell? ⟨b0, off0 + 1, none⟩ = some (.int .i64 x.n) := fun yy => (yy.h.cell (p := ⟨b0, off0 + 1, none⟩) (Nat.lt_of_lt_of_le hS0 E.out.size)).trans ((E.out.cell (p := ⟨b0, off0 + 1, none⟩) hS0).trans x01)
  have u02 : ∀ yy : Up w0, yy.v.cell? ⟨b0, off0 + 2, none⟩ = some (.string x.s) := fun yy => (yy.h.cell (p := ⟨b0, off0 + 2, none⟩) (Nat.lt_of_lt_of_le hS0 E.out.size)).trans ((E.out.cell (p := ⟨b0, off0 + 2, none⟩) hS0).trans x02)
  have u03 : ∀ yy : Up w0, yy.v.cell? ⟨b0, off0 + 3, none⟩ = some (.string x.t) := fun yy => (yy.h.cell (p := ⟨b0, off0 + 3, none⟩) (Nat.lt_of_lt_of_le hS0 E.out.size)).trans ((E.out.cell (p := ⟨b0, off0 + 3, none⟩) hS0).trans x03)
  have u04 : ∀ yy : Up w0, yy.v.cell? ⟨b0, off0 + 4, none⟩ = some (.slice B0 x.kids.length d0) := fun yy => (yy.h.cell (p := ⟨b0, off0 + 4, none⟩) (Nat.lt_of_lt_of_le hS0 E.out.size)).trans ((E.out.cell (p := ⟨b0, off0 + 4, none⟩) hS0).trans x04)
  have u10 : ∀ yy : Up w0, yy.v.cell? ⟨b0, off0 + 5, none⟩ = some (.int .i64 y.op) := fun yy => (yy.h.cell (p := ⟨b0, off0 + 5, none⟩) (Nat.lt_of_lt_of_le hS0 E.out.size)).trans ((E.out.cell (p := ⟨b0, off0 + 5, none⟩) hS0).trans x10)
  have u11 : ∀ yy : Up w0, yy.v.cell? ⟨b0, off0 + 5 + 1, none⟩ = some (.int .i64 y.n) := fun yy => (yy.h.cell (p := ⟨b0, off0 + 5 + 1, none⟩) (Nat.lt_of_lt_of_le hS0 E.out.size)).trans ((E.out.cell (p := ⟨b0, off0 + 5 + 1, none⟩) hS0).trans x11)
  have u12 : ∀ yy : Up w0, yy.v.cell? ⟨b0, off0 + 5 + 2, none⟩ = some (.string y.s) := fun yy => (yy.h.cell (p := ⟨b0, off0 + 5 + 2, none⟩) (Nat.lt_of_lt_of_le hS0 E.out.size)).trans ((E.out.cell (p := ⟨b0, off0 + 5 + 2, none⟩) hS0).trans x12)
  have u13 : ∀ yy : Up w0, yy.v.cell? ⟨b0, off0 + 5 + 3, none⟩ = some (.string y.t) := fun yy => (yy.h.cell (p := ⟨b0, off0 + 5 + 3, none⟩) (Nat.lt_of_lt_of_le hS0 E.out.size)).trans ((E.out.cell (p := ⟨b0, off0 + 5 + 3, none⟩) hS0).trans x13)
  have u14 : ∀ yy : Up w0, yy.v.cell? ⟨b0, off0 + 5 + 4, none⟩ = some (.slice B1 y.kids.length d1) := fun yy => (yy.h.cell (p := ⟨b0, off0 + 5 + 4, none⟩) (Nat.lt_of_lt_of_le hS0 E.out.size)).trans ((E.out.cell (p := ⟨b0, off0 + 5 + 4, none⟩) hS0).trans x14)
  have zz0 : ¬ 9223372036854775807 < x.text.size + 3 := by omega
  have zz1 : ¬ 9223372036854775807 < x.text.size + 3 + y.text.size := by omega
  have hv := Lib.hid (show bodyOf t.op t.s t.t (bareL t.kids) (t.kids.map GNode.text) = x.text ++ ⟨#[32, 42, 32]⟩ ++ y.text by unfold bodyOf signT; rw [if_neg (by omega), if_neg (by omega), if_neg (by omega), if_neg (by omega), if_neg (by omega), if_neg (by omega), if_neg (by omega), o12]; simp only [htx.out, hty.out, ba_assoc, sgn3, sgn4, if_pos, Int.reduceEq, if_false, if_true, reduceIte])
  have q0 := upRow R.out
  have q9 := upRow RS.out
  have hn0 : (0 : Int) < (t.kids.length : Int) := by omega
  have hn1 : (1 : Int) < (t.kids.length : Int) := by omega
  have hnn0 : 0 < t.kids.length := by omega
  have hnn1 : 1 < t.kids.length := by omega
  have hs1 : IntKind.i64.wrap (t.op - 10) = (2 : Int) := by rw [o12]; rfl
  have hs2 : t.op - 10 = (2 : Int) := by omega
  have p3 : (t.op == 3) = false := beq_eq_false_iff_ne.2 (by omega)
  have p5 : (t.op == 5) = false := beq_eq_false_iff_ne.2 (by omega)
  have p6 : (t.op == 6) = false := beq_eq_false_iff_ne.2 (by omega)
  have p9 : (t.op == 9) = false := beq_eq_false_iff_ne.2 (by omega)
  have p7 : (t.op == 7) = false := beq_eq_false_iff_ne.2 (by omega)
  have p16 : (t.op == 16) = false := beq_eq_false_iff_ne.2 (by omega)
  have p15 : (t.op == 15) = false := beq_eq_false_iff_ne.2 (by omega)
  have p4 : (t.op == 4) = false := beq_eq_false_iff_ne.2 (by omega)
  clear o12
  clear hl HE ht h0 h1 h2 h3 hk hbe ew hat0 hx hmx x00 x01 x02 x03 x04 hat1 hy hmy x10 x11 x12 x13 x14
  go_enter Try.func231, Try.ntmps231
  go_wp2_with fail
  rw [← EQ.out]
  refine wp_region_up w0 (Below.refl _ _) (by kernel_rfl) (by kernel_rfl) ?_
  repeat (go_big_quiet_step (first | (go_at_call_of 165 x; exact upCall (Hx.out _ (Up.h _))) | (go_at_call_of 165 y; exact upCall (Hy.out _ (Up.h _)))))
  refine wpQuiet_nil ?_
  rintro w9 ⟨x9, e9⟩
  have B9 := Lib.hid (show Below w0.heap.size w0 w9 by rw [e9]; exact x9.h)
  clear e9 x9 q0 q9
  go_wp2_with fail
  go_ret
  exact ⟨ret_str (by rw [hv.out]), E.out.trans (B9.out.mono E.out.size)⟩

set_option maxRecDepth 20000 in
theorem specBody_13 (t : GNode) (A1 : Option Addr) (c1 : Nat) (w : World) (hb : t.bulk ≤ 1048576) (o13 : t.op = 13) (hl : t.kids.length = 2) (HE : ∀ x ∈ t.kids, ∀ (A2 : Option Addr) (c2 : Nat) (w2 : World), GNode.At w2 (Lt w2.heap.size) A2 c2 x → Calls Try.prog 165 #[.agg #[.int .i64 x.op, .int .i64 x.n, .string x.s, .string x.t, .slice A2 x.kids.length c2]] w2 fun e w' => e = .returned (.string x.text) ∧ Below w2.heap.size w2 w') (ht : GNode.At w (Lt w.heap.size) A1 c1 t) :
    Calls Try.prog 231 #[.agg #[.int .i64 t.op, .int .i64 t.n, .string t.s, .string t.t, .slice A1 t.kids.length c1]] w fun e w' => e = .returned (.string (bodyOf t.op t.s t.t (bareL t.kids) (t.kids.map GNode.text))) ∧ Below w.heap.size w w' := by
  obtain ⟨h0, h1, h2, h3, hk⟩ := id ht
  have hlen : t.kids.length ≤ 9223372036854775807 := by simpa using hk.len
  have hbe := t.bulk_eq
  have hzs : t.s.size ≤ 1048576 := by omega
  have hzt : t.t.size ≤ 1048576 := by omega
  obtain ⟨w0, ew⟩ : ∃ w0, w0 = (w.alloc (.cells #[.int .i64 t.op, .int .i64 t.n, .string t.s, .string t.t, .slice A1 t.kids.length c1] 49)).alloc (.cells #[.string ⟨#[32, 43, 32]⟩, .string ⟨#[32, 45, 32]⟩, .string ⟨#[32, 42, 32]⟩, .string ⟨#[32, 60, 32]⟩, .string ⟨#[32, 61, 61, 32]⟩] 9) := ⟨_, rfl⟩
  have E := Lib.hid (show Below w.heap.size w w0 by rw [ew]; exact ((Below.refl _ _).alloc (Nat.le_refl _) _).alloc (by simp) _)
  have R := Lib.hid (show Row w0 w.heap.size 49 #[.int .i64 t.op, .int .i64 t.n, .string t.s, .string t.t, .slice A1 t.kids.length c1] by rw [ew]; exact (Row.new _ _ _).alloc _)
  have EQ := Lib.hid ew
  have RS := Lib.hid (show Row w0 (w.heap.size + 1) 9 #[.string ⟨#[32, 43, 32]⟩, .string ⟨#[32, 45, 32]⟩, .string ⟨#[32, 42, 32]⟩, .string ⟨#[32, 60, 32]⟩, .string ⟨#[32, 61, 61, 32]⟩] by rw [ew]; exact Row.new' _ _ _ (by simp))
  obtain ⟨b0, off0, B0, d0, e0, hS0, x00, x01, x02, x03, x04, hat0⟩ := GNode.elem hk 0 (by omega)
  obtain ⟨x, hx⟩ : ∃ x, x = t.kids[0]'(by omega) := ⟨_, rfl⟩
  rw [← hx] at x00 x01 x02 x03 x04 hat0
  have hmx : x ∈ t.kids := by rw [hx]; exact List.getElem_mem _
  have hzx : x.text.size ≤ 41943060 := big_size (by have := bulkL_mem GNode.bulk t.kids _ hmx; omega)
  have Hx := Lib.hid (fun (wx : World) (hb : Below w0.heap.size w0 wx) => HE x hmx B0 d0 wx (hat0.keep (keep_below (E.out.trans (hb.mono E.out.size)) (Nat.le_trans E.out.size hb.size))))
  have htx := Lib.hid (show atB (t.kids.map GNode.text) 0 = x.text by rw [atB_get (by simp; omega), List.getElem_map, hx])
  obtain ⟨b1, off1, B1, d1, e1, hS1, x10, x11, x12, x13, x14, hat1⟩ := GNode.elem hk 1 (by omega)
  obtain ⟨y, hy⟩ : ∃ y, y = t.kids[1]'(by omega) := ⟨_, rfl⟩
  rw [← hy] at x10 x11 x12 x13 x14 hat1
  have hmy : y ∈ t.kids := by rw [hy]; exact List.getElem_mem _
  have hzy : y.text.size ≤ 41943060 := big_size (by have := bulkL_mem GNode.bulk t.kids _ hmy; omega)
  have Hy := Lib.hid (fun (wx : World) (hb : Below w0.heap.size w0 wx) => HE y hmy B1 d1 wx (hat1.keep (keep_below (E.out.trans (hb.mono E.out.size)) (Nat.le_trans E.out.size hb.size))))
  have hty := Lib.hid (show atB (t.kids.map GNode.text) 1 = y.text by rw [atB_get (by simp; omega), List.getElem_map, hy])
  simp only [Nat.zero_mul, Nat.one_mul, Nat.add_zero, Nat.reduceMul] at x00 x01 x02 x03 x04
  have e0a := e0
  simp only [Nat.zero_mul, Nat.one_mul, Nat.add_zero, Nat.reduceMul] at x10 x11 x12 x13 x14
  rw [e0a, Option.some.injEq, Addr.mk.injEq] at e1
  obtain ⟨rfl, rfl, -⟩ := e1
  have eA := e0a
  subst eA
  have u00 : ∀ yy : Up w0, yy.v.cell? ⟨b0, off0, none⟩ = some (.int .i64 x.op) := fun yy => (yy.h.cell (p := ⟨b0, off0, none⟩) (Nat.lt_of_lt_of_le hS0 E.out.size)).trans ((E.out.cell (p := ⟨b0, off0, none⟩) hS0).trans x00)
  have u01 : ∀ yy : Up w0, yy.v.cell? ⟨b0, off0 + 1, none⟩ = some (.int .i64 x.n) := fun yy => (yy.h.cell (p := ⟨b0, off0 + 1, none⟩) (Nat.lt_of_lt_of_le hS0 E.out.size)).trans ((E.out.cell (p := ⟨b0, off0 + 1, none⟩) hS0).trans x01)
  have u02 : ∀ yy : Up w0, yy.v.cell? ⟨b0, off0 + 2, none⟩ = some (.string x.s) := fun yy => (yy.h.cell (p := ⟨b0, off0 + 2, none⟩) (Nat.lt_of_lt_of_le hS0 E.out.size)).trans ((E.out.cell (p := ⟨b0, off0 + 2, none⟩) hS0).trans x02)
  have u03 : ∀ yy : Up w0, yy.v.cell? ⟨b0, off0 + 3, none⟩ = some (.string x.t) := fun yy => (yy.h.cell (p := ⟨b0, off0 + 3, none⟩) (Nat.lt_of_lt_of_le hS0 E.out.size)).trans ((E.out.cell (p := ⟨b0, off0 + 3, none⟩) hS0).trans x03)
  have u04 : ∀ yy : Up w0, yy.v.cell? ⟨b0, off0 + 4, none⟩ = some (.slice B0 x.kids.length d0) := fun yy => (yy.h.cell (p := ⟨b0, off0 + 4, none⟩) (Nat.lt_of_lt_of_le hS0 E.out.size)).trans ((E.out.cell (p := ⟨b0, off0 + 4, none⟩) hS0).trans x04)
  have u10 : ∀ yy : Up w0, yy.v.cell? ⟨b0, off0 + 5, none⟩ = some (.int .i64 y.op) := fun yy => (yy.h.cell (p := ⟨b0, off0 + 5, none⟩) (Nat.lt_of_lt_of_le hS0 E.out.size)).trans ((E.out.cell (p := ⟨b0, off0 + 5, none⟩) hS0).trans x10)
  have u11 : ∀ yy : Up w0, yy.v.cell? ⟨b0, off0 + 5 + 1, none⟩ = some (.int .i64 y.n) := fun yy => (yy.h.cell (p := ⟨b0, off0 + 5 + 1, none⟩) (Nat.lt_of_lt_of_le hS0 E.out.size)).trans ((E.out.cell (p := ⟨b0, off0 + 5 + 1, none⟩) hS0).trans x11)
  have u12 : ∀ yy : Up w0, yy.v.cell? ⟨b0, off0 + 5 + 2, none⟩ = some (.string y.s) := fun yy => (yy.h.cell (p := ⟨b0, off0 + 5 + 2, none⟩) (Nat.lt_of_lt_of_le hS0 E.out.size)).trans ((E.out.cell (p := ⟨b0, off0 + 5 + 2, none⟩) hS0).trans x12)
  have u13 : ∀ yy : Up w0, yy.v.cell? ⟨b0, off0 + 5 + 3, none⟩ = some (.string y.t) := fun yy => (yy.h.cell (p := ⟨b0, off0 + 5 + 3, none⟩) (Nat.lt_of_lt_of_le hS0 E.out.size)).trans ((E.out.cell (p := ⟨b0, off0 + 5 + 3, none⟩) hS0).trans x13)
  have u14 : ∀ yy : Up w0, yy.v.cell? ⟨b0, off0 + 5 + 4, none⟩ = some (.slice B1 y.kids.length d1) := fun yy => (yy.h.cell (p := ⟨b0, off0 + 5 + 4, none⟩) (Nat.lt_of_lt_of_le hS0 E.out.size)).trans ((E.out.cell (p := ⟨b0, off0 + 5 + 4, none⟩) hS0).trans x14)
  have zz0 : ¬ 9223372036854775807 < x.text.size + 3 := by omega
  have zz1 : ¬ 9223372036854775807 < x.text.size + 3 + y.text.size := by omega
  have hv := Lib.hid (show bodyOf t.op t.s t.t (bareL t.kids) (t.kids.map GNode.text) = x.text ++ ⟨#[32, 60, 32]⟩ ++ y.text by unfold bodyOf signT; rw [if_neg (by omega), if_neg (by omega), if_neg (by omega), if_neg (by omega), if_neg (by omega), if_neg (by omega), if_neg (by omega), o13]; simp only [htx.out, hty.out, ba_assoc, sgn3, sgn4, if_pos, Int.reduceEq, if_false, if_true, reduceIte])
  have q0 := upRow R.out
  have q9 := upRow RS.out
  have hn0 : (0 : Int) < (t.kids.length : Int) := by omega
  have hn1 : (1 : Int) < (t.kids.length : Int) := by omega
  have hnn0 : 0 < t.kids.length := by omega
  have hnn1 : 1 < t.kids.length := by omega
  have hs1 : IntKind.i64.wrap (t.op - 10) = (3 : Int) := by rw [o13]; rfl
  have hs2 : t.op - 10 = (3 : Int) := by omega
  have p3 : (t.op == 3) = false := beq_eq_false_iff_ne.2 (by omega)
  have p5 : (t.op == 5) = false := beq_eq_false_iff_ne.2 (by omega)
  have p6 : (t.op == 6) = false := beq_eq_false_iff_ne.2 (by omega)
  have p9 : (t.op == 9) = false := beq_eq_false_iff_ne.2 (by omega)
  have p7 : (t.op == 7) = false := beq_eq_false_iff_ne.2 (by omega)
  have p16 : (t.op == 16) = false := beq_eq_false_iff_ne.2 (by omega)
  have p15 : (t.op == 15) = false := beq_eq_false_iff_ne.2 (by omega)
  have p4 : (t.op == 4) = false := beq_eq_false_iff_ne.2 (by omega)
  clear o13
  clear hl HE ht h0 h1 h2 h3 hk hbe ew hat0 hx hmx x00 x01 x02 x03 x04 hat1 hy hmy x10 x11 x12 x13 x14
  go_enter Try.func231, Try.ntmps231
  go_wp2_with fail
  rw [← EQ.out]
  refine wp_region_up w0 (Below.refl _ _) (by kernel_rfl) (by kernel_rfl) ?_
  repeat (go_big_quiet_step (first | (go_at_call_of 165 x; exact upCall (Hx.out _ (Up.h _))) | (go_at_call_of 165 y; exact upCall (Hy.out _ (Up.h _)))))
  refine wpQuiet_nil ?_
  rintro w9 ⟨x9, e9⟩
  have B9 := Lib.hid (show Below w0.heap.size w0 w9 by rw [e9]; exact x9.h)
  clear e9 x9 q0 q9
  go_wp2_with fail
  go_ret
  exact ⟨ret_str (by rw [hv.out]), E.out.trans (B9.out.mono E.out.size)⟩

set_option maxRecDepth 20000 in
theorem specBody_14 (t : GNode) (A1 : Option Addr) (c1 : Nat) (w : World) (hb : t.bulk ≤ 1048576) (o14 : t.op = 14) (hl : t.kids.length = 2) (HE : ∀ x ∈ t.kids, ∀ (A2 : Option Addr) (c2 : Nat) (w2 : World), GNode.At w2 (Lt w2.heap.size) A2 c2 x → Calls Try.prog 165 #[.agg #[.int .i64 x.op, .int .i64 x.n, .string x.s, .string x.t, .slice A2 x.kids.length c2]] w2 fun e w' => e = .returned (.string x.text) ∧ Below w2.heap.size w2 w') (ht : GNode.At w (Lt w.heap.size) A1 c1 t) :
    Calls Try.prog 231 #[.agg #[.int .i64 t.op, .int .i64 t.n, .string t.s, .string t.t, .slice A1 t.kids.length c1]] w fun e w' => e = .returned (.string (bodyOf t.op t.s t.t (bareL t.kids) (t.kids.map GNode.text))) ∧ Below w.heap.size w w' := by
  obtain ⟨h0, h1, h2, h3, hk⟩ := id ht
  have hlen : t.kids.length ≤ 9223372036854775807 := by simpa using hk.len
  have hbe := t.bulk_eq
  have hzs : t.s.size ≤ 1048576 := by omega
  have hzt : t.t.size ≤ 1048576 := by omega
  obtain ⟨w0, ew⟩ : ∃ w0, w0 = (w.alloc (.cells #[.int .i64 t.op, .int .i64 t.n, .string t.s, .string t.t, .slice A1 t.kids.length c1] 49)).alloc (.cells #[.string ⟨#[32, 43, 32]⟩, .string ⟨#[32, 45, 32]⟩, .string ⟨#[32, 42, 32]⟩, .string ⟨#[32, 60, 32]⟩, .string ⟨#[32, 61, 61, 32]⟩] 9) := ⟨_, rfl⟩
  have E := Lib.hid (show Below w.heap.size w w0 by rw [ew]; exact ((Below.refl _ _).alloc (Nat.le_refl _) _).alloc (by simp) _)
  have R := Lib.hid (show Row w0 w.heap.size 49 #[.int .i64 t.op, .int .i64 t.n, .string t.s, .string t.t, .slice A1 t.kids.length c1] by rw [ew]; exact (Row.new _ _ _).alloc _)
  have EQ := Lib.hid ew
  have RS := Lib.hid (show Row w0 (w.heap.size + 1) 9 #[.string ⟨#[32, 43, 32]⟩, .string ⟨#[32, 45, 32]⟩, .string ⟨#[32, 42, 32]⟩, .string ⟨#[32, 60, 32]⟩, .string ⟨#[32, 61, 61, 32]⟩] by rw [ew]; exact Row.new' _ _ _ (by simp))
  obtain ⟨b0, off0, B0, d0, e0, hS0, x00, x01, x02, x03, x04, hat0⟩ := GNode.elem hk 0 (by omega)
  obtain ⟨x, hx⟩ : ∃ x, x = t.kids[0]'(by omega) := ⟨_, rfl⟩
  rw [← hx] at x00 x01 x02 x03 x04 hat0
  have hmx : x ∈ t.kids := by rw [hx]; exact List.getElem_mem _
  have hzx : x.text.size ≤ 41943060 := big_size (by have := bulkL_mem GNode.bulk t.kids _ hmx; omega)
  have Hx := Lib.hid (fun (wx : World) (hb : Below w0.heap.size w0 wx) => HE x hmx B0 d0 wx (hat0.keep (keep_below (E.out.trans (hb.mono E.out.size)) (Nat.le_trans E.out.size hb.size))))
  have htx := Lib.hid (show atB (t.kids.map GNode.text) 0 = x.text by rw [atB_get (by simp; omega), List.getElem_map, hx])
  obtain ⟨b1, off1, B1, d1, e1, hS1, x10, x11, x12, x13, x14, hat1⟩ := GNode.elem hk 1 (by omega)
  obtain ⟨y, hy⟩ : ∃ y, y = t.kids[1]'(by omega) := ⟨_, rfl⟩
  rw [← hy] at x10 x11 x12 x13 x14 hat1
  have hmy : y ∈ t.kids := by rw [hy]; exact List.getElem_mem _
  have hzy : y.text.size ≤ 41943060 := big_size (by have := bulkL_mem GNode.bulk t.kids _ hmy; omega)
  have Hy := Lib.hid (fun (wx : World) (hb : Below w0.heap.size w0 wx) => HE y hmy B1 d1 wx (hat1.keep (keep_below (E.out.trans (hb.mono E.out.size)) (Nat.le_trans E.out.size hb.size))))
  have hty := Lib.hid (show atB (t.kids.map GNode.text) 1 = y.text by rw [atB_get (by simp; omega), List.getElem_map, hy])
  simp only [Nat.zero_mul, Nat.one_mul, Nat.add_zero, Nat.reduceMul] at x00 x01 x02 x03 x04
  have e0a := e0
  simp only [Nat.zero_mul, Nat.one_mul, Nat.add_zero, Nat.reduceMul] at x10 x11 x12 x13 x14
  rw [e0a, Option.some.injEq, Addr.mk.injEq] at e1
  obtain ⟨rfl, rfl, -⟩ := e1
  have eA := e0a
  subst eA
  have u00 : ∀ yy : Up w0, yy.v.cell? ⟨b0, off0, none⟩ = some (.int .i64 x.op) := fun yy => (yy.h.cell (p := ⟨b0, off0, none⟩) (Nat.lt_of_lt_of_le hS0 E.out.size)).trans ((E.out.cell (p := ⟨b0, off0, none⟩) hS0).trans x00)
  have u01 : ∀ yy : Up w0, yy.v.cell? ⟨b0, off0 + 1, none⟩ = some (.int .i64 x.n) := fun yy => (yy.h.cell (p := ⟨b0, off0 + 1, none⟩) (Nat.lt_of_lt_of_le hS0 E.out.size)).trans ((E.out.cell (p := ⟨b0, off0 + 1, none⟩) hS0).trans x01)
  have u02 : ∀ yy : Up w0, yy.v.cell? ⟨b0, off0 + 2, none⟩ = some (.string x.s) := fun yy => (yy.h.cell (p := ⟨b0, off0 + 2, none⟩) (Nat.lt_of_lt_of_le hS0 E.out.size)).trans ((E.out.cell (p := ⟨b0, off0 + 2, none⟩) hS0).trans x02)
  have u03 : ∀ yy : Up w0, yy.v.cell? ⟨b0, off0 + 3, none⟩ = some (.string x.t) := fun yy => (yy.h.cell (p := ⟨b0, off0 + 3, none⟩) (Nat.lt_of_lt_of_le hS0 E.out.size)).trans ((E.out.cell (p := ⟨b0, off0 + 3, none⟩) hS0).trans x03)
  have u04 : ∀ yy : Up w0, yy.v.cell? ⟨b0, off0 + 4, none⟩ = some (.slice B0 x.kids.length d0) := fun yy => (yy.h.cell (p := ⟨b0, off0 + 4, none⟩) (Nat.lt_of_lt_of_le hS0 E.out.size)).trans ((E.out.cell (p := ⟨b0, off0 + 4, none⟩) hS0).trans x04)
  have u10 : ∀ yy : Up w0, yy.v.cell? ⟨b0, off0 + 5, none⟩ = some (.int .i64 y.op) := fun yy => (yy.h.cell (p := ⟨b0, off0 + 5, none⟩) (Nat.lt_of_lt_of_le hS0 E.out.size)).trans ((E.out.cell (p := ⟨b0, off0 + 5, none⟩) hS0).trans x10)
  have u11 : ∀ yy : Up w0, yy.v.cell? ⟨b0, off0 + 5 + 1, none⟩ = some (.int .i64 y.n) := fun yy => (yy.h.cell (p := ⟨b0, off0 + 5 + 1, none⟩) (Nat.lt_of_lt_of_le hS0 E.out.size)).trans ((E.out.cell (p := ⟨b0, off0 + 5 + 1, none⟩) hS0).trans x11)
  have u12 : ∀ yy : Up w0, yy.v.cell? ⟨b0, off0 + 5 + 2, none⟩ = some (.string y.s) := fun yy => (yy.h.cell (p := ⟨b0, off0 + 5 + 2, none⟩) (Nat.lt_of_lt_of_le hS0 E.out.size)).trans ((E.out.cell (p := ⟨b0, off0 + 5 + 2, none⟩) hS0).trans x12)
  have u13 : ∀ yy : Up w0, yy.v.cell? ⟨b0, off0 + 5 + 3, none⟩ = some (.string y.t) := fun yy => (yy.h.cell (p := ⟨b0, off0 + 5 + 3, none⟩) (Nat.lt_of_lt_of_le hS0 E.out.size)).trans ((E.out.cell (p := ⟨b0, off0 + 5 + 3, none⟩) hS0).trans x13)
  have u14 : ∀ yy : Up w0, yy.v.cell? ⟨b0, off0 + 5 + 4, none⟩ = some (.slice B1 y.kids.length d1) := fun yy => (yy.h.cell (p := ⟨b0, off0 + 5 + 4, none⟩) (Nat.lt_of_lt_of_le hS0 E.out.size)).trans ((E.out.cell (p := ⟨b0, off0 + 5 + 4, none⟩) hS0).trans x14)
  have zz0 : ¬ 9223372036854775807 < x.text.size + 4 := by omega
  have zz1 : ¬ 9223372036854775807 < x.text.size + 4 + y.text.size := by omega
  have hv := Lib.hid (show bodyOf t.op t.s t.t (bareL t.kids) (t.kids.map GNode.text) = x.text ++ ⟨#[32, 61, 61, 32]⟩ ++ y.text by unfold bodyOf signT; rw [if_neg (by omega), if_neg (by omega), if_neg (by omega), if_neg (by omega), if_neg (by omega), if_neg (by omega), if_neg (by omega), o14]; simp only [htx.out, hty.out, ba_assoc, sgn3, sgn4, if_pos, Int.reduceEq, if_false, if_true, reduceIte])
  have q0 := upRow R.out
  have q9 := upRow RS.out
  have hn0 : (0 : Int) < (t.kids.length : Int) := by omega
  have hn1 : (1 : Int) < (t.kids.length : Int) := by omega
  have hnn0 : 0 < t.kids.length := by omega
  have hnn1 : 1 < t.kids.length := by omega
  have hs1 : IntKind.i64.wrap (t.op - 10) = (4 : Int) := by rw [o14]; rfl
  have hs2 : t.op - 10 = (4 : Int) := by omega
  have p3 : (t.op == 3) = false := beq_eq_false_iff_ne.2 (by omega)
  have p5 : (t.op == 5) = false := beq_eq_false_iff_ne.2 (by omega)
  have p6 : (t.op == 6) = false := beq_eq_false_iff_ne.2 (by omega)
  have p9 : (t.op == 9) = false := beq_eq_false_iff_ne.2 (by omega)
  have p7 : (t.op == 7) = false := beq_eq_false_iff_ne.2 (by omega)
  have p16 : (t.op == 16) = false := beq_eq_false_iff_ne.2 (by omega)
  have p15 : (t.op == 15) = false := beq_eq_false_iff_ne.2 (by omega)
  have p4 : (t.op == 4) = false := beq_eq_false_iff_ne.2 (by omega)
  clear o14
  clear hl HE ht h0 h1 h2 h3 hk hbe ew hat0 hx hmx x00 x01 x02 x03 x04 hat1 hy hmy x10 x11 x12 x13 x14
  go_enter Try.func231, Try.ntmps231
  go_wp2_with fail
  rw [← EQ.out]
  refine wp_region_up w0 (Below.refl _ _) (by kernel_rfl) (by kernel_rfl) ?_
  repeat (go_big_quiet_step (first | (go_at_call_of 165 x; exact upCall (Hx.out _ (Up.h _))) | (go_at_call_of 165 y; exact upCall (Hy.out _ (Up.h _)))))
  refine wpQuiet_nil ?_
  rintro w9 ⟨x9, e9⟩
  have B9 := Lib.hid (show Below w0.heap.size w0 w9 by rw [e9]; exact x9.h)
  clear e9 x9 q0 q9
  go_wp2_with fail
  go_ret
  exact ⟨ret_str (by rw [hv.out]), E.out.trans (B9.out.mono E.out.size)⟩

end Go.Proofs.Ytgbcdfeflgnogaa

/- An application as text, in the reference. Conditions: what the program holds is at most 1048576. -/
namespace Go.Proofs.Ytgbcdfeflgnogaa
open Go.RowKit Go.BigFrame
set_option linter.unusedVariables false
set_option linter.unusedSimpArgs false
set_option maxHeartbeats 4000000

set_option maxRecDepth 20000 in
theorem specBody_4 (t : GNode) (A1 : Option Addr) (c1 : Nat) (w : World) (hb : t.bulk ≤ 1048576) (o4 : t.op = 4) (hl : t.kids.length = 2) (HE : ∀ x ∈ t.kids, ∀ (A2 : Option Addr) (c2 : Nat) (w2 : World), GNode.At w2 (Lt w2.heap.size) A2 c2 x → Calls Try.prog 165 #[.agg #[.int .i64 x.op, .int .i64 x.n, .string x.s, .string x.t, .slice A2 x.kids.length c2]] w2 fun e w' => e = .returned (.string x.text) ∧ Below w2.heap.size w2 w') (ht : GNode.At w (Lt w.heap.size) A1 c1 t) :
    Calls Try.prog 231 #[.agg #[.int .i64 t.op, .int .i64 t.n, .string t.s, .string t.t, .slice A1 t.kids.length c1]] w fun e w' => e = .returned (.string (bodyOf t.op t.s t.t (bareL t.kids) (t.kids.map GNode.text))) ∧ Below w.heap.size w w' := by
  obtain ⟨h0, h1, h2, h3, hk⟩ := id ht
  have hlen : t.kids.length ≤ 9223372036854775807 := by simpa using hk.len
  have hbe := t.bulk_eq
  have hzs : t.s.size ≤ 1048576 := by omega
  have hzt : t.t.size ≤ 1048576 := by omega
  obtain ⟨w0, ew⟩ : ∃ w0, w0 = (w.alloc (.cells #[.int .i64 t.op, .int .i64 t.n, .string t.s, .string t.t, .slice A1 t.kids.length c1] 49)).alloc (.cells #[.string ⟨#[32, 43, 32]⟩, .string ⟨#[32, 45, 32]⟩, .string ⟨#[32, 42, 32]⟩, .string ⟨#[32, 60, 32]⟩, .string ⟨#[32, 61, 61, 32]⟩] 9) := ⟨_, rfl⟩
  have E := Lib.hid (show Below w.heap.size w w0 by rw [ew]; exact ((Below.refl _ _).alloc (Nat.le_refl _) _).alloc (by simp) _)
  have R := Lib.hid (show Row w0 w.heap.size 49 #[.int .i64 t.op, .int .i64 t.n, .string t.s, .string t.t, .slice A1 t.kids.length c1] by rw [ew]; exact (Row.new _ _ _).alloc _)
  have EQ := Lib.hid ew
  obtain ⟨b0, off0, B0, d0, e0, hS0, x00, x01, x02, x03, x04, hat0⟩ := GNode.elem hk 0 (by omega)
  obtain ⟨x, hx⟩ : ∃ x, x = t.kids[0]'(by omega) := ⟨_, rfl⟩
  rw [← hx] at x00 x01 x02 x03 x04 hat0
  have hmx : x ∈ t.kids := by rw [hx]; exact List.getElem_mem _
  have hzx : x.text.size ≤ 41943060 := big_size (by have := bulkL_mem GNode.bulk t.kids _ hmx; omega)
  have Hx := Lib.hid (fun (wx : World) (hb : Below w0.heap.size w0 wx) => HE x hmx B0 d0 wx (hat0.keep (keep_below (E.out.trans (hb.mono E.out.size)) (Nat.le_trans E.out.size hb.size))))
  have htx := Lib.hid (show atB (t.kids.map GNode.text) 0 = x.text by rw [atB_get (by simp; omega), List.getElem_map, hx])
  obtain ⟨b1, off1, B1, d1, e1, hS1, x10, x11, x12, x13, x14, hat1⟩ := GNode.elem hk 1 (by omega)
  obtain ⟨y, hy⟩ : ∃ y, y = t.kids[1]'(by omega) := ⟨_, rfl⟩
  rw [← hy] at x10 x11 x12 x13 x14 hat1
  have hmy : y ∈ t.kids := by rw [hy]; exact List.getElem_mem _
  have hzy : y.text.size ≤ 41943060 := big_size (by have := bulkL_mem GNode.bulk t.kids _ hmy; omega)
  have Hy := Lib.hid (fun (wx : World) (hb : Below w0.heap.size w0 wx) => HE y hmy B1 d1 wx (hat1.keep (keep_below (E.out.trans (hb.mono E.out.size)) (Nat.le_trans E.out.size hb.size))))
  have hty := Lib.hid (show atB (t.kids.map GNode.text) 1 = y.text by rw [atB_get (by simp; omega), List.getElem_map, hy])
  have hbr : bareL t.kids = (x.op == 15 && x.kids.length == 0) := by
    obtain ⟨a, r, har⟩ := List.exists_cons_of_length_pos (l := t.kids) (by omega)
    have : x = a := by rw [hx]; simp [har]
    rw [har, this]; rfl
  simp only [Nat.zero_mul, Nat.one_mul, Nat.add_zero, Nat.reduceMul] at x00 x01 x02 x03 x04
  have e0a := e0
  simp only [Nat.zero_mul, Nat.one_mul, Nat.add_zero, Nat.reduceMul] at x10 x11 x12 x13 x14
  rw [e0a, Option.some.injEq, Addr.mk.injEq] at e1
  obtain ⟨rfl, rfl, -⟩ := e1
  have eA := e0a
  subst eA
  have u00 : ∀ yy : Up w0, yy.v.cell? ⟨b0, off0, none⟩ = some (.int .i64 x.op) := fun yy => (yy.h.cell (p := ⟨b0, off0, none⟩) (Nat.lt_of_lt_of_le hS0 E.out.size)).trans ((E.out.cell (p := ⟨b0, off0, none⟩) hS0).trans x00)
  have u01 : ∀ yy : Up w0, yy.v.cell? ⟨b0, off0 + 1, none⟩ = some (.int .i64 x.n) := fun yy => (yy.h.cell (p := ⟨b0, off0 + 1, none⟩) (Nat.lt_of_lt_of_le hS0 E.out.size)).trans ((E.out.cell (p := ⟨b0, off0 + 1, none⟩) hS0).trans x01)
  have u02 : ∀ yy : Up w0, yy.v.cell? ⟨b0, off0 + 2, none⟩ = some (.string x.s) := fun yy => (yy.h.cell (p := ⟨b0, off0 + 2, none⟩) (Nat.lt_of_lt_of_le hS0 E.out.size)).trans ((E.out.cell (p := ⟨b0, off0 + 2, none⟩) hS0).trans x02)
  have u03 : ∀ yy : Up w0, yy.v.cell? ⟨b0, off0 + 3, none⟩ = some (.string x.t) := fun yy => (yy.h.cell (p := ⟨b0, off0 + 3, none⟩) (Nat.lt_of_lt_of_le hS0 E.out.size)).trans ((E.out.cell (p := ⟨b0, off0 + 3, none⟩) hS0).trans x03)
  have u04 : ∀ yy : Up w0, yy.v.cell? ⟨b0, off0 + 4, none⟩ = some (.slice B0 x.kids.length d0) := fun yy => (yy.h.cell (p := ⟨b0, off0 + 4, none⟩) (Nat.lt_of_lt_of_le hS0 E.out.size)).trans ((E.out.cell (p := ⟨b0, off0 + 4, none⟩) hS0).trans x04)
  have u10 : ∀ yy : Up w0, yy.v.cell? ⟨b0, off0 + 5, none⟩ = some (.int .i64 y.op) := fun yy => (yy.h.cell (p := ⟨b0, off0 + 5, none⟩) (Nat.lt_of_lt_of_le hS0 E.out.size)).trans ((E.out.cell (p := ⟨b0, off0 + 5, none⟩) hS0).trans x10)
  have u11 : ∀ yy : Up w0, yy.v.cell? ⟨b0, off0 + 5 + 1, none⟩ = some (.int .i64 y.n) := fun yy => (yy.h.cell (p := ⟨b0, off0 + 5 + 1, none⟩) (Nat.lt_of_lt_of_le hS0 E.out.size)).trans ((E.out.cell (p := ⟨b0, off0 + 5 + 1, none⟩) hS0).trans x11)
  have u12 : ∀ yy : Up w0, yy.v.cell? ⟨b0, off0 + 5 + 2, none⟩ = some (.string y.s) := fun yy => (yy.h.cell (p := ⟨b0, off0 + 5 + 2, none⟩) (Nat.lt_of_lt_of_le hS0 E.out.size)).trans ((E.out.cell (p := ⟨b0, off0 + 5 + 2, none⟩) hS0).trans x12)
  have u13 : ∀ yy : Up w0, yy.v.cell? ⟨b0, off0 + 5 + 3, none⟩ = some (.string y.t) := fun yy => (yy.h.cell (p := ⟨b0, off0 + 5 + 3, none⟩) (Nat.lt_of_lt_of_le hS0 E.out.size)).trans ((E.out.cell (p := ⟨b0, off0 + 5 + 3, none⟩) hS0).trans x13)
  have u14 : ∀ yy : Up w0, yy.v.cell? ⟨b0, off0 + 5 + 4, none⟩ = some (.slice B1 y.kids.length d1) := fun yy => (yy.h.cell (p := ⟨b0, off0 + 5 + 4, none⟩) (Nat.lt_of_lt_of_le hS0 E.out.size)).trans ((E.out.cell (p := ⟨b0, off0 + 5 + 4, none⟩) hS0).trans x14)
  have za0 : ¬ 9223372036854775807 < 1 + x.text.size := by omega
  have za1 : ¬ 9223372036854775807 < 1 + x.text.size + 1 := by omega
  have za2 : ¬ 9223372036854775807 < 1 + x.text.size + 1 + 1 := by omega
  have za3 : ¬ 9223372036854775807 < 1 + x.text.size + 1 + 1 + y.text.size := by omega
  have zb0 : ¬ 9223372036854775807 < x.text.size + 1 := by omega
  have zb1 : ¬ 9223372036854775807 < x.text.size + 1 + y.text.size := by omega
  have hv := Lib.hid (show bodyOf t.op t.s t.t (bareL t.kids) (t.kids.map GNode.text) = (if (x.op == 15 && x.kids.length == 0) = true then ⟨#[40]⟩ ++ x.text ++ ⟨#[41]⟩ else x.text) ++ ⟨#[32]⟩ ++ y.text by unfold bodyOf; rw [if_neg (by omega), if_pos o4, hbr]; simp only [htx.out, hty.out])
  have q0 := upRow R.out
  have hn0 : (0 : Int) < (t.kids.length : Int) := by omega
  have hn1 : (1 : Int) < (t.kids.length : Int) := by omega
  have hnn0 : 0 < t.kids.length := by omega
  have hnn1 : 1 < t.kids.length := by omega
  have p3 : (t.op == 3) = false := beq_eq_false_iff_ne.2 (by omega)
  have p5 : (t.op == 5) = false := beq_eq_false_iff_ne.2 (by omega)
  have p6 : (t.op == 6) = false := beq_eq_false_iff_ne.2 (by omega)
  have p9 : (t.op == 9) = false := beq_eq_false_iff_ne.2 (by omega)
  have p7 : (t.op == 7) = false := beq_eq_false_iff_ne.2 (by omega)
  have p16 : (t.op == 16) = false := beq_eq_false_iff_ne.2 (by omega)
  have p15 : (t.op == 15) = false := beq_eq_false_iff_ne.2 (by omega)
  have p4 : (t.op == 4) = true := beq_iff_eq.2 o4
  clear o4 hbr
  clear hl HE ht h0 h1 h2 h3 hk hbe ew hat0 hx hmx x00 x01 x02 x03 x04 hat1 hy hmy x10 x11 x12 x13 x14
  cases f1 : (x.op == 15)
  · skip
    have hw := Lib.hid (hv.out.trans (show _ = x.text ++ ⟨#[32]⟩ ++ y.text by rw [f1]; rfl))
    have v00 : w0.cell? ⟨b0, off0, none⟩ = some (.int .i64 x.op) := u00 ⟨w0, Below.refl _ _⟩
    have v01 : w0.cell? ⟨b0, off0 + 1, none⟩ = some (.int .i64 x.n) := u01 ⟨w0, Below.refl _ _⟩
    have v02 : w0.cell? ⟨b0, off0 + 2, none⟩ = some (.string x.s) := u02 ⟨w0, Below.refl _ _⟩
    have v03 : w0.cell? ⟨b0, off0 + 3, none⟩ = some (.string x.t) := u03 ⟨w0, Below.refl _ _⟩
    have v04 : w0.cell? ⟨b0, off0 + 4, none⟩ = some (.slice B0 x.kids.length d0) := u04 ⟨w0, Below.refl _ _⟩
    have v10 : w0.cell? ⟨b0, off0 + 5, none⟩ = some (.int .i64 y.op) := u10 ⟨w0, Below.refl _ _⟩
    have v11 : w0.cell? ⟨b0, off0 + 5 + 1, none⟩ = some (.int .i64 y.n) := u11 ⟨w0, Below.refl _ _⟩
    have v12 : w0.cell? ⟨b0, off0 + 5 + 2, none⟩ = some (.string y.s) := u12 ⟨w0, Below.refl _ _⟩
    have v13 : w0.cell? ⟨b0, off0 + 5 + 3, none⟩ = some (.string y.t) := u13 ⟨w0, Below.refl _ _⟩
    have v14 : w0.cell? ⟨b0, off0 + 5 + 4, none⟩ = some (.slice B1 y.kids.length d1) := u14 ⟨w0, Below.refl _ _⟩
    rw [EQ.out] at v00 v01 v02 v03 v04 v10 v11 v12 v13 v14
    go_enter Try.func231, Try.ntmps231
    go_wp2_with fail
    rw [← EQ.out]
    refine (Hx.out _ (Below.refl _ _)).mono ?_
    rintro e w9 ⟨rfl, hb9⟩
    have B9 := Lib.hid hb9
    have R9 := Lib.hid (R.out.below B9.out R.out.lt)
    have hc9 := fun i => R9.out.cell i
    have y00 : w9.cell? ⟨b0, off0, none⟩ = some (.int .i64 x.op) := u00 ⟨w9, hb9⟩
    have y01 : w9.cell? ⟨b0, off0 + 1, none⟩ = some (.int .i64 x.n) := u01 ⟨w9, hb9⟩
    have y02 : w9.cell? ⟨b0, off0 + 2, none⟩ = some (.string x.s) := u02 ⟨w9, hb9⟩
    have y03 : w9.cell? ⟨b0, off0 + 3, none⟩ = some (.string x.t) := u03 ⟨w9, hb9⟩
    have y04 : w9.cell? ⟨b0, off0 + 4, none⟩ = some (.slice B0 x.kids.length d0) := u04 ⟨w9, hb9⟩
    have y10 : w9.cell? ⟨b0, off0 + 5, none⟩ = some (.int .i64 y.op) := u10 ⟨w9, hb9⟩
    have y11 : w9.cell? ⟨b0, off0 + 5 + 1, none⟩ = some (.int .i64 y.n) := u11 ⟨w9, hb9⟩
    have y12 : w9.cell? ⟨b0, off0 + 5 + 2, none⟩ = some (.string y.s) := u12 ⟨w9, hb9⟩
    have y13 : w9.cell? ⟨b0, off0 + 5 + 3, none⟩ = some (.string y.t) := u13 ⟨w9, hb9⟩
    have y14 : w9.cell? ⟨b0, off0 + 5 + 4, none⟩ = some (.slice B1 y.kids.length d1) := u14 ⟨w9, hb9⟩
    clear hb9 q0 v00 v01 v02 v03 v04 v10 v11 v12 v13 v14 u00 u01 u02 u03 u04 u10 u11 u12 u13 u14
    go_wp2_with fail
    refine (Hy.out _ B9.out).mono ?_
    rintro e w8 ⟨rfl, hb8⟩
    go_wp2_with fail
    go_ret
    exact ⟨ret_str (by rw [hw.out]), E.out.trans ((B9.out.trans (hb8.mono B9.out.size)).mono E.out.size)⟩
  · by_cases hk0 : x.kids.length = 0
    · have f2 : (x.kids.length == 0) = true := beq_iff_eq.2 hk0
      have f3 : ((x.kids.length : Int) == 0) = true := by rw [hk0]; rfl
      have hw := Lib.hid (hv.out.trans (show _ = (⟨#[40]⟩ ++ x.text ++ ⟨#[41]⟩) ++ ⟨#[32]⟩ ++ y.text by rw [f1, f2]; rfl))
      clear f2 hk0
      have v00 : w0.cell? ⟨b0, off0, none⟩ = some (.int .i64 x.op) := u00 ⟨w0, Below.refl _ _⟩
      have v01 : w0.cell? ⟨b0, off0 + 1, none⟩ = some (.int .i64 x.n) := u01 ⟨w0, Below.refl _ _⟩
      have v02 : w0.cell? ⟨b0, off0 + 2, none⟩ = some (.string x.s) := u02 ⟨w0, Below.refl _ _⟩
      have v03 : w0.cell? ⟨b0, off0 + 3, none⟩ = some (.string x.t) := u03 ⟨w0, Below.refl _ _⟩
      have v04 : w0.cell? ⟨b0, off0 + 4, none⟩ = some (.slice B0 x.kids.length d0) := u04 ⟨w0, Below.refl _ _⟩
      have v10 : w0.cell? ⟨b0, off0 + 5, none⟩ = some (.int .i64 y.op) := u10 ⟨w0, Below.refl _ _⟩
      have v11 : w0.cell? ⟨b0, off0 + 5 + 1, none⟩ = some (.int .i64 y.n) := u11 ⟨w0, Below.refl _ _⟩
      have v12 : w0.cell? ⟨b0, off0 + 5 + 2, none⟩ = some (.string y.s) := u12 ⟨w0, Below.refl _ _⟩
      have v13 : w0.cell? ⟨b0, off0 + 5 + 3, none⟩ = some (.string y.t) := u13 ⟨w0, Below.refl _ _⟩
      have v14 : w0.cell? ⟨b0, off0 + 5 + 4, none⟩ = some (.slice B1 y.kids.length d1) := u14 ⟨w0, Below.refl _ _⟩
      rw [EQ.out] at v00 v01 v02 v03 v04 v10 v11 v12 v13 v14
      go_enter Try.func231, Try.ntmps231
      go_wp2_with fail
      rw [← EQ.out]
      refine (Hx.out _ (Below.refl _ _)).mono ?_
      rintro e w9 ⟨rfl, hb9⟩
      have B9 := Lib.hid hb9
      have R9 := Lib.hid (R.out.below B9.out R.out.lt)
      have hc9 := fun i => R9.out.cell i
      have y00 : w9.cell? ⟨b0, off0, none⟩ = some (.int .i64 x.op) := u00 ⟨w9, hb9⟩
      have y01 : w9.cell? ⟨b0, off0 + 1, none⟩ = some (.int .i64 x.n) := u01 ⟨w9, hb9⟩
      have y02 : w9.cell? ⟨b0, off0 + 2, none⟩ = some (.string x.s) := u02 ⟨w9, hb9⟩
      have y03 : w9.cell? ⟨b0, off0 + 3, none⟩ = some (.string x.t) := u03 ⟨w9, hb9⟩
      have y04 : w9.cell? ⟨b0, off0 + 4, none⟩ = some (.slice B0 x.kids.length d0) := u04 ⟨w9, hb9⟩
      have y10 : w9.cell? ⟨b0, off0 + 5, none⟩ = some (.int .i64 y.op) := u10 ⟨w9, hb9⟩
      have y11 : w9.cell? ⟨b0, off0 + 5 + 1, none⟩ = some (.int .i64 y.n) := u11 ⟨w9, hb9⟩
      have y12 : w9.cell? ⟨b0, off0 + 5 + 2, none⟩ = some (.string y.s) := u12 ⟨w9, hb9⟩
      have y13 : w9.cell? ⟨b0, off0 + 5 + 3, none⟩ = some (.string y.t) := u13 ⟨w9, hb9⟩
      have y14 : w9.cell? ⟨b0, off0 + 5 + 4, none⟩ = some (.slice B1 y.kids.length d1) := u14 ⟨w9, hb9⟩
      clear hb9 q0 v00 v01 v02 v03 v04 v10 v11 v12 v13 v14 u00 u01 u02 u03 u04 u10 u11 u12 u13 u14
      go_wp2_with fail
      refine (Hy.out _ B9.out).mono ?_
      rintro e w8 ⟨rfl, hb8⟩
      go_wp2_with fail
      go_ret
      exact ⟨ret_str (by rw [hw.out]), E.out.trans ((B9.out.trans (hb8.mono B9.out.size)).mono E.out.size)⟩
    · have f2 : (x.kids.length == 0) = false := beq_eq_false_iff_ne.2 hk0
      have f3 : ((x.kids.length : Int) == 0) = false := by rw [beq_eq_false_iff_ne]; omega
      have hw := Lib.hid (hv.out.trans (show _ = x.text ++ ⟨#[32]⟩ ++ y.text by rw [f1, f2]; rfl))
      clear f2 hk0
      have v00 : w0.cell? ⟨b0, off0, none⟩ = some (.int .i64 x.op) := u00 ⟨w0, Below.refl _ _⟩
      have v01 : w0.cell? ⟨b0, off0 + 1, none⟩ = some (.int .i64 x.n) := u01 ⟨w0, Below.refl _ _⟩
      have v02 : w0.cell? ⟨b0, off0 + 2, none⟩ = some (.string x.s) := u02 ⟨w0, Below.refl _ _⟩
      have v03 : w0.cell? ⟨b0, off0 + 3, none⟩ = some (.string x.t) := u03 ⟨w0, Below.refl _ _⟩
      have v04 : w0.cell? ⟨b0, off0 + 4, none⟩ = some (.slice B0 x.kids.length d0) := u04 ⟨w0, Below.refl _ _⟩
      have v10 : w0.cell? ⟨b0, off0 + 5, none⟩ = some (.int .i64 y.op) := u10 ⟨w0, Below.refl _ _⟩
      have v11 : w0.cell? ⟨b0, off0 + 5 + 1, none⟩ = some (.int .i64 y.n) := u11 ⟨w0, Below.refl _ _⟩
      have v12 : w0.cell? ⟨b0, off0 + 5 + 2, none⟩ = some (.string y.s) := u12 ⟨w0, Below.refl _ _⟩
      have v13 : w0.cell? ⟨b0, off0 + 5 + 3, none⟩ = some (.string y.t) := u13 ⟨w0, Below.refl _ _⟩
      have v14 : w0.cell? ⟨b0, off0 + 5 + 4, none⟩ = some (.slice B1 y.kids.length d1) := u14 ⟨w0, Below.refl _ _⟩
      rw [EQ.out] at v00 v01 v02 v03 v04 v10 v11 v12 v13 v14
      go_enter Try.func231, Try.ntmps231
      go_wp2_with fail
      rw [← EQ.out]
      refine (Hx.out _ (Below.refl _ _)).mono ?_
      rintro e w9 ⟨rfl, hb9⟩
      have B9 := Lib.hid hb9
      have R9 := Lib.hid (R.out.below B9.out R.out.lt)
      have hc9 := fun i => R9.out.cell i
      have y00 : w9.cell? ⟨b0, off0, none⟩ = some (.int .i64 x.op) := u00 ⟨w9, hb9⟩
      have y01 : w9.cell? ⟨b0, off0 + 1, none⟩ = some (.int .i64 x.n) := u01 ⟨w9, hb9⟩
      have y02 : w9.cell? ⟨b0, off0 + 2, none⟩ = some (.string x.s) := u02 ⟨w9, hb9⟩
      have y03 : w9.cell? ⟨b0, off0 + 3, none⟩ = some (.string x.t) := u03 ⟨w9, hb9⟩
      have y04 : w9.cell? ⟨b0, off0 + 4, none⟩ = some (.slice B0 x.kids.length d0) := u04 ⟨w9, hb9⟩
      have y10 : w9.cell? ⟨b0, off0 + 5, none⟩ = some (.int .i64 y.op) := u10 ⟨w9, hb9⟩
      have y11 : w9.cell? ⟨b0, off0 + 5 + 1, none⟩ = some (.int .i64 y.n) := u11 ⟨w9, hb9⟩
      have y12 : w9.cell? ⟨b0, off0 + 5 + 2, none⟩ = some (.string y.s) := u12 ⟨w9, hb9⟩
      have y13 : w9.cell? ⟨b0, off0 + 5 + 3, none⟩ = some (.string y.t) := u13 ⟨w9, hb9⟩
      have y14 : w9.cell? ⟨b0, off0 + 5 + 4, none⟩ = some (.slice B1 y.kids.length d1) := u14 ⟨w9, hb9⟩
      clear hb9 q0 v00 v01 v02 v03 v04 v10 v11 v12 v13 v14 u00 u01 u02 u03 u04 u10 u11 u12 u13 u14
      go_wp2_with fail
      refine (Hy.out _ B9.out).mono ?_
      rintro e w8 ⟨rfl, hb8⟩
      go_wp2_with fail
      go_ret
      exact ⟨ret_str (by rw [hw.out]), E.out.trans ((B9.out.trans (hb8.mono B9.out.size)).mono E.out.size)⟩

end Go.Proofs.Ytgbcdfeflgnogaa

/- A con and a case as text, in the reference. Conditions: what the program holds is at most 1048576. -/
namespace Go.Proofs.Ytgbcdfeflgnogaa
open Go.RowKit Go.BigFrame
set_option linter.unusedVariables false
set_option linter.unusedSimpArgs false
set_option maxHeartbeats 4000000

set_option maxRecDepth 20000 in
theorem specBody_15 (t : GNode) (A1 : Option Addr) (c1 : Nat) (w : World) (hb : t.bulk ≤ 1048576) (o15 : t.op = 15) (HE : ∀ x ∈ t.kids, ∀ (A2 : Option Addr) (c2 : Nat) (w2 : World), GNode.At w2 (Lt w2.heap.size) A2 c2 x → Calls Try.prog 165 #[.agg #[.int .i64 x.op, .int .i64 x.n, .string x.s, .string x.t, .slice A2 x.kids.length c2]] w2 fun e w' => e = .returned (.string x.text) ∧ Below w2.heap.size w2 w') (ht : GNode.At w (Lt w.heap.size) A1 c1 t) :
    Calls Try.prog 231 #[.agg #[.int .i64 t.op, .int .i64 t.n, .string t.s, .string t.t, .slice A1 t.kids.length c1]] w fun e w' => e = .returned (.string (t.s ++ spaced (t.kids.map GNode.text))) ∧ Below w.heap.size w w' := by
  obtain ⟨h0, h1, h2, h3, hk⟩ := id ht
  have hlen : t.kids.length ≤ 9223372036854775807 := by simpa using hk.len
  have hbe := t.bulk_eq
  have hzs : t.s.size ≤ 1048576 := by omega
  have hzt : t.t.size ≤ 1048576 := by omega
  obtain ⟨w0, ew⟩ : ∃ w0, w0 = (w.alloc (.cells #[.int .i64 t.op, .int .i64 t.n, .string t.s, .string t.t, .slice A1 t.kids.length c1] 49)).alloc (.cells #[.string ⟨#[32, 43, 32]⟩, .string ⟨#[32, 45, 32]⟩, .string ⟨#[32, 42, 32]⟩, .string ⟨#[32, 60, 32]⟩, .string ⟨#[32, 61, 61, 32]⟩] 9) := ⟨_, rfl⟩
  have E := Lib.hid (show Below w.heap.size w w0 by rw [ew]; exact ((Below.refl _ _).alloc (Nat.le_refl _) _).alloc (by simp) _)
  have R := Lib.hid (show Row w0 w.heap.size 49 #[.int .i64 t.op, .int .i64 t.n, .string t.s, .string t.t, .slice A1 t.kids.length c1] by rw [ew]; exact (Row.new _ _ _).alloc _)
  have EQ := Lib.hid ew
  have K0 := Lib.hid (hk.below E.out (Nat.le_refl _))
  have HX := Lib.hid (fun (j : Nat) (hj : j < t.kids.length) => HE t.kids[j] (List.getElem_mem hj))
  have hzl := t.lens_kids
  have hzt : (spaced (t.kids.map GNode.text)).size ≤ 41943040 := by rw [spaced_tail]; have := tailB_size (sep := ⟨#[32]⟩) (by rw [ba1]; omega) (t.kids.map GNode.text); omega
  have HZK := Lib.hid (fun (j : Nat) (hj : j < t.kids.length) => show (t.kids[j]).text.size ≤ 41943060 from big_size (by have := bulkL_mem GNode.bulk t.kids _ (List.getElem_mem hj); omega))
  have p3 : (t.op == 3) = false := beq_eq_false_iff_ne.2 (by omega)
  have p5 : (t.op == 5) = false := beq_eq_false_iff_ne.2 (by omega)
  have p6 : (t.op == 6) = false := beq_eq_false_iff_ne.2 (by omega)
  have p9 : (t.op == 9) = false := beq_eq_false_iff_ne.2 (by omega)
  have p7 : (t.op == 7) = false := beq_eq_false_iff_ne.2 (by omega)
  have p16 : (t.op == 16) = false := beq_eq_false_iff_ne.2 (by omega)
  have p15 : (t.op == 15) = true := beq_iff_eq.2 o15
  clear o15 HE ht h0 h1 h2 h3 hk hbe hzl ew
  have hc0 := fun i => R.out.cell i
  go_enter Try.func231, Try.ntmps231
  go_wp2_with fail
  rw [← EQ.out]
  go_loopw [6, 7] (fun s i wr => ∃ (j : Nat), j ≤ t.kids.length ∧ i = .int .i64 j ∧ s = .string (t.s ++ spaced ((t.kids.map GNode.text).take j)) ∧ Hid (Row wr w.heap.size 49 #[.int .i64 t.op, .int .i64 t.n, .string t.s, .string t.t, .slice A1 t.kids.length c1]) ∧ Hid (Below w0.heap.size w0 wr)) (fun _ i _ => t.kids.length - (intOf i).toNat)
  case atStart => exact ⟨0, by omega, by go_num, by rw [List.take_zero]; simp only [spaced, tnil], R, Lib.hid (Below.refl _ _)⟩
  case round =>
    obtain ⟨j, hj, rfl, rfl, HR, HB⟩ := hrel
    have hR := fun i => HR.out.cell i
    have hRl := HR.out.lt
    have hzj := spaced_le (t.kids.map GNode.text) j
    have hzj2 : (spaced ((t.kids.map GNode.text).take j)).size ≤ 41943040 := by omega
    clear hzj
    by_cases hlt : j < t.kids.length
    · obtain ⟨b, off, A2, c2, eA, hSb, g0, g1, g2, g3, g4, hat⟩ := GNode.elem (K0.out.keep (w' := wr) (S' := Lt w.heap.size) (fun q hq => ⟨hq, HB.out.block q (Nat.lt_of_lt_of_le hq E.out.size)⟩)) j hlt
      subst eA
      have HA := Lib.hid (hat.below (Below.refl _ _) (Nat.le_trans E.out.size HB.out.size))
      have hzk := HZK.out j hlt
      have HT := Lib.hid (spaced_take (t.kids.map GNode.text) j (by simpa using hlt))
      rw [List.getElem_map] at HT
      have HXJ := Lib.hid (HX.out j hlt A2 c2)
      clear hat
      have z1 : ¬ 9223372036854775807 < t.s.size + (spaced ((t.kids.map GNode.text).take j)).size := by omega
      have z2 : ¬ 9223372036854775807 < t.s.size + (spaced ((t.kids.map GNode.text).take j)).size + 1 := by omega
      have z3 : ¬ 9223372036854775807 < t.s.size + (spaced ((t.kids.map GNode.text).take j)).size + 1 + (t.kids[j]).text.size := by omega
      go_wp2_with fail
      refine (HXJ.out _ HA.out).mono ?_
      rintro e w1 ⟨rfl, hb1⟩
      have B1 := Lib.hid (HB.out.trans (hb1.mono HB.out.size))
      have R1 := Lib.hid (HR.out.below hb1 hRl)
      clear hb1
      go_wp2_with fail
      go_roundw
      case rel => exact ⟨j + 1, by omega, by go_num, by rw [HT.out]; simp only [ba_assoc], R1, B1⟩
      case measure => simp [intOf]; omega
    · have hjl : j = t.kids.length := by omega
      have HT := Lib.hid (show (t.kids.map GNode.text).take j = t.kids.map GNode.text by rw [hjl, List.take_of_length_le (by simp)])
      rw [HT.out]
      go_wp2_with fail
      go_ret
      exact ⟨rfl, E.out.trans (HB.out.mono E.out.size)⟩

theorem altText {a p y : GNode} (ho : a.op = 8) (hk : a.kids = [p, y]) : a.text = p.text ++ ⟨#[32, 45, 62, 32]⟩ ++ y.text := by
  rw [a.text_eq, hk]; unfold nodeTextOf; rw [if_neg (by omega), if_neg (by omega), if_neg (by omega), if_pos ho]; rfl

set_option maxRecDepth 20000 in
theorem specBody_7 (t : GNode) (A1 : Option Addr) (c1 : Nat) (w : World) (hb : t.bulk ≤ 1048576) (x : GNode) (r : List GNode) (hxr : t.kids = x :: r) (o7 : t.op = 7) (HE : ∀ (A2 : Option Addr) (c2 : Nat) (w2 : World), GNode.At w2 (Lt w2.heap.size) A2 c2 x → Calls Try.prog 165 #[.agg #[.int .i64 x.op, .int .i64 x.n, .string x.s, .string x.t, .slice A2 x.kids.length c2]] w2 fun e w' => e = .returned (.string x.text) ∧ Below w2.heap.size w2 w') (HA : ∀ a ∈ r, ∃ p y, a.kids = [p, y] ∧ a.op = 8 ∧ (∀ (A2 : Option Addr) (c2 : Nat) (w2 : World), GNode.At w2 (Lt w2.heap.size) A2 c2 p → Calls Try.prog 287 #[.agg #[.int .i64 p.op, .int .i64 p.n, .string p.s, .string p.t, .slice A2 p.kids.length c2]] w2 fun e w' => e = .returned (.string p.text) ∧ Below w2.heap.size w2 w') ∧ (∀ (A2 : Option Addr) (c2 : Nat) (w2 : World), GNode.At w2 (Lt w2.heap.size) A2 c2 y → Calls Try.prog 165 #[.agg #[.int .i64 y.op, .int .i64 y.n, .string y.s, .string y.t, .slice A2 y.kids.length c2]] w2 fun e w' => e = .returned (.string y.text) ∧ Below w2.heap.size w2 w')) (ht : GNode.At w (Lt w.heap.size) A1 c1 t) :
    Calls Try.prog 231 #[.agg #[.int .i64 t.op, .int .i64 t.n, .string t.s, .string t.t, .slice A1 t.kids.length c1]] w fun e w' => e = .returned (.string (bodyOf t.op t.s t.t (bareL t.kids) (t.kids.map GNode.text))) ∧ Below w.heap.size w w' := by
  obtain ⟨h0, h1, h2, h3, hk⟩ := id ht
  have hlen : t.kids.length ≤ 9223372036854775807 := by simpa using hk.len
  have hbe := t.bulk_eq
  have hzs : t.s.size ≤ 1048576 := by omega
  have hzt : t.t.size ≤ 1048576 := by omega
  obtain ⟨w0, ew⟩ : ∃ w0, w0 = (w.alloc (.cells #[.int .i64 t.op, .int .i64 t.n, .string t.s, .string t.t, .slice A1 t.kids.length c1] 49)).alloc (.cells #[.string ⟨#[32, 43, 32]⟩, .string ⟨#[32, 45, 32]⟩, .string ⟨#[32, 42, 32]⟩, .string ⟨#[32, 60, 32]⟩, .string ⟨#[32, 61, 61, 32]⟩] 9) := ⟨_, rfl⟩
  have E := Lib.hid (show Below w.heap.size w w0 by rw [ew]; exact ((Below.refl _ _).alloc (Nat.le_refl _) _).alloc (by simp) _)
  have R := Lib.hid (show Row w0 w.heap.size 49 #[.int .i64 t.op, .int .i64 t.n, .string t.s, .string t.t, .slice A1 t.kids.length c1] by rw [ew]; exact (Row.new _ _ _).alloc _)
  have EQ := Lib.hid ew
  have K0 := Lib.hid (hk.below E.out (Nat.le_refl _))
  obtain ⟨b0, off0, A4, c4, eA, hS0, x0, x1, x2, x3, x4, hatx⟩ := GNode.elem hk 0 (by rw [hxr]; simp)
  subst eA
  have hx0 : t.kids[0]'(by rw [hxr]; simp) = x := by simp [hxr]
  rw [hx0] at x0 x1 x2 x3 x4 hatx
  simp only [Nat.zero_mul, Nat.add_zero] at x0 x1 x2 x3 x4
  have y0 := (E.out.cell (p := ⟨b0, off0, none⟩) hS0).trans x0
  have y1 := (E.out.cell (p := ⟨b0, off0 + 1, none⟩) hS0).trans x1
  have y2 := (E.out.cell (p := ⟨b0, off0 + 2, none⟩) hS0).trans x2
  have y3 := (E.out.cell (p := ⟨b0, off0 + 3, none⟩) hS0).trans x3
  have y4 := (E.out.cell (p := ⟨b0, off0 + 4, none⟩) hS0).trans x4
  have HX := Lib.hid (HE A4 c4 w0 (hatx.keep (keep_below E.out E.out.size)))
  have hll : t.kids.length = r.length + 1 := by rw [hxr]; rfl
  have HAA := Lib.hid HA
  have hn0 : (0 : Int) < (t.kids.length : Int) := by omega
  have hnn0 : 0 < t.kids.length := by omega
  have hzl := t.lens_kids
  have hzl2 : x.text.size + 3 + lensB (r.map GNode.text) ≤ 40 * t.bulk := by rw [hxr, List.map_cons, lensB_cons] at hzl; exact hzl
  have hzx : x.text.size ≤ 41943040 := by omega
  have hzr : lensB (r.map GNode.text) ≤ 41943040 := by omega
  have HZJ := Lib.hid (fun (j : Nat) => show (joinB ⟨#[59, 32]⟩ ((r.map GNode.text).take j)).size ≤ 41943040 from Nat.le_trans (joinB_size (by rw [ba2]; omega) _) (Nat.le_trans (lensB_take _ j) hzr))
  have HZA := Lib.hid (fun (j : Nat) (hj : j < r.length) => show (r[j]).text.size ≤ 41943040 from by have := lensB_get (l := r.map GNode.text) (i := j) (by simpa using hj); rw [List.getElem_map] at this; omega)
  have hv := Lib.hid (show bodyOf t.op t.s t.t (bareL t.kids) (t.kids.map GNode.text) = ⟨#[99, 97, 115, 101, 32]⟩ ++ x.text ++ ⟨#[32, 111, 102, 32, 123, 32]⟩ ++ joinB ⟨#[59, 32]⟩ (r.map GNode.text) ++ ⟨#[32, 125]⟩ by
    unfold bodyOf; rw [if_neg (by omega), if_neg (by omega), if_neg (by omega), if_neg (by omega), if_pos o7, hxr]; rfl)
  have HRJ := Lib.hid (show ∀ (j : Nat) (h1 : j + 1 < t.kids.length) (hj : j < r.length), t.kids[j + 1] = r[j] from fun j h1 hj => by simp [hxr])
  have zz0 : ¬ 9223372036854775807 < 5 + x.text.size := by omega
  have zz1 : ¬ 9223372036854775807 < 5 + x.text.size + 6 := by omega
  have p3 : (t.op == 3) = false := beq_eq_false_iff_ne.2 (by omega)
  have p5 : (t.op == 5) = false := beq_eq_false_iff_ne.2 (by omega)
  have p6 : (t.op == 6) = false := beq_eq_false_iff_ne.2 (by omega)
  have p9 : (t.op == 9) = false := beq_eq_false_iff_ne.2 (by omega)
  have p7 : (t.op == 7) = true := beq_iff_eq.2 o7
  clear o7 HE HA ht h0 h1 h2 h3 hk hbe hzl hzl2 ew hxr hatx x0 x1 x2 x3 x4 hx0
  have HZ0 := Lib.hid hn0
  have hlt2 := fun (j : Nat) (hj : j < r.length) => show j + 1 < t.kids.length by omega
  have HLT2 := Lib.hid hlt2
  have HLG := Lib.hid (show ∀ j : Nat, j = r.length → ¬ ((j + 1 : Nat) : Int) < (t.kids.length : Int) from fun j h => by omega)
  have HLM := Lib.hid hll
  clear hll
  rw [EQ.out] at y0 y1 y2 y3 y4
  clear hlt2
  go_enter Try.func231, Try.ntmps231
  go_wp2_with fail
  rw [← EQ.out]
  refine HX.out.mono ?_
  rintro e w1 ⟨rfl, hb1⟩
  have B1 := Lib.hid hb1
  have R1 := Lib.hid (R.out.below hb1 R.out.lt)
  clear hb1 y0 y1 y2 y3 y4
  go_wp2_with fail
  go_loopw [4, 5] (fun s i wr => ∃ (j : Nat), j ≤ r.length ∧ i = .int .i64 ((j + 1 : Nat) : Int) ∧ s = .string (⟨#[99, 97, 115, 101, 32]⟩ ++ x.text ++ ⟨#[32, 111, 102, 32, 123, 32]⟩ ++ joinB ⟨#[59, 32]⟩ ((r.map GNode.text).take j)) ∧ Hid (Row wr w.heap.size 49 #[.int .i64 t.op, .int .i64 t.n, .string t.s, .string t.t, .slice (some ⟨b0, off0, none⟩) t.kids.length c1]) ∧ Hid (Below w0.heap.size w0 wr)) (fun _ i _ => t.kids.length - (intOf i).toNat)
  case atStart => exact ⟨0, by omega, by go_num, by rw [List.take_zero]; simp only [joinB, tnil], R1, B1⟩
  case round =>
    clear R1 B1
    obtain ⟨j, hj, rfl, rfl, HR, HB⟩ := hrel
    have hR := fun i => HR.out.cell i
    have hRl := HR.out.lt
    have hzj := HZJ.out j
    have hll := HLM.out
    by_cases hlt : j < r.length
    · obtain ⟨b, off, A2, c2, eA, hSb, g0, g1, g2, g3, g4, hat⟩ := GNode.elem (K0.out.keep (w' := wr) (S' := Lt w.heap.size) (fun q hq => ⟨hq, HB.out.block q (Nat.lt_of_lt_of_le hq E.out.size)⟩)) (j + 1) (by omega)
      simp only [Option.some.injEq, Addr.mk.injEq, and_true] at eA
      obtain ⟨rfl, rfl⟩ := eA
      have hrj := HRJ.out j (HLM.out ▸ Nat.succ_lt_succ hlt) hlt
      rw [hrj] at g0 g1 g2 g3 g4 hat
      obtain ⟨p, y, hpy, ha8, HPP, HYY⟩ := HAA.out r[j] (List.getElem_mem hlt)
      have HAT := Lib.hid (altText ha8 hpy)
      have hza := HZA.out j hlt
      rw [HAT.out] at hza
      simp only [ByteArray.size_append', ba4] at hza
      have hsk := hat.2.2.2.2
      rw [hpy] at hsk
      obtain ⟨b2, off2, A5, c5, eB, hS2, k0, k1, k2, k3, k4, hatp⟩ := GNode.elem hsk 0 (by simp)
      obtain ⟨b3, off3, A6, c6, eC, hS3, l0, l1, l2, l3, l4, haty⟩ := GNode.elem hsk 1 (by simp)
      subst eB
      simp only [Option.some.injEq, Addr.mk.injEq, and_true] at eC
      obtain ⟨rfl, rfl⟩ := eC
      simp only [List.getElem_cons_zero, List.getElem_cons_succ, Nat.zero_mul, Nat.one_mul, Nat.add_zero] at k0 k1 k2 k3 k4 hatp l0 l1 l2 l3 l4 haty
      have hkl : (r[j]).kids.length = 2 := by rw [hpy]; rfl
      have hm0 : (0 : Int) < ((r[j]).kids.length : Int) := by omega
      have hm1 : (1 : Int) < ((r[j]).kids.length : Int) := by omega
      have hm0n : 0 < (r[j]).kids.length := by omega
      have hm1n : 1 < (r[j]).kids.length := by omega
      have hi1 : ((j + 1 : Nat) : Int) < (t.kids.length : Int) := by omega
      have hi1n : j + 1 < t.kids.length := by omega
      have hi2 : (0 : Int) ≤ ((j + 1 : Nat) : Int) := by omega
      have hw0 : wr.heap.size ≥ w.heap.size := Nat.le_trans E.out.size HB.out.size
      have HPX := Lib.hid (fun (wx : World) (hb : Below wr.heap.size wr wx) => HPP A5 c5 wx (hatp.keep (fun q hq => ⟨Nat.lt_of_lt_of_le hq (Nat.le_trans hw0 hb.size), hb.block q (Nat.lt_of_lt_of_le hq hw0)⟩)))
      have HYX := Lib.hid (fun (wx : World) (hb : Below wr.heap.size wr wx) => HYY A6 c6 wx (haty.keep (fun q hq => ⟨Nat.lt_of_lt_of_le hq (Nat.le_trans hw0 hb.size), hb.block q (Nat.lt_of_lt_of_le hq hw0)⟩)))
      have q0 := upRow HR.out
      have hb0l : b0 < wr.heap.size := Nat.lt_of_lt_of_le hSb hw0
      have hb2l : b2 < wr.heap.size := Nat.lt_of_lt_of_le hS2 hw0
      have v4 := upCell (p := ⟨b0, off0 + (j + 1) * 5 + 4, none⟩) hb0l g4
      have m0 := upCell (p := ⟨b2, off2, none⟩) hb2l k0
      have m1 := upCell (p := ⟨b2, off2 + 1, none⟩) hb2l k1
      have m2 := upCell (p := ⟨b2, off2 + 2, none⟩) hb2l k2
      have m3 := upCell (p := ⟨b2, off2 + 3, none⟩) hb2l k3
      have m4 := upCell (p := ⟨b2, off2 + 4, none⟩) hb2l k4
      have n0 := upCell (p := ⟨b2, off2 + 5, none⟩) hb2l l0
      have n1 := upCell (p := ⟨b2, off2 + 5 + 1, none⟩) hb2l l1
      have n2 := upCell (p := ⟨b2, off2 + 5 + 2, none⟩) hb2l l2
      have n3 := upCell (p := ⟨b2, off2 + 5 + 3, none⟩) hb2l l3
      have n4 := upCell (p := ⟨b2, off2 + 5 + 4, none⟩) hb2l l4
      have HT1 := Lib.hid (fun (h : j = 0) => show joinB ⟨#[59, 32]⟩ ((r.map GNode.text).take (j + 1)) = (r[j]).text by subst h; rw [joinB_first _ (by simp; omega), List.getElem_map])
      have HT2 := Lib.hid (fun (h : 0 < j) => show joinB ⟨#[59, 32]⟩ ((r.map GNode.text).take (j + 1)) = joinB ⟨#[59, 32]⟩ ((r.map GNode.text).take j) ++ ⟨#[59, 32]⟩ ++ (r[j]).text by rw [joinB_take _ h (by simpa using hlt), List.getElem_map])
      clear hll hat hsk hatp haty HPP HYY hrj g0 g1 g2 g3 k0 k1 k2 k3 k4 l0 l1 l2 l3 l4
      obtain ⟨J, hJ⟩ : ∃ J, J = joinB ⟨#[59, 32]⟩ ((r.map GNode.text).take j) := ⟨_, rfl⟩
      rw [← hJ] at hzj HT2
      have HJ := Lib.hid hJ
      rw [← hJ]
      clear hJ
      by_cases hj0 : j = 0
      · have hg : ¬ (1 : Int) < ((j + 1 : Nat) : Int) := by omega
        have hg2 : decide ((1 : Int) < ((j + 1 : Nat) : Int)) = false := decide_eq_false hg
        have hg3 : ¬ 1 < j + 1 := by omega
        have hg4 : ¬ 0 < j := by omega
        have HTX := Lib.hid (HT1.out hj0)
        have HJ0 := Lib.hid (show J = ⟨#[]⟩ by rw [HJ.out, hj0]; rfl)
        have hJz : J.size = 0 := by rw [HJ0.out]; rfl
        have za0 : ¬ 9223372036854775807 < 5 + x.text.size := by omega
        have za1 : ¬ 9223372036854775807 < 5 + x.text.size + 6 := by omega
        have za2 : ¬ 9223372036854775807 < 5 + x.text.size + 6 + J.size := by omega
        have za3 : ¬ 9223372036854775807 < 5 + x.text.size + 6 + J.size + p.text.size := by omega
        have za4 : ¬ 9223372036854775807 < 5 + x.text.size + 6 + J.size + p.text.size + 4 := by omega
        have za5 : ¬ 9223372036854775807 < 5 + x.text.size + 6 + J.size + p.text.size + 4 + y.text.size := by omega
        clear hj0
        go_wp2_with fail
        refine wp_region_up wr (Below.refl _ _) (by kernel_rfl) (by kernel_rfl) ?_
        repeat (go_big_quiet_step (first | (go_at_call 287; exact upCall (HPX.out _ (Up.h _))) | (go_at_call 165; exact upCall (HYX.out _ (Up.h _)))))
        refine wpQuiet_nil ?_
        rintro w9 ⟨x9, e9⟩
        have B9 := Lib.hid (show Below wr.heap.size wr w9 by rw [e9]; exact x9.h)
        have R9 := Lib.hid (HR.out.below B9.out hRl)
        clear e9 x9 q0 v4 m0 m1 m2 m3 m4 n0 n1 n2 n3 n4
        go_wp2_with fail
        go_roundw
        case rel => exact ⟨j + 1, by omega, by go_num, by rw [HTX.out, HAT.out, HJ0.out]; simp only [tnil, ba_assoc], R9, Lib.hid (HB.out.trans (B9.out.mono HB.out.size))⟩
        case measure => simp [intOf]; omega
      · have hg : (1 : Int) < ((j + 1 : Nat) : Int) := by omega
        have hg2 : decide ((1 : Int) < ((j + 1 : Nat) : Int)) = true := decide_eq_true hg
        have hg3 : 1 < j + 1 := by omega
        have hg4 : 0 < j := by omega
        have HTX := Lib.hid (HT2.out hg4)
        have za0 : ¬ 9223372036854775807 < 5 + x.text.size := by omega
        have za1 : ¬ 9223372036854775807 < 5 + x.text.size + 6 := by omega
        have za2 : ¬ 9223372036854775807 < 5 + x.text.size + 6 + J.size := by omega
        have za3 : ¬ 9223372036854775807 < 5 + x.text.size + 6 + J.size + 2 := by omega
        have za4 : ¬ 9223372036854775807 < 5 + x.text.size + 6 + J.size + 2 + p.text.size := by omega
        have za5 : ¬ 9223372036854775807 < 5 + x.text.size + 6 + J.size + 2 + p.text.size + 4 := by omega
        have za6 : ¬ 9223372036854775807 < 5 + x.text.size + 6 + J.size + 2 + p.text.size + 4 + y.text.size := by omega
        clear hj0
        go_wp2_with fail
        refine wp_region_up wr (Below.refl _ _) (by kernel_rfl) (by kernel_rfl) ?_
        repeat (go_big_quiet_step (first | (go_at_call 287; exact upCall (HPX.out _ (Up.h _))) | (go_at_call 165; exact upCall (HYX.out _ (Up.h _)))))
        refine wpQuiet_nil ?_
        rintro w9 ⟨x9, e9⟩
        have B9 := Lib.hid (show Below wr.heap.size wr w9 by rw [e9]; exact x9.h)
        have R9 := Lib.hid (HR.out.below B9.out hRl)
        clear e9 x9 q0 v4 m0 m1 m2 m3 m4 n0 n1 n2 n3 n4
        go_wp2_with fail
        go_roundw
        case rel => exact ⟨j + 1, by omega, by go_num, by rw [HTX.out, HAT.out]; simp only [ba_assoc], R9, Lib.hid (HB.out.trans (B9.out.mono HB.out.size))⟩
        case measure => simp [intOf]; omega
    · have hjl : j = r.length := by omega
      have HT := Lib.hid (show (r.map GNode.text).take j = r.map GNode.text by rw [hjl, List.take_of_length_le (by simp)])
      have hi1 : ¬ ((j + 1 : Nat) : Int) < (t.kids.length : Int) := by omega
      have hi1n : ¬ j + 1 < t.kids.length := by omega
      clear hll
      rw [HT.out] at hzj ⊢
      have za : ¬ 9223372036854775807 < 5 + x.text.size + 6 + (joinB ⟨#[59, 32]⟩ (r.map GNode.text)).size := by omega
      have zb : ¬ 9223372036854775807 < 5 + x.text.size + 6 + (joinB ⟨#[59, 32]⟩ (r.map GNode.text)).size + 2 := by omega
      go_wp2_with fail
      go_ret
      exact ⟨ret_str (by rw [hv.out]), E.out.trans (HB.out.mono E.out.size)⟩

end Go.Proofs.Ytgbcdfeflgnogaa

/- Expressions as text, in the reference. Conditions: what the program holds is at most 1048576. -/
namespace Go.Proofs.Ytgbcdfeflgnogaa
open Go.RowKit Go.BigFrame
set_option linter.unusedVariables false
set_option linter.unusedSimpArgs false
set_option maxHeartbeats 4000000

/-- the inside of an expression's brackets -/
def bodyT (t : GNode) : ByteArray := if t.op = 15 then t.s ++ spaced (t.kids.map GNode.text) else bodyOf t.op t.s t.t (bareL t.kids) (t.kids.map GNode.text)
theorem text_body {t : GNode} (h : t.exp = true) (o1 : ¬ t.op = 1) (o2 : ¬ t.op = 2) (o15 : ¬ (t.op = 15 ∧ t.kids.length = 0)) : t.text = ⟨#[40]⟩ ++ bodyT t ++ ⟨#[41]⟩ := by
  have hl := exp_len h
  rw [t.text_eq]
  unfold nodeTextOf bodyT
  by_cases h15 : t.op = 15
  · rw [if_neg (by omega), if_neg (by omega), if_neg (by omega), if_neg (by omega), if_pos (.inl h15), List.length_map, if_neg (fun e => o15 ⟨h15, e⟩), if_pos h15, spaced_join (by intro e; rw [List.map_eq_nil_iff] at e; exact o15 ⟨h15, by rw [e]; rfl⟩)]
    simp only [ba_assoc]
  · rw [if_neg (by omega), if_neg (by omega), if_neg (by omega), if_neg (by omega), if_neg (by omega), if_neg h15]

theorem bodyT_not {t : GNode} (h : ¬ t.op = 15) : bodyT t = bodyOf t.op t.s t.t (bareL t.kids) (t.kids.map GNode.text) := if_neg h
theorem bodyT_con {t : GNode} (h : t.op = 15) : bodyT t = t.s ++ spaced (t.kids.map GNode.text) := if_pos h

set_option maxRecDepth 20000 in
theorem specText (k : Nat) : ∀ (t : GNode) (A1 : Option Addr) (c1 : Nat) (w : World), t.bulk < k → t.bulk ≤ 1048576 → t.exp = true → GNode.At w (Lt w.heap.size) A1 c1 t →
    Calls Try.prog 165 #[.agg #[.int .i64 t.op, .int .i64 t.n, .string t.s, .string t.t, .slice A1 t.kids.length c1]] w fun e w' => e = .returned (.string t.text) ∧ Below w.heap.size w w' := by
  induction k with
  | zero => intros; omega
  | succ k ih =>
    intro t A1 c1 w hk0 hb he ht
    obtain ⟨h0, h1, h2, h3, hk⟩ := id ht
    have hn := wf64 h1
    have hlen : t.kids.length ≤ 9223372036854775807 := by simpa using hk.len
    have hbe := t.bulk_eq
    have R0 := Lib.hid (Row.new w 49 #[.int .i64 t.op, .int .i64 t.n, .string t.s, .string t.t, .slice A1 t.kids.length c1])
    have E0 := Lib.hid (show Below w.heap.size w (w.alloc (.cells #[.int .i64 t.op, .int .i64 t.n, .string t.s, .string t.t, .slice A1 t.kids.length c1] 49)) from (Below.refl _ _).alloc (Nat.le_refl _) _)
    have hol := exp_len he
    by_cases o1 : t.op = 1
    · have hin : inB t.n 0 1073741823 = true := by rcases hol with h | h | h | h | h | h | h | h | h | h | h <;> first | exact h.2.1 | omega
      have HE := Lib.hid (show t.text = digI t.n by rw [t.text_eq]; unfold nodeTextOf; rw [if_pos (.inl o1), if_pos hin])
      have HD := Lib.hid (fun (wx : World) => specDigits t.n wx hn.1 hn.2)
      have p1 : (t.op == 1) = true := beq_iff_eq.2 o1
      clear hin hol o1 ih ht
      go_enter Try.func165, Try.ntmps165
      go_wp2_with fail
      refine (HD.out _).mono ?_
      rintro e w1 ⟨rfl, hb1⟩
      go_wp2_with fail
      go_ret
      exact ⟨ret_str HE.out.symm, E0.out.trans (hb1.mono E0.out.size)⟩
    have p1 : (t.op == 1) = false := beq_eq_false_iff_ne.2 o1
    by_cases o2 : t.op = 2
    · have HE := Lib.hid (show t.text = t.s by rw [t.text_eq]; unfold nodeTextOf; rw [if_neg (by omega), if_pos (.inl o2)])
      have p2 : (t.op == 2) = true := beq_iff_eq.2 o2
      clear hol o1 o2 ih ht
      go_enter Try.func165, Try.ntmps165
      go_wp2_with fail
      go_ret
      exact ⟨ret_str HE.out.symm, E0.out⟩
    have p2 : (t.op == 2) = false := beq_eq_false_iff_ne.2 o2
    by_cases o15 : t.op = 15 ∧ t.kids.length = 0
    · have HE := Lib.hid (show t.text = t.s by rw [t.text_eq]; unfold nodeTextOf; rw [if_neg (by omega), if_neg (by omega), if_neg (by omega), if_neg (by omega), if_pos (.inl o15.1), List.length_map, if_pos o15.2])
      have p15 : (t.op == 15) = true := beq_iff_eq.2 o15.1
      have pk : ((t.kids.length : Int) == 0) = true := by rw [o15.2]; rfl
      clear hol o1 o2 o15 ih ht
      go_enter Try.func165, Try.ntmps165
      go_wp2_with fail
      go_ret
      exact ⟨ret_str HE.out.symm, E0.out⟩
    have HV := Lib.hid (text_body he o1 o2 o15)
    have hzt := t.text_size
    have hzb : (bodyT t).size ≤ 41943100 := by have : t.text.size = 1 + (bodyT t).size + 1 := by rw [HV.out]; simp only [ByteArray.size_append', ba1]
                                               omega
    have HKK : ¬ t.op = 7 → ∀ x ∈ t.kids, ∀ (A2 : Option Addr) (c2 : Nat) (w2 : World), GNode.At w2 (Lt w2.heap.size) A2 c2 x → Calls Try.prog 165 #[.agg #[.int .i64 x.op, .int .i64 x.n, .string x.s, .string x.t, .slice A2 x.kids.length c2]] w2 fun e w' => e = .returned (.string x.text) ∧ Below w2.heap.size w2 w' :=
      fun h7 x hx A2 c2 w2 hx2 => ih x A2 c2 w2 (by have := bulkL_mem GNode.bulk t.kids x hx; omega) (by have := bulkL_mem GNode.bulk t.kids x hx; omega) (exp_kids he h7 x hx) hx2
    have HB := Lib.hid (show ∀ (wx : World), GNode.At wx (Lt wx.heap.size) A1 c1 t → Calls Try.prog 231 #[.agg #[.int .i64 t.op, .int .i64 t.n, .string t.s, .string t.t, .slice A1 t.kids.length c1]] wx fun e w' => e = .returned (.string (bodyT t)) ∧ Below wx.heap.size wx w' from fun wx hx => by
      rcases hol with h | h | h | h | h | h | h | h | h | h | h
      · exact absurd h.1 o1
      · exact absurd h.1 o2
      · rw [bodyT_not (by omega)]; exact specBody_3 t A1 c1 wx hb h.1 h.2 (HKK (by omega)) hx
      · rw [bodyT_not (by omega)]; exact specBody_4 t A1 c1 wx hb h.1 h.2 (HKK (by omega)) hx
      · rw [bodyT_not (by omega)]; exact specBody_5 t A1 c1 wx hb h.1 h.2 (HKK (by omega)) hx
      · rw [bodyT_not (by omega)]; exact specBody_6 t A1 c1 wx hb h.1 h.2 (HKK (by omega)) hx
      · rw [bodyT_not (by omega)]
        obtain ⟨x, r, hxr, hxe, hra⟩ := exp_case he h.1
        have hbx : 1 + x.bulk + bulkL GNode.bulk r ≤ t.bulk := by rw [hxr] at hbe; simp only [bulkL] at hbe; omega
        refine specBody_7 t A1 c1 wx hb x r hxr h.1 (fun A2 c2 w2 hx2 => ih x A2 c2 w2 (by omega) (by omega) hxe hx2) (fun a ha => ?_) hx
        obtain ⟨h8, p, y, hpy, hp, hy⟩ := alt_kids (hra a ha)
        have hba := bulkL_mem GNode.bulk r a ha
        have hbk := a.bulk_eq
        rw [hpy] at hbk
        simp only [bulkL] at hbk
        exact ⟨p, y, hpy, h8, fun A2 c2 w2 hx2 => specPatText (p.bulk + 1) p A2 c2 w2 (by omega) (by omega) hp hx2, fun A2 c2 w2 hx2 => ih y A2 c2 w2 (by omega) (by omega) hy hx2⟩
      · rw [bodyT_not (by omega)]; exact specBody_9 t A1 c1 wx hb h.1 h.2 (HKK (by omega)) hx
      · rw [bodyT_not (by omega)]; exact specBody_16 t A1 c1 wx hb h.1 h.2 (HKK (by omega)) hx
      · rw [bodyT_con h]; exact specBody_15 t A1 c1 wx hb h (HKK (by omega)) hx
      · rw [bodyT_not (by omega)]
        obtain ⟨⟨ha, hb2⟩, hl⟩ := h
        rcases (show t.op = 10 ∨ t.op = 11 ∨ t.op = 12 ∨ t.op = 13 ∨ t.op = 14 by omega) with h | h | h | h | h
        · exact specBody_10 t A1 c1 wx hb h hl (HKK (by omega)) hx
        · exact specBody_11 t A1 c1 wx hb h hl (HKK (by omega)) hx
        · exact specBody_12 t A1 c1 wx hb h hl (HKK (by omega)) hx
        · exact specBody_13 t A1 c1 wx hb h hl (HKK (by omega)) hx
        · exact specBody_14 t A1 c1 wx hb h hl (HKK (by omega)) hx)
    have AT := Lib.hid (ht.below E0.out E0.out.size)
    have z1 : ¬ 9223372036854775807 < 1 + (bodyT t).size := by omega
    have z2 : ¬ 9223372036854775807 < 1 + (bodyT t).size + 1 := by omega
    by_cases h15 : t.op = 15
    · have p15 : (t.op == 15) = true := beq_iff_eq.2 h15
      have pk : ((t.kids.length : Int) == 0) = false := by rw [beq_eq_false_iff_ne]; omega
      clear hol o1 o2 o15 ih ht HKK h15 hzt hbe h0 h1 h2 h3 hk
      go_enter Try.func165, Try.ntmps165
      go_wp2_with fail
      refine (HB.out _ AT.out).mono ?_
      rintro e w1 ⟨rfl, hb1⟩
      go_wp2_with fail
      go_ret
      exact ⟨ret_str HV.out.symm, E0.out.trans (hb1.mono E0.out.size)⟩
    · have p15 : (t.op == 15) = false := beq_eq_false_iff_ne.2 h15
      clear hol o1 o2 o15 ih ht HKK h15 hzt hbe h0 h1 h2 h3 hk
      go_enter Try.func165, Try.ntmps165
      go_wp2_with fail
      refine (HB.out _ AT.out).mono ?_
      rintro e w1 ⟨rfl, hb1⟩
      go_wp2_with fail
      go_ret
      exact ⟨ret_str HV.out.symm, E0.out.trans (hb1.mono E0.out.size)⟩

end Go.Proofs.Ytgbcdfeflgnogaa
