/- A drawn type that may be wrong, or great. Conditions: none. -/
import Derived.Test.YtgbcdfeflgnogaaDrawTy
import Derived.Test.YtgbcdfeflgnogaaCTy
import Derived.Deep.RegionHeld3
namespace Go.Proofs.Ytgbcdfeflgnogaa
open Go.RowKit
set_option linter.unusedVariables false
set_option linter.unusedSimpArgs false
set_option maxHeartbeats 400000

/-- as the types that are drawn are, wrong ones too -/
def drT5 (t : GTy) : Prop := t.bulk + 2 ≤ 6144 ∧ ∀ n, t.has n = true → -1 ≤ n ∧ n < 5
/-- while it grows -/
def drG (j : Nat) (t : GTy) : Prop := t.bulk + 2 ≤ 48 * 2 ^ j ∧ ∀ n, t.has n = true → 0 ≤ n ∧ n < 5
theorem drG_step {j : Nat} {t : GTy} (h : drG j t) : drG (j + 1) (.mk 3 0 ⟨#[]⟩ [t, t]) := by
  refine ⟨?_, fun m hm => ?_⟩
  · have : (GTy.mk 3 0 ⟨#[]⟩ [t, t]).bulk = t.bulk + t.bulk + 2 := by rw [GTy.bulk_eq]; simp only [GTy.s, GTy.kids, bulkL]; have : (ByteArray.mk #[]).size = 0 := rfl; omega
    have h1 := h.1
    rw [Nat.pow_succ]
    omega
  · rw [GTy.has_eq] at hm
    simp only [GTy.op, GTy.n, GTy.kids, GTy.hasL, Bool.or_false, Bool.or_eq_true, Bool.and_eq_true, beq_iff_eq] at hm
    rcases hm with hm | hm | hm
    · exact absurd hm.1 (by decide)
    · exact h.2 m hm
    · exact h.2 m hm
theorem drG_done {j : Nat} {t : GTy} (hj : j ≤ 7) (h : drG j t) : drT5 t := by
  refine ⟨?_, fun n hn => ⟨by have := (h.2 n hn).1; omega, (h.2 n hn).2⟩⟩
  have h1 := h.1
  have h2 : 2 ^ j ≤ 2 ^ 7 := Nat.pow_le_pow_right (by omega) hj
  have h3 : (2 : Nat) ^ 7 = 128 := rfl
  omega
theorem drT5_op' {op n x : Int} {s : ByteArray} {kids : List GTy} (h : drG 0 (.mk op n s kids)) (hm : 0 ≤ n ∧ n < 5) : drT5 (.mk x n s kids) := by
  refine ⟨?_, fun m hh => ?_⟩
  · have e2 : (GTy.mk x n s kids).bulk = (GTy.mk op n s kids).bulk := by rw [GTy.bulk_eq, GTy.bulk_eq]; rfl
    have := h.1
    omega
  · rw [GTy.has, Bool.or_eq_true, Bool.and_eq_true, beq_iff_eq, beq_iff_eq] at hh
    rcases hh with hh | hh
    · rw [← hh.2]; exact ⟨by omega, hm.2⟩
    · have := h.2 m (by rw [GTy.has, hh, Bool.or_true]); omega
theorem drT5_n' {op n x : Int} {s : ByteArray} {kids : List GTy} (h : drG 0 (.mk op n s kids)) (hx : -1 ≤ x ∧ x < 5) : drT5 (.mk op x s kids) := by
  refine ⟨?_, fun m hh => ?_⟩
  · have e2 : (GTy.mk op x s kids).bulk = (GTy.mk op n s kids).bulk := by rw [GTy.bulk_eq, GTy.bulk_eq]; rfl
    have := h.1
    omega
  · rw [GTy.has, Bool.or_eq_true, Bool.and_eq_true, beq_iff_eq, beq_iff_eq] at hh
    rcases hh with hh | hh
    · rw [← hh.2]; exact hx
    · have := h.2 m (by rw [GTy.has, hh, Bool.or_true]); omega
theorem drT5_op {t : GTy} {x : Int} (h : drG 0 t) (hm : 0 ≤ t.n ∧ t.n < 5) : drT5 (.mk x t.n t.s t.kids) := by cases t; exact drT5_op' h hm
theorem drT5_n {t : GTy} {x : Int} (h : drG 0 t) (hx : -1 ≤ x ∧ x < 5) : drT5 (.mk t.op x t.s t.kids) := by cases t; exact drT5_n' h hx
theorem wf1 {n : Int} (h : -1 ≤ n ∧ n < 7) : (Lit.int .i64 n).wf = true := by
  simp [Lit.wf, IntKind.min, IntKind.max, IntKind.signed, IntKind.bits]; omega

set_option maxRecDepth 20000 in
theorem drawTy5 {l : List Int} {A : Option Addr} {c : Nat} {w : World} {g i : Nat} {h : Int} (hc : Cur l A c w g i h) :
    Calls Try.prog 109 #[.pointer (some ⟨g, 0, none⟩)] w (DrawnT l A c g drT5 w) := by
  have hg := hc.row.lt
  have E0 := Lib.hid (show Below w.heap.size w (w.alloc (.cells #[.int .i64 0, .int .i64 0, .string ⟨#[]⟩, .slice none 0 0] 59)) from (Below.refl _ _).alloc (Nat.le_refl _) _)
  have C0 := Lib.hid (hc.below E0.out hg)
  have R0 := Lib.hid (Row.new w 59 #[.int .i64 0, .int .i64 0, .string ⟨#[]⟩, .slice none 0 0])
  have T0 := Lib.hid ((Turned.refl g w).alloc (.cells #[.int .i64 0, .int .i64 0, .string ⟨#[]⟩, .slice none 0 0] 59))
  have hgr : w.heap.size ≠ g := by omega
  clear hc
  go_enter Try.func109, Try.ntmps109
  go_wp2_with fail
  refine (drawTy 3 3 rfl (by omega) C0.out).mono ?_
  rintro e w1 ⟨t, A1, c1, i1, h1, rfl, pt, att, hc1, ht1⟩
  have hs01 : w.heap.size + 1 ≤ w1.heap.size := by have := ht1.size; simpa using this
  have T1 := Lib.hid (T0.out.trans ht1)
  have R1 := Lib.hid (R0.out.turned ht1 hgr)
  obtain ⟨v1, ev1⟩ : ∃ v1, v1 = w1.alloc (.cells #[.int .i64 t.op, .int .i64 t.n, .string t.s, .slice A1 t.kids.length c1] 59) := ⟨_, rfl⟩
  have EV := Lib.hid (show Below w1.heap.size w1 v1 by rw [ev1]; exact (Below.refl _ _).alloc (Nat.le_refl _) _)
  have CV := Lib.hid (hc1.below EV.out hc1.row.lt)
  have TV := Lib.hid (show Turned g w v1 by rw [ev1]; exact T1.out.alloc _)
  have RV := Lib.hid (R1.out.below EV.out R1.out.lt)
  have RT := Lib.hid (show Row v1 w1.heap.size 59 #[.int .i64 t.op, .int .i64 t.n, .string t.s, .slice A1 t.kids.length c1] by rw [ev1]; exact Row.new' _ _ _ rfl)
  have hsv : v1.heap.size = w1.heap.size + 1 := by rw [ev1]; simp
  have hgt : w1.heap.size ≠ g := by have := hc1.row.lt; omega
  have AT := Lib.hid (att.keep (w' := v1) (S' := fun b => (w.heap.size < b ∧ b < v1.heap.size) ∧ b ≠ w1.heap.size) (fun b hb => ⟨⟨⟨by have := hb.1; simp at this; omega, by have := hb.2; omega⟩, by have := hb.2; omega⟩, EV.out.block b hb.2⟩))
  have HN := Lib.hid (show 0 ≤ t.n ∧ t.n < 5 from pt.1.2)
  have PT := Lib.hid (show drG 0 t from ⟨pt.1.1, pt.2⟩)
  have EQV := Lib.hid ev1
  obtain ⟨rt, hrt⟩ : ∃ rt, rt = w1.heap.size := ⟨_, rfl⟩
  rw [← hrt] at RT hgt AT
  have hrt1 : w.heap.size < rt := by omega
  have hrt2 : rt < v1.heap.size := by omega
  have HRT := Lib.hid hrt
  clear hc1 ht1 pt att ev1
  go_wp2_with fail
  rw [← EQV.out]
  refine (drawBelow CV.out 14 (by omega) (by omega)).mono ?_
  rintro e w2 ⟨x, i2, h2, rfl, hx, hc2, ht2⟩
  have C2 := Lib.hid hc2
  have T2 := Lib.hid (TV.out.trans ht2)
  have R2 := Lib.hid (RV.out.turned ht2 hgr)
  have RT2 := Lib.hid (RT.out.turned ht2 hgt)
  have AT2 := Lib.hid (AT.out.keep (w' := w2) (S' := fun b => (w.heap.size < b ∧ b < w2.heap.size) ∧ b ≠ rt) (fun b hb => ⟨⟨⟨hb.1.1, by have := ht2.size; have := hb.1.2; omega⟩, hb.2⟩, ht2.block b hb.1.2 (by have := hb.1.1; omega)⟩))
  have hrt3 : rt < w2.heap.size := by have := ht2.size; omega
  clear hc2 ht2
  rw [← HRT.out]
  clear hrt hs01 hsv hrt2 CV TV RV RT AT EV R0 R1 T0 T1 C0 E0 EQV
  by_cases x0 : x = 0
  · have y0 : (x == 0) = true := beq_iff_eq.2 x0
    clear x0 hx
    go_wp2_with fail
    refine (drawBelow C2.out 7 (by omega) (by omega)).mono ?_
    rintro e w3 ⟨y, i3, h3, rfl, hy, hc3, ht3⟩
    have T3 := Lib.hid (T2.out.trans ht3)
    have R3 := Lib.hid (R2.out.turned ht3 hgr)
    have RT3 := Lib.hid (RT2.out.turned ht3 hgt)
    obtain ⟨V, eV⟩ : ∃ V, V = w3.setCell ⟨rt, 0, none⟩ (.int .i64 (y - 1)) := ⟨_, rfl⟩
    have TV := Lib.hid (show Turned rt w3 V by rw [eV]; exact (Turned.refl _ _).setCell _ _)
    have RTV := Lib.hid (show Row V rt 59 #[.int .i64 (y - 1), .int .i64 t.n, .string t.s, .slice A1 t.kids.length c1] by rw [eV]; exact RT3.out.set 0 _)
    have RV := Lib.hid (R3.out.turned TV.out (by omega))
    have CV := Lib.hid (hc3.turned TV.out (by omega))
    have TGV := Lib.hid (show Turned g w V from ⟨TV.out.os.trans T3.out.os, TV.out.tape.trans T3.out.tape, TV.out.output.trans T3.out.output, Nat.le_trans T3.out.size TV.out.size, fun k hk hkg => (TV.out.block k (Nat.lt_of_lt_of_le hk T3.out.size) (by omega)).trans (T3.out.block k hk hkg)⟩)
    have hs23 := ht3.size
    have hsV := TV.out.size
    have ATV := Lib.hid (show GTy.At V (fun b => (w.heap.size < b ∧ b < V.heap.size) ∧ b ≠ rt) A1 c1 (GTy.mk (y - 1) t.n t.s t.kids) from by
      have a := AT2.out.keep (w' := V) (S' := fun b => (w.heap.size < b ∧ b < V.heap.size) ∧ b ≠ rt) (fun b hb => ⟨⟨⟨hb.1.1, by have := hb.1.2; omega⟩, hb.2⟩, (TV.out.block b (by have := hb.1.2; omega) hb.2).trans (ht3.block b hb.1.2 (by have := hb.1.1; omega))⟩)
      exact ⟨show (Lit.int .i64 (y - 1)).wf = true from wf1 ⟨by omega, by omega⟩, a.2.1, a.2.2.1, a.2.2.2⟩)
    have hwr : IntKind.i64.wrap (y - 1) = y - 1 := by rw [IntKind.wrap_i64]; omega
    have EQV := Lib.hid eV
    have hct := fun i => RT3.out.cell i
    have hft := fun i => RT3.out.frozen i
    have hcz3 := fun i => R3.out.cell i
    have hfz3 := fun i => R3.out.frozen i
    have hne1 : rt ≠ w.heap.size := by omega
    have hne2 : w.heap.size ≠ rt := by omega
    have hcz := fun i => RV.out.cell i
    have hfz := fun i => RV.out.frozen i
    have hca := fun i => RTV.out.cell i
    have FIN := Lib.hid (drawn_fin (r := w.heap.size) (t := (GTy.mk (y - 1) t.n t.s t.kids)) (P := drT5) (vs := [.int .i64 (y - 1), .int .i64 t.n, .string t.s, .slice A1 t.kids.length c1]) (drT5_op PT.out HN.out) CV.out TGV.out hg (Nat.le_refl _) (ATV.out.keep (fun b hb => ⟨⟨⟨Nat.le_of_lt hb.1.1, hb.1.2⟩, by have := hb.1.1; omega⟩, rfl⟩)))
    clear hc3 ht3 eV
    go_wp2_with fail
    rw [← EQV.out]
    exact bodyPost_ret (v := .agg #[.int .i64 (y - 1), .int .i64 t.n, .string t.s, .slice A1 t.kids.length c1]) (by simp [results, Try.results109, go_sem, hcz, hca]) rfl FIN.out
  by_cases x1 : x = 1
  · have y0 : (x == 0) = false := beq_eq_false_iff_ne.2 (by omega)
    have y1 : (x == 1) = true := beq_iff_eq.2 x1
    clear x0 x1 hx
    go_wp2_with fail
    refine (drawBelow C2.out 3 (by omega) (by omega)).mono ?_
    rintro e w3 ⟨y, i3, h3, rfl, hy, hc3, ht3⟩
    have T3 := Lib.hid (T2.out.trans ht3)
    have R3 := Lib.hid (R2.out.turned ht3 hgr)
    have RT3 := Lib.hid (RT2.out.turned ht3 hgt)
    obtain ⟨V, eV⟩ : ∃ V, V = w3.setCell ⟨rt, 1, none⟩ (.int .i64 (y - 1)) := ⟨_, rfl⟩
    have TV := Lib.hid (show Turned rt w3 V by rw [eV]; exact (Turned.refl _ _).setCell _ _)
    have RTV := Lib.hid (show Row V rt 59 #[.int .i64 t.op, .int .i64 (y - 1), .string t.s, .slice A1 t.kids.length c1] by rw [eV]; exact RT3.out.set 1 _)
    have RV := Lib.hid (R3.out.turned TV.out (by omega))
    have CV := Lib.hid (hc3.turned TV.out (by omega))
    have TGV := Lib.hid (show Turned g w V from ⟨TV.out.os.trans T3.out.os, TV.out.tape.trans T3.out.tape, TV.out.output.trans T3.out.output, Nat.le_trans T3.out.size TV.out.size, fun k hk hkg => (TV.out.block k (Nat.lt_of_lt_of_le hk T3.out.size) (by omega)).trans (T3.out.block k hk hkg)⟩)
    have hs23 := ht3.size
    have hsV := TV.out.size
    have ATV := Lib.hid (show GTy.At V (fun b => (w.heap.size < b ∧ b < V.heap.size) ∧ b ≠ rt) A1 c1 (GTy.mk t.op (y - 1) t.s t.kids) from by
      have a := AT2.out.keep (w' := V) (S' := fun b => (w.heap.size < b ∧ b < V.heap.size) ∧ b ≠ rt) (fun b hb => ⟨⟨⟨hb.1.1, by have := hb.1.2; omega⟩, hb.2⟩, (TV.out.block b (by have := hb.1.2; omega) hb.2).trans (ht3.block b hb.1.2 (by have := hb.1.1; omega))⟩)
      exact ⟨a.1, show (Lit.int .i64 (y - 1)).wf = true from wf1 ⟨by omega, by omega⟩, a.2.2.1, a.2.2.2⟩)
    have hwr : IntKind.i64.wrap (y - 1) = y - 1 := by rw [IntKind.wrap_i64]; omega
    have EQV := Lib.hid eV
    have hct := fun i => RT3.out.cell i
    have hft := fun i => RT3.out.frozen i
    have hcz3 := fun i => R3.out.cell i
    have hfz3 := fun i => R3.out.frozen i
    have hne1 : rt ≠ w.heap.size := by omega
    have hne2 : w.heap.size ≠ rt := by omega
    have hcz := fun i => RV.out.cell i
    have hfz := fun i => RV.out.frozen i
    have hca := fun i => RTV.out.cell i
    have FIN := Lib.hid (drawn_fin (r := w.heap.size) (t := (GTy.mk t.op (y - 1) t.s t.kids)) (P := drT5) (vs := [.int .i64 t.op, .int .i64 (y - 1), .string t.s, .slice A1 t.kids.length c1]) (drT5_n PT.out ⟨by omega, by omega⟩) CV.out TGV.out hg (Nat.le_refl _) (ATV.out.keep (fun b hb => ⟨⟨⟨Nat.le_of_lt hb.1.1, hb.1.2⟩, by have := hb.1.1; omega⟩, rfl⟩)))
    clear hc3 ht3 eV
    go_wp2_with fail
    rw [← EQV.out]
    exact bodyPost_ret (v := .agg #[.int .i64 t.op, .int .i64 (y - 1), .string t.s, .slice A1 t.kids.length c1]) (by simp [results, Try.results109, go_sem, hcz, hca]) rfl FIN.out
  by_cases x2 : x = 2
  · have y0 : (x == 0) = false := beq_eq_false_iff_ne.2 (by omega)
    have y1 : (x == 1) = false := beq_eq_false_iff_ne.2 (by omega)
    have y2 : (x == 2) = true := beq_iff_eq.2 x2
    clear x0 x1 x2 hx
    go_wp2_with fail
    go_loopw [4] (fun i wr => ∃ (j : Nat) (u : GTy) (B1 : Option Addr) (d1 : Nat) (iv : Nat) (hv : Int), j ≤ 7 ∧ i = .int .i64 j ∧ Hid (drG j u) ∧ Hid (Row wr rt 59 #[.int .i64 u.op, .int .i64 u.n, .string u.s, .slice B1 u.kids.length d1]) ∧ Hid (Row wr w.heap.size 59 #[.int .i64 0, .int .i64 0, .string ⟨#[]⟩, .slice none 0 0]) ∧ Hid (GTy.At wr (fun b => (w.heap.size < b ∧ b < wr.heap.size) ∧ b ≠ rt) B1 d1 u) ∧ Hid (Cur l A c wr g iv hv) ∧ Hid (Turned g w wr)) (fun i _ => 7 - (intOf i).toNat)
    case atStart => exact ⟨0, t, A1, c1, i2, h2, by omega, by go_num, PT, RT2, R2, AT2, C2, T2⟩
    case round =>
      clear PT RT2 R2 AT2 C2 T2
      obtain ⟨j, u, B1, d1, iv, hv, hj, rfl, PU, RU, RZ, AU, CU, TU⟩ := hrel
      have hrl := RU.out.lt
      have hzl := RZ.out.lt
      have hca := fun i => RU.out.cell i
      by_cases hlt : j < 7
      · obtain ⟨wb, eb⟩ : ∃ wb, wb = wr.alloc (.cells #[.int .i64 u.op, .int .i64 u.n, .string u.s, .slice B1 u.kids.length d1] 59) := ⟨_, rfl⟩
        have EB := Lib.hid (show Below wr.heap.size wr wb by rw [eb]; exact (Below.refl _ _).alloc (Nat.le_refl _) _)
        have RB := Lib.hid (show Row wb wr.heap.size 59 #[.int .i64 u.op, .int .i64 u.n, .string u.s, .slice B1 u.kids.length d1] by rw [eb]; exact Row.new' _ _ _ rfl)
        have hsb : wb.heap.size = wr.heap.size + 1 := by rw [eb]; simp
        have RUb := Lib.hid (RU.out.below EB.out hrl)
        have RZb := Lib.hid (RZ.out.below EB.out hzl)
        have hcb := fun i => RB.out.cell i
        have hnb : wr.heap.size ≠ rt := by omega
        have hcbd : ∀ i, wb.drew.cell? ⟨wr.heap.size, i, none⟩ = (#[.int .i64 u.op, .int .i64 u.n, .string u.s, .slice B1 u.kids.length d1] : Array Value)[i]? := hcb
        have hcu := fun i => RUb.out.cell i
        have hub : u.bulk ≤ 1048576 := by have := (drG_done (by omega : j ≤ 7) PU.out).1; omega
        have AB := Lib.hid (AU.out.keep (w' := wb) (S' := Lt wb.heap.size) (fun b hb => ⟨by have := hb.1.2; unfold Lt; omega, EB.out.block b hb.1.2⟩))
        have HCP := Lib.hid (fun (n : Nat) => specTyCopy' u B1 d1 (wb.drewN n) hub (AB.out.keep fun q hq => ⟨hq, rfl⟩))
        have HCD := Lib.hid (specTyCopy' u B1 d1 wb.drew hub (AB.out.keep fun q hq => ⟨hq, rfl⟩))
        have EQB := Lib.hid eb
        clear eb
        go_wp2_with fail
        rw [← EQB.out]
        go_region_held3 (fun w' => ∀ i, w'.cell? ⟨wr.heap.size, i, none⟩ = (#[.int .i64 u.op, .int .i64 u.n, .string u.s, .slice B1 u.kids.length d1] : Array Value)[i]?) (first | with_reducible exact hcbd | with_reducible exact hcb3 | with_reducible exact hcb4 _ | with_reducible exact hcb5 _ _ _ _ _ | go_keep) (first
          | (go_at_call 115
             refine HCD.out.mono ?_
             rintro e w3 ⟨A3, c3, rfl, how, hb3⟩
             have B3 := Lib.hid (show Below wb.heap.size wb w3 from ((Below.refl wb.heap.size wb).drew).trans hb3)
             have RB3 := Lib.hid (RB.out.below B3.out RB.out.lt)
             have hcb3 := fun i => RB3.out.cell i
             have RU3 := Lib.hid (RUb.out.below B3.out RUb.out.lt)
             have hct3 := fun i => RU3.out.cell i
             have hft3 := fun i => RU3.out.frozen i
             have OW3 := Lib.hid how.at
             have hcb4 : ∀ (o : Obj) (i : Nat), (w3.alloc o).cell? ⟨wr.heap.size, i, none⟩ = (#[.int .i64 u.op, .int .i64 u.n, .string u.s, .slice B1 u.kids.length d1] : Array Value)[i]? := fun o i => (RB3.out.alloc o).cell i
             have hcb5 : ∀ (a b c d : Value) (o : Obj) (i : Nat), (((((w3.setCell ⟨rt, 0, none⟩ a).setCell ⟨rt, 1, none⟩ b).setCell ⟨rt, 2, none⟩ c).setCell ⟨rt, 3, none⟩ d).alloc o).cell? ⟨wr.heap.size, i, none⟩ = (#[.int .i64 u.op, .int .i64 u.n, .string u.s, .slice B1 u.kids.length d1] : Array Value)[i]? := fun a b c d o i => (((((RB3.out.far (p := ⟨rt, 0, none⟩) hnb _).far (p := ⟨rt, 1, none⟩) hnb _).far (p := ⟨rt, 2, none⟩) hnb _).far (p := ⟨rt, 3, none⟩) hnb _).alloc _).cell i
             have hrt9 : rt < w3.heap.size := RU3.out.lt
             have hrt8 : rt ≠ w3.heap.size := by omega
             clear hb3 how))
        obtain ⟨V, eV⟩ : ∃ V, V = setCells w3 rt 0 [.int .i64 3, .int .i64 0, .string ⟨#[]⟩, .slice (some ⟨w3.heap.size, 0, none⟩) 2 2] := ⟨_, rfl⟩
        have TV := Lib.hid (show Turned rt w3 V by rw [eV]; exact setCells_turned _ _ _ _)
        have SV : V.heap.size = w3.heap.size := by rw [eV, setCells_size]
        have RTV := Lib.hid (show Row V rt 59 #[.int .i64 3, .int .i64 0, .string ⟨#[]⟩, .slice (some ⟨w3.heap.size, 0, none⟩) 2 2] by rw [eV]; exact (((RU3.out.set 0 _).set 1 _).set 2 _).set 3 _)
        obtain ⟨W, eW⟩ : ∃ W, W = V.alloc (.cells #[.int .i64 u.op, .int .i64 u.n, .string u.s, .slice B1 u.kids.length d1, .int .i64 u.op, .int .i64 u.n, .string u.s, .slice A3 u.kids.length c3] 59) := ⟨_, rfl⟩
        have EW := Lib.hid (show Below V.heap.size V W by rw [eW]; exact (Below.refl _ _).alloc (Nat.le_refl _) _)
        have RW := Lib.hid (show Row W w3.heap.size 59 #[.int .i64 u.op, .int .i64 u.n, .string u.s, .slice B1 u.kids.length d1, .int .i64 u.op, .int .i64 u.n, .string u.s, .slice A3 u.kids.length c3] by rw [eW, ← SV]; exact Row.new' _ _ _ rfl)
        have hsW : W.heap.size = w3.heap.size + 1 := by rw [eW]; simp [SV]
        have hs3 := B3.out.size
        have RTW := Lib.hid (RTV.out.below EW.out (by omega))
        have RZW := Lib.hid (((RZb.out.below B3.out RZb.out.lt).turned TV.out (by omega)).below EW.out (by omega))
        have CW := Lib.hid ((((CU.out.below EB.out CU.out.row.lt).below B3.out (by have := CU.out.row.lt; omega)).turned TV.out (by omega)).below EW.out (by have := CU.out.row.lt; omega))
        have BW3 := Lib.hid (show Below wr.heap.size wr w3 from EB.out.trans (B3.out.mono (by omega)))
        have TW := Lib.hid (show Turned g w W from ⟨((EW.out.os.trans TV.out.os).trans BW3.out.os).trans TU.out.os, ((EW.out.tape.trans TV.out.tape).trans BW3.out.tape).trans TU.out.tape, ((EW.out.output.trans TV.out.output).trans BW3.out.output).trans TU.out.output, by have := TU.out.size; omega, fun k hk hkg => by
          have h1 := TU.out.size
          exact (((EW.out.block k (by omega)).trans (TV.out.block k (by omega) (by omega))).trans (BW3.out.block k (by omega))).trans (TU.out.block k hk hkg)⟩)
        have A1W := Lib.hid (AU.out.keep (w' := W) (S' := fun b => (w.heap.size < b ∧ b < W.heap.size) ∧ b ≠ rt) (fun b hb => ⟨⟨⟨hb.1.1, by have := hb.1.2; omega⟩, hb.2⟩, ((EW.out.block b (by have := hb.1.2; omega)).trans (TV.out.block b (by have := hb.1.2; omega) hb.2)).trans (BW3.out.block b hb.1.2)⟩))
        have A2W := Lib.hid (OW3.out.keep (w' := W) (S' := fun b => (w.heap.size < b ∧ b < W.heap.size) ∧ b ≠ rt) (fun b hb => by
          have h1 : wb.heap.size ≤ b := hb.1
          have h2 := hb.2
          exact ⟨⟨⟨by omega, by omega⟩, by omega⟩, (EW.out.block b (by omega)).trans (TV.out.block b (by omega) (by omega))⟩))
        have ATW := Lib.hid (show GTy.At W (fun b => (w.heap.size < b ∧ b < W.heap.size) ∧ b ≠ rt) (some ⟨w3.heap.size, 0, none⟩) 2 (.mk 3 0 ⟨#[]⟩ [u, u]) from
          ⟨show (Lit.int .i64 3).wf = true by decide, show (Lit.int .i64 0).wf = true by decide, show (ByteArray.mk #[]).size ≤ maxLen by decide, slTwoTy RW.out A1W.out A2W.out ⟨⟨by omega, by omega⟩, by omega⟩⟩)
        have EQW := Lib.hid (show W = ((((w3.setCell ⟨rt, 0, none⟩ (.int .i64 3)).setCell ⟨rt, 1, none⟩ (.int .i64 0)).setCell ⟨rt, 2, none⟩ (.string ⟨#[]⟩)).setCell ⟨rt, 3, none⟩ (.slice (some ⟨w3.heap.size, 0, none⟩) 2 2)).alloc (.cells #[.int .i64 u.op, .int .i64 u.n, .string u.s, .slice B1 u.kids.length d1, .int .i64 u.op, .int .i64 u.n, .string u.s, .slice A3 u.kids.length c3] 59) by rw [eW, eV]; rfl)
        have PG := Lib.hid (drG_step PU.out)
        clear eV eW
        go_wp2_with fail
        go_roundw
        case rel => rw [← EQW.out]; exact ⟨j + 1, .mk 3 0 ⟨#[]⟩ [u, u], some ⟨w3.heap.size, 0, none⟩, 2, iv, hv, by omega, by go_num, PG, RTW, RZW, ATW, CW, TW⟩
        case measure => simp [intOf]; omega
      · have hcz := fun i => RZ.out.cell i
        have hfz := fun i => RZ.out.frozen i
        have FIN := Lib.hid (drawn_fin (r := w.heap.size) (t := u) (P := drT5) (vs := [.int .i64 u.op, .int .i64 u.n, .string u.s, .slice B1 u.kids.length d1]) (drG_done hj PU.out) CU.out TU.out hg (Nat.le_refl _) (AU.out.keep (fun b hb => ⟨⟨⟨Nat.le_of_lt hb.1.1, hb.1.2⟩, by have := hb.1.1; omega⟩, rfl⟩)))
        go_wp2_with fail
        exact bodyPost_ret (v := .agg #[.int .i64 u.op, .int .i64 u.n, .string u.s, .slice B1 u.kids.length d1]) (by simp [results, Try.results109, go_sem, hcz, hca]) rfl FIN.out
  have y0 : (x == 0) = false := beq_eq_false_iff_ne.2 (by omega)
  have y1 : (x == 1) = false := beq_eq_false_iff_ne.2 (by omega)
  have y2 : (x == 2) = false := beq_eq_false_iff_ne.2 (by omega)
  clear x0 x1 x2 hx
  have hcz := fun i => R2.out.cell i
  have hfz := fun i => R2.out.frozen i
  have hca := fun i => RT2.out.cell i
  have FIN := Lib.hid (drawn_fin (r := w.heap.size) (t := t) (P := drT5) (vs := [.int .i64 t.op, .int .i64 t.n, .string t.s, .slice A1 t.kids.length c1]) (drG_done (by omega) PT.out) C2.out T2.out hg (Nat.le_refl _) (AT2.out.keep (fun b hb => ⟨⟨⟨Nat.le_of_lt hb.1.1, hb.1.2⟩, by have := hb.1.1; omega⟩, rfl⟩)))
  go_wp2_with fail
  exact bodyPost_ret (v := .agg #[.int .i64 t.op, .int .i64 t.n, .string t.s, .slice A1 t.kids.length c1]) (by simp [results, Try.results109, go_sem, hcz, hca]) rfl FIN.out
end Go.Proofs.Ytgbcdfeflgnogaa
