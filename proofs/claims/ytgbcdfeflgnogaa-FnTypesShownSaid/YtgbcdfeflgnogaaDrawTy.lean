/- A drawn type. Conditions: none. -/
import Derived.Test.YtgbcdfeflgnogaaDraw
import Derived.Test.YtgbcdfeflgnogaaHas
import Derived.Test.YtgbcdfeflgnogaaATy
namespace Go.Proofs.Ytgbcdfeflgnogaa
open Go.RowKit
set_option linter.unusedVariables false
set_option linter.unusedSimpArgs false
set_option maxHeartbeats 1000000

/-- a type is drawn -/
def DrawnT (l : List Int) (A : Option Addr) (c : Nat) (g : Nat) (P : GTy → Prop) (w : World) (e : Ending) (w' : World) : Prop :=
  ∃ (t : GTy) (A1 : Option Addr) (c1 : Nat) (i : Nat) (h : Int), e = .returned (.agg #[.int .i64 t.op, .int .i64 t.n, .string t.s, .slice A1 t.kids.length c1]) ∧ P t ∧ GTy.At w' (Btw w.heap.size w'.heap.size) A1 c1 t ∧ Cur l A c w' g i h ∧ Turned g w w'
/-- as the types that are drawn are -/
def drT (d : Nat) (t : GTy) : Prop := (t.bulk + 2 ≤ 6 * 2 ^ d ∧ 0 ≤ t.n ∧ t.n < 5) ∧ ∀ n, t.has n = true → 0 ≤ n ∧ n < 5

theorem setCells_turned (W : World) (r k : Nat) (vs : List Value) : Turned r W (setCells W r k vs) := by
  have h := setCells_below (Below.refl r W) r k (Nat.le_refl _) vs
  exact ⟨h.os, h.tape, h.output, h.size, fun b _ hb => setCells_block W r k vs b hb⟩
theorem drawn_fin {l : List Int} {A : Option Addr} {c g i : Nat} {h : Int} {P : GTy → Prop} {w W : World} {r : Nat} {t : GTy} {A1 : Option Addr} {c1 : Nat} {vs : List Value} (hp : P t) (hc : Cur l A c W g i h) (ht : Turned g w W) (hg : g < w.heap.size) (hr : w.heap.size ≤ r)
    (hat : GTy.At W (fun b => Btw w.heap.size W.heap.size b ∧ b ≠ r) A1 c1 t) : DrawnT l A c g P w (.returned (.agg #[.int .i64 t.op, .int .i64 t.n, .string t.s, .slice A1 t.kids.length c1])) (setCells W r 0 vs) := by
  have T := setCells_turned W r 0 vs
  refine ⟨t, A1, c1, i, h, rfl, hp, hat.keep (fun b hb => ⟨⟨hb.1.1, ?_⟩, setCells_block W r 0 vs b hb.2⟩), hc.turned T (by omega), ⟨T.os.trans ht.os, T.tape.trans ht.tape, T.output.trans ht.output, Nat.le_trans ht.size T.size, fun k hk hkg => (setCells_block W r 0 vs k (by omega)).trans (ht.block k hk hkg)⟩⟩
  rw [setCells_size]; exact hb.1.2
theorem turned_set {g : Nat} {w W : World} (ht : Turned g w W) (r : Nat) (hr : w.heap.size ≤ r) (vs : List Value) : Turned g w (setCells W r 0 vs) := by
  have T := setCells_turned W r 0 vs
  exact ⟨T.os.trans ht.os, T.tape.trans ht.tape, T.output.trans ht.output, Nat.le_trans ht.size T.size, fun k hk hkg => (setCells_block W r 0 vs k (by omega)).trans (ht.block k hk hkg)⟩
theorem drT_leaf {d : Nat} {op n : Int} {s : ByteArray} (hs : s.size ≤ 4) (h : 0 ≤ n ∧ n < 5) : drT d (.mk op n s []) := by
  have h1 : 1 ≤ 2 ^ d := Nat.one_le_two_pow
  refine ⟨?_, fun m hm => ?_⟩
  · have : (GTy.mk op n s []).bulk = s.size := by rw [GTy.bulk_eq]; rfl
    exact ⟨by omega, h⟩
  · rw [GTy.has_eq] at hm
    simp only [GTy.op, GTy.n, GTy.kids, GTy.hasL, Bool.or_false, Bool.and_eq_true, beq_iff_eq] at hm
    rw [← hm.2]; exact h
theorem drT_two {d : Nat} {op : Int} {a b : GTy} (ho : ¬ op = 2) (ha : drT d a) (hb : drT d b) : drT (d + 1) (.mk op 0 ⟨#[]⟩ [a, b]) := by
  refine ⟨?_, fun m hm => ?_⟩
  · have : (GTy.mk op 0 ⟨#[]⟩ [a, b]).bulk = a.bulk + b.bulk + 2 := by rw [GTy.bulk_eq]; simp only [GTy.s, GTy.kids, bulkL]; have : (ByteArray.mk #[]).size = 0 := rfl; omega
    have h1 := ha.1.1
    have h2 := hb.1.1
    rw [Nat.pow_succ]
    exact ⟨by omega, Int.le_refl 0, (by decide : (0 : Int) < 5)⟩
  · rw [GTy.has_eq] at hm
    simp only [GTy.op, GTy.n, GTy.kids, GTy.hasL, Bool.or_false, Bool.or_eq_true, Bool.and_eq_true, beq_iff_eq] at hm
    rcases hm with hm | hm | hm
    · exact absurd hm.1 ho
    · exact ha.2 m hm
    · exact hb.2 m hm
theorem drT_one {d : Nat} {op : Int} {s : ByteArray} {a : GTy} (ho : ¬ op = 2) (hs : s.size ≤ 4) (ha : drT d a) : drT (d + 1) (.mk op 0 s [a]) := by
  have h1 : 1 ≤ 2 ^ d := Nat.one_le_two_pow
  refine ⟨?_, fun m hm => ?_⟩
  · have : (GTy.mk op 0 s [a]).bulk = s.size + a.bulk + 1 := by rw [GTy.bulk_eq]; simp only [GTy.s, GTy.kids, bulkL]; omega
    have h2 := ha.1.1
    rw [Nat.pow_succ]
    exact ⟨by omega, Int.le_refl 0, (by decide : (0 : Int) < 5)⟩
  · rw [GTy.has_eq] at hm
    simp only [GTy.op, GTy.n, GTy.kids, GTy.hasL, Bool.or_false, Bool.or_eq_true, Bool.and_eq_true, beq_iff_eq] at hm
    rcases hm with hm | hm
    · exact absurd hm.1 ho
    · exact ha.2 m hm
theorem slTwoTy {w : World} {S : Nat → Prop} {g : Nat} {T : TypeId} {a b : GTy} {A1 A2 : Option Addr} {c1 c2 : Nat} (hr : Row w g T #[.int .i64 a.op, .int .i64 a.n, .string a.s, .slice A1 a.kids.length c1, .int .i64 b.op, .int .i64 b.n, .string b.s, .slice A2 b.kids.length c2]) (ha : GTy.At w S A1 c1 a) (hb : GTy.At w S A2 c2 b) (hg : S g) : Sl w S 4 (some ⟨g, 0, none⟩) 2 ([a, b].map GTy.toD) := by
  refine ⟨by simp, by unfold maxLen; omega, .inr ⟨g, 0, rfl, hg, ?_⟩⟩
  refine rdC_row [a.toD, b.toD] [.int .i64 a.op, .int .i64 a.n, .string a.s, .slice A1 a.kids.length c1, .int .i64 b.op, .int .i64 b.n, .string b.s, .slice A2 b.kids.length c2] 0 (fun j v hj => ?_) ?_
  · rw [Nat.zero_add, hr.cell]; simpa using hj
  · simp only [rdC]
    exact ⟨[.int .i64 a.op, .int .i64 a.n, .string a.s, .slice A1 a.kids.length c1], [.int .i64 b.op, .int .i64 b.n, .string b.s, .slice A2 b.kids.length c2], rfl, rfl, GTy.rd_mk ha, [.int .i64 b.op, .int .i64 b.n, .string b.s, .slice A2 b.kids.length c2], [], rfl, rfl, GTy.rd_mk hb, rfl⟩
theorem slOneTy {w : World} {S : Nat → Prop} {g : Nat} {T : TypeId} {a : GTy} {A1 : Option Addr} {c1 : Nat} (hr : Row w g T #[.int .i64 a.op, .int .i64 a.n, .string a.s, .slice A1 a.kids.length c1]) (ha : GTy.At w S A1 c1 a) (hg : S g) : Sl w S 4 (some ⟨g, 0, none⟩) 1 ([a].map GTy.toD) := by
  refine ⟨by simp, by unfold maxLen; omega, .inr ⟨g, 0, rfl, hg, ?_⟩⟩
  refine rdC_row [a.toD] [.int .i64 a.op, .int .i64 a.n, .string a.s, .slice A1 a.kids.length c1] 0 (fun j v hj => ?_) ?_
  · rw [Nat.zero_add, hr.cell]; simpa using hj
  · simp only [rdC]
    exact ⟨[.int .i64 a.op, .int .i64 a.n, .string a.s, .slice A1 a.kids.length c1], [], rfl, rfl, GTy.rd_mk ha, rfl⟩
theorem leafAt (w : World) (S : Nat → Prop) {op n : Int} {s : ByteArray} (h1 : (Lit.int .i64 op).wf = true) (h2 : (Lit.int .i64 n).wf = true) (h3 : s.size ≤ 4) : GTy.At w S none 0 (.mk op n s []) :=
  ⟨h1, h2, by unfold maxLen; show s.size ≤ _; omega, Sl.nil (by unfold maxLen; omega)⟩
theorem smallWf {n : Int} (h : 0 ≤ n ∧ n < 5) : (Lit.int .i64 n).wf = true := by
  simp [Lit.wf, IntKind.min, IntKind.max, IntKind.signed, IntKind.bits]; omega

set_option maxRecDepth 20000 in
theorem drawTy (d : Nat) : ∀ (dd : Int) {l : List Int} {A : Option Addr} {c : Nat} {w : World} {g i : Nat} {h : Int}, dd = (d : Int) → d ≤ 100 → Cur l A c w g i h →
    Calls Try.prog 201 #[.pointer (some ⟨g, 0, none⟩), .int .i64 dd] w (DrawnT l A c g (drT d) w) := by
  induction d with
  | zero =>
    intro dd l A c w g i h hdd hd hc
    have hg := hc.row.lt
    have C0 := Lib.hid hc
    have h0 : (dd == 0) = true := by rw [hdd]; rfl
    have CF := Lib.hid (hc.below ((Below.refl w.heap.size w).alloc (Nat.le_refl _) (.cells #[.int .i64 1, .int .i64 0, .string ⟨#[]⟩, .slice none 0 0] 59)) hg)
    clear hc hdd
    go_enter Try.func201, Try.ntmps201
    go_wp2_with fail
    exact bodyPost_ret (v := .agg #[.int .i64 1, .int .i64 0, .string ⟨#[]⟩, .slice none 0 0]) (by simp [results, Try.results201, go_sem]) rfl ⟨.mk 1 0 ⟨#[]⟩ [], none, 0, i, h, rfl, drT_leaf (by decide) (by omega), leafAt _ _ (by decide) (by decide) (by decide), CF.out, (Turned.refl _ _).alloc _⟩
  | succ d ih =>
    intro dd l A c w g i h hdd hd hc
    have hg := hc.row.lt
    have h0 : (dd == 0) = false := by rw [beq_eq_false_iff_ne, hdd]; omega
    have hwd : IntKind.i64.wrap (dd - 1) = dd - 1 := by rw [IntKind.wrap_i64]; omega
    have hIH := Lib.hid (fun (w2 : World) (i2 : Nat) (h2 : Int) (hc2 : Cur l A c w2 g i2 h2) => ih (dd - 1) (by omega) (by omega) hc2)
    have E0 := Lib.hid (show Below w.heap.size w (w.alloc (.cells #[.int .i64 0, .int .i64 0, .string ⟨#[]⟩, .slice none 0 0] 59)) from (Below.refl _ _).alloc (Nat.le_refl _) _)
    have C0 := Lib.hid (hc.below E0.out hg)
    have R0 := Lib.hid (Row.new w 59 #[.int .i64 0, .int .i64 0, .string ⟨#[]⟩, .slice none 0 0])
    have T0 := Lib.hid ((Turned.refl g w).alloc (.cells #[.int .i64 0, .int .i64 0, .string ⟨#[]⟩, .slice none 0 0] 59))
    have hgr : w.heap.size ≠ g := by omega
    clear hc hdd ih hd
    go_enter Try.func201, Try.ntmps201
    go_wp2_with fail
    refine (drawBelow C0.out 6 (by omega) (by omega)).mono ?_
    rintro e w1 ⟨x, i1, h1, rfl, hx, hc1, ht1⟩
    have C1 := Lib.hid hc1
    have T1 := Lib.hid (T0.out.trans ht1)
    have R1 := Lib.hid (R0.out.turned ht1 hgr)
    clear hc1 ht1
    have hl1 := R1.out.lt
    by_cases x0 : x = 0
    · have y0 : (x == 0) = true := beq_iff_eq.2 x0
      clear x0 hx
      go_wp2_with fail
      refine (hIH.out _ _ _ C1.out).mono ?_
      rintro e w2 ⟨ta, Aa, ca, i2, h2, rfl, pa, ata, hc2, ht2⟩
      have C2 := Lib.hid hc2
      have T2 := Lib.hid (T1.out.trans ht2)
      have R2 := Lib.hid (R1.out.turned ht2 hgr)
      have hl2 := R2.out.lt
      have AA := Lib.hid ata
      have PA := Lib.hid pa
      have hs12 := ht2.size
      clear hc2 ht2 ata pa
      have EA := Lib.hid (show Below w2.heap.size w2 (w2.alloc (.cells #[.int .i64 ta.op, .int .i64 ta.n, .string ta.s, .slice Aa ta.kids.length ca] 59)) from (Below.refl _ _).alloc (Nat.le_refl _) _)
      have CA := Lib.hid (C2.out.below EA.out C2.out.row.lt)
      have RA := Lib.hid (Row.new w2 59 #[.int .i64 ta.op, .int .i64 ta.n, .string ta.s, .slice Aa ta.kids.length ca])
      have hg2 : w2.heap.size ≠ g := by omega
      go_wp2_with fail
      refine (hIH.out _ _ _ CA.out).mono ?_
      rintro e w3 ⟨tb, Ab, cb, i3, h3, rfl, pb, atb, hc3, ht3⟩
      have T3 := Lib.hid ((T2.out.alloc (.cells #[.int .i64 ta.op, .int .i64 ta.n, .string ta.s, .slice Aa ta.kids.length ca] 59)).trans ht3)
      have R3 := Lib.hid ((R2.out.below EA.out hl2).turned ht3 hgr)
      have RA3 := Lib.hid (RA.out.turned ht3 hg2)
      have hs23 : w2.heap.size + 1 ≤ w3.heap.size := by have := ht3.size; simpa using this
      have hl3 := R3.out.lt
      have hla3 := RA3.out.lt
      have AA3 := Lib.hid (AA.out.keep (w' := w3) (S' := fun b => Btw w.heap.size w3.heap.size b ∧ b ≠ w.heap.size) (fun b hb => ⟨⟨⟨by have := hb.1; omega, by have := hb.2; omega⟩, by have := hb.1; omega⟩, (ht3.block b (by simp; have := hb.2; omega) (by have := hb.1; omega)).trans (EA.out.block b hb.2)⟩))
      have AB3 := Lib.hid (atb.keep (w' := w3) (S' := fun b => Btw w.heap.size w3.heap.size b ∧ b ≠ w.heap.size) (fun b hb => ⟨⟨⟨by have := hb.1; simp at this; omega, hb.2⟩, by have := hb.1; simp at this; omega⟩, rfl⟩))
      obtain ⟨V, eV⟩ : ∃ V, V = setCells w3 w.heap.size 0 [.int .i64 3, .int .i64 0, .string ⟨#[]⟩, .slice (some ⟨w3.heap.size + 1, 0, none⟩) 2 2] := ⟨_, rfl⟩
      have TV := Lib.hid (show Turned w.heap.size w3 V by rw [eV]; exact setCells_turned _ _ _ _)
      have SV : V.heap.size = w3.heap.size := by rw [eV, setCells_size]
      have RV := Lib.hid (show Row V w.heap.size 59 #[.int .i64 3, .int .i64 0, .string ⟨#[]⟩, .slice (some ⟨w3.heap.size + 1, 0, none⟩) 2 2] by rw [eV]; exact (((R3.out.set 0 _).set 1 _).set 2 _).set 3 _)
      have CV := Lib.hid (hc3.turned TV.out (by omega))
      have TGV := Lib.hid (show Turned g w V by rw [eV]; exact turned_set T3.out w.heap.size (Nat.le_refl _) _)
      obtain ⟨W, eW⟩ : ∃ W, W = (V.alloc (.cells #[.int .i64 tb.op, .int .i64 tb.n, .string tb.s, .slice Ab tb.kids.length cb] 59)).alloc (.cells #[.int .i64 ta.op, .int .i64 ta.n, .string ta.s, .slice Aa ta.kids.length ca, .int .i64 tb.op, .int .i64 tb.n, .string tb.s, .slice Ab tb.kids.length cb] 59) := ⟨_, rfl⟩
      have EW := Lib.hid (show Below V.heap.size V W by rw [eW]; exact ((Below.refl _ _).alloc (Nat.le_refl _) _).alloc (by simp) _)
      have RW := Lib.hid (show Row W (w3.heap.size + 1) 59 #[.int .i64 ta.op, .int .i64 ta.n, .string ta.s, .slice Aa ta.kids.length ca, .int .i64 tb.op, .int .i64 tb.n, .string tb.s, .slice Ab tb.kids.length cb] by rw [eW, ← SV]; exact Row.new' _ _ _ (by simp))
      have RR := Lib.hid (RV.out.below EW.out (by omega))
      have CW := Lib.hid (CV.out.below EW.out CV.out.row.lt)
      have TW := Lib.hid (show Turned g w W by rw [eW]; exact (TGV.out.alloc _).alloc _)
      have hsW : W.heap.size = w3.heap.size + 2 := by rw [eW]; simp [SV]
      have hvl : w.heap.size < w3.heap.size := by omega
      have hca := fun i => RA3.out.cell i
      have AA4 := Lib.hid (AA3.out.keep (w' := W) (S' := Btw w.heap.size W.heap.size) (fun b hb => ⟨⟨hb.1.1, by have := hb.1.2; omega⟩, (EW.out.block b (by have := hb.1.2; omega)).trans (TV.out.block b hb.1.2 hb.2)⟩))
      have AB4 := Lib.hid (AB3.out.keep (w' := W) (S' := Btw w.heap.size W.heap.size) (fun b hb => ⟨⟨hb.1.1, by have := hb.1.2; omega⟩, (EW.out.block b (by have := hb.1.2; omega)).trans (TV.out.block b hb.1.2 hb.2)⟩))
      have FIN := Lib.hid (show DrawnT l A c g (drT (d + 1)) w (.returned (.agg #[.int .i64 3, .int .i64 0, .string ⟨#[]⟩, .slice (some ⟨w3.heap.size + 1, 0, none⟩) 2 2])) W from ⟨.mk 3 0 ⟨#[]⟩ [ta, tb], some ⟨w3.heap.size + 1, 0, none⟩, 2, _, _, rfl, drT_two (by decide) PA.out pb, ⟨show (Lit.int .i64 3).wf = true by decide, show (Lit.int .i64 0).wf = true by decide, show (ByteArray.mk #[]).size ≤ maxLen by decide, slTwoTy RW.out AA4.out AB4.out ⟨by omega, by omega⟩⟩, CW.out, TW.out⟩)
      have EQW := Lib.hid (show W = (((((w3.setCell ⟨w.heap.size, 0, none⟩ (.int .i64 3)).setCell ⟨w.heap.size, 1, none⟩ (.int .i64 0)).setCell ⟨w.heap.size, 2, none⟩ (.string ⟨#[]⟩)).setCell ⟨w.heap.size, 3, none⟩ (.slice (some ⟨w3.heap.size + 1, 0, none⟩) 2 2)).alloc (.cells #[.int .i64 tb.op, .int .i64 tb.n, .string tb.s, .slice Ab tb.kids.length cb] 59)).alloc (.cells #[.int .i64 ta.op, .int .i64 ta.n, .string ta.s, .slice Aa ta.kids.length ca, .int .i64 tb.op, .int .i64 tb.n, .string tb.s, .slice Ab tb.kids.length cb] 59) by rw [eW, eV]; rfl)
      have hcz0 := fun i => R3.out.cell i
      have hfz := fun i => R3.out.frozen i
      clear hc3 ht3 atb pb eW eV TW CW TV CV TGV
      go_wp2_with fail
      rw [← EQW.out]
      have hcz := fun i => RR.out.cell i
      exact bodyPost_ret (v := .agg #[.int .i64 3, .int .i64 0, .string ⟨#[]⟩, .slice (some ⟨w3.heap.size + 1, 0, none⟩) 2 2]) (by simp [results, Try.results201, go_sem, hcz, hca]) rfl FIN.out
    by_cases x1 : x = 1
    · have y0 : (x == 0) = false := beq_eq_false_iff_ne.2 (by omega)
      have y1 : (x == 1) = true := beq_iff_eq.2 x1
      clear x0 x1 hx
      go_wp2_with fail
      refine (hIH.out _ _ _ C1.out).mono ?_
      rintro e w2 ⟨ta, Aa, ca, i2, h2, rfl, pa, ata, hc2, ht2⟩
      have C2 := Lib.hid hc2
      have T2 := Lib.hid (T1.out.trans ht2)
      have R2 := Lib.hid (R1.out.turned ht2 hgr)
      have hl2 := R2.out.lt
      have AA := Lib.hid ata
      have PA := Lib.hid pa
      have hs12 := ht2.size
      clear hc2 ht2 ata pa
      obtain ⟨V, eV⟩ : ∃ V, V = setCells w2 w.heap.size 0 [.int .i64 4, .int .i64 0, .string ⟨#[76, 105, 115, 116]⟩, .slice (some ⟨w2.heap.size + 1, 0, none⟩) 1 1] := ⟨_, rfl⟩
      have TV := Lib.hid (show Turned w.heap.size w2 V by rw [eV]; exact setCells_turned _ _ _ _)
      have SV : V.heap.size = w2.heap.size := by rw [eV, setCells_size]
      have RV := Lib.hid (show Row V w.heap.size 59 #[.int .i64 4, .int .i64 0, .string ⟨#[76, 105, 115, 116]⟩, .slice (some ⟨w2.heap.size + 1, 0, none⟩) 1 1] by rw [eV]; exact (((R2.out.set 0 _).set 1 _).set 2 _).set 3 _)
      have CV := Lib.hid (C2.out.turned TV.out (by omega))
      have TGV := Lib.hid (show Turned g w V by rw [eV]; exact turned_set T2.out w.heap.size (Nat.le_refl _) _)
      obtain ⟨W, eW⟩ : ∃ W, W = (V.alloc (.cells #[.int .i64 ta.op, .int .i64 ta.n, .string ta.s, .slice Aa ta.kids.length ca] 59)).alloc (.cells #[.int .i64 ta.op, .int .i64 ta.n, .string ta.s, .slice Aa ta.kids.length ca] 59) := ⟨_, rfl⟩
      have EW := Lib.hid (show Below V.heap.size V W by rw [eW]; exact ((Below.refl _ _).alloc (Nat.le_refl _) _).alloc (by simp) _)
      have RW := Lib.hid (show Row W (w2.heap.size + 1) 59 #[.int .i64 ta.op, .int .i64 ta.n, .string ta.s, .slice Aa ta.kids.length ca] by rw [eW, ← SV]; exact Row.new' _ _ _ (by simp))
      have RR := Lib.hid (RV.out.below EW.out (by omega))
      have CW := Lib.hid (CV.out.below EW.out CV.out.row.lt)
      have TW := Lib.hid (show Turned g w W by rw [eW]; exact (TGV.out.alloc _).alloc _)
      have hsW : W.heap.size = w2.heap.size + 2 := by rw [eW]; simp [SV]
      have hvl : w.heap.size < w2.heap.size := by omega
      have hca : True := trivial
      have AA4 := Lib.hid (AA.out.keep (w' := W) (S' := Btw w.heap.size W.heap.size) (fun b hb => ⟨⟨by have := hb.1; omega, by have := hb.2; omega⟩, (EW.out.block b (by have := hb.2; omega)).trans (TV.out.block b hb.2 (by have := hb.1; omega))⟩))
      have FIN := Lib.hid (show DrawnT l A c g (drT (d + 1)) w (.returned (.agg #[.int .i64 4, .int .i64 0, .string ⟨#[76, 105, 115, 116]⟩, .slice (some ⟨w2.heap.size + 1, 0, none⟩) 1 1])) W from ⟨.mk 4 0 ⟨#[76, 105, 115, 116]⟩ [ta], some ⟨w2.heap.size + 1, 0, none⟩, 1, _, _, rfl, drT_one (by decide) (by decide) PA.out, ⟨show (Lit.int .i64 4).wf = true by decide, show (Lit.int .i64 0).wf = true by decide, show (ByteArray.mk #[76, 105, 115, 116]).size ≤ maxLen by decide, slOneTy RW.out AA4.out ⟨by omega, by omega⟩⟩, CW.out, TW.out⟩)
      have EQW := Lib.hid (show W = (((((w2.setCell ⟨w.heap.size, 0, none⟩ (.int .i64 4)).setCell ⟨w.heap.size, 1, none⟩ (.int .i64 0)).setCell ⟨w.heap.size, 2, none⟩ (.string ⟨#[76, 105, 115, 116]⟩)).setCell ⟨w.heap.size, 3, none⟩ (.slice (some ⟨w2.heap.size + 1, 0, none⟩) 1 1)).alloc (.cells #[.int .i64 ta.op, .int .i64 ta.n, .string ta.s, .slice Aa ta.kids.length ca] 59)).alloc (.cells #[.int .i64 ta.op, .int .i64 ta.n, .string ta.s, .slice Aa ta.kids.length ca] 59) by rw [eW, eV]; rfl)
      have hcz0 := fun i => R2.out.cell i
      have hfz := fun i => R2.out.frozen i
      clear eW eV TW CW TV CV TGV
      go_wp2_with fail
      rw [← EQW.out]
      have hcz := fun i => RR.out.cell i
      exact bodyPost_ret (v := .agg #[.int .i64 4, .int .i64 0, .string ⟨#[76, 105, 115, 116]⟩, .slice (some ⟨w2.heap.size + 1, 0, none⟩) 1 1]) (by simp [results, Try.results201, go_sem, hcz, hca]) rfl FIN.out
    by_cases x2 : x = 2
    · have y0 : (x == 0) = false := beq_eq_false_iff_ne.2 (by omega)
      have y1 : (x == 1) = false := beq_eq_false_iff_ne.2 (by omega)
      have y2 : (x == 2) = true := beq_iff_eq.2 x2
      clear x0 x1 x2 hx
      obtain ⟨wp, ep⟩ : ∃ wp, wp = w1.alloc (.cells #[.string ⟨#[66, 111, 111, 108]⟩, .string ⟨#[78, 97, 116]⟩] 9) := ⟨_, rfl⟩
      have EP := Lib.hid (show Below w1.heap.size w1 wp by rw [ep]; exact (Below.refl _ _).alloc (Nat.le_refl _) _)
      have RP := Lib.hid (show Row wp w1.heap.size 9 #[.string ⟨#[66, 111, 111, 108]⟩, .string ⟨#[78, 97, 116]⟩] by rw [ep]; exact Row.new' _ _ _ rfl)
      have CP := Lib.hid (C1.out.below EP.out C1.out.row.lt)
      have TP := Lib.hid (show Turned g w wp by rw [ep]; exact T1.out.alloc _)
      have HPK := Lib.hid (drawPick CP.out [⟨#[66, 111, 111, 108]⟩, ⟨#[78, 97, 116]⟩] w1.heap.size (by have := C1.out.row.lt; omega) 9 RP.out (by decide) (by decide) (fun s => s.size ≤ 4) (fun s hs => by
        rcases List.mem_cons.1 hs with rfl | hs
        · decide
        · rw [List.mem_singleton.1 hs]; decide))
      have R1p := Lib.hid (R1.out.below EP.out hl1)
      have EQP := Lib.hid ep
      clear ep
      go_wp2_with fail
      rw [← EQP.out]
      refine HPK.out.mono ?_
      rintro e w2 ⟨s, i2, h2, rfl, hs, hc2, ht2⟩
      have C2 := Lib.hid hc2
      have T2 := Lib.hid (TP.out.trans ht2)
      have R2 := Lib.hid (R1p.out.turned ht2 hgr)
      have hl2 := R2.out.lt
      have hcz := fun i => R2.out.cell i
      have hfz := fun i => R2.out.frozen i
      have hca : True := trivial
      have FIN := Lib.hid (drawn_fin (r := w.heap.size) (P := drT (d + 1)) (vs := [.int .i64 4, .int .i64 0, .string s, .slice none 0 0]) (drT_leaf (op := 4) (n := 0) hs (by omega)) C2.out T2.out hg (Nat.le_refl _) (leafAt w2 _ (by decide) (by decide) hs))
      clear hc2 ht2
      go_wp2_with fail
      exact bodyPost_ret (v := .agg #[.int .i64 4, .int .i64 0, .string s, .slice none 0 0]) (by simp [results, Try.results201, go_sem, hcz, hca]) rfl FIN.out
    by_cases x3 : x = 3
    · have y0 : (x == 0) = false := beq_eq_false_iff_ne.2 (by omega)
      have y1 : (x == 1) = false := beq_eq_false_iff_ne.2 (by omega)
      have y2 : (x == 2) = false := beq_eq_false_iff_ne.2 (by omega)
      have y3 : (x == 3) = true := beq_iff_eq.2 x3
      clear x0 x1 x2 x3 hx
      have hcz := fun i => R1.out.cell i
      have hfz := fun i => R1.out.frozen i
      have hca : True := trivial
      have FIN := Lib.hid (drawn_fin (r := w.heap.size) (P := drT (d + 1)) (vs := [.int .i64 1, .int .i64 0, .string ⟨#[]⟩, .slice none 0 0]) (drT_leaf (op := 1) (n := 0) (s := ⟨#[]⟩) (by decide) (by omega)) C1.out T1.out hg (Nat.le_refl _) (leafAt w1 _ (by decide) (by decide) (by decide)))
      go_wp2_with fail
      exact bodyPost_ret (v := .agg #[.int .i64 1, .int .i64 0, .string ⟨#[]⟩, .slice none 0 0]) (by simp [results, Try.results201, go_sem, hcz, hca]) rfl FIN.out
    have y0 : (x == 0) = false := beq_eq_false_iff_ne.2 (by omega)
    have y1 : (x == 1) = false := beq_eq_false_iff_ne.2 (by omega)
    have y2 : (x == 2) = false := beq_eq_false_iff_ne.2 (by omega)
    have y3 : (x == 3) = false := beq_eq_false_iff_ne.2 (by omega)
    clear x0 x1 x2 x3 hx
    go_wp2_with fail
    refine (drawBelow C1.out 5 (by omega) (by omega)).mono ?_
    rintro e w2 ⟨y, i2, h2, rfl, hy, hc2, ht2⟩
    have T2 := Lib.hid (T1.out.trans ht2)
    have R2 := Lib.hid (R1.out.turned ht2 hgr)
    have hl2 := R2.out.lt
    have hcz := fun i => R2.out.cell i
    have hfz := fun i => R2.out.frozen i
    have hca : True := trivial
    have FIN := Lib.hid (drawn_fin (r := w.heap.size) (P := drT (d + 1)) (vs := [.int .i64 2, .int .i64 y, .string ⟨#[]⟩, .slice none 0 0]) (drT_leaf (op := 2) (n := y) (s := ⟨#[]⟩) (by decide) hy) hc2 T2.out hg (Nat.le_refl _) (leafAt w2 _ (by decide) (smallWf hy) (by decide)))
    clear hc2 ht2
    go_wp2_with fail
    exact bodyPost_ret (v := .agg #[.int .i64 2, .int .i64 y, .string ⟨#[]⟩, .slice none 0 0]) (by simp [results, Try.results201, go_sem, hcz, hca]) rfl FIN.out
end Go.Proofs.Ytgbcdfeflgnogaa
