/- Drawn types, as the laws take them. Conditions: none. -/
import Derived.Test.YtgbcdfeflgnogaaDrawTy5
namespace Go.Proofs.Ytgbcdfeflgnogaa
open Go.RowKit
set_option linter.unusedVariables false
set_option linter.unusedSimpArgs false
set_option maxHeartbeats 400000

/-- a type of one's own that a law draws -/
def DrawnOne (w : World) (e : Ending) (w' : World) : Prop :=
  ∃ (t : GTy) (A1 : Option Addr) (c1 : Nat), e = .returned (.agg #[.int .i64 t.op, .int .i64 t.n, .string t.s, .slice A1 t.kids.length c1]) ∧ drT5 t ∧ GTy.At w' (Lt w'.heap.size) A1 c1 t ∧ Below w.heap.size w w'
/-- two types -/
def DrawnTwo (w : World) (e : Ending) (w' : World) : Prop :=
  ∃ (a b : GTy) (A1 : Option Addr) (c1 : Nat) (A2 : Option Addr) (c2 : Nat), e = .returned (.tuple #[.agg #[.int .i64 a.op, .int .i64 a.n, .string a.s, .slice A1 a.kids.length c1], .agg #[.int .i64 b.op, .int .i64 b.n, .string b.s, .slice A2 b.kids.length c2]]) ∧ drT5 a ∧ drT5 b ∧ GTy.At w' (Lt w'.heap.size) A1 c1 a ∧ GTy.At w' (Lt w'.heap.size) A2 c2 b ∧ Below w.heap.size w w'

set_option maxRecDepth 20000 in
theorem drawTyShown (l : List Int) (A : Option Addr) (c : Nat) (w : World) (hs : Sl w (Lt w.heap.size) 1 A c (l.map (D.num .u8))) (hl : l.length ≤ 1048576) :
    Calls Try.prog 35 #[.slice A l.length c] w (DrawnOne w) := by
  obtain ⟨w0, e0⟩ : ∃ w0, w0 = w.alloc (.cells #[.int .i64 0, .int .i64 0, .string ⟨#[]⟩, .slice none 0 0] 59) := ⟨_, rfl⟩
  have E0 := Lib.hid (show Below w.heap.size w w0 by rw [e0]; exact (Below.refl _ _).alloc (Nat.le_refl _) _)
  have R0 := Lib.hid (show Row w0 w.heap.size 59 #[.int .i64 0, .int .i64 0, .string ⟨#[]⟩, .slice none 0 0] by rw [e0]; exact Row.new' _ _ _ rfl)
  have HN := Lib.hid (newCur l A c w0 (hs.below E0.out E0.out.size) hl)
  have HS0 := Lib.hid (show w0.heap.size = w.heap.size + 1 by rw [e0]; simp)
  have hsl : w.heap.size + 1 ≤ w0.heap.size := Nat.le_of_eq HS0.out.symm
  have EQ := Lib.hid e0
  clear hs e0
  go_enter Try.func35, Try.ntmps35
  go_wp2_with fail
  rw [← EQ.out]
  refine HN.out.mono ?_
  rintro e w1 ⟨h, rfl, hc1, hb1⟩
  have C1 := Lib.hid hc1
  have B1 := Lib.hid hb1
  have R1 := Lib.hid (R0.out.below hb1 (by omega))
  have hl1 := hc1.row.lt
  clear hc1 hb1
  go_wp2_with fail
  refine (drawTy5 C1.out).mono ?_
  rintro e w2 ⟨t, A1, c1, i2, h2, rfl, pt, att, hc2, ht2⟩
  have R2 := Lib.hid (R1.out.turned ht2 (by omega))
  have B2 := Lib.hid (show Below w.heap.size w w2 from (E0.out.trans (B1.out.mono E0.out.size)).trans (ht2.below (by have := B1.out.size; omega) (by omega)))
  have hcz := fun i => R2.out.cell i
  have hfz := fun i => R2.out.frozen i
  have hzl := R2.out.lt
  have BF := Lib.hid (setCells_below B2.out w.heap.size 0 (Nat.le_refl _) [.int .i64 t.op, .int .i64 t.n, .string t.s, .slice A1 t.kids.length c1])
  have AF := Lib.hid (att.keep (w' := setCells w2 w.heap.size 0 [.int .i64 t.op, .int .i64 t.n, .string t.s, .slice A1 t.kids.length c1]) (S' := Lt (setCells w2 w.heap.size 0 [.int .i64 t.op, .int .i64 t.n, .string t.s, .slice A1 t.kids.length c1]).heap.size) (fun b hb => ⟨by rw [setCells_size]; exact hb.2, setCells_block _ _ _ _ b (by have := hb.1; omega)⟩))
  clear hc2 ht2 att
  go_wp2_with fail
  exact bodyPost_ret (v := .agg #[.int .i64 t.op, .int .i64 t.n, .string t.s, .slice A1 t.kids.length c1]) (by simp [results, Try.results35, go_sem, hcz]) rfl ⟨t, A1, c1, rfl, pt, AF.out, BF.out⟩

theorem drawOnce2 {l : List Int} {A : Option Addr} {c : Nat} {w : World} {g i : Nat} {h : Int} (hc : Cur l A c w g i h) :
    Calls Try.prog 114 #[.pointer (some ⟨g, 0, none⟩), .int .i64 2] w fun e w' => ∃ (b : Bool) (i : Nat) (h : Int), e = .returned (.bool b) ∧ Cur l A c w' g i h ∧ Turned g w w' := by
  have C0 := Lib.hid hc
  clear hc
  go_enter Try.func114, Try.ntmps114
  go_wp2_with fail
  refine (drawBelow C0.out 2 (by omega) (by omega)).mono ?_
  rintro e w1 ⟨x, i1, h1, rfl, hx, hc1, ht1⟩
  have C1 := Lib.hid hc1
  have T1 := Lib.hid ht1
  clear hc1 ht1 hx
  go_wp2_with fail
  go_ret
  exact ⟨_, i1, h1, rfl, C1.out, T1.out⟩

set_option maxRecDepth 20000 in
theorem drawSame (l : List Int) (A : Option Addr) (c : Nat) (w : World) (hs : Sl w (Lt w.heap.size) 1 A c (l.map (D.num .u8))) (hl : l.length ≤ 1048576) :
    Calls Try.prog 37 #[.slice A l.length c] w (DrawnTwo w) := by
  obtain ⟨w0, e0⟩ : ∃ w0, w0 = (w.alloc (.cells #[.int .i64 0, .int .i64 0, .string ⟨#[]⟩, .slice none 0 0] 59)).alloc (.cells #[.int .i64 0, .int .i64 0, .string ⟨#[]⟩, .slice none 0 0] 59) := ⟨_, rfl⟩
  have E0 := Lib.hid (show Below w.heap.size w w0 by rw [e0]; exact ((Below.refl _ _).alloc (Nat.le_refl _) _).alloc (by simp) _)
  have R0 := Lib.hid (show Row w0 w.heap.size 59 #[.int .i64 0, .int .i64 0, .string ⟨#[]⟩, .slice none 0 0] by rw [e0]; exact (Row.new' _ _ _ rfl).alloc _)
  have Q0 := Lib.hid (show Row w0 (w.heap.size + 1) 59 #[.int .i64 0, .int .i64 0, .string ⟨#[]⟩, .slice none 0 0] by rw [e0]; exact Row.new' _ _ _ (by simp))
  have HN := Lib.hid (newCur l A c w0 (hs.below E0.out E0.out.size) hl)
  have HS0 := Lib.hid (show w0.heap.size = w.heap.size + 2 by rw [e0]; simp)
  have hsl : w.heap.size + 2 ≤ w0.heap.size := Nat.le_of_eq HS0.out.symm
  have EQ := Lib.hid e0
  clear hs e0
  go_enter Try.func37, Try.ntmps37
  go_wp2_with fail
  rw [← EQ.out]
  refine HN.out.mono ?_
  rintro e w1 ⟨h, rfl, hc1, hb1⟩
  have C1 := Lib.hid hc1
  have B1 := Lib.hid hb1
  have R1 := Lib.hid (R0.out.below hb1 (by omega))
  have Q1 := Lib.hid (Q0.out.below hb1 (by omega))
  have hl1 := hc1.row.lt
  clear hc1 hb1
  go_wp2_with fail
  refine (drawTy5 C1.out).mono ?_
  rintro e w2 ⟨a, A1, c1, i2, h2, rfl, pa, ata, hc2, ht2⟩
  have R2 := Lib.hid (R1.out.turned ht2 (by omega))
  have Q2 := Lib.hid (Q1.out.turned ht2 (by omega))
  have hs12 := ht2.size
  have B2 := Lib.hid (show Below w.heap.size w w2 from (E0.out.trans (B1.out.mono E0.out.size)).trans (ht2.below (by have := B1.out.size; omega) (by omega)))
  obtain ⟨v, ev⟩ : ∃ v, v = w2.alloc (.cells #[.int .i64 a.op, .int .i64 a.n, .string a.s, .slice A1 a.kids.length c1] 59) := ⟨_, rfl⟩
  have EV := Lib.hid (show Below w2.heap.size w2 v by rw [ev]; exact (Below.refl _ _).alloc (Nat.le_refl _) _)
  have RA := Lib.hid (show Row v w2.heap.size 59 #[.int .i64 a.op, .int .i64 a.n, .string a.s, .slice A1 a.kids.length c1] by rw [ev]; exact Row.new' _ _ _ rfl)
  have CV := Lib.hid (hc2.below EV.out hc2.row.lt)
  have hsv : w2.heap.size + 1 ≤ v.heap.size := by rw [ev]; simp
  have hsv2 : v.heap.size ≤ w2.heap.size + 1 := by rw [ev]; simp
  have hl2 := hc2.row.lt
  have AA := Lib.hid (ata.keep (w' := v) (S' := Btw w1.heap.size w2.heap.size) (fun b hb => ⟨hb, EV.out.block b hb.2⟩))
  have EQV := Lib.hid ev
  clear hc2 ht2 ata ev
  go_wp2_with fail
  rw [← EQV.out]
  refine (drawOnce2 CV.out).mono ?_
  rintro e w3 ⟨b, i3, h3, rfl, hc3, ht3⟩
  have C3 := Lib.hid hc3
  have hs3 := ht3.size
  have B3 := Lib.hid (show Below w.heap.size w w3 from (B2.out.trans (EV.out.mono (by have := B2.out.size; omega))).trans (ht3.below (by omega) (by omega)))
  have R3 := Lib.hid ((R2.out.below EV.out (by have := R2.out.lt; omega)).turned ht3 (by omega))
  have Q3 := Lib.hid ((Q2.out.below EV.out (by have := Q2.out.lt; omega)).turned ht3 (by omega))
  have RA3 := Lib.hid (RA.out.turned ht3 (by omega))
  have AA3 := Lib.hid (AA.out.keep (w' := w3) (S' := Btw w1.heap.size w2.heap.size) (fun b hb => ⟨hb, ht3.block b (by have := hb.2; omega) (by have := hb.1; omega)⟩))
  have hzr := R3.out.lt
  have hzq := Q3.out.lt
  have hza := RA3.out.lt
  have hn1 : w2.heap.size ≠ w.heap.size := by omega
  have hn2 : w2.heap.size ≠ w.heap.size + 1 := by omega
  have hcad : ∀ i, w3.drew.cell? ⟨w2.heap.size, i, none⟩ = (#[.int .i64 a.op, .int .i64 a.n, .string a.s, .slice A1 a.kids.length c1] : Array Value)[i]? := fun i => RA3.out.cell i
  have hw2 : w1.heap.size ≤ w2.heap.size := hs12
  have HS1 : w.heap.size + 2 < w1.heap.size := by omega
  clear hc3 ht3
  cases b
  · go_wp2_with fail
    go_region_held3 (fun w' => ∀ i, w'.cell? ⟨w2.heap.size, i, none⟩ = (#[.int .i64 a.op, .int .i64 a.n, .string a.s, .slice A1 a.kids.length c1] : Array Value)[i]?) (first | with_reducible exact hcad | with_reducible exact hca4 | with_reducible exact hca5 _ _ _ _ | with_reducible exact hca6 _ _ _ _ | with_reducible exact hca7 _ _ _ _ _ _ _ _ | with_reducible exact hca8 _ _ _ _ _ _ _ _ | go_keep) (first
      | (go_at_call 109
         refine (drawTy5 (C3.out.below ((Below.refl w3.heap.size w3).drew) C3.out.row.lt)).mono ?_
         rintro e w4 ⟨b, A2, c2, i4, h4, rfl, pb, atb, hc4, ht4⟩
         have RA4 := Lib.hid (Row.turned (w := w3.drew) RA3.out ht4 (by omega))
         have R4 := Lib.hid (Row.turned (w := w3.drew) R3.out ht4 (by omega))
         have Q4 := Lib.hid (Row.turned (w := w3.drew) Q3.out ht4 (by omega))
         have hs34 : w3.heap.size ≤ w4.heap.size := ht4.size
         have B4 := Lib.hid (show Below w.heap.size w w4 from B3.out.trans (Below.trans ((Below.refl w.heap.size w3).drew) (ht4.below (show w.heap.size ≤ w3.drew.heap.size from Nat.le_of_lt hzr) (by omega))))
         have AA4 := Lib.hid (AA3.out.keep (w' := w4) (S' := fun b => b < w4.heap.size ∧ b ≠ w.heap.size ∧ b ≠ w.heap.size + 1) (fun b hb => ⟨⟨by have := hb.2; omega, by have := hb.1; omega, by have := hb.1; omega⟩, ht4.block b (show b < w3.heap.size by have := hb.2; omega) (by have := hb.1; omega)⟩))
         have AB4 := Lib.hid (atb.keep (w' := w4) (S' := fun b => b < w4.heap.size ∧ b ≠ w.heap.size ∧ b ≠ w.heap.size + 1) (fun b hb => ⟨⟨hb.2, by have h1 : w3.heap.size ≤ b := hb.1; omega, by have h1 : w3.heap.size ≤ b := hb.1; omega⟩, rfl⟩))
         have PB := Lib.hid pb
         clear hc4 ht4 atb pb
         have hca4 := fun i => RA4.out.cell i
         have hcr4 := fun i => R4.out.cell i
         have hcq4 := fun i => Q4.out.cell i
         have hfr4 := fun i => R4.out.frozen i
         have hfq4 := fun i => Q4.out.frozen i
         have hrl4 := R4.out.lt
         have hql4 := Q4.out.lt
         have hca5 : ∀ (x0 x1 x2 x3 : Value) (i : Nat), ((((w4.setCell ⟨w.heap.size, 0, none⟩ x0).setCell ⟨w.heap.size, 1, none⟩ x1).setCell ⟨w.heap.size, 2, none⟩ x2).setCell ⟨w.heap.size, 3, none⟩ x3).cell? ⟨w2.heap.size, i, none⟩ = (#[.int .i64 a.op, .int .i64 a.n, .string a.s, .slice A1 a.kids.length c1] : Array Value)[i]? := fun x0 x1 x2 x3 i => ((((RA4.out.far (p := ⟨w.heap.size, 0, none⟩) hn1 _).far (p := ⟨w.heap.size, 1, none⟩) hn1 _).far (p := ⟨w.heap.size, 2, none⟩) hn1 _).far (p := ⟨w.heap.size, 3, none⟩) hn1 _).cell i
         have hca6 : ∀ (x0 x1 x2 x3 : Value) (i : Nat), ((((w4.setCell ⟨w.heap.size + 1, 0, none⟩ x0).setCell ⟨w.heap.size + 1, 1, none⟩ x1).setCell ⟨w.heap.size + 1, 2, none⟩ x2).setCell ⟨w.heap.size + 1, 3, none⟩ x3).cell? ⟨w2.heap.size, i, none⟩ = (#[.int .i64 a.op, .int .i64 a.n, .string a.s, .slice A1 a.kids.length c1] : Array Value)[i]? := fun x0 x1 x2 x3 i => ((((RA4.out.far (p := ⟨w.heap.size + 1, 0, none⟩) hn2 _).far (p := ⟨w.heap.size + 1, 1, none⟩) hn2 _).far (p := ⟨w.heap.size + 1, 2, none⟩) hn2 _).far (p := ⟨w.heap.size + 1, 3, none⟩) hn2 _).cell i
         have hca7 : ∀ (x0 x1 x2 x3 y0 y1 y2 y3 : Value) (i : Nat), ((((((((w4.setCell ⟨w.heap.size, 0, none⟩ x0).setCell ⟨w.heap.size, 1, none⟩ x1).setCell ⟨w.heap.size, 2, none⟩ x2).setCell ⟨w.heap.size, 3, none⟩ x3).setCell ⟨w.heap.size + 1, 0, none⟩ y0).setCell ⟨w.heap.size + 1, 1, none⟩ y1).setCell ⟨w.heap.size + 1, 2, none⟩ y2).setCell ⟨w.heap.size + 1, 3, none⟩ y3).cell? ⟨w2.heap.size, i, none⟩ = (#[.int .i64 a.op, .int .i64 a.n, .string a.s, .slice A1 a.kids.length c1] : Array Value)[i]? := fun x0 x1 x2 x3 y0 y1 y2 y3 i => ((((((((RA4.out.far (p := ⟨w.heap.size, 0, none⟩) hn1 _).far (p := ⟨w.heap.size, 1, none⟩) hn1 _).far (p := ⟨w.heap.size, 2, none⟩) hn1 _).far (p := ⟨w.heap.size, 3, none⟩) hn1 _).far (p := ⟨w.heap.size + 1, 0, none⟩) hn2 _).far (p := ⟨w.heap.size + 1, 1, none⟩) hn2 _).far (p := ⟨w.heap.size + 1, 2, none⟩) hn2 _).far (p := ⟨w.heap.size + 1, 3, none⟩) hn2 _).cell i
         have hca8 : ∀ (y0 y1 y2 y3 x0 x1 x2 x3 : Value) (i : Nat), ((((((((w4.setCell ⟨w.heap.size + 1, 0, none⟩ y0).setCell ⟨w.heap.size + 1, 1, none⟩ y1).setCell ⟨w.heap.size + 1, 2, none⟩ y2).setCell ⟨w.heap.size + 1, 3, none⟩ y3).setCell ⟨w.heap.size, 0, none⟩ x0).setCell ⟨w.heap.size, 1, none⟩ x1).setCell ⟨w.heap.size, 2, none⟩ x2).setCell ⟨w.heap.size, 3, none⟩ x3).cell? ⟨w2.heap.size, i, none⟩ = (#[.int .i64 a.op, .int .i64 a.n, .string a.s, .slice A1 a.kids.length c1] : Array Value)[i]? := fun y0 y1 y2 y3 x0 x1 x2 x3 i => ((((((((RA4.out.far (p := ⟨w.heap.size + 1, 0, none⟩) hn2 _).far (p := ⟨w.heap.size + 1, 1, none⟩) hn2 _).far (p := ⟨w.heap.size + 1, 2, none⟩) hn2 _).far (p := ⟨w.heap.size + 1, 3, none⟩) hn2 _).far (p := ⟨w.heap.size, 0, none⟩) hn1 _).far (p := ⟨w.heap.size, 1, none⟩) hn1 _).far (p := ⟨w.heap.size, 2, none⟩) hn1 _).far (p := ⟨w.heap.size, 3, none⟩) hn1 _).cell i))
    all_goals
      have hne1 : w.heap.size ≠ w.heap.size + 1 := by omega
      obtain ⟨W, eW⟩ : ∃ W, W = setCells (setCells w4 w.heap.size 0 [.int .i64 a.op, .int .i64 a.n, .string a.s, .slice A1 a.kids.length c1]) (w.heap.size + 1) 0 [.int .i64 b.op, .int .i64 b.n, .string b.s, .slice A2 b.kids.length c2] := ⟨_, rfl⟩
      have RR := Lib.hid (show Row W w.heap.size 59 #[.int .i64 a.op, .int .i64 a.n, .string a.s, .slice A1 a.kids.length c1] by rw [eW]; exact (((((((R4.out.set 0 _).set 1 _).set 2 _).set 3 _).far (p := ⟨w.heap.size + 1, 0, none⟩) hne1 _).far (p := ⟨w.heap.size + 1, 1, none⟩) hne1 _).far (p := ⟨w.heap.size + 1, 2, none⟩) hne1 _).far (p := ⟨w.heap.size + 1, 3, none⟩) hne1 _)
      have QQ := Lib.hid (show Row W (w.heap.size + 1) 59 #[.int .i64 b.op, .int .i64 b.n, .string b.s, .slice A2 b.kids.length c2] by rw [eW]; exact (((((((Q4.out.far (p := ⟨w.heap.size, 0, none⟩) hne1.symm _).far (p := ⟨w.heap.size, 1, none⟩) hne1.symm _).far (p := ⟨w.heap.size, 2, none⟩) hne1.symm _).far (p := ⟨w.heap.size, 3, none⟩) hne1.symm _).set 0 _).set 1 _).set 2 _).set 3 _)
      have BW := Lib.hid (show Below w.heap.size w W by rw [eW]; exact setCells_below (setCells_below B4.out w.heap.size 0 (Nat.le_refl _) _) (w.heap.size + 1) 0 (Nat.le_succ _) _)
      have SW : W.heap.size = w4.heap.size := by rw [eW, setCells_size, setCells_size]
      have AW := Lib.hid (AA4.out.keep (w' := W) (S' := Lt W.heap.size) (fun b hb => ⟨by unfold Lt; rw [SW]; exact hb.1, by rw [eW, setCells_block _ _ _ _ b hb.2.2, setCells_block _ _ _ _ b hb.2.1]⟩))
      have AW2 := Lib.hid (AB4.out.keep (w' := W) (S' := Lt W.heap.size) (fun b hb => ⟨by unfold Lt; rw [SW]; exact hb.1, by rw [eW, setCells_block _ _ _ _ b hb.2.2, setCells_block _ _ _ _ b hb.2.1]⟩))
      have EQW := Lib.hid (show W = ((((((((w4.setCell ⟨w.heap.size, 0, none⟩ (.int .i64 a.op)).setCell ⟨w.heap.size, 1, none⟩ (.int .i64 a.n)).setCell ⟨w.heap.size, 2, none⟩ (.string a.s)).setCell ⟨w.heap.size, 3, none⟩ (.slice A1 a.kids.length c1)).setCell ⟨w.heap.size + 1, 0, none⟩ (.int .i64 b.op)).setCell ⟨w.heap.size + 1, 1, none⟩ (.int .i64 b.n)).setCell ⟨w.heap.size + 1, 2, none⟩ (.string b.s)).setCell ⟨w.heap.size + 1, 3, none⟩ (.slice A2 b.kids.length c2)) by rw [eW]; rfl)
      have hcR := fun i => RR.out.cell i
      have hcQ := fun i => QQ.out.cell i
      clear eW SW
      go_wp2_with fail
      rw [← EQW.out]
      exact bodyPost_ret (v := .tuple #[.agg #[.int .i64 a.op, .int .i64 a.n, .string a.s, .slice A1 a.kids.length c1], .agg #[.int .i64 b.op, .int .i64 b.n, .string b.s, .slice A2 b.kids.length c2]]) (by simp [results, Try.results37, go_sem, hcR, hcQ]) rfl ⟨a, b, A1, c1, A2, c2, rfl, pa, PB.out, AW.out, AW2.out, BW.out⟩
  · go_wp2_with fail
    go_region_held3 (fun w' => ∀ i, w'.cell? ⟨w2.heap.size, i, none⟩ = (#[.int .i64 a.op, .int .i64 a.n, .string a.s, .slice A1 a.kids.length c1] : Array Value)[i]?) (first | with_reducible exact hcad | with_reducible exact hca4 | with_reducible exact hca5 _ _ _ _ | with_reducible exact hca6 _ _ _ _ | with_reducible exact hca7 _ _ _ _ _ _ _ _ | with_reducible exact hca8 _ _ _ _ _ _ _ _ | go_keep) (first
      | (go_at_call 115
         refine (specTyCopy' a A1 c1 w3.drew (by have := pa.1; omega) (AA3.out.keep (fun b hb => ⟨show b < w3.heap.size by have := hb.2; omega, rfl⟩))).mono ?_
         rintro e w4 ⟨A2, c2, rfl, how, hb4⟩
         have B34 := Lib.hid (show Below w3.heap.size w3 w4 from ((Below.refl w3.heap.size w3).drew).trans hb4)
         have RA4 := Lib.hid (RA3.out.below B34.out hza)
         have R4 := Lib.hid (R3.out.below B34.out hzr)
         have Q4 := Lib.hid (Q3.out.below B34.out hzq)
         have hs34 : w3.heap.size ≤ w4.heap.size := B34.out.size
         have B4 := Lib.hid (show Below w.heap.size w w4 from B3.out.trans (B34.out.mono (Nat.le_of_lt hzr)))
         have AA4 := Lib.hid (AA3.out.keep (w' := w4) (S' := fun b => b < w4.heap.size ∧ b ≠ w.heap.size ∧ b ≠ w.heap.size + 1) (fun b hb => ⟨⟨by have := hb.2; omega, by have := hb.1; omega, by have := hb.1; omega⟩, B34.out.block b (by have := hb.2; omega)⟩))
         have AB4 := Lib.hid (how.at.keep (w' := w4) (S' := fun b => b < w4.heap.size ∧ b ≠ w.heap.size ∧ b ≠ w.heap.size + 1) (fun b hb => ⟨⟨hb.2, by have h1 : w3.heap.size ≤ b := hb.1; omega, by have h1 : w3.heap.size ≤ b := hb.1; omega⟩, rfl⟩))
         have PB := Lib.hid pa
         clear hb4 how
         have hca4 := fun i => RA4.out.cell i
         have hcr4 := fun i => R4.out.cell i
         have hcq4 := fun i => Q4.out.cell i
         have hfr4 := fun i => R4.out.frozen i
         have hfq4 := fun i => Q4.out.frozen i
         have hrl4 := R4.out.lt
         have hql4 := Q4.out.lt
         have hca5 : ∀ (x0 x1 x2 x3 : Value) (i : Nat), ((((w4.setCell ⟨w.heap.size, 0, none⟩ x0).setCell ⟨w.heap.size, 1, none⟩ x1).setCell ⟨w.heap.size, 2, none⟩ x2).setCell ⟨w.heap.size, 3, none⟩ x3).cell? ⟨w2.heap.size, i, none⟩ = (#[.int .i64 a.op, .int .i64 a.n, .string a.s, .slice A1 a.kids.length c1] : Array Value)[i]? := fun x0 x1 x2 x3 i => ((((RA4.out.far (p := ⟨w.heap.size, 0, none⟩) hn1 _).far (p := ⟨w.heap.size, 1, none⟩) hn1 _).far (p := ⟨w.heap.size, 2, none⟩) hn1 _).far (p := ⟨w.heap.size, 3, none⟩) hn1 _).cell i
         have hca6 : ∀ (x0 x1 x2 x3 : Value) (i : Nat), ((((w4.setCell ⟨w.heap.size + 1, 0, none⟩ x0).setCell ⟨w.heap.size + 1, 1, none⟩ x1).setCell ⟨w.heap.size + 1, 2, none⟩ x2).setCell ⟨w.heap.size + 1, 3, none⟩ x3).cell? ⟨w2.heap.size, i, none⟩ = (#[.int .i64 a.op, .int .i64 a.n, .string a.s, .slice A1 a.kids.length c1] : Array Value)[i]? := fun x0 x1 x2 x3 i => ((((RA4.out.far (p := ⟨w.heap.size + 1, 0, none⟩) hn2 _).far (p := ⟨w.heap.size + 1, 1, none⟩) hn2 _).far (p := ⟨w.heap.size + 1, 2, none⟩) hn2 _).far (p := ⟨w.heap.size + 1, 3, none⟩) hn2 _).cell i
         have hca7 : ∀ (x0 x1 x2 x3 y0 y1 y2 y3 : Value) (i : Nat), ((((((((w4.setCell ⟨w.heap.size, 0, none⟩ x0).setCell ⟨w.heap.size, 1, none⟩ x1).setCell ⟨w.heap.size, 2, none⟩ x2).setCell ⟨w.heap.size, 3, none⟩ x3).setCell ⟨w.heap.size + 1, 0, none⟩ y0).setCell ⟨w.heap.size + 1, 1, none⟩ y1).setCell ⟨w.heap.size + 1, 2, none⟩ y2).setCell ⟨w.heap.size + 1, 3, none⟩ y3).cell? ⟨w2.heap.size, i, none⟩ = (#[.int .i64 a.op, .int .i64 a.n, .string a.s, .slice A1 a.kids.length c1] : Array Value)[i]? := fun x0 x1 x2 x3 y0 y1 y2 y3 i => ((((((((RA4.out.far (p := ⟨w.heap.size, 0, none⟩) hn1 _).far (p := ⟨w.heap.size, 1, none⟩) hn1 _).far (p := ⟨w.heap.size, 2, none⟩) hn1 _).far (p := ⟨w.heap.size, 3, none⟩) hn1 _).far (p := ⟨w.heap.size + 1, 0, none⟩) hn2 _).far (p := ⟨w.heap.size + 1, 1, none⟩) hn2 _).far (p := ⟨w.heap.size + 1, 2, none⟩) hn2 _).far (p := ⟨w.heap.size + 1, 3, none⟩) hn2 _).cell i
         have hca8 : ∀ (y0 y1 y2 y3 x0 x1 x2 x3 : Value) (i : Nat), ((((((((w4.setCell ⟨w.heap.size + 1, 0, none⟩ y0).setCell ⟨w.heap.size + 1, 1, none⟩ y1).setCell ⟨w.heap.size + 1, 2, none⟩ y2).setCell ⟨w.heap.size + 1, 3, none⟩ y3).setCell ⟨w.heap.size, 0, none⟩ x0).setCell ⟨w.heap.size, 1, none⟩ x1).setCell ⟨w.heap.size, 2, none⟩ x2).setCell ⟨w.heap.size, 3, none⟩ x3).cell? ⟨w2.heap.size, i, none⟩ = (#[.int .i64 a.op, .int .i64 a.n, .string a.s, .slice A1 a.kids.length c1] : Array Value)[i]? := fun y0 y1 y2 y3 x0 x1 x2 x3 i => ((((((((RA4.out.far (p := ⟨w.heap.size + 1, 0, none⟩) hn2 _).far (p := ⟨w.heap.size + 1, 1, none⟩) hn2 _).far (p := ⟨w.heap.size + 1, 2, none⟩) hn2 _).far (p := ⟨w.heap.size + 1, 3, none⟩) hn2 _).far (p := ⟨w.heap.size, 0, none⟩) hn1 _).far (p := ⟨w.heap.size, 1, none⟩) hn1 _).far (p := ⟨w.heap.size, 2, none⟩) hn1 _).far (p := ⟨w.heap.size, 3, none⟩) hn1 _).cell i))
    all_goals
      have hne1 : w.heap.size ≠ w.heap.size + 1 := by omega
      obtain ⟨W, eW⟩ : ∃ W, W = setCells (setCells w4 w.heap.size 0 [.int .i64 a.op, .int .i64 a.n, .string a.s, .slice A1 a.kids.length c1]) (w.heap.size + 1) 0 [.int .i64 a.op, .int .i64 a.n, .string a.s, .slice A2 a.kids.length c2] := ⟨_, rfl⟩
      have RR := Lib.hid (show Row W w.heap.size 59 #[.int .i64 a.op, .int .i64 a.n, .string a.s, .slice A1 a.kids.length c1] by rw [eW]; exact (((((((R4.out.set 0 _).set 1 _).set 2 _).set 3 _).far (p := ⟨w.heap.size + 1, 0, none⟩) hne1 _).far (p := ⟨w.heap.size + 1, 1, none⟩) hne1 _).far (p := ⟨w.heap.size + 1, 2, none⟩) hne1 _).far (p := ⟨w.heap.size + 1, 3, none⟩) hne1 _)
      have QQ := Lib.hid (show Row W (w.heap.size + 1) 59 #[.int .i64 a.op, .int .i64 a.n, .string a.s, .slice A2 a.kids.length c2] by rw [eW]; exact (((((((Q4.out.far (p := ⟨w.heap.size, 0, none⟩) hne1.symm _).far (p := ⟨w.heap.size, 1, none⟩) hne1.symm _).far (p := ⟨w.heap.size, 2, none⟩) hne1.symm _).far (p := ⟨w.heap.size, 3, none⟩) hne1.symm _).set 0 _).set 1 _).set 2 _).set 3 _)
      have BW := Lib.hid (show Below w.heap.size w W by rw [eW]; exact setCells_below (setCells_below B4.out w.heap.size 0 (Nat.le_refl _) _) (w.heap.size + 1) 0 (Nat.le_succ _) _)
      have SW : W.heap.size = w4.heap.size := by rw [eW, setCells_size, setCells_size]
      have AW := Lib.hid (AA4.out.keep (w' := W) (S' := Lt W.heap.size) (fun b hb => ⟨by unfold Lt; rw [SW]; exact hb.1, by rw [eW, setCells_block _ _ _ _ b hb.2.2, setCells_block _ _ _ _ b hb.2.1]⟩))
      have AW2 := Lib.hid (AB4.out.keep (w' := W) (S' := Lt W.heap.size) (fun b hb => ⟨by unfold Lt; rw [SW]; exact hb.1, by rw [eW, setCells_block _ _ _ _ b hb.2.2, setCells_block _ _ _ _ b hb.2.1]⟩))
      have EQW := Lib.hid (show W = ((((((((w4.setCell ⟨w.heap.size, 0, none⟩ (.int .i64 a.op)).setCell ⟨w.heap.size, 1, none⟩ (.int .i64 a.n)).setCell ⟨w.heap.size, 2, none⟩ (.string a.s)).setCell ⟨w.heap.size, 3, none⟩ (.slice A1 a.kids.length c1)).setCell ⟨w.heap.size + 1, 0, none⟩ (.int .i64 a.op)).setCell ⟨w.heap.size + 1, 1, none⟩ (.int .i64 a.n)).setCell ⟨w.heap.size + 1, 2, none⟩ (.string a.s)).setCell ⟨w.heap.size + 1, 3, none⟩ (.slice A2 a.kids.length c2)) by rw [eW]; rfl)
      have hcR := fun i => RR.out.cell i
      have hcQ := fun i => QQ.out.cell i
      clear eW SW
      go_wp2_with fail
      rw [← EQW.out]
      exact bodyPost_ret (v := .tuple #[.agg #[.int .i64 a.op, .int .i64 a.n, .string a.s, .slice A1 a.kids.length c1], .agg #[.int .i64 a.op, .int .i64 a.n, .string a.s, .slice A2 a.kids.length c2]]) (by simp [results, Try.results37, go_sem, hcR, hcQ]) rfl ⟨a, a, A1, c1, A2, c2, rfl, pa, PB.out, AW.out, AW2.out, BW.out⟩
end Go.Proofs.Ytgbcdfeflgnogaa
