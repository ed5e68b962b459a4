/- Texts of the claim LValues in one: DnB DrawNum DnF ValueText ValuesP ConTag FCon. Conditions: none but bounds on sizes. -/
import Derived.Test.YtamfolaicncblaaZLValues5
import Derived.Test.YtamfolaicncblaaZLValues2
import Derived.Test.YtamfolaicncblaaZLValues6
import Derived.Test.YtamfolaicncblaaRows
import Derived.Test.YtamfolaicncblaaZLValues0
import Derived.Lib.Hide
import Derived.Test.YtamfolaicncblaaZLValues13
namespace Go.Proofs.Ytamfolaicncblaa
set_option maxRecDepth 20000
set_option linter.unusedVariables false
set_option linter.unusedSimpArgs false
open Go.RowKit
set_option maxHeartbeats 2000000
theorem drawValI (dd : Int) {l : List Int} {A : Option Addr} {c : Nat} {g : Nat} {w0 w : World} (hm0 : Dm l A c g w0 w) :
 Calls Try.prog 20 #[.pointer (some ⟨g, 0, none⟩), .int .i64 2, .int .i64 dd] w (DrawnV l A c g valI w) := by
 have hm := hm0.again
 clear hm0
 have hgl := hm.lt
 have M0 := LH hm
 clear hm
 go_enter Try.func20, Try.ntmps20
 refine wp_hide (fun BP hBP => ?_)
 have HBP := LH hBP
 clear hBP
 go_wp2_with fail
 obtain ⟨w1, e1, Rr1, hz1, K1⟩ := boxed w 26 #[.int .i64 0, .int .i64 0, .string ⟨#[]⟩, .slice none 0 0]
 have M1 := LH (M0.out.chg K1.out (by omega) (by omega))
 rw [← e1]
 clear e1
 have hlu1 := M1.out.lt
 have hcr1 := fun i => Rr1.out.cell i
 have hlr1 := Rr1.out.lt
 refine (drawBelowD M1.out 4 (by omega) (by omega)).mono ?_
 clear hlu1 hcr1 hlr1
 rintro e w2 ⟨x, rfl, hx, hm2⟩
 have hz2 := hm2.size
 have K2 := LH hm2.bx
 have Rr2 := LH (K2.out.row Rr1.out (by omega))
 have M2 := LH (M1.out.trans hm2)
 clear Rr1 M1
 clear hm2
 have hlu2 := M2.out.lt
 have hcr2 := fun i => Rr2.out.cell i
 have hfr2 := fun i => Rr2.out.frozen i
 have hlr2 := Rr2.out.lt
 go_wp2_with fail
 clear hlu2 hcr2 hfr2 hlr2
 obtain ⟨w3, e3, RN3, hz3, K3⟩ := stored4 Rr2.out (.int .i64 1) (.int .i64 x) (.string ⟨#[]⟩) (.slice none 0 0)
 have M3 := LH (M2.out.chg K3.out (by omega) (by omega))
 clear M2
 clear Rr2
 rw [← e3]
 clear e3
 have hlu3 := M3.out.lt
 have hcr3 := fun i => RN3.out.cell i
 have hlr3 := RN3.out.lt
 show BP _ _
 rw [HBP.out]
 refine bodyPost_ret (v := .agg #[.int .i64 1, .int .i64 x, .string ⟨#[]⟩, .slice none 0 0]) (by simp [results, Try.results20, go_sem, hcr3]) rfl ?_
 exact ⟨.mk 1 x ⟨#[]⟩ [], none, 0, rfl, ⟨x, hx, rfl⟩, GValue.leaf (show (Lit.int .i64 1).wf = true by decide) (int_wfS (by omega)) empty_le, M3.out⟩
theorem drawValO (dd : Int) {l : List Int} {A : Option Addr} {c : Nat} {g : Nat} {w0 w : World} (hm0 : Dm l A c g w0 w) :
 Calls Try.prog 20 #[.pointer (some ⟨g, 0, none⟩), .int .i64 1, .int .i64 dd] w (DrawnV l A c g valO w) := by
 have hm := hm0.again
 clear hm0
 have hgl := hm.lt
 have M0 := LH hm
 clear hm
 go_enter Try.func20, Try.ntmps20
 refine wp_hide (fun BP hBP => ?_)
 have HBP := LH hBP
 clear hBP
 go_wp2_with fail
 obtain ⟨w1, e1, Rr1, hz1, K1⟩ := boxed w 26 #[.int .i64 0, .int .i64 0, .string ⟨#[]⟩, .slice none 0 0]
 have M1 := LH (M0.out.chg K1.out (by omega) (by omega))
 rw [← e1]
 clear e1
 have hlu1 := M1.out.lt
 have hcr1 := fun i => Rr1.out.cell i
 have hlr1 := Rr1.out.lt
 refine (drawOnceD M1.out 2 (by omega) (by omega)).mono ?_
 clear hlu1 hcr1 hlr1
 rintro e w2 ⟨b1, rfl, hm2⟩
 have hz2 := hm2.size
 have K2 := LH hm2.bx
 have Rr2 := LH (K2.out.row Rr1.out (by omega))
 have M2 := LH (M1.out.trans hm2)
 clear Rr1 M1
 clear hm2
 have hlu2 := M2.out.lt
 have hcr2 := fun i => Rr2.out.cell i
 have hfr2 := fun i => Rr2.out.frozen i
 have hlr2 := Rr2.out.lt
 cases b1
 ·
  go_wp2_with fail
  refine (drawValI 0 M2.out).mono ?_
  clear hlu2 hcr2 hfr2 hlr2
  rintro e w3 ⟨x, Ax, cx, rfl, px, ha3, hm3⟩
  have DN3 := LH ha3
  have hz3 := hm3.size
  have K3 := LH hm3.bx
  have Rr3 := LH (K3.out.row Rr2.out (by omega))
  have M3 := LH (M2.out.trans hm3)
  clear Rr2 M2
  clear hm3 ha3
  have hlu3 := M3.out.lt
  have hcr3 := fun i => Rr3.out.cell i
  have hfr3 := fun i => Rr3.out.frozen i
  have hlr3 := Rr3.out.lt
  go_wp2_with fail
  clear hlu3 hcr3 hlr3
  obtain ⟨w4, e4, RN4, hz4, K4⟩ := stored4 Rr3.out (.int .i64 2) (.int .i64 0) (.string ⟨#[83, 111, 109, 101]⟩) (.slice (some ⟨w3.heap.size, 0, none⟩) 1 1)
  have Dx4 := LH (DN3.out.keep fun b hb => K4.out.kq hb (by have h1 := hb.1; have h2 := hb.2; omega))
  have M4 := LH (M3.out.chg K4.out (by omega) (by omega))
  clear DN3 M3
  clear Rr3
  obtain ⟨w5, e5, Rrow5, hz5, K5⟩ := boxed w4 26 #[.int .i64 x.kind, .int .i64 x.n, .string x.s, .slice Ax x.kids.length cx]
  have hy5 : w4.heap.size = w3.heap.size := by omega
  rw [hy5] at Rrow5 K5
  have Rr5 := LH (K5.out.row RN4.out (by omega))
  have Dx5 := LH (Dx4.out.keep fun b hb => K5.out.kq hb (by have h1 := hb.1; have h2 := hb.2; omega))
  have M5 := LH (M4.out.chg K5.out (by omega) (by omega))
  clear RN4 Dx4 M4
  have SL5 := LH (show Sl w5 (fun b => b < w5.heap.size ∧ w.heap.size ≤ b ∧ b ≠ w.heap.size) 4 (some ⟨w3.heap.size, 0, none⟩) 1 ([x].map GValue.toD) from Sl.ofRow Rrow5.out (rdC_one1 (GValue.rd_mk (Dx5.out.keep (w' := w5) (S' := fun b => b < w5.heap.size ∧ w.heap.size ≤ b ∧ b ≠ w.heap.size) fun b hb => ⟨⟨by have h1 := hb.1; have h2 := hb.2; omega, by have h1 := hb.1; have h2 := hb.2; omega⟩, rfl⟩)) rfl) ⟨by omega, by omega⟩ (by simp) (by unfold maxLen; omega))
  rw [← e4, ← e5]
  clear e4 e5
  have hlu5 := M5.out.lt
  have hcr5 := fun i => Rr5.out.cell i
  have hlr5 := Rr5.out.lt
  have hcrow5 := fun i => Rrow5.out.cell i
  have hlrow5 := Rrow5.out.lt
  show BP _ _
  rw [HBP.out]
  refine bodyPost_ret (v := .agg #[.int .i64 2, .int .i64 0, .string ⟨#[83, 111, 109, 101]⟩, .slice (some ⟨w3.heap.size, 0, none⟩) 1 1]) (by simp [results, Try.results20, go_sem, hcr5]) rfl ?_
  exact ⟨.mk 2 0 sSome [x], some ⟨w3.heap.size, 0, none⟩, 1, rfl, .inr ⟨x, px, rfl⟩, ⟨show (Lit.int .i64 2).wf = true by decide, show (Lit.int .i64 0).wf = true by decide, short_le (show sSome.size ≤ 8 by decide), SL5.out.keep fun b hb => ⟨⟨by have h1 := hb.1; have h2 := hb.2; omega, by have h1 := hb.1; have h2 := hb.2; omega⟩, rfl⟩⟩, M5.out⟩
 ·
  go_wp2_with fail
  clear hlu2 hcr2 hfr2 hlr2
  obtain ⟨w3, e3, RN3, hz3, K3⟩ := stored4 Rr2.out (.int .i64 2) (.int .i64 0) (.string ⟨#[78, 111, 110, 101]⟩) (.slice none 0 0)
  have M3 := LH (M2.out.chg K3.out (by omega) (by omega))
  clear M2
  clear Rr2
  rw [← e3]
  clear e3
  have hlu3 := M3.out.lt
  have hcr3 := fun i => RN3.out.cell i
  have hlr3 := RN3.out.lt
  show BP _ _
  rw [HBP.out]
  refine bodyPost_ret (v := .agg #[.int .i64 2, .int .i64 0, .string ⟨#[78, 111, 110, 101]⟩, .slice none 0 0]) (by simp [results, Try.results20, go_sem, hcr3]) rfl ?_
  exact ⟨.mk 2 0 sNone [], none, 0, rfl, .inl rfl, GValue.leaf (show (Lit.int .i64 2).wf = true by decide) (show (Lit.int .i64 0).wf = true by decide) (short_le (show sNone.size ≤ 8 by decide)), M3.out⟩
theorem drawValL (d : Nat) : ∀ (dd : Int) {l : List Int} {A : Option Addr} {c : Nat} {g : Nat} {w0 w : World}, dd = (d : Int) → d ≤ 100 → Dm l A c g w0 w →
 Calls Try.prog 20 #[.pointer (some ⟨g, 0, none⟩), .int .i64 0, .int .i64 dd] w (DrawnV l A c g (valL d) w) := by
 induction d with
 | zero =>
  intro dd l A c g w0 w hdd hd hm0
  have hm := hm0.again
  clear hm0
  have h0 : (dd == 0) = true := by rw [hdd]; rfl
  clear hdd
  have hgl := hm.lt
  have M0 := LH hm
  clear hm
  go_enter Try.func20, Try.ntmps20
  refine wp_hide (fun BP hBP => ?_)
  have HBP := LH hBP
  clear hBP
  go_wp2_with fail
  obtain ⟨w1, e1, Rr1, hz1, K1⟩ := boxed w 26 #[.int .i64 2, .int .i64 0, .string ⟨#[78, 105, 108]⟩, .slice none 0 0]
  have M1 := LH (M0.out.chg K1.out (by omega) (by omega))
  rw [← e1]
  clear e1
  have hlu1 := M1.out.lt
  have hcr1 := fun i => Rr1.out.cell i
  have hlr1 := Rr1.out.lt
  show BP _ _
  rw [HBP.out]
  refine bodyPost_ret (v := .agg #[.int .i64 2, .int .i64 0, .string ⟨#[78, 105, 108]⟩, .slice none 0 0]) (by simp [results, Try.results20, go_sem, hcr1]) rfl ?_
  exact ⟨.mk 2 0 sNil [], none, 0, rfl, rfl, GValue.leaf (show (Lit.int .i64 2).wf = true by decide) (show (Lit.int .i64 0).wf = true by decide) (short_le (show sNil.size ≤ 8 by decide)), M1.out⟩
 | succ d ih =>
  intro dd l A c g w0 w hdd hd hm0
  have hm := hm0.again
  clear hm0
  have h0 : (dd == 0) = false := by rw [beq_eq_false_iff_ne, hdd]; omega
  have hwd : IntKind.i64.wrap (dd - 1) = dd - 1 := by rw [IntKind.wrap_i64]; omega
  have hIH := LH (fun (wa wb : World) (m : Dm l A c g wa wb) => ih (dd - 1) (w0 := wa) (w := wb) (by omega) (by omega) m)
  clear ih hdd hd
  have hgl := hm.lt
  have M0 := LH hm
  clear hm
  go_enter Try.func20, Try.ntmps20
  refine wp_hide (fun BP hBP => ?_)
  have HBP := LH hBP
  clear hBP
  go_wp2_with fail
  obtain ⟨w1, e1, Rr1, hz1, K1⟩ := boxed w 26 #[.int .i64 0, .int .i64 0, .string ⟨#[]⟩, .slice none 0 0]
  have M1 := LH (M0.out.chg K1.out (by omega) (by omega))
  rw [← e1]
  clear e1
  have hlu1 := M1.out.lt
  have hcr1 := fun i => Rr1.out.cell i
  have hlr1 := Rr1.out.lt
  refine (drawOnceD M1.out 3 (by omega) (by omega)).mono ?_
  clear hlu1 hcr1 hlr1
  rintro e w2 ⟨b1, rfl, hm2⟩
  have hz2 := hm2.size
  have K2 := LH hm2.bx
  have Rr2 := LH (K2.out.row Rr1.out (by omega))
  have M2 := LH (M1.out.trans hm2)
  clear Rr1 M1
  clear hm2
  have hlu2 := M2.out.lt
  have hcr2 := fun i => Rr2.out.cell i
  have hfr2 := fun i => Rr2.out.frozen i
  have hlr2 := Rr2.out.lt
  cases b1
  ·
   go_wp2_with fail
   refine (drawValO (dd - 1) M2.out).mono ?_
   clear hlu2 hcr2 hfr2 hlr2
   rintro e w3 ⟨x, Ax, cx, rfl, px, ha3, hm3⟩
   have DN3 := LH ha3
   have hz3 := hm3.size
   have K3 := LH hm3.bx
   have Rr3 := LH (K3.out.row Rr2.out (by omega))
   have M3 := LH (M2.out.trans hm3)
   clear Rr2 M2
   clear hm3 ha3
   have hlu3 := M3.out.lt
   have hcr3 := fun i => Rr3.out.cell i
   have hlr3 := Rr3.out.lt
   go_wp2_with fail
   clear hlu3 hcr3 hlr3
   obtain ⟨w4, e4, Rxa4, hz4, K4⟩ := boxed w3 26 #[.int .i64 x.kind, .int .i64 x.n, .string x.s, .slice Ax x.kids.length cx]
   have Rr4 := LH (K4.out.row Rr3.out (by omega))
   have Dx4 := LH (DN3.out.keep fun b hb => K4.out.kq hb (by have h1 := hb.1; have h2 := hb.2; omega))
   have M4 := LH (M3.out.chg K4.out (by omega) (by omega))
   clear Rr3 DN3 M3
   rw [← e4]
   clear e4
   have hlu4 := M4.out.lt
   have hcr4 := fun i => Rr4.out.cell i
   have hlr4 := Rr4.out.lt
   have hcxa4 := fun i => Rxa4.out.cell i
   have hlxa4 := Rxa4.out.lt
   refine (hIH.out _ _ M4.out).mono ?_
   clear hlu4 hcr4 hlr4 hcxa4 hlxa4
   rintro e w5 ⟨y, Ay, cy, rfl, py, ha5, hm5⟩
   have DN5 := LH ha5
   have hz5 := hm5.size
   have K5 := LH hm5.bx
   have Rr5 := LH (K5.out.row Rr4.out (by omega))
   have Rxa5 := LH (K5.out.row Rxa4.out (by omega))
   have Dx5 := LH (Dx4.out.keep fun b hb => K5.out.kq hb (by have h1 := hb.1; have h2 := hb.2; omega))
   have M5 := LH (M4.out.trans hm5)
   clear Rr4 Rxa4 Dx4 M4
   clear hm5 ha5
   have hlu5 := M5.out.lt
   have hcr5 := fun i => Rr5.out.cell i
   have hfr5 := fun i => Rr5.out.frozen i
   have hlr5 := Rr5.out.lt
   have hcxa5 := fun i => Rxa5.out.cell i
   have hlxa5 := Rxa5.out.lt
   go_wp2_with fail
   clear hlu5 hcr5 hfr5 hlr5 hcxa5 hlxa5
   obtain ⟨w6, e6, RN6, hz6, K6⟩ := stored4 Rr5.out (.int .i64 2) (.int .i64 0) (.string ⟨#[67, 111, 110, 115]⟩) (.slice (some ⟨(w5.heap.size + 1), 0, none⟩) 2 2)
   have Rxa6 := LH (K6.out.row Rxa5.out (by omega))
   have Dx6 := LH (Dx5.out.keep fun b hb => K6.out.kq hb (by have h1 := hb.1; have h2 := hb.2; omega))
   have Dy6 := LH (DN5.out.keep fun b hb => K6.out.kq hb (by have h1 := hb.1; have h2 := hb.2; omega))
   have M6 := LH (M5.out.chg K6.out (by omega) (by omega))
   clear Rxa5 Dx5 DN5 M5
   clear Rr5
   obtain ⟨w7, e7, Rbx7, hz7, K7⟩ := boxed w6 26 #[.int .i64 y.kind, .int .i64 y.n, .string y.s, .slice Ay y.kids.length cy]
   have hy7 : w6.heap.size = w5.heap.size := by omega
   rw [hy7] at Rbx7 K7
   have Rxa7 := LH (K7.out.row Rxa6.out (by omega))
   have Rr7 := LH (K7.out.row RN6.out (by omega))
   have Dx7 := LH (Dx6.out.keep fun b hb => K7.out.kq hb (by have h1 := hb.1; have h2 := hb.2; omega))
   have Dy7 := LH (Dy6.out.keep fun b hb => K7.out.kq hb (by have h1 := hb.1; have h2 := hb.2; omega))
   have M7 := LH (M6.out.chg K7.out (by omega) (by omega))
   clear Rxa6 RN6 Dx6 Dy6 M6
   obtain ⟨w8, e8, Rrow8, hz8, K8⟩ := boxed w7 26 #[.int .i64 x.kind, .int .i64 x.n, .string x.s, .slice Ax x.kids.length cx, .int .i64 y.kind, .int .i64 y.n, .string y.s, .slice Ay y.kids.length cy]
   have hy8 : w7.heap.size = (w5.heap.size + 1) := by omega
   rw [hy8] at Rrow8 K8
   have Rxa8 := LH (K8.out.row Rxa7.out (by omega))
   have Rr8 := LH (K8.out.row Rr7.out (by omega))
   have Rbx8 := LH (K8.out.row Rbx7.out (by omega))
   have Dx8 := LH (Dx7.out.keep fun b hb => K8.out.kq hb (by have h1 := hb.1; have h2 := hb.2; omega))
   have Dy8 := LH (Dy7.out.keep fun b hb => K8.out.kq hb (by have h1 := hb.1; have h2 := hb.2; omega))
   have M8 := LH (M7.out.chg K8.out (by omega) (by omega))
   clear Rxa7 Rr7 Rbx7 Dx7 Dy7 M7
   have SL8 := LH (show Sl w8 (fun b => b < w8.heap.size ∧ w.heap.size ≤ b ∧ b ≠ w.heap.size) 4 (some ⟨(w5.heap.size + 1), 0, none⟩) 2 ([x, y].map GValue.toD) from Sl.ofRow Rrow8.out (rdC_cons (GValue.rd_mk (Dx8.out.keep (w' := w8) (S' := fun b => b < w8.heap.size ∧ w.heap.size ≤ b ∧ b ≠ w.heap.size) fun b hb => ⟨⟨by have h1 := hb.1; have h2 := hb.2; omega, by have h1 := hb.1; have h2 := hb.2; omega⟩, rfl⟩)) rfl (rdC_one1 (GValue.rd_mk (Dy8.out.keep (w' := w8) (S' := fun b => b < w8.heap.size ∧ w.heap.size ≤ b ∧ b ≠ w.heap.size) fun b hb => ⟨⟨by have h1 := hb.1; have h2 := hb.2; omega, by have h1 := hb.1; have h2 := hb.2; omega⟩, rfl⟩)) rfl)) ⟨by omega, by omega⟩ (by simp) (by unfold maxLen; omega))
   rw [← e6, ← e7, ← e8]
   clear e6 e7 e8
   have hlu8 := M8.out.lt
   have hcxa8 := fun i => Rxa8.out.cell i
   have hlxa8 := Rxa8.out.lt
   have hcr8 := fun i => Rr8.out.cell i
   have hlr8 := Rr8.out.lt
   have hcbx8 := fun i => Rbx8.out.cell i
   have hlbx8 := Rbx8.out.lt
   have hcrow8 := fun i => Rrow8.out.cell i
   have hlrow8 := Rrow8.out.lt
   show BP _ _
   rw [HBP.out]
   refine bodyPost_ret (v := .agg #[.int .i64 2, .int .i64 0, .string ⟨#[67, 111, 110, 115]⟩, .slice (some ⟨(w5.heap.size + 1), 0, none⟩) 2 2]) (by simp [results, Try.results20, go_sem, hcr8]) rfl ?_
   exact ⟨.mk 2 0 sCons [x, y], some ⟨(w5.heap.size + 1), 0, none⟩, 2, rfl, .inr ⟨x, y, px, py, rfl⟩, ⟨show (Lit.int .i64 2).wf = true by decide, show (Lit.int .i64 0).wf = true by decide, short_le (show sCons.size ≤ 8 by decide), SL8.out.keep fun b hb => ⟨⟨by have h1 := hb.1; have h2 := hb.2; omega, by have h1 := hb.1; have h2 := hb.2; omega⟩, rfl⟩⟩, M8.out⟩
  ·
   go_wp2_with fail
   clear hlu2 hcr2 hfr2 hlr2
   obtain ⟨w3, e3, RN3, hz3, K3⟩ := stored4 Rr2.out (.int .i64 2) (.int .i64 0) (.string ⟨#[78, 105, 108]⟩) (.slice none 0 0)
   have M3 := LH (M2.out.chg K3.out (by omega) (by omega))
   clear M2
   clear Rr2
   rw [← e3]
   clear e3
   have hlu3 := M3.out.lt
   have hcr3 := fun i => RN3.out.cell i
   have hlr3 := RN3.out.lt
   show BP _ _
   rw [HBP.out]
   refine bodyPost_ret (v := .agg #[.int .i64 2, .int .i64 0, .string ⟨#[78, 105, 108]⟩, .slice none 0 0]) (by simp [results, Try.results20, go_sem, hcr3]) rfl ?_
   exact ⟨.mk 2 0 sNil [], none, 0, rfl, .inl rfl, GValue.leaf (show (Lit.int .i64 2).wf = true by decide) (show (Lit.int .i64 0).wf = true by decide) (short_le (show sNil.size ≤ 8 by decide)), M3.out⟩
set_option maxHeartbeats 1000000
theorem drawAny {l : List Int} {A : Option Addr} {c : Nat} {w : World} {g i : Nat} {h : Int} (hc : Cur l A c w g i h) :
 Calls Try.prog 23 #[.pointer (some ⟨g, 0, none⟩)] w (Drawn l A c g (fun x => -9223372036854775808 ≤ x ∧ x ≤ 9223372036854775807) w) := by
 have C0 := LH hc
 clear hc
 go_enter Try.func23, Try.ntmps23
 go_wp2_with fail
 refine (drawPickInt (l := l) (A := A) (c := c) (C0.out.turned ((Turned.refl (g + 1) w).alloc _) (Nat.lt_succ_self g)) [0, 1, -1, 5, 1073741823, 1073741824, -1073741824, -1073741825, 9223372036854775807, -9223372036854775808] w.heap.size (Nat.ne_of_gt C0.out.row.lt) _ (Row.new _ _ _) (by decide) (by decide) (fun x => -9223372036854775808 ≤ x ∧ x ≤ 9223372036854775807) (by decide)).mono ?_
 rintro e w1 ⟨x, i1, h1', rfl, hx, hc1, ht⟩
 go_wp2_with fail
 go_ret
 exact ⟨_, i1, h1', rfl, hx, hc1, ((Turned.refl g w).alloc _).trans ht⟩
set_option maxHeartbeats 2000000
theorem drawPickD {l : List Int} {A : Option Addr} {c : Nat} {g : Nat} {a w : World} (m : Dm l A c g a w) (vs : List ByteArray) (b : Nat) (hb : b ≠ g) (t : TypeId) (hr : Row w b t (vs.map Value.string).toArray) (h1 : 1 ≤ vs.length) (h2 : vs.length ≤ 256) (P : ByteArray → Prop) (hP : ∀ x ∈ vs, P x) :
 Calls Try.prog 22 #[.pointer (some ⟨g, 0, none⟩), .slice (some ⟨b, 0, none⟩) vs.length vs.length] w fun e w' => ∃ x : ByteArray, e = .returned (.string x) ∧ P x ∧ Dm l A c g w w' := by
 obtain ⟨i, h, hc⟩ := m.cur
 refine (drawPick hc vs b hb t hr h1 h2 P hP).mono ?_
 rintro e w1 ⟨x, i1, k1, rfl, hx, hc1, ht⟩
 exact ⟨x, rfl, hx, ⟨⟨i1, k1, hc1⟩, ht.bx⟩⟩
theorem drawAnyD {l : List Int} {A : Option Addr} {c : Nat} {g : Nat} {a w : World} (m : Dm l A c g a w) :
 Calls Try.prog 23 #[.pointer (some ⟨g, 0, none⟩)] w fun e w' => ∃ x : Int, e = .returned (.int .i64 x) ∧ (-9223372036854775808 ≤ x ∧ x ≤ 9223372036854775807) ∧ Dm l A c g w w' := by
 obtain ⟨i, h, hc⟩ := m.cur
 refine (drawAny hc).mono ?_
 rintro e w1 ⟨x, i1, k1, rfl, hx, hc1, ht⟩
 exact ⟨x, rfl, hx, ⟨⟨i1, k1, hc1⟩, ht.bx⟩⟩
theorem wf64R {n : Int} (h : -9223372036854775808 ≤ n ∧ n ≤ 9223372036854775807) : (Lit.int .i64 n).wf = true := by
 simp [Lit.wf, IntKind.min, IntKind.max, IntKind.signed, IntKind.bits]; omega
def valB (v : GValue) : Prop := v.bulk ≤ 60
theorem valB_with {v : GValue} (h : v.bulk ≤ 40) (k n : Int) (s : ByteArray) (hs : s.size ≤ 8) : valB (.mk k n s v.kids) := by
 cases v with
 | mk a b e f =>
  have h1 := GValue.bulk_eq (.mk a b e f)
  have h2 := GValue.bulk_eq (.mk k n s f)
  simp only [GValue.s, GValue.kids] at h1 h2
  show (GValue.mk k n s f).bulk ≤ 60
  omega
theorem valB_leaf (k n : Int) : valB (.mk k n ⟨#[]⟩ []) := by unfold valB; rw [GValue.bulk_eq]; simp [GValue.s, GValue.kids, bulkL, ByteArray.size]
theorem valL_bulkD : ∀ (d : Nat) (v : GValue), valL d v → v.bulk ≤ 3 + 11 * d ∧ v.s.size ≤ 8
 | 0, v, h => by obtain rfl := h; rw [GValue.bulk_eq]; simp [GValue.s, GValue.kids, bulkL, ByteArray.size, sNil]
 | d + 1, v, h => by
  have hI : ∀ {v : GValue}, valI v → v.bulk = 0 := by rintro v ⟨x, -, rfl⟩; rw [GValue.bulk_eq]; simp [GValue.s, GValue.kids, bulkL, ByteArray.size]
  have hO : ∀ {v : GValue}, valO v → v.bulk ≤ 5 := by
   rintro v (rfl | ⟨a, ha, rfl⟩)
   · rw [GValue.bulk_eq]; simp [GValue.s, GValue.kids, bulkL, ByteArray.size, sNone]
   · have := hI ha; rw [GValue.bulk_eq]; simp [GValue.s, GValue.kids, bulkL, ByteArray.size, sSome]; omega
  rcases h with rfl | ⟨a, b, ha, hb, rfl⟩
  · rw [GValue.bulk_eq]; simp [GValue.s, GValue.kids, bulkL, ByteArray.size, sNil]
  · have i1 := hO ha
    have i2 := (valL_bulkD d b hb).1
    rw [GValue.bulk_eq]; simp [GValue.s, GValue.kids, bulkL, ByteArray.size, sCons]; omega
theorem drawVal10 {l : List Int} {A : Option Addr} {c : Nat} {g : Nat} {w0 w : World} (hm0 : Dm l A c g w0 w) :
 Calls Try.prog 12 #[.pointer (some ⟨g, 0, none⟩)] w (DrawnV l A c g valB w) := by
 have hm := hm0.again
 clear hm0
 have hgl := hm.lt
 have M0 := LH hm
 clear hm
 go_enter Try.func12, Try.ntmps12
 refine wp_hide (fun BP hBP => ?_)
 have HBP := LH hBP
 clear hBP
 go_wp2_with fail
 obtain ⟨w1, e1, Rr1, hz1, K1⟩ := boxed w 26 #[.int .i64 0, .int .i64 0, .string ⟨#[]⟩, .slice none 0 0]
 have M1 := LH (M0.out.chg K1.out (by omega) (by omega))
 rw [← e1]
 clear e1
 have hlu1 := M1.out.lt
 have hcr1 := fun i => Rr1.out.cell i
 have hfr1 := fun i => Rr1.out.frozen i
 have hlr1 := Rr1.out.lt
 refine (drawValL 3 3 rfl (by omega) M1.out).mono ?_
 clear hlu1 hcr1 hfr1 hlr1
 rintro e w2 ⟨v, Av, cv, rfl, pv, ha2, hm2⟩
 have DN2 := LH ha2
 have hz2 := hm2.size
 have K2 := LH hm2.bx
 have Rr2 := LH (K2.out.row Rr1.out (by omega))
 have M2 := LH (M1.out.trans hm2)
 clear Rr1 M1
 clear hm2 ha2
 have hlu2 := M2.out.lt
 have hcr2 := fun i => Rr2.out.cell i
 have hfr2 := fun i => Rr2.out.frozen i
 have hlr2 := Rr2.out.lt
 have hvb := valL_bulkD 3 v pv
 have HVB := LH (show v.bulk ≤ 40 by have := hvb.1; omega)
 have HVS := LH hvb.2
 clear hvb pv
 go_wp2_with fail
 clear hlu2 hcr2 hfr2 hlr2
 obtain ⟨w3, e3, Rv3, hz3, K3⟩ := boxed w2 26 #[.int .i64 v.kind, .int .i64 v.n, .string v.s, .slice Av v.kids.length cv]
 have Rr3 := LH (K3.out.row Rr2.out (by omega))
 have Dv3 := LH (DN2.out.keep fun b hb => ⟨hb, K3.out.block b (by have := hb.1; have := hb.2; omega) (by have := hb.1; have := hb.2; omega)⟩)
 have M3 := LH (M2.out.chg K3.out (by omega) (by omega))
 clear Rr2 DN2 M2
 rw [← e3]
 clear e3
 have hlu3 := M3.out.lt
 have hcr3 := fun i => Rr3.out.cell i
 have hfr3 := fun i => Rr3.out.frozen i
 have hlr3 := Rr3.out.lt
 have hcv3 := fun i => Rv3.out.cell i
 have hfv3 := fun i => Rv3.out.frozen i
 have hlv3 := Rv3.out.lt
 refine (drawBelowD M3.out 12 (by omega) (by omega)).mono ?_
 clear hlu3 hcr3 hfr3 hlr3 hcv3 hfv3 hlv3
 rintro e w4 ⟨x, rfl, hx, hm4⟩
 have hz4 := hm4.size
 have K4 := LH hm4.bx
 have Rr4 := LH (K4.out.row Rr3.out (by omega))
 have Rv4 := LH (K4.out.row Rv3.out (by omega))
 have Dv4 := LH (Dv3.out.keep fun b hb => ⟨hb, K4.out.block b (by have := hb.1; have := hb.2; omega) (by have := hb.1; have := hb.2; omega)⟩)
 have M4 := LH (M3.out.trans hm4)
 clear Rr3 Rv3 Dv3 M3
 clear hm4
 have hlu4 := M4.out.lt
 have hcr4 := fun i => Rr4.out.cell i
 have hfr4 := fun i => Rr4.out.frozen i
 have hlr4 := Rr4.out.lt
 have hcv4 := fun i => Rv4.out.cell i
 have hfv4 := fun i => Rv4.out.frozen i
 have hlv4 := Rv4.out.lt
 by_cases x0 : x = 0
 ·
  have y0 : (x == 0) = true := beq_iff_eq.2 x0
  go_wp2_with fail
  refine (drawBelowD M4.out 6 (by omega) (by omega)).mono ?_
  clear hlu4 hcr4 hfr4 hlr4 hcv4 hfv4 hlv4
  rintro e w5 ⟨y, rfl, hy, hm5⟩
  have hz5 := hm5.size
  have K5 := LH hm5.bx
  have Rr5 := LH (K5.out.row Rr4.out (by omega))
  have Rv5 := LH (K5.out.row Rv4.out (by omega))
  have Dv5 := LH (Dv4.out.keep fun b hb => ⟨hb, K5.out.block b (by have := hb.1; have := hb.2; omega) (by have := hb.1; have := hb.2; omega)⟩)
  have M5 := LH (M4.out.trans hm5)
  clear Rr4 Rv4 Dv4 M4
  clear hm5
  have hlu5 := M5.out.lt
  have hcr5 := fun i => Rr5.out.cell i
  have hfr5 := fun i => Rr5.out.frozen i
  have hlr5 := Rr5.out.lt
  have hcv5 := fun i => Rv5.out.cell i
  have hfv5 := fun i => Rv5.out.frozen i
  have hlv5 := Rv5.out.lt
  have hwy : IntKind.i64.wrap (y - 1) = y - 1 := by rw [IntKind.wrap_i64]; omega
  go_wp2_with fail
  clear hlu5 hcr5 hfr5 hlr5 hcv5 hfv5 hlv5
  obtain ⟨w6, e6, RO6, hz6, K6⟩ := storedF Rv5.out 0 (.int .i64 (y - 1))
  have RN6 := LH (show Row w6 w2.heap.size 26 #[.int .i64 (y - 1), .int .i64 v.n, .string v.s, .slice Av v.kids.length cv] from RO6.out)
  clear RO6
  have Rr6 := LH (K6.out.row Rr5.out (by omega))
  have Dv6 := LH (Dv5.out.keep fun b hb => ⟨hb, K6.out.block b (by have := hb.1; have := hb.2; omega) (by have := hb.1; have := hb.2; omega)⟩)
  have M6 := LH (M5.out.chg K6.out (by omega) (by omega))
  clear Rr5 Dv5 M5
  clear Rv5
  obtain ⟨w7, e7, RN7, hz7, K7⟩ := stored4 Rr6.out (.int .i64 (y - 1)) (.int .i64 v.n) (.string v.s) (.slice Av v.kids.length cv)
  have Rv7 := LH (K7.out.row RN6.out (by omega))
  have Dv7 := LH (Dv6.out.keep fun b hb => ⟨hb, K7.out.block b (by have := hb.1; have := hb.2; omega) (by have := hb.1; have := hb.2; omega)⟩)
  have M7 := LH (M6.out.chg K7.out (by omega) (by omega))
  clear RN6 Dv6 M6
  clear Rr6
  rw [← e6, ← e7]
  clear e6 e7
  have hlu7 := M7.out.lt
  have hcv7 := fun i => Rv7.out.cell i
  have hfv7 := fun i => Rv7.out.frozen i
  have hlv7 := Rv7.out.lt
  have hcr7 := fun i => RN7.out.cell i
  have hfr7 := fun i => RN7.out.frozen i
  have hlr7 := RN7.out.lt
  show BP _ _
  rw [HBP.out]
  refine bodyPost_ret (v := .agg #[.int .i64 (y - 1), .int .i64 v.n, .string v.s, .slice Av v.kids.length cv]) (by simp [results, Try.results12, go_sem, hcr7]) rfl ?_
  exact ⟨(GValue.mk (y - 1) v.n v.s v.kids), Av, cv, rfl, valB_with HVB.out _ _ _ HVS.out, (show GValue.At _ _ Av cv (GValue.mk (y - 1) v.n v.s v.kids) from (fun h => ⟨show (Lit.int .i64 (y - 1)).wf = true from int_wfS (by omega), h.2.1, h.2.2.1, h.2.2.2⟩) (Dv7.out.keep fun b hb => ⟨⟨by have h1 := hb.1; have h2 := hb.2; omega, by have h1 := hb.1; have h2 := hb.2; omega⟩, rfl⟩)), M7.out⟩
 by_cases x1 : x = 1
 ·
  have y0 : (x == 0) = false := beq_eq_false_iff_ne.2 (by omega)
  have y1 : (x == 1) = true := beq_iff_eq.2 x1
  go_wp2_with fail
  clear hlu4 hcr4 hfr4 hlr4 hcv4 hfv4 hlv4
  obtain ⟨w5, e5, Rrow5, hz5, K5⟩ := boxed w4 9 #[.string ⟨#[67, 111, 110, 115]⟩, .string ⟨#[81]⟩, .string ⟨#[]⟩]
  have Rr5 := LH (K5.out.row Rr4.out (by omega))
  have Rv5 := LH (K5.out.row Rv4.out (by omega))
  have Dv5 := LH (Dv4.out.keep fun b hb => ⟨hb, K5.out.block b (by have := hb.1; have := hb.2; omega) (by have := hb.1; have := hb.2; omega)⟩)
  have M5 := LH (M4.out.chg K5.out (by omega) (by omega))
  clear Rr4 Rv4 Dv4 M4
  rw [← e5]
  clear e5
  have hlu5 := M5.out.lt
  have hcr5 := fun i => Rr5.out.cell i
  have hfr5 := fun i => Rr5.out.frozen i
  have hlr5 := Rr5.out.lt
  have hcv5 := fun i => Rv5.out.cell i
  have hfv5 := fun i => Rv5.out.frozen i
  have hlv5 := Rv5.out.lt
  have hcrow5 := fun i => Rrow5.out.cell i
  have hfrow5 := fun i => Rrow5.out.frozen i
  have hlrow5 := Rrow5.out.lt
  refine (drawPickD M5.out [⟨#[67, 111, 110, 115]⟩, ⟨#[81]⟩, ⟨#[]⟩] w4.heap.size (by omega) 9 Rrow5.out (by simp) (by simp) (fun s => s.size ≤ 8) (by intro s hs; simp at hs; rcases hs with rfl | rfl | rfl <;> decide)).mono ?_
  clear hlu5 hcr5 hfr5 hlr5 hcv5 hfv5 hlv5 hcrow5 hfrow5 hlrow5
  rintro e w6 ⟨y, rfl, hy, hm6⟩
  have hz6 := hm6.size
  have K6 := LH hm6.bx
  have Rr6 := LH (K6.out.row Rr5.out (by omega))
  have Rv6 := LH (K6.out.row Rv5.out (by omega))
  have Rrow6 := LH (K6.out.row Rrow5.out (by omega))
  have Dv6 := LH (Dv5.out.keep fun b hb => ⟨hb, K6.out.block b (by have := hb.1; have := hb.2; omega) (by have := hb.1; have := hb.2; omega)⟩)
  have M6 := LH (M5.out.trans hm6)
  clear Rr5 Rv5 Rrow5 Dv5 M5
  clear hm6
  have hlu6 := M6.out.lt
  have hcr6 := fun i => Rr6.out.cell i
  have hfr6 := fun i => Rr6.out.frozen i
  have hlr6 := Rr6.out.lt
  have hcv6 := fun i => Rv6.out.cell i
  have hfv6 := fun i => Rv6.out.frozen i
  have hlv6 := Rv6.out.lt
  have hcrow6 := fun i => Rrow6.out.cell i
  have hfrow6 := fun i => Rrow6.out.frozen i
  have hlrow6 := Rrow6.out.lt
  go_wp2_with fail
  clear hlu6 hcr6 hfr6 hlr6 hcv6 hfv6 hlv6 hcrow6 hfrow6 hlrow6
  obtain ⟨w7, e7, RO7, hz7, K7⟩ := storedF Rv6.out 2 (.string y)
  have RN7 := LH (show Row w7 w2.heap.size 26 #[.int .i64 v.kind, .int .i64 v.n, .string y, .slice Av v.kids.length cv] from RO7.out)
  clear RO7
  have Rr7 := LH (K7.out.row Rr6.out (by omega))
  have Dv7 := LH (Dv6.out.keep fun b hb => ⟨hb, K7.out.block b (by have := hb.1; have := hb.2; omega) (by have := hb.1; have := hb.2; omega)⟩)
  have M7 := LH (M6.out.chg K7.out (by omega) (by omega))
  clear Rr6 Dv6 M6
  clear Rv6
  obtain ⟨w8, e8, RN8, hz8, K8⟩ := stored4 Rr7.out (.int .i64 v.kind) (.int .i64 v.n) (.string y) (.slice Av v.kids.length cv)
  have Rv8 := LH (K8.out.row RN7.out (by omega))
  have Dv8 := LH (Dv7.out.keep fun b hb => ⟨hb, K8.out.block b (by have := hb.1; have := hb.2; omega) (by have := hb.1; have := hb.2; omega)⟩)
  have M8 := LH (M7.out.chg K8.out (by omega) (by omega))
  clear RN7 Dv7 M7
  clear Rr7
  rw [← e7, ← e8]
  clear e7 e8
  have hlu8 := M8.out.lt
  have hcv8 := fun i => Rv8.out.cell i
  have hfv8 := fun i => Rv8.out.frozen i
  have hlv8 := Rv8.out.lt
  have hcr8 := fun i => RN8.out.cell i
  have hfr8 := fun i => RN8.out.frozen i
  have hlr8 := RN8.out.lt
  show BP _ _
  rw [HBP.out]
  refine bodyPost_ret (v := .agg #[.int .i64 v.kind, .int .i64 v.n, .string y, .slice Av v.kids.length cv]) (by simp [results, Try.results12, go_sem, hcr8]) rfl ?_
  exact ⟨(GValue.mk v.kind v.n y v.kids), Av, cv, rfl, valB_with HVB.out _ _ _ hy, (show GValue.At _ _ Av cv (GValue.mk v.kind v.n y v.kids) from (fun h => ⟨h.1, h.2.1, short_le hy, h.2.2.2⟩) (Dv8.out.keep fun b hb => ⟨⟨by have h1 := hb.1; have h2 := hb.2; omega, by have h1 := hb.1; have h2 := hb.2; omega⟩, rfl⟩)), M8.out⟩
 by_cases x2 : x = 2
 ·
  have y0 : (x == 0) = false := beq_eq_false_iff_ne.2 (by omega)
  have y1 : (x == 1) = false := beq_eq_false_iff_ne.2 (by omega)
  have y2 : (x == 2) = true := beq_iff_eq.2 x2
  go_wp2_with fail
  refine (drawAnyD M4.out).mono ?_
  clear hlu4 hcr4 hfr4 hlr4 hcv4 hfv4 hlv4
  rintro e w5 ⟨y, rfl, hy, hm5⟩
  have hz5 := hm5.size
  have K5 := LH hm5.bx
  have Rr5 := LH (K5.out.row Rr4.out (by omega))
  have Rv5 := LH (K5.out.row Rv4.out (by omega))
  have Dv5 := LH (Dv4.out.keep fun b hb => ⟨hb, K5.out.block b (by have := hb.1; have := hb.2; omega) (by have := hb.1; have := hb.2; omega)⟩)
  have M5 := LH (M4.out.trans hm5)
  clear Rr4 Rv4 Dv4 M4
  clear hm5
  have hlu5 := M5.out.lt
  have hcr5 := fun i => Rr5.out.cell i
  have hfr5 := fun i => Rr5.out.frozen i
  have hlr5 := Rr5.out.lt
  have hcv5 := fun i => Rv5.out.cell i
  have hfv5 := fun i => Rv5.out.frozen i
  have hlv5 := Rv5.out.lt
  go_wp2_with fail
  clear hlu5 hcr5 hfr5 hlr5 hcv5 hfv5 hlv5
  obtain ⟨w6, e6, RO6, hz6, K6⟩ := storedF Rv5.out 1 (.int .i64 y)
  have RN6 := LH (show Row w6 w2.heap.size 26 #[.int .i64 v.kind, .int .i64 y, .string v.s, .slice Av v.kids.length cv] from RO6.out)
  clear RO6
  have Rr6 := LH (K6.out.row Rr5.out (by omega))
  have Dv6 := LH (Dv5.out.keep fun b hb => ⟨hb, K6.out.block b (by have := hb.1; have := hb.2; omega) (by have := hb.1; have := hb.2; omega)⟩)
  have M6 := LH (M5.out.chg K6.out (by omega) (by omega))
  clear Rr5 Dv5 M5
  clear Rv5
  obtain ⟨w7, e7, RN7, hz7, K7⟩ := stored4 Rr6.out (.int .i64 v.kind) (.int .i64 y) (.string v.s) (.slice Av v.kids.length cv)
  have Rv7 := LH (K7.out.row RN6.out (by omega))
  have Dv7 := LH (Dv6.out.keep fun b hb => ⟨hb, K7.out.block b (by have := hb.1; have := hb.2; omega) (by have := hb.1; have := hb.2; omega)⟩)
  have M7 := LH (M6.out.chg K7.out (by omega) (by omega))
  clear RN6 Dv6 M6
  clear Rr6
  rw [← e6, ← e7]
  clear e6 e7
  have hlu7 := M7.out.lt
  have hcv7 := fun i => Rv7.out.cell i
  have hfv7 := fun i => Rv7.out.frozen i
  have hlv7 := Rv7.out.lt
  have hcr7 := fun i => RN7.out.cell i
  have hfr7 := fun i => RN7.out.frozen i
  have hlr7 := RN7.out.lt
  show BP _ _
  rw [HBP.out]
  refine bodyPost_ret (v := .agg #[.int .i64 v.kind, .int .i64 y, .string v.s, .slice Av v.kids.length cv]) (by simp [results, Try.results12, go_sem, hcr7]) rfl ?_
  exact ⟨(GValue.mk v.kind y v.s v.kids), Av, cv, rfl, valB_with HVB.out _ _ _ HVS.out, (show GValue.At _ _ Av cv (GValue.mk v.kind y v.s v.kids) from (fun h => ⟨h.1, wf64R hy, h.2.2.1, h.2.2.2⟩) (Dv7.out.keep fun b hb => ⟨⟨by have h1 := hb.1; have h2 := hb.2; omega, by have h1 := hb.1; have h2 := hb.2; omega⟩, rfl⟩)), M7.out⟩
 by_cases x3 : x = 3
 ·
  have y0 : (x == 0) = false := beq_eq_false_iff_ne.2 (by omega)
  have y1 : (x == 1) = false := beq_eq_false_iff_ne.2 (by omega)
  have y2 : (x == 2) = false := beq_eq_false_iff_ne.2 (by omega)
  have y3 : (x == 3) = true := beq_iff_eq.2 x3
  go_wp2_with fail
  refine (drawAnyD M4.out).mono ?_
  clear hlu4 hcr4 hfr4 hlr4 hcv4 hfv4 hlv4
  rintro e w5 ⟨y, rfl, hy, hm5⟩
  have hz5 := hm5.size
  have K5 := LH hm5.bx
  have Rr5 := LH (K5.out.row Rr4.out (by omega))
  have Rv5 := LH (K5.out.row Rv4.out (by omega))
  have Dv5 := LH (Dv4.out.keep fun b hb => ⟨hb, K5.out.block b (by have := hb.1; have := hb.2; omega) (by have := hb.1; have := hb.2; omega)⟩)
  have M5 := LH (M4.out.trans hm5)
  clear Rr4 Rv4 Dv4 M4
  clear hm5
  have hlu5 := M5.out.lt
  have hcr5 := fun i => Rr5.out.cell i
  have hfr5 := fun i => Rr5.out.frozen i
  have hlr5 := Rr5.out.lt
  have hcv5 := fun i => Rv5.out.cell i
  have hfv5 := fun i => Rv5.out.frozen i
  have hlv5 := Rv5.out.lt
  go_wp2_with fail
  clear hlu5 hcr5 hfr5 hlr5 hcv5 hfv5 hlv5
  obtain ⟨w6, e6, RN6, hz6, K6⟩ := stored4 Rr5.out (.int .i64 1) (.int .i64 y) (.string ⟨#[]⟩) (.slice none 0 0)
  have Rv6 := LH (K6.out.row Rv5.out (by omega))
  have Dv6 := LH (Dv5.out.keep fun b hb => ⟨hb, K6.out.block b (by have := hb.1; have := hb.2; omega) (by have := hb.1; have := hb.2; omega)⟩)
  have M6 := LH (M5.out.chg K6.out (by omega) (by omega))
  clear Rv5 Dv5 M5
  clear Rr5
  rw [← e6]
  clear e6
  have hlu6 := M6.out.lt
  have hcv6 := fun i => Rv6.out.cell i
  have hfv6 := fun i => Rv6.out.frozen i
  have hlv6 := Rv6.out.lt
  have hcr6 := fun i => RN6.out.cell i
  have hfr6 := fun i => RN6.out.frozen i
  have hlr6 := RN6.out.lt
  show BP _ _
  rw [HBP.out]
  refine bodyPost_ret (v := .agg #[.int .i64 1, .int .i64 y, .string ⟨#[]⟩, .slice none 0 0]) (by simp [results, Try.results12, go_sem, hcr6]) rfl ?_
  exact ⟨.mk 1 y ⟨#[]⟩ [], none, 0, rfl, valB_leaf _ _, GValue.leaf (show (Lit.int .i64 1).wf = true by decide) (wf64R hy) empty_le, M6.out⟩
 by_cases x4 : x = 4
 ·
  have y0 : (x == 0) = false := beq_eq_false_iff_ne.2 (by omega)
  have y1 : (x == 1) = false := beq_eq_false_iff_ne.2 (by omega)
  have y2 : (x == 2) = false := beq_eq_false_iff_ne.2 (by omega)
  have y3 : (x == 3) = false := beq_eq_false_iff_ne.2 (by omega)
  have y4 : (x == 4) = true := beq_iff_eq.2 x4
  go_wp2_with fail
  clear hlu4 hcr4 hfr4 hlr4 hcv4 hfv4 hlv4
  obtain ⟨w5, e5, RN5, hz5, K5⟩ := stored4 Rr4.out (.int .i64 3) (.int .i64 0) (.string ⟨#[]⟩) (.slice none 0 0)
  have Rv5 := LH (K5.out.row Rv4.out (by omega))
  have Dv5 := LH (Dv4.out.keep fun b hb => ⟨hb, K5.out.block b (by have := hb.1; have := hb.2; omega) (by have := hb.1; have := hb.2; omega)⟩)
  have M5 := LH (M4.out.chg K5.out (by omega) (by omega))
  clear Rv4 Dv4 M4
  clear Rr4
  rw [← e5]
  clear e5
  have hlu5 := M5.out.lt
  have hcv5 := fun i => Rv5.out.cell i
  have hfv5 := fun i => Rv5.out.frozen i
  have hlv5 := Rv5.out.lt
  have hcr5 := fun i => RN5.out.cell i
  have hfr5 := fun i => RN5.out.frozen i
  have hlr5 := RN5.out.lt
  show BP _ _
  rw [HBP.out]
  refine bodyPost_ret (v := .agg #[.int .i64 3, .int .i64 0, .string ⟨#[]⟩, .slice none 0 0]) (by simp [results, Try.results12, go_sem, hcr5]) rfl ?_
  exact ⟨.mk 3 0 ⟨#[]⟩ [], none, 0, rfl, valB_leaf _ _, GValue.leaf (show (Lit.int .i64 3).wf = true by decide) (show (Lit.int .i64 0).wf = true by decide) empty_le, M5.out⟩
 have y0 : (x == 0) = false := beq_eq_false_iff_ne.2 (by omega)
 have y1 : (x == 1) = false := beq_eq_false_iff_ne.2 (by omega)
 have y2 : (x == 2) = false := beq_eq_false_iff_ne.2 (by omega)
 have y3 : (x == 3) = false := beq_eq_false_iff_ne.2 (by omega)
 have y4 : (x == 4) = false := beq_eq_false_iff_ne.2 (by omega)
 go_wp2_with fail
 clear hlu4 hcr4 hfr4 hlr4 hcv4 hfv4 hlv4
 obtain ⟨w5, e5, RN5, hz5, K5⟩ := stored4 Rr4.out (.int .i64 v.kind) (.int .i64 v.n) (.string v.s) (.slice Av v.kids.length cv)
 have Rv5 := LH (K5.out.row Rv4.out (by omega))
 have Dv5 := LH (Dv4.out.keep fun b hb => ⟨hb, K5.out.block b (by have := hb.1; have := hb.2; omega) (by have := hb.1; have := hb.2; omega)⟩)
 have M5 := LH (M4.out.chg K5.out (by omega) (by omega))
 clear Rv4 Dv4 M4
 clear Rr4
 rw [← e5]
 clear e5
 have hlu5 := M5.out.lt
 have hcv5 := fun i => Rv5.out.cell i
 have hfv5 := fun i => Rv5.out.frozen i
 have hlv5 := Rv5.out.lt
 have hcr5 := fun i => RN5.out.cell i
 have hfr5 := fun i => RN5.out.frozen i
 have hlr5 := RN5.out.lt
 show BP _ _
 rw [HBP.out]
 refine bodyPost_ret (v := .agg #[.int .i64 v.kind, .int .i64 v.n, .string v.s, .slice Av v.kids.length cv]) (by simp [results, Try.results12, go_sem, hcr5]) rfl ?_
 exact ⟨v, Av, cv, rfl, (by have := HVB.out; unfold valB; omega), Dv5.out.keep fun b hb => ⟨⟨by have h1 := hb.1; have h2 := hb.2; omega, by have h1 := hb.1; have h2 := hb.2; omega⟩, rfl⟩, M5.out⟩
set_option maxHeartbeats 800000
mutual
def GValue.text : GValue → ByteArray
 | .mk kind n s kids => if kind = 1 then digI n else if kind = 2 then (if kids.length = 0 then s else ⟨#[40]⟩ ++ (s ++ GValue.textL kids) ++ ⟨#[41]⟩) else ⟨#[102, 117, 110]⟩
def GValue.textL : List GValue → ByteArray
 | [] => ⟨#[]⟩
 | v :: r => (⟨#[32]⟩ ++ v.text) ++ GValue.textL r
end
theorem GValue.text_eq (v : GValue) : v.text = if v.kind = 1 then digI v.n else if v.kind = 2 then (if v.kids.length = 0 then v.s else ⟨#[40]⟩ ++ (v.s ++ GValue.textL v.kids) ++ ⟨#[41]⟩) else ⟨#[102, 117, 110]⟩ := by
 cases v; simp only [GValue.text, GValue.kind, GValue.n, GValue.s, GValue.kids]; rfl
theorem ba_nil (a : ByteArray) : a ++ ⟨#[]⟩ = a := by apply ByteArray.ext; simp [ByteArray.data_append]
theorem ba_nil' (a : ByteArray) : ⟨#[]⟩ ++ a = a := by apply ByteArray.ext; simp [ByteArray.data_append]
theorem GValue.textL_take (l : List GValue) (i : Nat) (h : i < l.length) : GValue.textL (l.take (i + 1)) = GValue.textL (l.take i) ++ (⟨#[32]⟩ ++ (l[i]).text) := by
 induction l generalizing i with
 | nil => simp at h
 | cons t r ih =>
  match i with
  | 0 => simp [GValue.textL, ba_nil, ba_nil']
  | i + 1 => simp only [List.take_succ_cons, GValue.textL, List.getElem_cons_succ]; rw [ih i (by simpa using h), ba_assoc, ba_assoc, ba_assoc]
theorem GValue.textL_le (l : List GValue) (i : Nat) : (GValue.textL (l.take i)).size ≤ (GValue.textL l).size := by
 induction l generalizing i with
 | nil => simp
 | cons t r ih =>
  match i with
  | 0 => simp only [List.take_zero, GValue.textL]; exact Nat.zero_le _
  | i + 1 => simp only [List.take_succ_cons, GValue.textL, ByteArray.size_append']; have := ih i; omega
theorem digI_size_any (n : Int) (h : (Lit.int .i64 n).wf = true) : (digI n).size ≤ 20 := digI_size n (wf64 h).1 (wf64 h).2
mutual
def GValue.fit : GValue → Prop
 | .mk kind n s kids => (Lit.int .i64 n).wf = true ∧ GValue.fitL kids
def GValue.fitL : List GValue → Prop
 | [] => True
 | v :: r => v.fit ∧ GValue.fitL r
end
mutual
theorem GValue.text_size : ∀ v : GValue, v.fit → v.text.size + 1 ≤ 25 * (v.bulk + 1)
 | .mk kind n s kids, h => by
  simp only [GValue.fit] at h
  have h1 := GValue.textL_size kids h.2
  have h2 := digI_size_any n h.1
  simp only [GValue.text, GValue.bulk]
  split
  · omega
  ·
   split
   · split
     · omega
     · simp only [ByteArray.size_append']
       have e1 : (ByteArray.mk #[40]).size = 1 := rfl
       have e2 : (ByteArray.mk #[41]).size = 1 := rfl
       omega
   · have e1 : (ByteArray.mk #[102, 117, 110]).size = 3 := rfl
     omega
theorem GValue.textL_size : ∀ l : List GValue, GValue.fitL l → (GValue.textL l).size ≤ 25 * GValue.bulks l
 | [], _ => by simp only [GValue.textL]; exact Nat.zero_le _
 | v :: r, h => by
  simp only [GValue.fitL] at h
  have h1 := GValue.text_size v h.1
  have h2 := GValue.textL_size r h.2
  have e1 : (ByteArray.mk #[32]).size = 1 := rfl
  simp only [GValue.textL, GValue.bulks, ByteArray.size_append']
  omega
end
theorem GValue.rd_fit {w : World} {S : Nat → Prop} (k : Nat) : ∀ (v : GValue) (cs : List Value), v.bulk < k → v.toD.rd w S cs → v.fit := by
 induction k with
 | zero => intro v cs h; omega
 | succ k ih =>
  intro v cs hk h
  obtain ⟨A, c, _, h0, h1, h2, h3⟩ := GValue.rd h
  have hb := v.bulk_eq
  have hall : ∀ l : List GValue, (∀ u ∈ l, u.fit) → GValue.fitL l := by
   intro l
   induction l with
   | nil => intro _; simp only [GValue.fitL]
   | cons t r ihl => intro hu; simp only [GValue.fitL]; exact ⟨hu t (by simp), ihl fun u hm => hu u (by simp [hm])⟩
  have hk2 : GValue.fitL v.kids := hall _ fun u hu => by
   obtain ⟨i, hi, rfl⟩ := List.mem_iff_getElem.1 hu
   obtain ⟨b, off, cs', _, _, _, _, hr⟩ := Sl.get h3 i (by simpa using hi)
   rw [List.getElem_map] at hr
   exact ih _ cs' (by have := bulkL_mem GValue.bulk v.kids _ hu; omega) hr
  cases v
  exact ⟨h1, hk2⟩
theorem GValue.At.fit {w : World} {S : Nat → Prop} {A1 : Option Addr} {c1 : Nat} {v : GValue} (h : GValue.At w S A1 c1 v) : v.fit :=
 GValue.rd_fit (v.bulk + 1) v _ (by omega) (GValue.rd_mk h)
theorem GValue.fitL_mem : ∀ {l : List GValue} {u : GValue}, GValue.fitL l → u ∈ l → u.fit
 | t :: r, u, h, hm => by
  simp only [GValue.fitL] at h
  cases hm with
  | head => exact h.1
  | tail _ hm => exact GValue.fitL_mem h.2 hm
theorem GValue.fit_kids {v : GValue} (h : v.fit) : GValue.fitL v.kids := by cases v; exact h.2
theorem implValueText (k : Nat) : ∀ (t : GValue) (A1 : Option Addr) (c1 : Nat) (w : World), t.bulk < k → t.bulk ≤ 1048576 → GValue.At w (Lt w.heap.size) A1 c1 t →
 Calls Try.prog 7 #[.agg #[.int .i64 t.kind, .int .i64 t.n, .string t.s, .slice A1 t.kids.length c1]] w fun e w' => e = .returned (.string t.text) ∧ Below w.heap.size w w' := by
 induction k with
 | zero => intro t A1 c1 w h; omega
 | succ k ih =>
  intro t A1 c1 w hk hb ht
  have hfit := ht.fit
  obtain ⟨h0, h1, h2, hs⟩ := id ht
  have hn := wf64 h1
  have hte := LH t.text_eq
  have E : Below w.heap.size w (w.alloc (.cells #[.int .i64 t.kind, .int .i64 t.n, .string t.s, .slice A1 t.kids.length c1] 26)) := (Below.refl _ _).alloc (Nat.le_refl _) _
  by_cases hk1 : t.kind = 1
  ·
   have q1 : (t.kind == 1) = true := by simpa using hk1
   have Hk1 := LH hk1
   clear hk1
   go_enter Try.func7, Try.ntmps7
   go_wp2_with fail
   refine (implDigits' t.n _ hn.1 hn.2).mono ?_
   rintro e w1 ⟨rfl, rfl⟩
   go_wp2_with fail
   go_ret
   exact ⟨ret_str (by rw [hte.out, if_pos Hk1.out]), E⟩
  have q1 : (t.kind == 1) = false := by simpa using hk1
  by_cases hk2 : t.kind = 2
  rotate_left
  ·
   have q2 : (t.kind == 2) = false := by simpa using hk2
   have Hk1 := LH hk1
   have Hk2 := LH hk2
   clear hk1 hk2
   go_enter Try.func7, Try.ntmps7
   go_wp2_with fail
   go_ret
   exact ⟨ret_str (by rw [hte.out, if_neg Hk1.out, if_neg Hk2.out]), E⟩
  have q2 : (t.kind == 2) = true := by simpa using hk2
  have Hk1 := LH hk1
  have Hk2 := LH hk2
  clear hk1 hk2
  have hlen : t.kids.length ≤ 9223372036854775807 := by simpa using hs.len
  have hbe := t.bulk_eq
  have hzs : t.s.size ≤ 1048576 := by omega
  have hzL := GValue.textL_size t.kids (GValue.fit_kids hfit)
  rw [GValue.bulks_eq] at hzL
  have hzL2 : (GValue.textL t.kids).size ≤ 26214500 := by omega
  clear hzL h2
  go_enter Try.func7, Try.ntmps7
  go_wp2_with fail
  go_loopw [3, 20] (fun n i wr => ∃ j : Nat, j ≤ t.kids.length ∧ i = .int .i64 j ∧ n = .string (t.s ++ GValue.textL (t.kids.take j)) ∧ Below w.heap.size w wr ∧ Row wr w.heap.size 26 #[.int .i64 t.kind, .int .i64 t.n, .string t.s, .slice A1 t.kids.length c1]) (fun _ i _ => t.kids.length - (intOf i).toNat)
  case atStart => exact ⟨0, by omega, by go_num, by simp [GValue.textL, ba_nil], E, Row.new _ _ _⟩
  case round =>
   clear E
   obtain ⟨j, hj, rfl, rfl, hbl, hrow⟩ := hrel
   have hsz := hbl.size
   have hgl := hrow.lt
   have hc := fun i => hrow.cell i
   have hzt := GValue.textL_le t.kids j
   by_cases hlt : j < t.kids.length
   ·
    have htr := GValue.elem (hs.below hbl (Nat.le_refl _)) j hlt
    obtain ⟨b, off, A', c', rfl, hSb, g0, g1, g2, g3, hat⟩ := htr
    have hmem : t.kids[j] ∈ t.kids := List.getElem_mem hlt
    have Hs := LH (GValue.textL_take t.kids j hlt)
    have hs5 : (t.kids[j]).bulk < k ∧ (t.kids[j]).bulk ≤ 1048576 := by have := bulkL_mem GValue.bulk t.kids _ hmem; omega
    have hs6 := GValue.text_size t.kids[j] (GValue.fitL_mem (GValue.fit_kids hfit) hmem)
    have hs7 : (t.kids[j]).text.size ≤ 26214500 := by omega
    clear hs6
    go_wp2_with fail
    refine (ih _ _ _ _ hs5.1 hs5.2 (hat.below ((Below.refl _ _).alloc (by omega) _) (by simp; omega))).mono ?_
    rintro e w1 ⟨rfl, hb1⟩
    go_wp2_with fail
    go_roundw
    case rel => exact ⟨j + 1, by omega, by go_num, by rw [Hs.out, ba_assoc], hbl.trans (((Below.refl _ _).alloc hsz _).trans (hb1.mono (by simp; omega))), (hrow.alloc _).below hb1 (by simp; omega)⟩
    case measure => simp [intOf]; omega
   ·
    have hjl : j = t.kids.length := by omega
    have Hj := LH hjl
    clear hjl
    by_cases hk0 : t.kids.length = 0
    · have hk0' : ¬ 0 < t.kids.length := by omega
      have Hk0 := LH hk0
      clear hk0
      go_wp2_with fail
      go_ret
      exact ⟨ret_str (by rw [hte.out, if_neg Hk1.out, if_pos Hk2.out, if_pos Hk0.out, Hj.out, List.take_length, List.eq_nil_of_length_eq_zero Hk0.out]; simp [GValue.textL, ba_nil]), hbl⟩
    · have hk0' : 0 < t.kids.length := by omega
      go_wp2_with fail
      go_ret
      exact ⟨ret_str (by rw [hte.out, if_neg Hk1.out, if_pos Hk2.out, if_neg hk0, Hj.out, List.take_length]), hbl⟩
theorem specValueText (k : Nat) : ∀ (t : GValue) (A1 : Option Addr) (c1 : Nat) (w : World), t.bulk < k → t.bulk ≤ 1048576 → GValue.At w (Lt w.heap.size) A1 c1 t →
 Calls Try.prog 8 #[.agg #[.int .i64 t.kind, .int .i64 t.n, .string t.s, .slice A1 t.kids.length c1]] w fun e w' => e = .returned (.string t.text) ∧ Below w.heap.size w w' := by
 induction k with
 | zero => intro t A1 c1 w h; omega
 | succ k ih =>
  intro t A1 c1 w hk hb ht
  have hfit := ht.fit
  obtain ⟨h0, h1, h2, hs⟩ := id ht
  have hn := wf64 h1
  have hte := LH t.text_eq
  have E : Below w.heap.size w (w.alloc (.cells #[.int .i64 t.kind, .int .i64 t.n, .string t.s, .slice A1 t.kids.length c1] 26)) := (Below.refl _ _).alloc (Nat.le_refl _) _
  by_cases hk1 : t.kind = 1
  ·
   have q1 : (t.kind == 1) = true := by simpa using hk1
   have Hk1 := LH hk1
   clear hk1
   go_enter Try.func8, Try.ntmps8
   go_wp2_with fail
   refine (specDigits t.n _ hn.1 hn.2).mono ?_
   rintro e w1 ⟨rfl, hb1⟩
   go_wp2_with fail
   go_ret
   exact ⟨ret_str (by rw [hte.out, if_pos Hk1.out]), E.trans (hb1.mono E.size)⟩
  have q1 : (t.kind == 1) = false := by simpa using hk1
  by_cases hk2 : t.kind = 2
  rotate_left
  ·
   have q2 : (t.kind == 2) = false := by simpa using hk2
   have Hk1 := LH hk1
   have Hk2 := LH hk2
   clear hk1 hk2
   go_enter Try.func8, Try.ntmps8
   go_wp2_with fail
   go_ret
   exact ⟨ret_str (by rw [hte.out, if_neg Hk1.out, if_neg Hk2.out]), E⟩
  have q2 : (t.kind == 2) = true := by simpa using hk2
  have Hk1 := LH hk1
  have Hk2 := LH hk2
  clear hk1 hk2
  have hlen : t.kids.length ≤ 9223372036854775807 := by simpa using hs.len
  have hbe := t.bulk_eq
  have hzs : t.s.size ≤ 1048576 := by omega
  have hzL := GValue.textL_size t.kids (GValue.fit_kids hfit)
  rw [GValue.bulks_eq] at hzL
  have hzL2 : (GValue.textL t.kids).size ≤ 26214500 := by omega
  clear hzL h2
  go_enter Try.func8, Try.ntmps8
  go_wp2_with fail
  go_loopw [3, 4] (fun n i wr => ∃ j : Nat, j ≤ t.kids.length ∧ i = .int .i64 j ∧ n = .string (t.s ++ GValue.textL (t.kids.take j)) ∧ Below w.heap.size w wr ∧ Row wr w.heap.size 26 #[.int .i64 t.kind, .int .i64 t.n, .string t.s, .slice A1 t.kids.length c1]) (fun _ i _ => t.kids.length - (intOf i).toNat)
  case atStart => exact ⟨0, by omega, by go_num, by simp [GValue.textL, ba_nil], E, Row.new _ _ _⟩
  case round =>
   clear E
   obtain ⟨j, hj, rfl, rfl, hbl, hrow⟩ := hrel
   have hsz := hbl.size
   have hgl := hrow.lt
   have hc := fun i => hrow.cell i
   have hzt := GValue.textL_le t.kids j
   by_cases hlt : j < t.kids.length
   ·
    have htr := GValue.elem (hs.below hbl (Nat.le_refl _)) j hlt
    obtain ⟨b, off, A', c', rfl, hSb, g0, g1, g2, g3, hat⟩ := htr
    have hmem : t.kids[j] ∈ t.kids := List.getElem_mem hlt
    have Hs := LH (GValue.textL_take t.kids j hlt)
    have hs5 : (t.kids[j]).bulk < k ∧ (t.kids[j]).bulk ≤ 1048576 := by have := bulkL_mem GValue.bulk t.kids _ hmem; omega
    have hs6 := GValue.text_size t.kids[j] (GValue.fitL_mem (GValue.fit_kids hfit) hmem)
    have hs7 : (t.kids[j]).text.size ≤ 26214500 := by omega
    clear hs6
    go_wp2_with fail
    refine (ih _ _ _ _ hs5.1 hs5.2 (hat.below (Below.refl _ _) (by omega))).mono ?_
    rintro e w1 ⟨rfl, hb1⟩
    go_wp2_with fail
    go_roundw
    case rel => exact ⟨j + 1, by omega, by go_num, by rw [Hs.out]; simp only [ba_assoc], hbl.trans (hb1.mono hsz), hrow.below hb1 hgl⟩
    case measure => simp [intOf]; omega
   ·
    have hjl : j = t.kids.length := by omega
    have Hj := LH hjl
    clear hjl
    by_cases hk0 : t.kids.length = 0
    · have hk0' : ¬ 0 < t.kids.length := by omega
      have Hk0 := LH hk0
      clear hk0
      go_wp2_with fail
      go_ret
      exact ⟨ret_str (by rw [hte.out, if_neg Hk1.out, if_pos Hk2.out, if_pos Hk0.out, Hj.out, List.take_length, List.eq_nil_of_length_eq_zero Hk0.out]; simp [GValue.textL, ba_nil]), hbl⟩
    · have hk0' : 0 < t.kids.length := by omega
      go_wp2_with fail
      go_ret
      exact ⟨ret_str (by rw [hte.out, if_neg Hk1.out, if_pos Hk2.out, if_neg hk0, Hj.out, List.take_length]), hbl⟩
theorem digI_posV (k : Nat) : ∀ n : Int, 0 ≤ n → n < k → 1 ≤ (digI n).size := by
 induction k with
 | zero => intro n h1 h2; omega
 | succ k ih =>
  intro n h1 h2
  by_cases h : n < 10
  · rw [digI_lt h1 h, one_size]; exact Nat.le_refl 1
  · rw [digI_ge (by omega), ByteArray.size_append, one_size]; omega
theorem digI_pos (n : Int) : 1 ≤ (digI n).size := by
 by_cases h : n < 0
 · rw [digI_neg1 h, ByteArray.size_append]
   have : (ByteArray.mk #[45]).size = 1 := rfl
   omega
 · exact digI_posV (n.toNat + 1) n (by omega) (by omega)
theorem shown_some (v : GValue) (h : v.kind ≠ 2) : v.text ≠ ⟨#[]⟩ := by
 intro e
 have hs : v.text.size = 0 := by rw [e]; rfl
 rw [GValue.text_eq] at hs
 split at hs
 · have := digI_pos v.n; omega
 · first
    | exact absurd hs (by decide)
    | (split at hs; exact absurd (by assumption) h; exact absurd hs (by decide))
set_option maxHeartbeats 1000000
theorem name_ne {a b : ByteArray} (h : ¬ a = b) : (a.toList == b.toList) = false := by
 rw [beq_eq_false_iff_ne]; intro e; apply h; rw [ByteArray.toList_eq, ByteArray.toList_eq] at e; exact ByteArray.ext (Array.toList_inj.1 e)
def tagIn (s : ByteArray) : List GCon → Nat → Option Nat
 | [], _ => none
 | c :: r, n => if c.name = s then some n else tagIn s r (n + 1)
theorem tagIn_hit {s : ByteArray} {l : List GCon} {k n : Nat} (h : k < l.length) (e : l[k].name = s) : tagIn s (l.drop k) n = some n := by
 rw [List.drop_eq_getElem_cons h, tagIn, if_pos e]
theorem tagIn_miss {s : ByteArray} {l : List GCon} {k n : Nat} (h : k < l.length) (e : ¬ l[k].name = s) : tagIn s (l.drop k) n = tagIn s (l.drop (k + 1)) (n + 1) := by
 rw [List.drop_eq_getElem_cons h, tagIn, if_neg e]
set_option maxHeartbeats 400000
theorem indexFuncCon (K : Nat) (hK : ∀ (args : Array Value) (w : World), (callFunc K args).run Try.prog w = .ok (.enter K args) w) (caps : Array Value) (p : GCon → Bool) (l : List GCon) (A : Option Addr) (c : Nat) (w : World) (hs : Sl w (Lt w.heap.size) 2 A c (l.map GCon.toD))
 (H : ∀ x, x ∈ l → ∀ (A1 : Option Addr) (c1 : Nat) (w2 : World), Below w.heap.size w w2 → GCon.At w2 (Lt w2.heap.size) A1 c1 x →
   Calls Try.prog K (#[.agg #[.string x.name, .slice A1 x.args.length c1]] ++ caps) w2 fun e w' => e = .returned (.bool (p x)) ∧ Below w2.heap.size w2 w') :
 Calls Try.prog 41 #[.slice A l.length c, .func (.func K) #[] caps] w fun e w' => e = .returned (.int .i64 (idxI p l)) ∧ Below w.heap.size w w' := by
 have hlen : l.length ≤ 9223372036854775807 := by simpa using hs.len
 have HH := LH H
 clear H
 go_enter Try.func41, Try.ntmps41
 go_wp2_with fail
 go_loopw [8] (fun i wr => ∃ j : Nat, j ≤ l.length ∧ i = .int .i64 j ∧ noneTo p l j ∧ Below w.heap.size w wr) (fun i _ => l.length - (intOf i).toNat)
 case atStart => exact ⟨0, by omega, by go_num, noneTo_zero p l, Below.refl _ _⟩
 case round =>
  obtain ⟨j, hj, rfl, hno, hbl⟩ := hrel
  have Hno := LH hno
  clear hno
  have hsz := hbl.size
  by_cases hlt : j < l.length
  ·
   have htr := GCon.elem (hs.below hbl (Nat.le_refl _)) j hlt
   obtain ⟨b, off, A1, c1, rfl, hSb, g0, g1, hat⟩ := htr
   have hmem : l[j] ∈ l := List.getElem_mem hlt
   go_wp2_with fail
   refine (HH.out _ hmem _ _ _ hbl (hat.below (Below.refl _ _) hsz)).mono ?_
   rintro e w1 ⟨rfl, hb1⟩
   cases he : p l[j]
   · have hn := LH (noneTo_succ Hno.out hlt he)
     go_wp2_with fail
     go_roundw
     case rel => exact ⟨j + 1, by omega, by go_num, hn.out, hbl.trans (hb1.mono hsz)⟩
     case measure => simp [intOf]; omega
   · have hn := LH (idxI_at Hno.out hlt he)
     go_wp2_with fail
     go_ret
     exact ⟨ret_int hn.out.symm, hbl.trans (hb1.mono hsz)⟩
  ·
   have hjl : j = l.length := by omega
   have Hj := LH hjl
   clear hjl
   go_wp2_with fail
   go_ret
   exact ⟨ret_int (idxI_none (by have := Hno.out; rw [Hj.out] at this; exact this)).symm, hbl⟩
end Go.Proofs.Ytamfolaicncblaa
