/- Texts of the claim LForAll in one: EwS. Conditions: none but bounds on sizes. -/
import Derived.Test.YtlpichogambpfaaGreatZLForAll11
import Derived.Test.YtlpichogambpfaaGreatZLForAll10
namespace Go.Proofs.YtlpichogambpfaaGreat
set_option maxRecDepth 20000
set_option linter.unusedVariables false
set_option linter.unusedSimpArgs false
open Go.RowKit
set_option maxHeartbeats 4000000
theorem EvIn.use2 {tx : Ev.Tx} {g a v : Nat} {m m' : Ev.Me} (h : Ev.CallOk Ev.P tx Ev.TY g a m v m') {fn : Func} {ts rs : List Ev.TI} (hs : Ev.Sig (evE tx) g fn ts rs) (hlg : m'.lg = []) {s : Ev.Sg} {h0 z : Nat} {w : World} (hst : ∃ X, Ev.EvSt tx m s X w) (hb : ∀ i b k, s i = some (b, k) → h0 ≤ b ∧ b < z) {args : Array Value} (hA : Ev.ArgsAre tx s ts 1 a args.toList) :
 Calls Tryz.prog g args w fun e w' => ∃ s' u, e = .returned u ∧ (∃ X, Ev.EvSt tx ⟨m'.h, m'.nx, []⟩ s' X w') ∧ (∀ i b k, s' i = some (b, k) → (h0 ≤ b ∧ b < z) ∨ (w.heap.size ≤ b ∧ b < w'.heap.size)) ∧ Ev.VR tx s' (Ev.retSh rs) v u ∧ Below w.heap.size w w' := by
 obtain ⟨X, h1⟩ := hst
 refine Calls.mono (h.use hs.f hs.t hs.r hlg h1 hA) ?_
 rintro e w' ⟨s', X', u, rfl, h3, h4, h5, h6, h7⟩
 refine ⟨s', u, rfl, ⟨X', h3.lg []⟩, fun i b k e => ?_, h4, h5⟩
 cases e' : s i with
 | none => exact .inr ⟨h7 i b k e e', h3.rel.lt i b k e⟩
 | some x =>
  obtain ⟨b', k'⟩ := x
  have := h6 i _ e'
  rw [e] at this
  cases this
  exact .inl (hb i _ _ e')
theorem treeOf {lo : Nat} {tx : Ev.Tx} {m : Ev.Me} {s : Ev.Sg} {X : Ev.Loc → Ev.Vl} {w : World} {v b : Nat} (hst : Ev.EvSt tx ⟨m.h, m.nx, []⟩ s X w) (hlo : ∀ i b k, s i = some (b, k) → lo ≤ b) (hF : evOkF v m = true) {cs : List Value} (hv : Ev.VR tx s (.g 11) v (.agg cs.toArray)) (hr : RwL lo w b 40 cs.toArray) : ∃ ν, Pt0 lo w 64 b 0 ν := by
 obtain ⟨r, n, h1, h2, h3⟩ := evOkF_t hF
 obtain ⟨cs', e, q1, q2, q3⟩ := hv
 have : cs = cs' := by simpa using e
 subst this
 have hget : ∀ j, j < 11 → ∃ u, cs.toArray[0 + j]? = some u ∧ Ev.RC tx s (Ev.cel v (0 + j)) u := fun j hj => ⟨cs[j], by simp [Nat.zero_add, q1, hj], by rw [Nat.zero_add]; exact q3 j (by omega)⟩
 refine ⟨n, ⟨_, hr, rfl, evNd_ok hst hlo hget h1, cs[10], by simp [q1], ?_⟩, h3, hr.1⟩
 refine nuK_ok hst hlo 64 _ n _ h2 ?_
 rw [evC_eq]
 exact q3 10 (by omega)
theorem pick3 : ∀ x ∈ ([⟨#[120]⟩, ⟨#[78, 105, 108]⟩, ⟨#[113]⟩] : List ByteArray), x.size ≤ 3 := by decide
theorem draw7 {l : List Int} {A : Option Addr} {c : Nat} {g : Nat} {w0 w : World} (hm0 : Dm l A c g w0 w) :
 Calls Tryz.prog 31 #[.pointer (some ⟨g, 0, none⟩)] w fun e w' => ∃ (a0 a1 a2 a3 a4 a5 : Value) (t : GTyped) (A1 : Option Addr) (c1 : Nat) (A2 : Option Addr) (c2 : Nat) (A3 : Option Addr) (c3 : Nat) (A4 : Option Addr) (c4 : Nat), e = .returned (.tuple #[.agg #[a0, a1, a2, a3, a4, a5], .agg #[.int .i64 t.op, .int .i64 t.n, .string t.s, .string t.t, .int .i64 t.ty.op, .int .i64 t.ty.n, .string t.ty.s, .slice A1 t.ty.kids.length c1, .slice A2 t.inst.length c2, .slice A3 t.vars.length c3, .slice A4 t.kids.length c4]]) ∧ (∀ u ∈ [a0, a1, a2, a3, a4, a5], u.oneCell' = true) ∧ GTyped.At w' (InL w.heap.size w') A1 c1 A2 c2 A3 c3 A4 c4 t ∧ t.bulk ≤ 1048576 ∧ Dm l A c g w w' := by
 have hm := hm0.again
 clear hm0
 have hgl := hm.lt
 have M0 := LH hm
 clear hm
 go_enter Tryz.func31, Tryz.ntmps31
 refine wp_hide (fun BP hBP => ?_)
 have HBP := LH hBP
 clear hBP
 go_wp2_with fail
 obtain ⟨w1, e1, Rr1, hz1, K1⟩ := boxed w 64 #[.slice none 0 0, .int .i64 0, .int .i64 0, .string ⟨#[]⟩, .string ⟨#[]⟩, .slice none 0 0]
 have M1 := LH (M0.out.chg K1.out (by omega) (by omega))
 rw [← e1]
 clear e1
 obtain ⟨w2, e2, Rq2, hz2, K2⟩ := boxed w1 40 #[.int .i64 0, .int .i64 0, .string ⟨#[]⟩, .string ⟨#[]⟩, .int .i64 0, .int .i64 0, .string ⟨#[]⟩, .slice none 0 0, .slice none 0 0, .slice none 0 0, .slice none 0 0]
 have Rr2 := LH (K2.out.row Rr1.out (by omega))
 have M2 := LH (M1.out.chg K2.out (by omega) (by omega))
 rw [hz1] at Rq2
 rw [← e2]
 clear e2 Rr1 M1 K1 K2
 refine (drawTyped M2.out).mono ?_
 rintro e w3 ⟨tx, v1, m1, v2, m2, v3, m3, s, a0, a1, a2, a3, a4, a5, b0, b1, b2, b3, b4, b5, b6, b7, b8, b9, b10, rfl, hT, hu6, hv, hst, hm3⟩
 have hz3 := hm3.size
 have K3 := LH hm3.bx
 have Rr3 := LH (K3.out.row Rr2.out (by omega))
 have Rq3 := LH (K3.out.row Rq2.out (by omega))
 have M3 := LH (M2.out.trans hm3)
 have HT := LH hT
 have HV := LH hv
 have HS3 := LH hst
 have HU := LH hu6
 have hu := vrOne (cs := [b0, b1, b2, b3, b4, b5, b6, b7, b8, b9, b10]) hv
 have s0 := storeOne (hu6 a0 (by simp))
 have s1 := storeOne (hu6 a1 (by simp))
 have s2 := storeOne (hu6 a2 (by simp))
 have s3 := storeOne (hu6 a3 (by simp))
 have s4 := storeOne (hu6 a4 (by simp))
 have s5 := storeOne (hu6 a5 (by simp))
 have t0 := storeOne (hu b0 (by simp))
 have t1 := storeOne (hu b1 (by simp))
 have t2 := storeOne (hu b2 (by simp))
 have t3 := storeOne (hu b3 (by simp))
 have t4 := storeOne (hu b4 (by simp))
 have t5 := storeOne (hu b5 (by simp))
 have t6 := storeOne (hu b6 (by simp))
 have t7 := storeOne (hu b7 (by simp))
 have t8 := storeOne (hu b8 (by simp))
 have t9 := storeOne (hu b9 (by simp))
 have t10 := storeOne (hu b10 (by simp))
 clear Rr2 Rq2 M2 hm3 hT hv hst hu hu6
 go_wp2_with fail
 obtain ⟨w4, e4, Rp4, hz4, K4⟩ := boxed w3 64 #[a0, a1, a2, a3, a4, a5]
 have Rr4 := LH (K4.out.row Rr3.out (by omega))
 have Rq4 := LH (K4.out.row Rq3.out (by omega))
 have HS4 := LH (HS3.out.keep (w' := w4) (by omega) fun b h1 h2 => K4.out.block b h2 (by omega))
 have M4 := LH (M3.out.chg K4.out (by omega) (by omega))
 rw [← e4]
 clear e4
 obtain ⟨w5, e5, Rt5, hz5, K5⟩ := boxed w4 40 #[b0, b1, b2, b3, b4, b5, b6, b7, b8, b9, b10]
 have Rr5 := LH (K5.out.row Rr4.out (by omega))
 have Rq5 := LH (K5.out.row Rq4.out (by omega))
 have Rp5 := LH (K5.out.row Rp4.out (by omega))
 have HS5 := LH (HS4.out.keep (w' := w5) (by omega) fun b h1 h2 => K5.out.block b h2 (by omega))
 have M5 := LH (M4.out.chg K5.out (by omega) (by omega))
 rw [hz4] at Rt5
 rw [← e5]
 clear e5 Rr3 Rq3 Rr4 Rq4 Rp4 M3 M4 HS4
 obtain ⟨n1, n2, hF, hl1, hl2, hl3, c1, c2, c3⟩ := HT.out
 have HF := LH hF
 refine (EvIn.use2 (args := #[.slice none 0 0, .agg #[b0, b1, b2, b3, b4, b5, b6, b7, b8, b9, b10]]) (h0 := w2.heap.size) (z := w3.heap.size) c3 (sigF tx) hl3 HS5.out.1 (fun i b k e => ⟨(HS3.out.2 i b k e).1, (HS3.out.2 i b k e).2⟩) (Ev.part_arg2 tiB.1 tiB.2 tiT.1 tiT.2 HV.out)).mono ?_
 clear n1 n2 hF hl1 hl2 hl3 c1 c2 c3 HT HV HS3 HS5
 rintro e w6 ⟨s', u, rfl, hst, hbk, hv, hb6⟩
 rw [shF1] at hv
 obtain ⟨cs, rfl, hlen⟩ := id hv
 obtain ⟨d0, d1, d2, d3, d4, d5, d6, d7, d8, d9, d10, rfl⟩ := len11 hlen.1
 clear hlen
 have hu := vrOne hv
 have r0 := storeOne (hu d0 (by simp))
 have r1 := storeOne (hu d1 (by simp))
 have r2 := storeOne (hu d2 (by simp))
 have r3 := storeOne (hu d3 (by simp))
 have r4 := storeOne (hu d4 (by simp))
 have r5 := storeOne (hu d5 (by simp))
 have r6 := storeOne (hu d6 (by simp))
 have r7 := storeOne (hu d7 (by simp))
 have r8 := storeOne (hu d8 (by simp))
 have r9 := storeOne (hu d9 (by simp))
 have r10 := storeOne (hu d10 (by simp))
 clear hu
 have hz6 := hb6.size
 have Rr6 := LH (Rr5.out.below hb6 (by omega))
 have Rq6 := LH (Rq5.out.below hb6 (by omega))
 have Rp6 := LH (Rp5.out.below hb6 (by omega))
 have Rt6 := LH (Rt5.out.below hb6 (by omega))
 have M6 := LH (M5.out.below hb6)
 have HV := LH hv
 have HS6 := LH hst
 have HB6 := LH hbk
 clear Rr5 Rq5 Rp5 Rt5 M5 hv hst hbk hb6
 have hct6 := fun i => Rt6.out.cell i
 have hft6 := fun i => Rt6.out.frozen i
 have hlt6 := Rt6.out.lt
 go_wp2_with fail
 obtain ⟨w7, e7, Rt7, hz7, K7⟩ := storedEleven Rt6.out d0 d1 d2 d3 d4 d5 d6 d7 d8 d9 d10
 rw [← e7]
 clear e7 hct6 hft6 hlt6
 have Rr7 := LH (K7.out.row Rr6.out (by omega))
 have Rq7 := LH (K7.out.row Rq6.out (by omega))
 have Rp7 := LH (K7.out.row Rp6.out (by omega))
 have M7 := LH (M6.out.chg K7.out (by omega) (by omega))
 obtain ⟨ν0, hp0⟩ : ∃ ν, Pt0 w2.heap.size w7 64 (w3.heap.size + 1) 0 ν := by
  obtain ⟨X, hst⟩ := HS6.out
  refine treeOf (hst.keep (w' := w7) (by omega) fun i b k e => K7.out.block b ?_ ?_) (fun i b k e => ?_) HF.out HV.out ⟨by omega, Rt7.out⟩
  · rcases HB6.out i b k e with h | h <;> omega
  · rcases HB6.out i b k e with h | h <;> omega
  · rcases HB6.out i b k e with h | h <;> omega
 have PR7 := LH hp0
 clear hp0 Rr6 Rq6 Rp6 Rt6 M6 HS6 HB6 HV HF Rt7
 refine (pickTyped PR7.out M7.out).mono ?_
 rintro e w8 ⟨nb, off, fN, νN, rfl, hpN, hm8⟩
 have hz8 := hm8.size
 have Rr8 := LH (hm8.bx.row Rr7.out (by omega))
 have Rq8 := LH (hm8.bx.row Rq7.out (by omega))
 have Rp8 := LH (hm8.bx.row Rp7.out (by omega))
 have PR8 := LH (PR7.out.dm M7.out hm8)
 have PN8 := LH hpN
 have M8 := LH (M7.out.trans hm8)
 clear Rr7 Rq7 Rp7 PR7 M7 hm8 hpN
 go_wp2_with fail
 refine (drawBelowD M8.out 12 (by omega) (by omega)).mono ?_
 rintro e w9 ⟨x, rfl, hx, hm9⟩
 have hz9 := hm9.size
 have Rr9 := LH (hm9.bx.row Rr8.out (by omega))
 have Rq9 := LH (hm9.bx.row Rq8.out (by omega))
 have Rp9 := LH (hm9.bx.row Rp8.out (by omega))
 have PR9 := LH (PR8.out.dm M8.out hm9)
 have PN9 := LH (PN8.out.dm M8.out hm9)
 have M9 := LH (M8.out.trans hm9)
 clear Rr8 Rq8 Rp8 PR8 PN8 M8 hm9
 obtain ⟨cN, y, hcN, hoN, hndN, hyN⟩ := PN9.out.cells
 have hnl9 := hcN.lt.2
 have hnlo := hcN.1
 have hyf : ∀ (W : World), W.heap[nb]? = w9.heap[nb]? → (∀ i, i < 11 → W.cell? ⟨nb, off + i, none⟩ = some (y i)) ∧ ∀ i, W.frozen? ⟨nb, i, none⟩ = false := fun W hW => ⟨fun i hi => (Row.cell (hW.trans hcN.2) _).trans (hyN i hi), fun i => Row.frozen (hW.trans hcN.2) i⟩
 have hnng := PN9.out.ne M9.out
 have hntp : nb ≠ w3.heap.size := by
  intro e
  have h1 := hcN.2
  rw [e] at h1
  have := (rowSame h1 Rp9.out).1
  revert this; decide
 by_cases x0 : x = 0
 ·
  have y0 : (x == 0) = true := beq_iff_eq.2 x0
  go_wp2_with fail
  refine (drawTyD M9.out 2 2 (by rfl) (by omega)).mono ?_
  rintro e w10 ⟨ty, AY, cY, rfl, hyb, hyat, hm10⟩
  have hz10 := hm10.size
  have K10 := LH hm10.bx
  have Rr10 := LH (K10.out.row Rr9.out (by omega))
  have Rq10 := LH (K10.out.row Rq9.out (by omega))
  have Rp10 := LH (K10.out.row Rp9.out (by omega))
  have PR10 := LH (PR9.out.dm M9.out hm10)
  have PN10 := LH (PN9.out.dm M9.out hm10)
  have M10 := LH (M9.out.trans hm10)
  have HYA := LH hyat
  have hW := hyf w10 (K10.out.block nb hnl9 hnng)
  have k4 := hW.1 4 (by omega)
  have k5 := hW.1 5 (by omega)
  have k6 := hW.1 6 (by omega)
  have k7 := hW.1 7 (by omega)
  have kf := hW.2
  have kl : nb < w10.heap.size := by omega
  clear hW hm10 hyat
  go_upto_region 20 with (fail)
  obtain ⟨w11, e11⟩ : ∃ x, x = setCells w10 nb (off + 4) [.int .i64 ty.op, .int .i64 ty.n, .string ty.s, .slice AY ty.kids.length cY] := ⟨_, rfl⟩
  have E11 := LH e11
  rw [show (((w10.setCell ⟨nb, off + 4, none⟩ (.int .i64 ty.op)).setCell ⟨nb, off + 5, none⟩ (.int .i64 ty.n)).setCell ⟨nb, off + 6, none⟩ (.string ty.s)).setCell ⟨nb, off + 7, none⟩ (.slice AY ty.kids.length cY) = w11 from e11.symm]
  have K11 := LH (show Bx nb w10 w11 by rw [e11]; exact bxCells _ _ _ _)
  have hz11 : w11.heap.size = w10.heap.size := by rw [e11]; exact setCells_size _ _ _ _
  clear e11 k4 k5 k6 k7 kf kl
  have Rr11 := LH (K11.out.row Rr10.out (by omega))
  have Rq11 := LH (K11.out.row Rq10.out (by omega))
  have Rp11 := LH (K11.out.row Rp10.out (by omega))
  have M11 := LH (M10.out.chg K11.out (by omega) (by omega))
  have PT11 := LH (PR10.out.1.turn (PN10.out.putTy (fun h => by have := h.1; omega) HYA.out hyb E11.out))
  clear E11 HYA K10 K11 PN9 PN10 PR10 Rr9 Rq9 Rp9 Rr10 Rq10 Rp10 M9 M10 hndN
  obtain ⟨cT, tt, A1, c1, A2, c2, A3, c3, A4, c4, hrT, hcT, hatT, hbT⟩ := rootRead PT11.out PR9.out.2.1 (fun b hb => ⟨by have := hb.1; omega, by have := hb.2; omega⟩)
  have HAT := LH hatT
  have q0 := hcT 0 _ rfl
  have q1 := hcT 1 _ rfl
  have q2 := hcT 2 _ rfl
  have q3 := hcT 3 _ rfl
  have q4 := hcT 4 _ rfl
  have q5 := hcT 5 _ rfl
  have q6 := hcT 6 _ rfl
  have q7 := hcT 7 _ rfl
  have q8 := hcT 8 _ rfl
  have q9 := hcT 9 _ rfl
  have q10 := hcT 10 _ rfl
  clear hcT hatT
  have hqlt : w3.heap.size + 1 ≠ w.heap.size ∧ w3.heap.size + 1 ≠ w.heap.size + 1 := by omega
  have RT := LH hrT
  clear hrT
  refine wp_region_T (fun x => Row x w3.heap.size 64 #[a0, a1, a2, a3, a4, a5] ∧ Row x (w3.heap.size + 1) 40 cT) 100 (by kernel_rfl) ?_
  obtain ⟨wA, eA⟩ : ∃ x, x = w11.drew := ⟨_, rfl⟩
  rw [← eA]
  have KA := LH (show Below w11.heap.size w11 wA by rw [eA]; exact (Below.refl _ _).drew)
  have hzA : wA.heap.size ≤ w11.heap.size ∧ w11.heap.size ≤ wA.heap.size := by rw [eA]; exact ⟨Nat.le_refl _, Nat.le_refl _⟩
  clear eA
  have RrA := LH (Rr11.out.below KA.out Rr11.out.lt)
  have RqA := LH (Rq11.out.below KA.out Rq11.out.lt)
  have RpA := Rp11.out.below KA.out Rp11.out.lt
  have RtA := RT.out.below KA.out RT.out.lt
  have HATA := LH (HAT.out.keep (w' := wA) (S' := InL w2.heap.size wA) fun b hb => ⟨⟨hb.1, by have := hb.2; omega⟩, KA.out.block b hb.2⟩)
  have MA := LH (M11.out.below KA.out)
  clear KA HAT RT
  refine wpAnyT_tk (i := 0) (oi := _) (v := ?tvz11) rfl (Or.inl ⟨by rfl, ?thz11⟩) ⟨RpA, RtA⟩ ?_
  case thz11 => (intro x hSx; have hcS := fun i => hSx.1.cell i; clear hSx; go_simp; (try with_reducible rfl))
  try simp only [List.getElem_toArray, List.getElem_cons_succ, List.getElem_cons_zero, Act.put, List.setIfInBounds_toArray, List.set_cons_zero, List.set_cons_succ]
  refine wpAnyT_tk (i := 1) (oi := _) (v := ?tvz12) rfl (Or.inl ⟨by rfl, ?thz12⟩) ⟨RpA, RtA⟩ ?_
  case thz12 => (intro x hSx; have hcS := fun i => hSx.2.cell i; clear hSx; go_simp; (try with_reducible rfl))
  try simp only [List.getElem_toArray, List.getElem_cons_succ, List.getElem_cons_zero, Act.put, List.setIfInBounds_toArray, List.set_cons_zero, List.set_cons_succ]
  have hcrA := fun i => RrA.out.cell i
  have hfrA := fun i => RrA.out.frozen i
  have hlrA := RrA.out.lt
  refine wpAnyT_step (i := 2) (by kernel_rfl) rfl (fun K hK => ?_)
  try simp only [List.getElem_toArray, List.getElem_cons_succ, List.getElem_cons_zero]
  go_simp
  obtain ⟨wB, eB, RrB, hzB, KB⟩ := storedSix RrA.out a0 a1 a2 a3 a4 a5
  rw [← eB]
  clear eB hcrA hfrA
  have RpB := KB.out.row RpA (by omega)
  have RtB := KB.out.row RtA (by omega)
  have RqB := LH (KB.out.row RqA.out (by omega))
  have HATB := LH (HATA.out.keep (w' := wB) (S' := InL w2.heap.size wB) fun b hb => ⟨⟨hb.1, by have := hb.2; omega⟩, KB.out.block b hb.2 (by have := hb.1; omega)⟩)
  have MB := LH (MA.out.chg KB.out (by omega) (by omega))
  clear RrA RqA MA HATA
  refine hK.out _ _ ⟨RpB, RtB⟩ (fun _ => ?_)
  clear hK K
  try simp only [List.getElem_toArray, List.getElem_cons_succ, List.getElem_cons_zero, Act.put, List.setIfInBounds_toArray, List.set_cons_zero, List.set_cons_succ]
  have hcqB := fun i => RqB.out.cell i
  have hfqB := fun i => RqB.out.frozen i
  have hlqB := RqB.out.lt
  refine wpAnyT_step (i := 3) (by kernel_rfl) rfl (fun K hK => ?_)
  try simp only [List.getElem_toArray, List.getElem_cons_succ, List.getElem_cons_zero]
  go_simp
  obtain ⟨wC, eC, RqC, hzC, KC⟩ := storedEleven RqB.out (.int .i64 tt.op) (.int .i64 tt.n) (.string tt.s) (.string tt.t) (.int .i64 tt.ty.op) (.int .i64 tt.ty.n) (.string tt.ty.s) (.slice A1 tt.ty.kids.length c1) (.slice A2 tt.inst.length c2) (.slice A3 tt.vars.length c3) (.slice A4 tt.kids.length c4)
  rw [← eC]
  clear eC hcqB hfqB
  have RpC := KC.out.row RpB (by omega)
  have RtC := KC.out.row RtB (by omega)
  have RrC := LH (KC.out.row RrB.out (by omega))
  have HATC := LH (HATB.out.keep (w' := wC) (S' := InL w.heap.size wC) fun b hb => ⟨⟨by have h1 := hb.1; omega, by have h2 := hb.2; omega⟩, KC.out.block b hb.2 (by have := hb.1; omega)⟩)
  have MC := LH (MB.out.chg KC.out (by omega) (by omega))
  clear RrB RqB MB HATB
  refine hK.out _ _ ⟨RpC, RtC⟩ (fun _ => ?_)
  refine wpAnyT_done (by kernel_rfl) ?_ _
  clear hK K RpA RtA RpB RtB RpC RtC
  have hcrC := fun i => RrC.out.cell i
  have hcqC := fun i => RqC.out.cell i
  go_wp2_with fail
  show BP _ _
  rw [HBP.out]
  refine bodyPost_ret (v := .tuple #[.agg #[a0, a1, a2, a3, a4, a5], .agg #[.int .i64 tt.op, .int .i64 tt.n, .string tt.s, .string tt.t, .int .i64 tt.ty.op, .int .i64 tt.ty.n, .string tt.ty.s, .slice A1 tt.ty.kids.length c1, .slice A2 tt.inst.length c2, .slice A3 tt.vars.length c3, .slice A4 tt.kids.length c4]]) (by simp [results, Tryz.results31, go_sem, hcrC, hcqC]) rfl ?_
  exact ⟨a0, a1, a2, a3, a4, a5, tt, A1, c1, A2, c2, A3, c3, A4, c4, rfl, HU.out, HATC.out, hbT, MC.out⟩
 by_cases x1 : x = 1
 ·
  have y1 : (x == 1) = true := beq_iff_eq.2 x1
  have y0 : (x == 0) = false := beq_eq_false_iff_ne.2 (by omega)
  obtain ⟨A9, n9, c9, hc9, hn9, hin9, hbl9⟩ : ∃ A9 n9 c9, w9.cell? ⟨nb, off + 8, none⟩ = some (.slice A9 n9 c9) ∧ n9 ≤ 2400 ∧ InRow w9 27 4 (.slice A9 n9 c9) n9 ∧ ∀ b o c, Value.slice A9 n9 c9 = .slice (some ⟨b, o, none⟩) n9 c → w2.heap.size ≤ b ∧ b < w9.heap.size := by
   obtain ⟨op, n, s, t, βt, u8, β8, u9, β9, ⟨g0, g1, g2, g3, g8, g9⟩, f1, f2, f3, f4, f5, f6, f7, f8⟩ := hndN
   obtain ⟨A9, n9, c9, rfl, q1, q2, q3⟩ := f6.inRow
   exact ⟨A9, n9, c9, (hcN.cell _).trans g8, by omega, q2, q3⟩
  have HIN := LH hin9
  have HBL := LH hbl9
  clear hndN hin9 hbl9
  go_wp2_with fail
  refine wp_region_U (fun x => x.cell? ⟨nb, off + 8, none⟩ = some (.slice A9 n9 c9)) 8 (by kernel_rfl) ?_
  obtain ⟨w10, e10⟩ : ∃ x, x = w9.drew := ⟨_, rfl⟩
  rw [← e10]
  have K10 := LH (show Below w9.heap.size w9 w10 by rw [e10]; exact (Below.refl _ _).drew)
  have hz10 : w10.heap.size = w9.heap.size := by rw [e10]; rfl
  have hS1 : w10.cell? ⟨nb, off + 8, none⟩ = some (.slice A9 n9 c9) := by rw [e10]; exact hc9
  clear e10
  have Rr10 := LH (Rr9.out.below K10.out Rr9.out.lt)
  have Rq10 := LH (Rq9.out.below K10.out Rq9.out.lt)
  have Rp10 := LH (Rp9.out.below K10.out Rp9.out.lt)
  have PR10 := LH (PR9.out.below K10.out)
  have PN10 := LH (PN9.out.below K10.out)
  have M10 := LH (M9.out.below K10.out)
  have HIN10 := LH (HIN.out.below K10.out)
  have hN10 : w10.heap[nb]? = w9.heap[nb]? := K10.out.block nb hnl9
  refine wpAnyU_tk (i := 0) (oi := _) (v := ?tvk1) rfl (Or.inl ⟨by rfl, ?thk1⟩) hS1 ?_
  case thk1 => (intro x hSx; (try dsimp only at hSx); go_simp; (try with_reducible rfl))
  try simp only [List.getElem_toArray, List.getElem_cons_succ, List.getElem_cons_zero, Act.put, List.setIfInBounds_toArray, List.set_cons_zero, List.set_cons_succ]
  refine wpAnyU_tk (i := 1) (oi := _) (v := ?tvk2) rfl (Or.inl ⟨by rfl, ?thk2⟩) hS1 ?_
  case thk2 => (intro x hSx; (try dsimp only at hSx); go_simp; (try with_reducible rfl))
  try simp only [List.getElem_toArray, List.getElem_cons_succ, List.getElem_cons_zero, Act.put, List.setIfInBounds_toArray, List.set_cons_zero, List.set_cons_succ]
  refine wpAnyU_tk (i := 2) (oi := _) (v := ?tvk3) rfl (Or.inl ⟨by rfl, ?thk3⟩) hS1 ?_
  case thk3 => (intro x hSx; (try dsimp only at hSx); go_simp; (try with_reducible rfl))
  try simp only [List.getElem_toArray, List.getElem_cons_succ, List.getElem_cons_zero, Act.put, List.setIfInBounds_toArray, List.set_cons_zero, List.set_cons_succ]
  refine wpAnyU_tk (i := 3) (oi := _) (v := ?tvk4) rfl (Or.inl ⟨by rfl, ?thk4⟩) hS1 ?_
  case thk4 => (intro x hSx; (try dsimp only at hSx); go_simp; (try with_reducible rfl))
  try simp only [List.getElem_toArray, List.getElem_cons_succ, List.getElem_cons_zero, Act.put, List.setIfInBounds_toArray, List.set_cons_zero, List.set_cons_succ]
  refine wpAnyU_tk (i := 4) (oi := _) (v := ?tvk5) rfl (Or.inl ⟨by rfl, ?thk5⟩) hS1 ?_
  case thk5 => (intro x hSx; (try dsimp only at hSx); go_simp; (try with_reducible rfl))
  try simp only [List.getElem_toArray, List.getElem_cons_succ, List.getElem_cons_zero, Act.put, List.setIfInBounds_toArray, List.set_cons_zero, List.set_cons_succ]
  refine wpAnyU_tk (i := 6) (oi := _) (v := ?tvk6) rfl (Or.inl ⟨by rfl, ?thk6⟩) hS1 ?_
  case thk6 => (intro x hSx; (try dsimp only at hSx); go_simp; (try with_reducible rfl))
  try simp only [List.getElem_toArray, List.getElem_cons_succ, List.getElem_cons_zero, Act.put, List.setIfInBounds_toArray, List.set_cons_zero, List.set_cons_succ]
  have hSc10 := hS1
  clear hS1
  refine wpAnyU_two (i := 5) (j := 7) (by kernel_rfl) rfl rfl (fun K hK => ?_) (fun K hK => ?_)
  ·
   try simp only [List.getElem_toArray, List.getElem_cons_succ, List.getElem_cons_zero]
   go_simp
   refine (drawTyD M10.out 1 1 (by rfl) (by omega)).mono ?_
   rintro e w11 ⟨ty, AY, cY, rfl, hyb, hyat, hm11⟩
   have hz11 := hm11.size
   have K11 := LH hm11.bx
   have Rr11 := LH (K11.out.row Rr10.out (by omega))
   have Rq11 := LH (K11.out.row Rq10.out (by omega))
   have Rp11 := LH (K11.out.row Rp10.out (by omega))
   have PR11 := LH (PR10.out.dm M10.out hm11)
   have PN11 := LH (PN10.out.dm M10.out hm11)
   have hS11 := (PN10.out.cell M10.out hm11 (off + 8)).trans hSc10
   have M11 := LH (M10.out.trans hm11)
   have HIN11 := LH (HIN10.out.dm (.inr rfl) M10.out hm11)
   have hN11 : w11.heap[nb]? = w9.heap[nb]? := (K11.out.block nb (by omega) hnng).trans hN10
   have HY11 := LH hyat
   clear hm11 hyat
   try simp only [List.getElem_toArray, List.getElem_cons_succ, List.getElem_cons_zero]
   go_simp
   refine hK.out _ _ hS11 (fun hSc11 => ?_)
   clear hK K hS11
   try simp only [List.getElem_toArray, List.getElem_cons_succ, List.getElem_cons_zero, Act.put, List.setIfInBounds_toArray, List.set_cons_zero, List.set_cons_succ]
   refine wpAnyU_step (i := 7) (by kernel_rfl) rfl (fun K hK => ?_)
   try simp only [List.getElem_toArray, List.getElem_cons_succ, List.getElem_cons_zero]
   go_simp
   obtain ⟨w12, e12, Rz12, hz12, K12⟩ := boxed w11 27 #[.int .i64 0, .int .i64 0, .string ⟨#[]⟩, .slice none 0 0]
   have KB12 := LH (show Below w11.heap.size w11 w12 by rw [e12]; exact (Below.refl _ _).alloc (Nat.le_refl _) _)
   rw [← e12]
   clear e12
   have Rr12 := LH (K12.out.row Rr11.out (by omega))
   have Rq12 := LH (K12.out.row Rq11.out (by omega))
   have Rp12 := LH (K12.out.row Rp11.out (by omega))
   have PR12 := LH (PR11.out.below KB12.out)
   have PN12 := LH (PN11.out.below KB12.out)
   have M12 := LH (M11.out.below KB12.out)
   have HIN12 := LH (HIN11.out.below KB12.out)
   have hN12 : w12.heap[nb]? = w9.heap[nb]? := (KB12.out.block nb (by omega)).trans hN11
   have hS12 : w12.cell? ⟨nb, off + 8, none⟩ = some (.slice A9 n9 c9) := (World.cell?_of_block (a := ⟨nb, off + 8, none⟩) (KB12.out.block nb (by omega))).trans hSc11
   refine hK.out _ _ hS12 (fun hSc12 => ?_)
   clear hK K hS12
   try simp only [List.getElem_toArray, List.getElem_cons_succ, List.getElem_cons_zero, Act.put, List.setIfInBounds_toArray, List.set_cons_zero, List.set_cons_succ]
   have HY12 := LH (HY11.out.keep (w' := w12) (S' := Btw w10.heap.size w11.heap.size) fun b hb => ⟨hb, KB12.out.block b hb.2⟩)
   clear HY11 KB12
   refine wpAnyU_now 100 (by kernel_rfl) rfl (fun K hK => ?_)
   try simp only [List.getElem_toArray, List.getElem_cons_succ, List.getElem_cons_zero]
   rw [if_pos (by rfl)]
   refine wp_append_row w12 (.tmp 30) (.tmp 34) 25 (by rfl) 27 (.agg #[.int .i64 0, .int .i64 0, .string ⟨#[]⟩, .slice none 0 0]) 4 56 Tryz.underlying25 (by kernel_rfl) rfl (by omega) HIN12.out (by omega) (by omega) Rz12.out rfl (by simp [Value.oneCell']) (by rfl) (by rfl) ?_
   intro bq oq cq csq w13 ha hnews
   try simp only [Act.put, List.setIfInBounds_toArray, List.set_cons_zero, List.set_cons_succ]
   have HA := LH ha
   have hbq : w2.heap.size ≤ bq := (ha.rwl (lo := w2.heap.size) (by omega) fun b o c e => ⟨(HBL.out b o c e).1, by have := (HBL.out b o c e).2; omega⟩).1
   have hbq2 : bq < w9.heap.size ∨ w12.heap.size ≤ bq := by
    rcases ha.frm with h | ⟨_, ⟨c0, h⟩, _⟩
    · exact .inr h
    · exact .inl (HBL.out _ _ _ h).2
   have hz13 := ha.bx.size
   have K13 := LH ha.bx
   have hnq := ha.far (hN12.trans hcN.2) (by decide)
   have hnq1 := hnq.1
   have hntq : w3.heap.size ≠ bq := (ha.far Rp12.out (by decide)).1
   have hN13 : w13.heap[nb]? = w9.heap[nb]? := hnq.2.trans hcN.2.symm
   have Rr13 := LH (ha.far Rr12.out (by decide)).2
   have Rq13 := LH (ha.far Rq12.out (by decide)).2
   have Rp13 := LH (ha.far Rp12.out (by decide)).2
   have M13 := LH (M12.out.chg K13.out (by omega) (by omega))
   have p0 : w13.cell? ⟨bq, oq + n9 * 4, none⟩ = some (.int .i64 0) := (ha.row.cell _).trans (hnews 0 (by omega))
   have p1 : w13.cell? ⟨bq, oq + n9 * 4 + 1, none⟩ = some (.int .i64 0) := (ha.row.cell _).trans (hnews 1 (by omega))
   have p2 : w13.cell? ⟨bq, oq + n9 * 4 + 2, none⟩ = some (.string ⟨#[]⟩) := (ha.row.cell _).trans (hnews 2 (by omega))
   have p3 : w13.cell? ⟨bq, oq + n9 * 4 + 3, none⟩ = some (.slice none 0 0) := (ha.row.cell _).trans (hnews 3 (by omega))
   have pf := fun i => ha.row.frozen i
   have pl := ha.row.lt
   have hcap := ha.cap
   have hle := ha.le
   have hcap := ha.cap
   have hle := ha.le
   have hbnd : oq + n9 * 4 + 4 ≤ csq.size := by omega
   clear ha hnews
   obtain ⟨w14, e14⟩ : ∃ x, x = setCells w13 bq (oq + n9 * 4) [.int .i64 ty.op, .int .i64 ty.n, .string ty.s, .slice AY ty.kids.length cY] := ⟨_, rfl⟩
   obtain ⟨w15, e15⟩ : ∃ x, x = setCells w14 nb (off + 8) [.slice (some ⟨bq, oq, none⟩) (n9 + 1) cq] := ⟨_, rfl⟩
   have E14 := LH e14
   have E15 := LH e15
   have K14 := LH (show Bx bq w13 w14 by rw [e14]; exact bxCells _ _ _ _)
   have K15 := LH (show Bx nb w14 w15 by rw [e15]; exact bxCells _ _ _ _)
   have hz14 : w14.heap.size = w13.heap.size := by rw [e14]; exact setCells_size _ _ _ _
   have hz15 : w15.heap.size = w14.heap.size := by rw [e15]; exact setCells_size _ _ _ _
   clear e14 e15
   have hrq : w.heap.size ≠ bq ∧ w.heap.size + 1 ≠ bq := by omega
   have htq : w3.heap.size ≠ bq := hntq
   have Rr14 := LH (K14.out.row Rr13.out (by omega))
   have Rq14 := LH (K14.out.row Rq13.out (by omega))
   have Rp14 := LH (K14.out.row Rp13.out (by omega))
   have Rr15 := LH (K15.out.row Rr14.out (by omega))
   have Rq15 := LH (K15.out.row Rq14.out (by omega))
   have Rp15 := LH (K15.out.row Rp14.out (by omega))
   have M14 := LH (M13.out.chg K14.out (by omega) (by omega))
   have M15 := LH (M14.out.chg K15.out (by omega) (by omega))
   obtain ⟨csr, u1, u2, u3, u4⟩ := setCells_row HA.out.row (oq + n9 * 4) [.int .i64 ty.op, .int .i64 ty.n, .string ty.s, .slice AY ty.kids.length cY]
   rw [← E14.out] at u1
   have HA2 := LH (HA.out.write u1 u2 K14.out (fun i hi => u3 i (by simp; omega)))
   have HNT := LH (newTy_of (w' := w14) (Fr' := Btw w10.heap.size w11.heap.size) (dk := 100) (get := fun i => csr[oq + n9 * 4 + i]?) HY12.out (fun b hb => ⟨hb, by
     have h1 := hb.1
     have h2 := hb.2
     exact (K14.out.block b (by omega) (by omega)).trans (K13.out.block b (by omega) (by omega))⟩) hyb (u4 0 _ rfl (by omega)) (u4 1 _ rfl (by omega)) (u4 2 _ rfl (by omega)) (u4 3 _ rfl (by omega)))
   clear u1 u2 u3 u4
   have PT15 := LH (PR12.out.1.turn (PN12.out.putInst (by omega) (fun h => by have := h.1; omega) HA2.out hSc12 HNT.out E15.out))
   have hdn : (n9 : Int) < (n9 : Int) + 1 := by omega
   have ddn : decide ((n9 : Int) < (n9 : Int) + 1) = true := decide_eq_true hdn
   clear HA2 HNT
   refine hK.out _ _ ?_
   clear hK K
   try simp only [List.getElem_toArray, List.getElem_cons_succ, List.getElem_cons_zero, Act.put, List.setIfInBounds_toArray, List.set_cons_zero, List.set_cons_succ]
   refine wpAnyT_tk (i := 9) (oi := _) (v := ?tvk7) rfl (Or.inl ⟨by rfl, ?thk7⟩) trivial ?_
   case thk7 => (intro x hSx; (try dsimp only at hSx); go_simp; (try with_reducible rfl))
   try simp only [List.getElem_toArray, List.getElem_cons_succ, List.getElem_cons_zero, Act.put, List.setIfInBounds_toArray, List.set_cons_zero, List.set_cons_succ]
   refine wpAnyT_tk (i := 11) (oi := _) (v := ?tvk8) rfl (Or.inl ⟨by rfl, ?thk8⟩) trivial ?_
   case thk8 => (intro x hSx; (try dsimp only at hSx); go_simp; (try with_reducible rfl))
   try simp only [List.getElem_toArray, List.getElem_cons_succ, List.getElem_cons_zero, Act.put, List.setIfInBounds_toArray, List.set_cons_zero, List.set_cons_succ]
   refine wpAnyT_tk (i := 12) (oi := _) (v := ?tvk9) rfl (Or.inl ⟨by rfl, ?thk9⟩) trivial ?_
   case thk9 => (intro x hSx; (try dsimp only at hSx); go_simp; (try with_reducible rfl))
   try simp only [List.getElem_toArray, List.getElem_cons_succ, List.getElem_cons_zero, Act.put, List.setIfInBounds_toArray, List.set_cons_zero, List.set_cons_succ]
   refine wpAnyT_two (i := 10) (j := 13) (by kernel_rfl) rfl rfl (fun K hK => ?_) (fun K hK => ?_)
   ·
    try simp only [List.getElem_toArray, List.getElem_cons_succ, List.getElem_cons_zero]
    go_simp
    rw [show ((((w13.setCell ⟨bq, oq + n9 * 4, none⟩ (.int .i64 ty.op)).setCell ⟨bq, oq + n9 * 4 + 1, none⟩ (.int .i64 ty.n)).setCell ⟨bq, oq + n9 * 4 + 2, none⟩ (.string ty.s)).setCell ⟨bq, oq + n9 * 4 + 3, none⟩ (.slice AY ty.kids.length cY)) = w14 from E14.out.symm]
    clear p0 p1 p2 p3 pf pl
    refine hK.out _ _ trivial (fun _ => ?_)
    clear hK K
    try simp only [List.getElem_toArray, List.getElem_cons_succ, List.getElem_cons_zero, Act.put, List.setIfInBounds_toArray, List.set_cons_zero, List.set_cons_succ]
    have hW := hyf w14 ((K14.out.block nb (by omega) hnq1).trans hN13)
    have k8 := hW.1 8 (by omega)
    have kf := hW.2
    have kl : nb < w14.heap.size := by omega
    clear hW
    refine wpAnyT_step (i := 13) (by kernel_rfl) rfl (fun K hK => ?_)
    try simp only [List.getElem_toArray, List.getElem_cons_succ, List.getElem_cons_zero]
    go_simp
    rw [show w14.setCell ⟨nb, off + 8, none⟩ (.slice (some ⟨bq, oq, none⟩) (n9 + 1) cq) = w15 from E15.out.symm]
    clear k8 kf kl
    refine hK.out _ _ trivial (fun _ => ?_)
    refine wpAnyT_done (by kernel_rfl) ?_ _
    clear hK K
    clear E14 E15 K10 K11 K12 K13 K14 K15 HA HY12 HIN HIN10 HIN11 HIN12 HBL PN9 PN10 PR10 PN11 PR11 PN12 PR12 Rr9 Rq9 Rp9 Rr10 Rq10 Rp10 Rr11 Rq11 Rp11 Rr12 Rq12 Rp12 Rr13 Rq13 Rp13 Rr14 Rq14 Rp14 M9 M10 M11 M12 M13 M14 Rz12
    go_upto_region 20 with (fail)
    obtain ⟨cT, tt, A1, c1, A2, c2, A3, c3, A4, c4, hrT, hcT, hatT, hbT⟩ := rootRead PT15.out PR9.out.2.1 (fun b hb => ⟨by have h1 := hb.1; omega, by have h2 := hb.2; omega⟩)
    have HAT := LH hatT
    have q0 := hcT 0 _ rfl
    have q1 := hcT 1 _ rfl
    have q2 := hcT 2 _ rfl
    have q3 := hcT 3 _ rfl
    have q4 := hcT 4 _ rfl
    have q5 := hcT 5 _ rfl
    have q6 := hcT 6 _ rfl
    have q7 := hcT 7 _ rfl
    have q8 := hcT 8 _ rfl
    have q9 := hcT 9 _ rfl
    have q10 := hcT 10 _ rfl
    clear hcT hatT
    have hqlt : w3.heap.size + 1 ≠ w.heap.size ∧ w3.heap.size + 1 ≠ w.heap.size + 1 := by omega
    have RT := LH hrT
    clear hrT
    refine wp_region_T (fun x => Row x w3.heap.size 64 #[a0, a1, a2, a3, a4, a5] ∧ Row x (w3.heap.size + 1) 40 cT) 100 (by kernel_rfl) ?_
    obtain ⟨wA, eA⟩ : ∃ x, x = w15.drew := ⟨_, rfl⟩
    rw [← eA]
    have KA := LH (show Below w15.heap.size w15 wA by rw [eA]; exact (Below.refl _ _).drew)
    have hzA : wA.heap.size ≤ w15.heap.size ∧ w15.heap.size ≤ wA.heap.size := by rw [eA]; exact ⟨Nat.le_refl _, Nat.le_refl _⟩
    clear eA
    have RrA := LH (Rr15.out.below KA.out Rr15.out.lt)
    have RqA := LH (Rq15.out.below KA.out Rq15.out.lt)
    have RpA := Rp15.out.below KA.out Rp15.out.lt
    have RtA := RT.out.below KA.out RT.out.lt
    have HATA := LH (HAT.out.keep (w' := wA) (S' := InL w2.heap.size wA) fun b hb => ⟨⟨hb.1, by have := hb.2; omega⟩, KA.out.block b hb.2⟩)
    have MA := LH (M15.out.below KA.out)
    clear KA HAT RT
    refine wpAnyT_tk (i := 0) (oi := _) (v := ?tvz21) rfl (Or.inl ⟨by rfl, ?thz21⟩) ⟨RpA, RtA⟩ ?_
    case thz21 => (intro x hSx; have hcS := fun i => hSx.1.cell i; clear hSx; go_simp; (try with_reducible rfl))
    try simp only [List.getElem_toArray, List.getElem_cons_succ, List.getElem_cons_zero, Act.put, List.setIfInBounds_toArray, List.set_cons_zero, List.set_cons_succ]
    refine wpAnyT_tk (i := 1) (oi := _) (v := ?tvz22) rfl (Or.inl ⟨by rfl, ?thz22⟩) ⟨RpA, RtA⟩ ?_
    case thz22 => (intro x hSx; have hcS := fun i => hSx.2.cell i; clear hSx; go_simp; (try with_reducible rfl))
    try simp only [List.getElem_toArray, List.getElem_cons_succ, List.getElem_cons_zero, Act.put, List.setIfInBounds_toArray, List.set_cons_zero, List.set_cons_succ]
    have hcrA := fun i => RrA.out.cell i
    have hfrA := fun i => RrA.out.frozen i
    have hlrA := RrA.out.lt
    refine wpAnyT_step (i := 2) (by kernel_rfl) rfl (fun K hK => ?_)
    try simp only [List.getElem_toArray, List.getElem_cons_succ, List.getElem_cons_zero]
    go_simp
    obtain ⟨wB, eB, RrB, hzB, KB⟩ := storedSix RrA.out a0 a1 a2 a3 a4 a5
    rw [← eB]
    clear eB hcrA hfrA
    have RpB := KB.out.row RpA (by omega)
    have RtB := KB.out.row RtA (by omega)
    have RqB := LH (KB.out.row RqA.out (by omega))
    have HATB := LH (HATA.out.keep (w' := wB) (S' := InL w2.heap.size wB) fun b hb => ⟨⟨hb.1, by have := hb.2; omega⟩, KB.out.block b hb.2 (by have := hb.1; omega)⟩)
    have MB := LH (MA.out.chg KB.out (by omega) (by omega))
    clear RrA RqA MA HATA
    refine hK.out _ _ ⟨RpB, RtB⟩ (fun _ => ?_)
    clear hK K
    try simp only [List.getElem_toArray, List.getElem_cons_succ, List.getElem_cons_zero, Act.put, List.setIfInBounds_toArray, List.set_cons_zero, List.set_cons_succ]
    have hcqB := fun i => RqB.out.cell i
    have hfqB := fun i => RqB.out.frozen i
    have hlqB := RqB.out.lt
    refine wpAnyT_step (i := 3) (by kernel_rfl) rfl (fun K hK => ?_)
    try simp only [List.getElem_toArray, List.getElem_cons_succ, List.getElem_cons_zero]
    go_simp
    obtain ⟨wC, eC, RqC, hzC, KC⟩ := storedEleven RqB.out (.int .i64 tt.op) (.int .i64 tt.n) (.string tt.s) (.string tt.t) (.int .i64 tt.ty.op) (.int .i64 tt.ty.n) (.string tt.ty.s) (.slice A1 tt.ty.kids.length c1) (.slice A2 tt.inst.length c2) (.slice A3 tt.vars.length c3) (.slice A4 tt.kids.length c4)
    rw [← eC]
    clear eC hcqB hfqB
    have RpC := KC.out.row RpB (by omega)
    have RtC := KC.out.row RtB (by omega)
    have RrC := LH (KC.out.row RrB.out (by omega))
    have HATC := LH (HATB.out.keep (w' := wC) (S' := InL w.heap.size wC) fun b hb => ⟨⟨by have h1 := hb.1; omega, by have h2 := hb.2; omega⟩, KC.out.block b hb.2 (by have := hb.1; omega)⟩)
    have MC := LH (MB.out.chg KC.out (by omega) (by omega))
    clear RrB RqB MB HATB
    refine hK.out _ _ ⟨RpC, RtC⟩ (fun _ => ?_)
    refine wpAnyT_done (by kernel_rfl) ?_ _
    clear hK K RpA RtA RpB RtB RpC RtC
    have hcrC := fun i => RrC.out.cell i
    have hcqC := fun i => RqC.out.cell i
    go_wp2_with fail
    show BP _ _
    rw [HBP.out]
    refine bodyPost_ret (v := .tuple #[.agg #[a0, a1, a2, a3, a4, a5], .agg #[.int .i64 tt.op, .int .i64 tt.n, .string tt.s, .string tt.t, .int .i64 tt.ty.op, .int .i64 tt.ty.n, .string tt.ty.s, .slice A1 tt.ty.kids.length c1, .slice A2 tt.inst.length c2, .slice A3 tt.vars.length c3, .slice A4 tt.kids.length c4]]) (by simp [results, Tryz.results31, go_sem, hcrC, hcqC]) rfl ?_
    exact ⟨a0, a1, a2, a3, a4, a5, tt, A1, c1, A2, c2, A3, c3, A4, c4, rfl, HU.out, HATC.out, hbT, MC.out⟩
   ·
    try simp only [List.getElem_toArray, List.getElem_cons_succ, List.getElem_cons_zero]
    have hW := hyf w13 (hN13)
    have k8 := hW.1 8 (by omega)
    have kf := hW.2
    have kl : nb < w13.heap.size := by omega
    clear hW
    go_simp
    obtain ⟨w16, e16⟩ : ∃ x, x = setCells w13 nb (off + 8) [.slice (some ⟨bq, oq, none⟩) (n9 + 1) cq] := ⟨_, rfl⟩
    rw [show w13.setCell ⟨nb, off + 8, none⟩ (.slice (some ⟨bq, oq, none⟩) (n9 + 1) cq) = w16 from e16.symm]
    have E16 := LH e16
    have hbl : w16.heap[bq]? = w13.heap[bq]? := by rw [e16]; exact setCells_block _ _ _ _ bq (Ne.symm hnq1)
    have hz16 : w16.heap.size = w13.heap.size := by rw [e16]; exact setCells_size _ _ _ _
    clear e16 k8 kf kl
    replace p0 := (World.cell?_of_block (a := ⟨bq, oq + n9 * 4, none⟩) hbl).trans p0
    replace p1 := (World.cell?_of_block (a := ⟨bq, oq + n9 * 4 + 1, none⟩) hbl).trans p1
    replace p2 := (World.cell?_of_block (a := ⟨bq, oq + n9 * 4 + 2, none⟩) hbl).trans p2
    replace p3 := (World.cell?_of_block (a := ⟨bq, oq + n9 * 4 + 3, none⟩) hbl).trans p3
    replace pf := fun i => (World.frozen?_of_block (a := ⟨bq, i, none⟩) hbl).trans (pf i)
    replace pl : bq < w16.heap.size := by omega
    refine hK.out _ _ trivial (fun _ => ?_)
    clear hK K
    try simp only [List.getElem_toArray, List.getElem_cons_succ, List.getElem_cons_zero, Act.put, List.setIfInBounds_toArray, List.set_cons_zero, List.set_cons_succ]
    refine wpAnyT_step (i := 10) (by kernel_rfl) rfl (fun K hK => ?_)
    try simp only [List.getElem_toArray, List.getElem_cons_succ, List.getElem_cons_zero]
    go_simp
    rw [show ((((w16.setCell ⟨bq, oq + n9 * 4, none⟩ (.int .i64 ty.op)).setCell ⟨bq, oq + n9 * 4 + 1, none⟩ (.int .i64 ty.n)).setCell ⟨bq, oq + n9 * 4 + 2, none⟩ (.string ty.s)).setCell ⟨bq, oq + n9 * 4 + 3, none⟩ (.slice AY ty.kids.length cY)) = w15 by
      rw [E15.out, E14.out, setCells_comm (Ne.symm hnq1), ← E16.out]
      rfl]
    clear p0 p1 p2 p3 pf pl
    refine hK.out _ _ trivial (fun _ => ?_)
    refine wpAnyT_done (by kernel_rfl) ?_ _
    clear hK K hbl E16
    clear E14 E15 K10 K11 K12 K13 K14 K15 HA HY12 HIN HIN10 HIN11 HIN12 HBL PN9 PN10 PR10 PN11 PR11 PN12 PR12 Rr9 Rq9 Rp9 Rr10 Rq10 Rp10 Rr11 Rq11 Rp11 Rr12 Rq12 Rp12 Rr13 Rq13 Rp13 Rr14 Rq14 Rp14 M9 M10 M11 M12 M13 M14 Rz12
    go_upto_region 20 with (fail)
    obtain ⟨cT, tt, A1, c1, A2, c2, A3, c3, A4, c4, hrT, hcT, hatT, hbT⟩ := rootRead PT15.out PR9.out.2.1 (fun b hb => ⟨by have h1 := hb.1; omega, by have h2 := hb.2; omega⟩)
    have HAT := LH hatT
    have q0 := hcT 0 _ rfl
    have q1 := hcT 1 _ rfl
    have q2 := hcT 2 _ rfl
    have q3 := hcT 3 _ rfl
    have q4 := hcT 4 _ rfl
    have q5 := hcT 5 _ rfl
    have q6 := hcT 6 _ rfl
    have q7 := hcT 7 _ rfl
    have q8 := hcT 8 _ rfl
    have q9 := hcT 9 _ rfl
    have q10 := hcT 10 _ rfl
    clear hcT hatT
    have hqlt : w3.heap.size + 1 ≠ w.heap.size ∧ w3.heap.size + 1 ≠ w.heap.size + 1 := by omega
    have RT := LH hrT
    clear hrT
    refine wp_region_T (fun x => Row x w3.heap.size 64 #[a0, a1, a2, a3, a4, a5] ∧ Row x (w3.heap.size + 1) 40 cT) 100 (by kernel_rfl) ?_
    obtain ⟨wA, eA⟩ : ∃ x, x = w15.drew := ⟨_, rfl⟩
    rw [← eA]
    have KA := LH (show Below w15.heap.size w15 wA by rw [eA]; exact (Below.refl _ _).drew)
    have hzA : wA.heap.size ≤ w15.heap.size ∧ w15.heap.size ≤ wA.heap.size := by rw [eA]; exact ⟨Nat.le_refl _, Nat.le_refl _⟩
    clear eA
    have RrA := LH (Rr15.out.below KA.out Rr15.out.lt)
    have RqA := LH (Rq15.out.below KA.out Rq15.out.lt)
    have RpA := Rp15.out.below KA.out Rp15.out.lt
    have RtA := RT.out.below KA.out RT.out.lt
    have HATA := LH (HAT.out.keep (w' := wA) (S' := InL w2.heap.size wA) fun b hb => ⟨⟨hb.1, by have := hb.2; omega⟩, KA.out.block b hb.2⟩)
    have MA := LH (M15.out.below KA.out)
    clear KA HAT RT
    refine wpAnyT_tk (i := 0) (oi := _) (v := ?tvz31) rfl (Or.inl ⟨by rfl, ?thz31⟩) ⟨RpA, RtA⟩ ?_
    case thz31 => (intro x hSx; have hcS := fun i => hSx.1.cell i; clear hSx; go_simp; (try with_reducible rfl))
    try simp only [List.getElem_toArray, List.getElem_cons_succ, List.getElem_cons_zero, Act.put, List.setIfInBounds_toArray, List.set_cons_zero, List.set_cons_succ]
    refine wpAnyT_tk (i := 1) (oi := _) (v := ?tvz32) rfl (Or.inl ⟨by rfl, ?thz32⟩) ⟨RpA, RtA⟩ ?_
    case thz32 => (intro x hSx; have hcS := fun i => hSx.2.cell i; clear hSx; go_simp; (try with_reducible rfl))
    try simp only [List.getElem_toArray, List.getElem_cons_succ, List.getElem_cons_zero, Act.put, List.setIfInBounds_toArray, List.set_cons_zero, List.set_cons_succ]
    have hcrA := fun i => RrA.out.cell i
    have hfrA := fun i => RrA.out.frozen i
    have hlrA := RrA.out.lt
    refine wpAnyT_step (i := 2) (by kernel_rfl) rfl (fun K hK => ?_)
    try simp only [List.getElem_toArray, List.getElem_cons_succ, List.getElem_cons_zero]
    go_simp
    obtain ⟨wB, eB, RrB, hzB, KB⟩ := storedSix RrA.out a0 a1 a2 a3 a4 a5
    rw [← eB]
    clear eB hcrA hfrA
    have RpB := KB.out.row RpA (by omega)
    have RtB := KB.out.row RtA (by omega)
    have RqB := LH (KB.out.row RqA.out (by omega))
    have HATB := LH (HATA.out.keep (w' := wB) (S' := InL w2.heap.size wB) fun b hb => ⟨⟨hb.1, by have := hb.2; omega⟩, KB.out.block b hb.2 (by have := hb.1; omega)⟩)
    have MB := LH (MA.out.chg KB.out (by omega) (by omega))
    clear RrA RqA MA HATA
    refine hK.out _ _ ⟨RpB, RtB⟩ (fun _ => ?_)
    clear hK K
    try simp only [List.getElem_toArray, List.getElem_cons_succ, List.getElem_cons_zero, Act.put, List.setIfInBounds_toArray, List.set_cons_zero, List.set_cons_succ]
    have hcqB := fun i => RqB.out.cell i
    have hfqB := fun i => RqB.out.frozen i
    have hlqB := RqB.out.lt
    refine wpAnyT_step (i := 3) (by kernel_rfl) rfl (fun K hK => ?_)
    try simp only [List.getElem_toArray, List.getElem_cons_succ, List.getElem_cons_zero]
    go_simp
    obtain ⟨wC, eC, RqC, hzC, KC⟩ := storedEleven RqB.out (.int .i64 tt.op) (.int .i64 tt.n) (.string tt.s) (.string tt.t) (.int .i64 tt.ty.op) (.int .i64 tt.ty.n) (.string tt.ty.s) (.slice A1 tt.ty.kids.length c1) (.slice A2 tt.inst.length c2) (.slice A3 tt.vars.length c3) (.slice A4 tt.kids.length c4)
    rw [← eC]
    clear eC hcqB hfqB
    have RpC := KC.out.row RpB (by omega)
    have RtC := KC.out.row RtB (by omega)
    have RrC := LH (KC.out.row RrB.out (by omega))
    have HATC := LH (HATB.out.keep (w' := wC) (S' := InL w.heap.size wC) fun b hb => ⟨⟨by have h1 := hb.1; omega, by have h2 := hb.2; omega⟩, KC.out.block b hb.2 (by have := hb.1; omega)⟩)
    have MC := LH (MB.out.chg KC.out (by omega) (by omega))
    clear RrB RqB MB HATB
    refine hK.out _ _ ⟨RpC, RtC⟩ (fun _ => ?_)
    refine wpAnyT_done (by kernel_rfl) ?_ _
    clear hK K RpA RtA RpB RtB RpC RtC
    have hcrC := fun i => RrC.out.cell i
    have hcqC := fun i => RqC.out.cell i
    go_wp2_with fail
    show BP _ _
    rw [HBP.out]
    refine bodyPost_ret (v := .tuple #[.agg #[a0, a1, a2, a3, a4, a5], .agg #[.int .i64 tt.op, .int .i64 tt.n, .string tt.s, .string tt.t, .int .i64 tt.ty.op, .int .i64 tt.ty.n, .string tt.ty.s, .slice A1 tt.ty.kids.length c1, .slice A2 tt.inst.length c2, .slice A3 tt.vars.length c3, .slice A4 tt.kids.length c4]]) (by simp [results, Tryz.results31, go_sem, hcrC, hcqC]) rfl ?_
    exact ⟨a0, a1, a2, a3, a4, a5, tt, A1, c1, A2, c2, A3, c3, A4, c4, rfl, HU.out, HATC.out, hbT, MC.out⟩
  ·
   try simp only [List.getElem_toArray, List.getElem_cons_succ, List.getElem_cons_zero]
   go_simp
   obtain ⟨w11, e11, Rz11, hz11, K11⟩ := boxed w10 27 #[.int .i64 0, .int .i64 0, .string ⟨#[]⟩, .slice none 0 0]
   have KB11 := LH (show Below w10.heap.size w10 w11 by rw [e11]; exact (Below.refl _ _).alloc (Nat.le_refl _) _)
   rw [← e11]
   clear e11
   have Rr11 := LH (K11.out.row Rr10.out (by omega))
   have Rq11 := LH (K11.out.row Rq10.out (by omega))
   have Rp11 := LH (K11.out.row Rp10.out (by omega))
   have PR11 := LH (PR10.out.below KB11.out)
   have PN11 := LH (PN10.out.below KB11.out)
   have M11 := LH (M10.out.below KB11.out)
   have HIN11 := LH (HIN10.out.below KB11.out)
   have hN11 : w11.heap[nb]? = w9.heap[nb]? := (KB11.out.block nb (by omega)).trans hN10
   have hS11 : w11.cell? ⟨nb, off + 8, none⟩ = some (.slice A9 n9 c9) := (World.cell?_of_block (a := ⟨nb, off + 8, none⟩) (KB11.out.block nb (by omega))).trans hSc10
   refine hK.out _ _ hS11 (fun hSc11 => ?_)
   clear hK K hS11
   try simp only [List.getElem_toArray, List.getElem_cons_succ, List.getElem_cons_zero, Act.put, List.setIfInBounds_toArray, List.set_cons_zero, List.set_cons_succ]
   rw [hz10] at Rz11
   refine wpAnyU_step (i := 5) (by kernel_rfl) rfl (fun K hK => ?_)
   try simp only [List.getElem_toArray, List.getElem_cons_succ, List.getElem_cons_zero]
   go_simp
   refine (drawTyD M11.out 1 1 (by rfl) (by omega)).mono ?_
   rintro e w12 ⟨ty, AY, cY, rfl, hyb, hyat, hm12⟩
   have hz12 := hm12.size
   have K12 := LH hm12.bx
   have Rr12 := LH (K12.out.row Rr11.out (by omega))
   have Rq12 := LH (K12.out.row Rq11.out (by omega))
   have Rp12 := LH (K12.out.row Rp11.out (by omega))
   have PR12 := LH (PR11.out.dm M11.out hm12)
   have PN12 := LH (PN11.out.dm M11.out hm12)
   have hS12 := (PN11.out.cell M11.out hm12 (off + 8)).trans hSc11
   have M12 := LH (M11.out.trans hm12)
   have HIN12 := LH (HIN11.out.dm (.inr rfl) M11.out hm12)
   have hN12 : w12.heap[nb]? = w9.heap[nb]? := (K12.out.block nb (by omega) hnng).trans hN11
   have HY12 := LH hyat
   clear hm12 hyat
   try simp only [List.getElem_toArray, List.getElem_cons_succ, List.getElem_cons_zero]
   go_simp
   refine hK.out _ _ hS12 (fun hSc12 => ?_)
   clear hK K hS12
   try simp only [List.getElem_toArray, List.getElem_cons_succ, List.getElem_cons_zero, Act.put, List.setIfInBounds_toArray, List.set_cons_zero, List.set_cons_succ]
   have Rz12 := LH (K12.out.row Rz11.out (by omega))
   clear Rz11 KB11
   refine wpAnyU_now 100 (by kernel_rfl) rfl (fun K hK => ?_)
   try simp only [List.getElem_toArray, List.getElem_cons_succ, List.getElem_cons_zero]
   rw [if_pos (by rfl)]
   refine wp_append_row w12 (.tmp 30) (.tmp 34) 25 (by rfl) 27 (.agg #[.int .i64 0, .int .i64 0, .string ⟨#[]⟩, .slice none 0 0]) 4 56 Tryz.underlying25 (by kernel_rfl) rfl (by omega) HIN12.out (by omega) (by omega) Rz12.out rfl (by simp [Value.oneCell']) (by rfl) (by rfl) ?_
   intro bq oq cq csq w13 ha hnews
   try simp only [Act.put, List.setIfInBounds_toArray, List.set_cons_zero, List.set_cons_succ]
   have HA := LH ha
   have hbq : w2.heap.size ≤ bq := (ha.rwl (lo := w2.heap.size) (by omega) fun b o c e => ⟨(HBL.out b o c e).1, by have := (HBL.out b o c e).2; omega⟩).1
   have hbq2 : bq < w9.heap.size ∨ w12.heap.size ≤ bq := by
    rcases ha.frm with h | ⟨_, ⟨c0, h⟩, _⟩
    · exact .inr h
    · exact .inl (HBL.out _ _ _ h).2
   have hz13 := ha.bx.size
   have K13 := LH ha.bx
   have hnq := ha.far (hN12.trans hcN.2) (by decide)
   have hnq1 := hnq.1
   have hntq : w3.heap.size ≠ bq := (ha.far Rp12.out (by decide)).1
   have hN13 : w13.heap[nb]? = w9.heap[nb]? := hnq.2.trans hcN.2.symm
   have Rr13 := LH (ha.far Rr12.out (by decide)).2
   have Rq13 := LH (ha.far Rq12.out (by decide)).2
   have Rp13 := LH (ha.far Rp12.out (by decide)).2
   have M13 := LH (M12.out.chg K13.out (by omega) (by omega))
   have p0 : w13.cell? ⟨bq, oq + n9 * 4, none⟩ = some (.int .i64 0) := (ha.row.cell _).trans (hnews 0 (by omega))
   have p1 : w13.cell? ⟨bq, oq + n9 * 4 + 1, none⟩ = some (.int .i64 0) := (ha.row.cell _).trans (hnews 1 (by omega))
   have p2 : w13.cell? ⟨bq, oq + n9 * 4 + 2, none⟩ = some (.string ⟨#[]⟩) := (ha.row.cell _).trans (hnews 2 (by omega))
   have p3 : w13.cell? ⟨bq, oq + n9 * 4 + 3, none⟩ = some (.slice none 0 0) := (ha.row.cell _).trans (hnews 3 (by omega))
   have pf := fun i => ha.row.frozen i
   have pl := ha.row.lt
   have hcap := ha.cap
   have hle := ha.le
   have hcap := ha.cap
   have hle := ha.le
   have hbnd : oq + n9 * 4 + 4 ≤ csq.size := by omega
   clear ha hnews
   obtain ⟨w14, e14⟩ : ∃ x, x = setCells w13 bq (oq + n9 * 4) [.int .i64 ty.op, .int .i64 ty.n, .string ty.s, .slice AY ty.kids.length cY] := ⟨_, rfl⟩
   obtain ⟨w15, e15⟩ : ∃ x, x = setCells w14 nb (off + 8) [.slice (some ⟨bq, oq, none⟩) (n9 + 1) cq] := ⟨_, rfl⟩
   have E14 := LH e14
   have E15 := LH e15
   have K14 := LH (show Bx bq w13 w14 by rw [e14]; exact bxCells _ _ _ _)
   have K15 := LH (show Bx nb w14 w15 by rw [e15]; exact bxCells _ _ _ _)
   have hz14 : w14.heap.size = w13.heap.size := by rw [e14]; exact setCells_size _ _ _ _
   have hz15 : w15.heap.size = w14.heap.size := by rw [e15]; exact setCells_size _ _ _ _
   clear e14 e15
   have hrq : w.heap.size ≠ bq ∧ w.heap.size + 1 ≠ bq := by omega
   have htq : w3.heap.size ≠ bq := hntq
   have Rr14 := LH (K14.out.row Rr13.out (by omega))
   have Rq14 := LH (K14.out.row Rq13.out (by omega))
   have Rp14 := LH (K14.out.row Rp13.out (by omega))
   have Rr15 := LH (K15.out.row Rr14.out (by omega))
   have Rq15 := LH (K15.out.row Rq14.out (by omega))
   have Rp15 := LH (K15.out.row Rp14.out (by omega))
   have M14 := LH (M13.out.chg K14.out (by omega) (by omega))
   have M15 := LH (M14.out.chg K15.out (by omega) (by omega))
   obtain ⟨csr, u1, u2, u3, u4⟩ := setCells_row HA.out.row (oq + n9 * 4) [.int .i64 ty.op, .int .i64 ty.n, .string ty.s, .slice AY ty.kids.length cY]
   rw [← E14.out] at u1
   have HA2 := LH (HA.out.write u1 u2 K14.out (fun i hi => u3 i (by simp; omega)))
   have HNT := LH (newTy_of (w' := w14) (Fr' := Btw w11.heap.size w12.heap.size) (dk := 100) (get := fun i => csr[oq + n9 * 4 + i]?) HY12.out (fun b hb => ⟨hb, by
     have h1 := hb.1
     have h2 := hb.2
     exact (K14.out.block b (by omega) (by omega)).trans (K13.out.block b (by omega) (by omega))⟩) hyb (u4 0 _ rfl (by omega)) (u4 1 _ rfl (by omega)) (u4 2 _ rfl (by omega)) (u4 3 _ rfl (by omega)))
   clear u1 u2 u3 u4
   have PT15 := LH (PR12.out.1.turn (PN12.out.putInst (by omega) (fun h => by have := h.1; omega) HA2.out hSc12 HNT.out E15.out))
   have hdn : (n9 : Int) < (n9 : Int) + 1 := by omega
   have ddn : decide ((n9 : Int) < (n9 : Int) + 1) = true := decide_eq_true hdn
   clear HA2 HNT
   refine hK.out _ _ ?_
   clear hK K
   try simp only [List.getElem_toArray, List.getElem_cons_succ, List.getElem_cons_zero, Act.put, List.setIfInBounds_toArray, List.set_cons_zero, List.set_cons_succ]
   refine wpAnyT_tk (i := 9) (oi := _) (v := ?tvk10) rfl (Or.inl ⟨by rfl, ?thk10⟩) trivial ?_
   case thk10 => (intro x hSx; (try dsimp only at hSx); go_simp; (try with_reducible rfl))
   try simp only [List.getElem_toArray, List.getElem_cons_succ, List.getElem_cons_zero, Act.put, List.setIfInBounds_toArray, List.set_cons_zero, List.set_cons_succ]
   refine wpAnyT_tk (i := 11) (oi := _) (v := ?tvk11) rfl (Or.inl ⟨by rfl, ?thk11⟩) trivial ?_
   case thk11 => (intro x hSx; (try dsimp only at hSx); go_simp; (try with_reducible rfl))
   try simp only [List.getElem_toArray, List.getElem_cons_succ, List.getElem_cons_zero, Act.put, List.setIfInBounds_toArray, List.set_cons_zero, List.set_cons_succ]
   refine wpAnyT_tk (i := 12) (oi := _) (v := ?tvk12) rfl (Or.inl ⟨by rfl, ?thk12⟩) trivial ?_
   case thk12 => (intro x hSx; (try dsimp only at hSx); go_simp; (try with_reducible rfl))
   try simp only [List.getElem_toArray, List.getElem_cons_succ, List.getElem_cons_zero, Act.put, List.setIfInBounds_toArray, List.set_cons_zero, List.set_cons_succ]
   refine wpAnyT_two (i := 10) (j := 13) (by kernel_rfl) rfl rfl (fun K hK => ?_) (fun K hK => ?_)
   ·
    try simp only [List.getElem_toArray, List.getElem_cons_succ, List.getElem_cons_zero]
    go_simp
    rw [show ((((w13.setCell ⟨bq, oq + n9 * 4, none⟩ (.int .i64 ty.op)).setCell ⟨bq, oq + n9 * 4 + 1, none⟩ (.int .i64 ty.n)).setCell ⟨bq, oq + n9 * 4 + 2, none⟩ (.string ty.s)).setCell ⟨bq, oq + n9 * 4 + 3, none⟩ (.slice AY ty.kids.length cY)) = w14 from E14.out.symm]
    clear p0 p1 p2 p3 pf pl
    refine hK.out _ _ trivial (fun _ => ?_)
    clear hK K
    try simp only [List.getElem_toArray, List.getElem_cons_succ, List.getElem_cons_zero, Act.put, List.setIfInBounds_toArray, List.set_cons_zero, List.set_cons_succ]
    have hW := hyf w14 ((K14.out.block nb (by omega) hnq1).trans hN13)
    have k8 := hW.1 8 (by omega)
    have kf := hW.2
    have kl : nb < w14.heap.size := by omega
    clear hW
    refine wpAnyT_step (i := 13) (by kernel_rfl) rfl (fun K hK => ?_)
    try simp only [List.getElem_toArray, List.getElem_cons_succ, List.getElem_cons_zero]
    go_simp
    rw [show w14.setCell ⟨nb, off + 8, none⟩ (.slice (some ⟨bq, oq, none⟩) (n9 + 1) cq) = w15 from E15.out.symm]
    clear k8 kf kl
    refine hK.out _ _ trivial (fun _ => ?_)
    refine wpAnyT_done (by kernel_rfl) ?_ _
    clear hK K
    clear E14 E15 K10 K11 K12 K13 K14 K15 HA HY12 HIN HIN10 HIN11 HIN12 HBL PN9 PN10 PR10 PN11 PR11 PN12 PR12 Rr9 Rq9 Rp9 Rr10 Rq10 Rp10 Rr11 Rq11 Rp11 Rr12 Rq12 Rp12 Rr13 Rq13 Rp13 Rr14 Rq14 Rp14 M9 M10 M11 M12 M13 M14 Rz12
    go_upto_region 20 with (fail)
    obtain ⟨cT, tt, A1, c1, A2, c2, A3, c3, A4, c4, hrT, hcT, hatT, hbT⟩ := rootRead PT15.out PR9.out.2.1 (fun b hb => ⟨by have h1 := hb.1; omega, by have h2 := hb.2; omega⟩)
    have HAT := LH hatT
    have q0 := hcT 0 _ rfl
    have q1 := hcT 1 _ rfl
    have q2 := hcT 2 _ rfl
    have q3 := hcT 3 _ rfl
    have q4 := hcT 4 _ rfl
    have q5 := hcT 5 _ rfl
    have q6 := hcT 6 _ rfl
    have q7 := hcT 7 _ rfl
    have q8 := hcT 8 _ rfl
    have q9 := hcT 9 _ rfl
    have q10 := hcT 10 _ rfl
    clear hcT hatT
    have hqlt : w3.heap.size + 1 ≠ w.heap.size ∧ w3.heap.size + 1 ≠ w.heap.size + 1 := by omega
    have RT := LH hrT
    clear hrT
    refine wp_region_T (fun x => Row x w3.heap.size 64 #[a0, a1, a2, a3, a4, a5] ∧ Row x (w3.heap.size + 1) 40 cT) 100 (by kernel_rfl) ?_
    obtain ⟨wA, eA⟩ : ∃ x, x = w15.drew := ⟨_, rfl⟩
    rw [← eA]
    have KA := LH (show Below w15.heap.size w15 wA by rw [eA]; exact (Below.refl _ _).drew)
    have hzA : wA.heap.size ≤ w15.heap.size ∧ w15.heap.size ≤ wA.heap.size := by rw [eA]; exact ⟨Nat.le_refl _, Nat.le_refl _⟩
    clear eA
    have RrA := LH (Rr15.out.below KA.out Rr15.out.lt)
    have RqA := LH (Rq15.out.below KA.out Rq15.out.lt)
    have RpA := Rp15.out.below KA.out Rp15.out.lt
    have RtA := RT.out.below KA.out RT.out.lt
    have HATA := LH (HAT.out.keep (w' := wA) (S' := InL w2.heap.size wA) fun b hb => ⟨⟨hb.1, by have := hb.2; omega⟩, KA.out.block b hb.2⟩)
    have MA := LH (M15.out.below KA.out)
    clear KA HAT RT
    refine wpAnyT_tk (i := 0) (oi := _) (v := ?tvz41) rfl (Or.inl ⟨by rfl, ?thz41⟩) ⟨RpA, RtA⟩ ?_
    case thz41 => (intro x hSx; have hcS := fun i => hSx.1.cell i; clear hSx; go_simp; (try with_reducible rfl))
    try simp only [List.getElem_toArray, List.getElem_cons_succ, List.getElem_cons_zero, Act.put, List.setIfInBounds_toArray, List.set_cons_zero, List.set_cons_succ]
    refine wpAnyT_tk (i := 1) (oi := _) (v := ?tvz42) rfl (Or.inl ⟨by rfl, ?thz42⟩) ⟨RpA, RtA⟩ ?_
    case thz42 => (intro x hSx; have hcS := fun i => hSx.2.cell i; clear hSx; go_simp; (try with_reducible rfl))
    try simp only [List.getElem_toArray, List.getElem_cons_succ, List.getElem_cons_zero, Act.put, List.setIfInBounds_toArray, List.set_cons_zero, List.set_cons_succ]
    have hcrA := fun i => RrA.out.cell i
    have hfrA := fun i => RrA.out.frozen i
    have hlrA := RrA.out.lt
    refine wpAnyT_step (i := 2) (by kernel_rfl) rfl (fun K hK => ?_)
    try simp only [List.getElem_toArray, List.getElem_cons_succ, List.getElem_cons_zero]
    go_simp
    obtain ⟨wB, eB, RrB, hzB, KB⟩ := storedSix RrA.out a0 a1 a2 a3 a4 a5
    rw [← eB]
    clear eB hcrA hfrA
    have RpB := KB.out.row RpA (by omega)
    have RtB := KB.out.row RtA (by omega)
    have RqB := LH (KB.out.row RqA.out (by omega))
    have HATB := LH (HATA.out.keep (w' := wB) (S' := InL w2.heap.size wB) fun b hb => ⟨⟨hb.1, by have := hb.2; omega⟩, KB.out.block b hb.2 (by have := hb.1; omega)⟩)
    have MB := LH (MA.out.chg KB.out (by omega) (by omega))
    clear RrA RqA MA HATA
    refine hK.out _ _ ⟨RpB, RtB⟩ (fun _ => ?_)
    clear hK K
    try simp only [List.getElem_toArray, List.getElem_cons_succ, List.getElem_cons_zero, Act.put, List.setIfInBounds_toArray, List.set_cons_zero, List.set_cons_succ]
    have hcqB := fun i => RqB.out.cell i
    have hfqB := fun i => RqB.out.frozen i
    have hlqB := RqB.out.lt
    refine wpAnyT_step (i := 3) (by kernel_rfl) rfl (fun K hK => ?_)
    try simp only [List.getElem_toArray, List.getElem_cons_succ, List.getElem_cons_zero]
    go_simp
    obtain ⟨wC, eC, RqC, hzC, KC⟩ := storedEleven RqB.out (.int .i64 tt.op) (.int .i64 tt.n) (.string tt.s) (.string tt.t) (.int .i64 tt.ty.op) (.int .i64 tt.ty.n) (.string tt.ty.s) (.slice A1 tt.ty.kids.length c1) (.slice A2 tt.inst.length c2) (.slice A3 tt.vars.length c3) (.slice A4 tt.kids.length c4)
    rw [← eC]
    clear eC hcqB hfqB
    have RpC := KC.out.row RpB (by omega)
    have RtC := KC.out.row RtB (by omega)
    have RrC := LH (KC.out.row RrB.out (by omega))
    have HATC := LH (HATB.out.keep (w' := wC) (S' := InL w.heap.size wC) fun b hb => ⟨⟨by have h1 := hb.1; omega, by have h2 := hb.2; omega⟩, KC.out.block b hb.2 (by have := hb.1; omega)⟩)
    have MC := LH (MB.out.chg KC.out (by omega) (by omega))
    clear RrB RqB MB HATB
    refine hK.out _ _ ⟨RpC, RtC⟩ (fun _ => ?_)
    refine wpAnyT_done (by kernel_rfl) ?_ _
    clear hK K RpA RtA RpB RtB RpC RtC
    have hcrC := fun i => RrC.out.cell i
    have hcqC := fun i => RqC.out.cell i
    go_wp2_with fail
    show BP _ _
    rw [HBP.out]
    refine bodyPost_ret (v := .tuple #[.agg #[a0, a1, a2, a3, a4, a5], .agg #[.int .i64 tt.op, .int .i64 tt.n, .string tt.s, .string tt.t, .int .i64 tt.ty.op, .int .i64 tt.ty.n, .string tt.ty.s, .slice A1 tt.ty.kids.length c1, .slice A2 tt.inst.length c2, .slice A3 tt.vars.length c3, .slice A4 tt.kids.length c4]]) (by simp [results, Tryz.results31, go_sem, hcrC, hcqC]) rfl ?_
    exact ⟨a0, a1, a2, a3, a4, a5, tt, A1, c1, A2, c2, A3, c3, A4, c4, rfl, HU.out, HATC.out, hbT, MC.out⟩
   ·
    try simp only [List.getElem_toArray, List.getElem_cons_succ, List.getElem_cons_zero]
    have hW := hyf w13 (hN13)
    have k8 := hW.1 8 (by omega)
    have kf := hW.2
    have kl : nb < w13.heap.size := by omega
    clear hW
    go_simp
    obtain ⟨w16, e16⟩ : ∃ x, x = setCells w13 nb (off + 8) [.slice (some ⟨bq, oq, none⟩) (n9 + 1) cq] := ⟨_, rfl⟩
    rw [show w13.setCell ⟨nb, off + 8, none⟩ (.slice (some ⟨bq, oq, none⟩) (n9 + 1) cq) = w16 from e16.symm]
    have E16 := LH e16
    have hbl : w16.heap[bq]? = w13.heap[bq]? := by rw [e16]; exact setCells_block _ _ _ _ bq (Ne.symm hnq1)
    have hz16 : w16.heap.size = w13.heap.size := by rw [e16]; exact setCells_size _ _ _ _
    clear e16 k8 kf kl
    replace p0 := (World.cell?_of_block (a := ⟨bq, oq + n9 * 4, none⟩) hbl).trans p0
    replace p1 := (World.cell?_of_block (a := ⟨bq, oq + n9 * 4 + 1, none⟩) hbl).trans p1
    replace p2 := (World.cell?_of_block (a := ⟨bq, oq + n9 * 4 + 2, none⟩) hbl).trans p2
    replace p3 := (World.cell?_of_block (a := ⟨bq, oq + n9 * 4 + 3, none⟩) hbl).trans p3
    replace pf := fun i => (World.frozen?_of_block (a := ⟨bq, i, none⟩) hbl).trans (pf i)
    replace pl : bq < w16.heap.size := by omega
    refine hK.out _ _ trivial (fun _ => ?_)
    clear hK K
    try simp only [List.getElem_toArray, List.getElem_cons_succ, List.getElem_cons_zero, Act.put, List.setIfInBounds_toArray, List.set_cons_zero, List.set_cons_succ]
    refine wpAnyT_step (i := 10) (by kernel_rfl) rfl (fun K hK => ?_)
    try simp only [List.getElem_toArray, List.getElem_cons_succ, List.getElem_cons_zero]
    go_simp
    rw [show ((((w16.setCell ⟨bq, oq + n9 * 4, none⟩ (.int .i64 ty.op)).setCell ⟨bq, oq + n9 * 4 + 1, none⟩ (.int .i64 ty.n)).setCell ⟨bq, oq + n9 * 4 + 2, none⟩ (.string ty.s)).setCell ⟨bq, oq + n9 * 4 + 3, none⟩ (.slice AY ty.kids.length cY)) = w15 by
      rw [E15.out, E14.out, setCells_comm (Ne.symm hnq1), ← E16.out]
      rfl]
    clear p0 p1 p2 p3 pf pl
    refine hK.out _ _ trivial (fun _ => ?_)
    refine wpAnyT_done (by kernel_rfl) ?_ _
    clear hK K hbl E16
    clear E14 E15 K10 K11 K12 K13 K14 K15 HA HY12 HIN HIN10 HIN11 HIN12 HBL PN9 PN10 PR10 PN11 PR11 PN12 PR12 Rr9 Rq9 Rp9 Rr10 Rq10 Rp10 Rr11 Rq11 Rp11 Rr12 Rq12 Rp12 Rr13 Rq13 Rp13 Rr14 Rq14 Rp14 M9 M10 M11 M12 M13 M14 Rz12
    go_upto_region 20 with (fail)
    obtain ⟨cT, tt, A1, c1, A2, c2, A3, c3, A4, c4, hrT, hcT, hatT, hbT⟩ := rootRead PT15.out PR9.out.2.1 (fun b hb => ⟨by have h1 := hb.1; omega, by have h2 := hb.2; omega⟩)
    have HAT := LH hatT
    have q0 := hcT 0 _ rfl
    have q1 := hcT 1 _ rfl
    have q2 := hcT 2 _ rfl
    have q3 := hcT 3 _ rfl
    have q4 := hcT 4 _ rfl
    have q5 := hcT 5 _ rfl
    have q6 := hcT 6 _ rfl
    have q7 := hcT 7 _ rfl
    have q8 := hcT 8 _ rfl
    have q9 := hcT 9 _ rfl
    have q10 := hcT 10 _ rfl
    clear hcT hatT
    have hqlt : w3.heap.size + 1 ≠ w.heap.size ∧ w3.heap.size + 1 ≠ w.heap.size + 1 := by omega
    have RT := LH hrT
    clear hrT
    refine wp_region_T (fun x => Row x w3.heap.size 64 #[a0, a1, a2, a3, a4, a5] ∧ Row x (w3.heap.size + 1) 40 cT) 100 (by kernel_rfl) ?_
    obtain ⟨wA, eA⟩ : ∃ x, x = w15.drew := ⟨_, rfl⟩
    rw [← eA]
    have KA := LH (show Below w15.heap.size w15 wA by rw [eA]; exact (Below.refl _ _).drew)
    have hzA : wA.heap.size ≤ w15.heap.size ∧ w15.heap.size ≤ wA.heap.size := by rw [eA]; exact ⟨Nat.le_refl _, Nat.le_refl _⟩
    clear eA
    have RrA := LH (Rr15.out.below KA.out Rr15.out.lt)
    have RqA := LH (Rq15.out.below KA.out Rq15.out.lt)
    have RpA := Rp15.out.below KA.out Rp15.out.lt
    have RtA := RT.out.below KA.out RT.out.lt
    have HATA := LH (HAT.out.keep (w' := wA) (S' := InL w2.heap.size wA) fun b hb => ⟨⟨hb.1, by have := hb.2; omega⟩, KA.out.block b hb.2⟩)
    have MA := LH (M15.out.below KA.out)
    clear KA HAT RT
    refine wpAnyT_tk (i := 0) (oi := _) (v := ?tvz51) rfl (Or.inl ⟨by rfl, ?thz51⟩) ⟨RpA, RtA⟩ ?_
    case thz51 => (intro x hSx; have hcS := fun i => hSx.1.cell i; clear hSx; go_simp; (try with_reducible rfl))
    try simp only [List.getElem_toArray, List.getElem_cons_succ, List.getElem_cons_zero, Act.put, List.setIfInBounds_toArray, List.set_cons_zero, List.set_cons_succ]
    refine wpAnyT_tk (i := 1) (oi := _) (v := ?tvz52) rfl (Or.inl ⟨by rfl, ?thz52⟩) ⟨RpA, RtA⟩ ?_
    case thz52 => (intro x hSx; have hcS := fun i => hSx.2.cell i; clear hSx; go_simp; (try with_reducible rfl))
    try simp only [List.getElem_toArray, List.getElem_cons_succ, List.getElem_cons_zero, Act.put, List.setIfInBounds_toArray, List.set_cons_zero, List.set_cons_succ]
    have hcrA := fun i => RrA.out.cell i
    have hfrA := fun i => RrA.out.frozen i
    have hlrA := RrA.out.lt
    refine wpAnyT_step (i := 2) (by kernel_rfl) rfl (fun K hK => ?_)
    try simp only [List.getElem_toArray, List.getElem_cons_succ, List.getElem_cons_zero]
    go_simp
    obtain ⟨wB, eB, RrB, hzB, KB⟩ := storedSix RrA.out a0 a1 a2 a3 a4 a5
    rw [← eB]
    clear eB hcrA hfrA
    have RpB := KB.out.row RpA (by omega)
    have RtB := KB.out.row RtA (by omega)
    have RqB := LH (KB.out.row RqA.out (by omega))
    have HATB := LH (HATA.out.keep (w' := wB) (S' := InL w2.heap.size wB) fun b hb => ⟨⟨hb.1, by have := hb.2; omega⟩, KB.out.block b hb.2 (by have := hb.1; omega)⟩)
    have MB := LH (MA.out.chg KB.out (by omega) (by omega))
    clear RrA RqA MA HATA
    refine hK.out _ _ ⟨RpB, RtB⟩ (fun _ => ?_)
    clear hK K
    try simp only [List.getElem_toArray, List.getElem_cons_succ, List.getElem_cons_zero, Act.put, List.setIfInBounds_toArray, List.set_cons_zero, List.set_cons_succ]
    have hcqB := fun i => RqB.out.cell i
    have hfqB := fun i => RqB.out.frozen i
    have hlqB := RqB.out.lt
    refine wpAnyT_step (i := 3) (by kernel_rfl) rfl (fun K hK => ?_)
    try simp only [List.getElem_toArray, List.getElem_cons_succ, List.getElem_cons_zero]
    go_simp
    obtain ⟨wC, eC, RqC, hzC, KC⟩ := storedEleven RqB.out (.int .i64 tt.op) (.int .i64 tt.n) (.string tt.s) (.string tt.t) (.int .i64 tt.ty.op) (.int .i64 tt.ty.n) (.string tt.ty.s) (.slice A1 tt.ty.kids.length c1) (.slice A2 tt.inst.length c2) (.slice A3 tt.vars.length c3) (.slice A4 tt.kids.length c4)
    rw [← eC]
    clear eC hcqB hfqB
    have RpC := KC.out.row RpB (by omega)
    have RtC := KC.out.row RtB (by omega)
    have RrC := LH (KC.out.row RrB.out (by omega))
    have HATC := LH (HATB.out.keep (w' := wC) (S' := InL w.heap.size wC) fun b hb => ⟨⟨by have h1 := hb.1; omega, by have h2 := hb.2; omega⟩, KC.out.block b hb.2 (by have := hb.1; omega)⟩)
    have MC := LH (MB.out.chg KC.out (by omega) (by omega))
    clear RrB RqB MB HATB
    refine hK.out _ _ ⟨RpC, RtC⟩ (fun _ => ?_)
    refine wpAnyT_done (by kernel_rfl) ?_ _
    clear hK K RpA RtA RpB RtB RpC RtC
    have hcrC := fun i => RrC.out.cell i
    have hcqC := fun i => RqC.out.cell i
    go_wp2_with fail
    show BP _ _
    rw [HBP.out]
    refine bodyPost_ret (v := .tuple #[.agg #[a0, a1, a2, a3, a4, a5], .agg #[.int .i64 tt.op, .int .i64 tt.n, .string tt.s, .string tt.t, .int .i64 tt.ty.op, .int .i64 tt.ty.n, .string tt.ty.s, .slice A1 tt.ty.kids.length c1, .slice A2 tt.inst.length c2, .slice A3 tt.vars.length c3, .slice A4 tt.kids.length c4]]) (by simp [results, Tryz.results31, go_sem, hcrC, hcqC]) rfl ?_
    exact ⟨a0, a1, a2, a3, a4, a5, tt, A1, c1, A2, c2, A3, c3, A4, c4, rfl, HU.out, HATC.out, hbT, MC.out⟩
 by_cases x2 : x = 2
 ·
  have y2 : (x == 2) = true := beq_iff_eq.2 x2
  have y0 : (x == 0) = false := beq_eq_false_iff_ne.2 (by omega)
  have y1 : (x == 1) = false := beq_eq_false_iff_ne.2 (by omega)
  obtain ⟨A9, n9, c9, hc9, hn9, hin9, hbl9⟩ : ∃ A9 n9 c9, w9.cell? ⟨nb, off + 9, none⟩ = some (.slice A9 n9 c9) ∧ n9 ≤ 2400 ∧ InRow w9 3 1 (.slice A9 n9 c9) n9 ∧ ∀ b o c, Value.slice A9 n9 c9 = .slice (some ⟨b, o, none⟩) n9 c → w2.heap.size ≤ b ∧ b < w9.heap.size := by
   obtain ⟨op, n, s, t, βt, u8, β8, u9, β9, ⟨g0, g1, g2, g3, g8, g9⟩, f1, f2, f3, f4, f5, f6, f7, f8⟩ := hndN
   obtain ⟨A9, n9, c9, rfl, q1, q2, q3⟩ := f7.inRow
   exact ⟨A9, n9, c9, (hcN.cell _).trans g9, by omega, q2, q3⟩
  have HIN := LH hin9
  have HBL := LH hbl9
  clear hndN hin9 hbl9
  go_wp2_with fail
  refine wp_region_T (fun x => x.cell? ⟨nb, off + 9, none⟩ = some (.slice A9 n9 c9)) 11 (by kernel_rfl) ?_
  obtain ⟨w10, e10⟩ : ∃ x, x = w9.drew := ⟨_, rfl⟩
  rw [← e10]
  have K10 := LH (show Below w9.heap.size w9 w10 by rw [e10]; exact (Below.refl _ _).drew)
  have hz10 : w10.heap.size = w9.heap.size := by rw [e10]; rfl
  have hS1 : w10.cell? ⟨nb, off + 9, none⟩ = some (.slice A9 n9 c9) := by rw [e10]; exact hc9
  clear e10
  have Rr10 := LH (Rr9.out.below K10.out Rr9.out.lt)
  have Rq10 := LH (Rq9.out.below K10.out Rq9.out.lt)
  have Rp10 := LH (Rp9.out.below K10.out Rp9.out.lt)
  have PR10 := LH (PR9.out.below K10.out)
  have PN10 := LH (PN9.out.below K10.out)
  have M10 := LH (M9.out.below K10.out)
  refine wpAnyT_tk (i := 0) (oi := _) (v := ?tvb0) rfl (Or.inl ⟨by rfl, ?thb0⟩) hS1 ?_
  case thb0 => (intro x hSx; (try dsimp only at hSx); go_simp; (try with_reducible rfl))
  try simp only [List.getElem_toArray, List.getElem_cons_succ, List.getElem_cons_zero, Act.put, List.setIfInBounds_toArray, List.set_cons_zero, List.set_cons_succ]
  refine wpAnyT_tk (i := 1) (oi := _) (v := ?tvb1) rfl (Or.inl ⟨by rfl, ?thb1⟩) hS1 ?_
  case thb1 => (intro x hSx; (try dsimp only at hSx); go_simp; (try with_reducible rfl))
  try simp only [List.getElem_toArray, List.getElem_cons_succ, List.getElem_cons_zero, Act.put, List.setIfInBounds_toArray, List.set_cons_zero, List.set_cons_succ]
  refine wpAnyT_tk (i := 2) (oi := _) (v := ?tvb2) rfl (Or.inl ⟨by rfl, ?thb2⟩) hS1 ?_
  case thb2 => (intro x hSx; (try dsimp only at hSx); go_simp; (try with_reducible rfl))
  try simp only [List.getElem_toArray, List.getElem_cons_succ, List.getElem_cons_zero, Act.put, List.setIfInBounds_toArray, List.set_cons_zero, List.set_cons_succ]
  refine wpAnyT_tk (i := 3) (oi := _) (v := ?tvb3) rfl (Or.inl ⟨by rfl, ?thb3⟩) hS1 ?_
  case thb3 => (intro x hSx; (try dsimp only at hSx); go_simp; (try with_reducible rfl))
  try simp only [List.getElem_toArray, List.getElem_cons_succ, List.getElem_cons_zero, Act.put, List.setIfInBounds_toArray, List.set_cons_zero, List.set_cons_succ]
  refine wpAnyT_tk (i := 4) (oi := _) (v := ?tvb4) rfl (Or.inl ⟨by rfl, ?thb4⟩) hS1 ?_
  case thb4 => (intro x hSx; (try dsimp only at hSx); go_simp; (try with_reducible rfl))
  try simp only [List.getElem_toArray, List.getElem_cons_succ, List.getElem_cons_zero, Act.put, List.setIfInBounds_toArray, List.set_cons_zero, List.set_cons_succ]
  refine wpAnyT_tk (i := 5) (oi := _) (v := ?tvb5) rfl (Or.inl ⟨by rfl, ?thb5⟩) hS1 ?_
  case thb5 => (intro x hSx; (try dsimp only at hSx); go_simp; (try with_reducible rfl))
  try simp only [List.getElem_toArray, List.getElem_cons_succ, List.getElem_cons_zero, Act.put, List.setIfInBounds_toArray, List.set_cons_zero, List.set_cons_succ]
  refine wpAnyT_step (i := 6) (by kernel_rfl) rfl (fun K hK => ?_)
  try simp only [List.getElem_toArray, List.getElem_cons_succ, List.getElem_cons_zero]
  go_simp
  refine (drawBelowD M10.out 9 (by omega) (by omega)).mono ?_
  rintro e w11 ⟨yy, rfl, hyy, hm11⟩
  have hz11 := hm11.size
  have K11 := LH hm11.bx
  have Rr11 := LH (K11.out.row Rr10.out (by omega))
  have Rq11 := LH (K11.out.row Rq10.out (by omega))
  have Rp11 := LH (K11.out.row Rp10.out (by omega))
  have PR11 := LH (PR10.out.dm M10.out hm11)
  have PN11 := LH (PN10.out.dm M10.out hm11)
  have hS2 := (PN10.out.cell M10.out hm11 (off + 9)).trans hS1
  have M11 := LH (M10.out.trans hm11)
  have HIN11 := LH ((HIN.out.below K10.out).dm (.inl rfl) M10.out hm11)
  clear hm11
  try simp only [List.getElem_toArray, List.getElem_cons_succ, List.getElem_cons_zero]
  go_simp
  refine hK.out _ _ hS2 (fun hS3 => ?_)
  clear hK K hS1 hS2
  try simp only [List.getElem_toArray, List.getElem_cons_succ, List.getElem_cons_zero, Act.put, List.setIfInBounds_toArray, List.set_cons_zero, List.set_cons_succ]
  obtain ⟨w12, e12, Rz12, hz12, K12⟩ := boxed w11 3 #[.int .i64 yy]
  have KB12 := LH (show Below w11.heap.size w11 w12 by rw [e12]; exact (Below.refl _ _).alloc (Nat.le_refl _) _)
  refine wpAnyT_step (i := 7) (by kernel_rfl) rfl (fun K hK => ?_)
  try simp only [List.getElem_toArray, List.getElem_cons_succ, List.getElem_cons_zero]
  go_simp
  rw [← e12]
  clear e12
  have Rr12 := LH (K12.out.row Rr11.out (by omega))
  have Rq12 := LH (K12.out.row Rq11.out (by omega))
  have Rp12 := LH (K12.out.row Rp11.out (by omega))
  have PR12 := LH (PR11.out.below KB12.out)
  have PN12 := LH (PN11.out.below KB12.out)
  have M12 := LH (M11.out.below KB12.out)
  have HIN12 := LH (HIN11.out.below KB12.out)
  have hS4 : w12.cell? ⟨nb, off + 9, none⟩ = some (.slice A9 n9 c9) := (World.cell?_of_block (a := ⟨nb, off + 9, none⟩) (KB12.out.block nb (by omega))).trans hS3
  refine hK.out _ _ hS4 (fun hS5 => ?_)
  clear hK K hS3
  try simp only [List.getElem_toArray, List.getElem_cons_succ, List.getElem_cons_zero, Act.put, List.setIfInBounds_toArray, List.set_cons_zero, List.set_cons_succ]
  refine wpAnyT_step (i := 8) (by kernel_rfl) rfl (fun K hK => ?_)
  try simp only [List.getElem_toArray, List.getElem_cons_succ, List.getElem_cons_zero]
  rw [if_pos (by rfl)]
  refine wp_append_row w12 (.tmp 45) (.tmp 48) 30 (by rfl) 3 (.int .i64 0) 1 8 Tryz.underlying30 (by kernel_rfl) rfl (by omega) HIN12.out (by omega) (by omega) Rz12.out rfl (by simp [Value.oneCell']) (by rfl) (by rfl) ?_
  intro bq oq cq csq w13 ha hnews
  try simp only [Act.put, List.setIfInBounds_toArray, List.set_cons_zero, List.set_cons_succ]
  have HA := LH ha
  have hbq : w2.heap.size ≤ bq := (ha.rwl (lo := w2.heap.size) (by omega) fun b o c e => ⟨(HBL.out b o c e).1, by have := (HBL.out b o c e).2; omega⟩).1
  have hz13 := ha.bx.size
  have K13 := LH ha.bx
  have hN12 : w12.heap[nb]? = w9.heap[nb]? := (KB12.out.block nb (by omega)).trans ((K11.out.block nb (by omega) hnng).trans (K10.out.block nb hnl9))
  have hnq := ha.far (hN12.trans hcN.2) (by decide)
  have hN13 : w13.heap[nb]? = w9.heap[nb]? := hnq.2.trans hcN.2.symm
  have hS6 : w13.cell? ⟨nb, off + 9, none⟩ = some (.slice A9 n9 c9) := (World.cell?_of_block (a := ⟨nb, off + 9, none⟩) (hnq.2.trans (hN12.trans hcN.2).symm)).trans hS5
  have Rr13 := LH (ha.far Rr12.out (by decide)).2
  have Rq13 := LH (ha.far Rq12.out (by decide)).2
  have Rp13 := LH (ha.far Rp12.out (by decide)).2
  have M13 := LH (M12.out.chg K13.out (by omega) (by omega))
  have HNW := LH hnews
  clear ha hnews
  refine hK.out _ _ hS6 (fun hS7 => ?_)
  clear hK K hS6
  try simp only [List.getElem_toArray, List.getElem_cons_succ, List.getElem_cons_zero, Act.put, List.setIfInBounds_toArray, List.set_cons_zero, List.set_cons_succ]
  refine wpAnyT_step (i := 9) (by kernel_rfl) rfl (fun K hK => ?_)
  try simp only [List.getElem_toArray, List.getElem_cons_succ, List.getElem_cons_zero]
  go_simp
  refine hK.out _ _ hS7 (fun _ => ?_)
  clear hK K
  try simp only [List.getElem_toArray, List.getElem_cons_succ, List.getElem_cons_zero, Act.put, List.setIfInBounds_toArray, List.set_cons_zero, List.set_cons_succ]
  refine wpAnyT_step (i := 10) (by kernel_rfl) rfl (fun K hK => ?_)
  try simp only [List.getElem_toArray, List.getElem_cons_succ, List.getElem_cons_zero]
  go_simp
  refine hK.out _ _ hS7 (fun _ => ?_)
  clear hK K
  try simp only [List.getElem_toArray, List.getElem_cons_succ, List.getElem_cons_zero, Act.put, List.setIfInBounds_toArray, List.set_cons_zero, List.set_cons_succ]
  have hW := hyf w13 (hN13)
  have k9 := hW.1 9 (by omega)
  have kf := hW.2
  have kl : nb < w13.heap.size := by omega
  clear hW
  refine wpAnyT_last (by kernel_rfl) (by kernel_rfl) rfl (fun K hK => ?_)
  try simp only [List.getElem_toArray, List.getElem_cons_succ, List.getElem_cons_zero]
  go_simp
  obtain ⟨w14, e14⟩ : ∃ x, x = setCells w13 nb (off + 9) [.slice (some ⟨bq, oq, none⟩) (n9 + 1) cq] := ⟨_, rfl⟩
  have E14 := LH e14
  rw [show (w13.setCell ⟨nb, off + 9, none⟩ (.slice (some ⟨bq, oq, none⟩) (n9 + 1) cq)) = w14 from e14.symm]
  have K14 := LH (show Bx nb w13 w14 by rw [e14]; exact bxCells _ _ _ _)
  have hz14 : w14.heap.size = w13.heap.size := by rw [e14]; exact setCells_size _ _ _ _
  clear e14 k9 kf kl
  have Rr14 := LH (K14.out.row Rr13.out (by omega))
  have Rq14 := LH (K14.out.row Rq13.out (by omega))
  have Rp14 := LH (K14.out.row Rp13.out (by omega))
  have M14 := LH (M13.out.chg K14.out (by omega) (by omega))
  refine hK.out _ _ ?_
  clear hK K
  go_upto_region 20 with (fail)
  have PT14 := LH (PR12.out.1.turn (PN12.out.putVars (by omega) HA.out hS5 ⟨yy, HNW.out 0 (by omega), int_wfS ⟨by omega, by omega⟩⟩ E14.out))
  clear E14 K10 K11 K12 K13 K14 KB12 HA HNW HIN HBL HIN11 HIN12 PN9 PN10 PR10 PN11 PR11 PN12 PR12 Rr9 Rq9 Rp9 Rr10 Rq10 Rp10 Rr11 Rq11 Rp11 Rr12 Rq12 Rp12 Rr13 Rq13 Rp13 M9 M10 M11 M12 M13 Rz12
  obtain ⟨cT, tt, A1, c1, A2, c2, A3, c3, A4, c4, hrT, hcT, hatT, hbT⟩ := rootRead PT14.out PR9.out.2.1 (fun b hb => hb.elim)
  have HAT := LH hatT
  have q0 := hcT 0 _ rfl
  have q1 := hcT 1 _ rfl
  have q2 := hcT 2 _ rfl
  have q3 := hcT 3 _ rfl
  have q4 := hcT 4 _ rfl
  have q5 := hcT 5 _ rfl
  have q6 := hcT 6 _ rfl
  have q7 := hcT 7 _ rfl
  have q8 := hcT 8 _ rfl
  have q9 := hcT 9 _ rfl
  have q10 := hcT 10 _ rfl
  clear hcT hatT
  have hqlt : w3.heap.size + 1 ≠ w.heap.size ∧ w3.heap.size + 1 ≠ w.heap.size + 1 := by omega
  have RT := LH hrT
  clear hrT
  refine wp_region_T (fun x => Row x w3.heap.size 64 #[a0, a1, a2, a3, a4, a5] ∧ Row x (w3.heap.size + 1) 40 cT) 100 (by kernel_rfl) ?_
  obtain ⟨wA, eA⟩ : ∃ x, x = w14.drew := ⟨_, rfl⟩
  rw [← eA]
  have KA := LH (show Below w14.heap.size w14 wA by rw [eA]; exact (Below.refl _ _).drew)
  have hzA : wA.heap.size ≤ w14.heap.size ∧ w14.heap.size ≤ wA.heap.size := by rw [eA]; exact ⟨Nat.le_refl _, Nat.le_refl _⟩
  clear eA
  have RrA := LH (Rr14.out.below KA.out Rr14.out.lt)
  have RqA := LH (Rq14.out.below KA.out Rq14.out.lt)
  have RpA := Rp14.out.below KA.out Rp14.out.lt
  have RtA := RT.out.below KA.out RT.out.lt
  have HATA := LH (HAT.out.keep (w' := wA) (S' := InL w2.heap.size wA) fun b hb => ⟨⟨hb.1, by have := hb.2; omega⟩, KA.out.block b hb.2⟩)
  have MA := LH (M14.out.below KA.out)
  clear KA HAT RT
  refine wpAnyT_tk (i := 0) (oi := _) (v := ?tvz61) rfl (Or.inl ⟨by rfl, ?thz61⟩) ⟨RpA, RtA⟩ ?_
  case thz61 => (intro x hSx; have hcS := fun i => hSx.1.cell i; clear hSx; go_simp; (try with_reducible rfl))
  try simp only [List.getElem_toArray, List.getElem_cons_succ, List.getElem_cons_zero, Act.put, List.setIfInBounds_toArray, List.set_cons_zero, List.set_cons_succ]
  refine wpAnyT_tk (i := 1) (oi := _) (v := ?tvz62) rfl (Or.inl ⟨by rfl, ?thz62⟩) ⟨RpA, RtA⟩ ?_
  case thz62 => (intro x hSx; have hcS := fun i => hSx.2.cell i; clear hSx; go_simp; (try with_reducible rfl))
  try simp only [List.getElem_toArray, List.getElem_cons_succ, List.getElem_cons_zero, Act.put, List.setIfInBounds_toArray, List.set_cons_zero, List.set_cons_succ]
  have hcrA := fun i => RrA.out.cell i
  have hfrA := fun i => RrA.out.frozen i
  have hlrA := RrA.out.lt
  refine wpAnyT_step (i := 2) (by kernel_rfl) rfl (fun K hK => ?_)
  try simp only [List.getElem_toArray, List.getElem_cons_succ, List.getElem_cons_zero]
  go_simp
  obtain ⟨wB, eB, RrB, hzB, KB⟩ := storedSix RrA.out a0 a1 a2 a3 a4 a5
  rw [← eB]
  clear eB hcrA hfrA
  have RpB := KB.out.row RpA (by omega)
  have RtB := KB.out.row RtA (by omega)
  have RqB := LH (KB.out.row RqA.out (by omega))
  have HATB := LH (HATA.out.keep (w' := wB) (S' := InL w2.heap.size wB) fun b hb => ⟨⟨hb.1, by have := hb.2; omega⟩, KB.out.block b hb.2 (by have := hb.1; omega)⟩)
  have MB := LH (MA.out.chg KB.out (by omega) (by omega))
  clear RrA RqA MA HATA
  refine hK.out _ _ ⟨RpB, RtB⟩ (fun _ => ?_)
  clear hK K
  try simp only [List.getElem_toArray, List.getElem_cons_succ, List.getElem_cons_zero, Act.put, List.setIfInBounds_toArray, List.set_cons_zero, List.set_cons_succ]
  have hcqB := fun i => RqB.out.cell i
  have hfqB := fun i => RqB.out.frozen i
  have hlqB := RqB.out.lt
  refine wpAnyT_step (i := 3) (by kernel_rfl) rfl (fun K hK => ?_)
  try simp only [List.getElem_toArray, List.getElem_cons_succ, List.getElem_cons_zero]
  go_simp
  obtain ⟨wC, eC, RqC, hzC, KC⟩ := storedEleven RqB.out (.int .i64 tt.op) (.int .i64 tt.n) (.string tt.s) (.string tt.t) (.int .i64 tt.ty.op) (.int .i64 tt.ty.n) (.string tt.ty.s) (.slice A1 tt.ty.kids.length c1) (.slice A2 tt.inst.length c2) (.slice A3 tt.vars.length c3) (.slice A4 tt.kids.length c4)
  rw [← eC]
  clear eC hcqB hfqB
  have RpC := KC.out.row RpB (by omega)
  have RtC := KC.out.row RtB (by omega)
  have RrC := LH (KC.out.row RrB.out (by omega))
  have HATC := LH (HATB.out.keep (w' := wC) (S' := InL w.heap.size wC) fun b hb => ⟨⟨by have h1 := hb.1; omega, by have h2 := hb.2; omega⟩, KC.out.block b hb.2 (by have := hb.1; omega)⟩)
  have MC := LH (MB.out.chg KC.out (by omega) (by omega))
  clear RrB RqB MB HATB
  refine hK.out _ _ ⟨RpC, RtC⟩ (fun _ => ?_)
  refine wpAnyT_done (by kernel_rfl) ?_ _
  clear hK K RpA RtA RpB RtB RpC RtC
  have hcrC := fun i => RrC.out.cell i
  have hcqC := fun i => RqC.out.cell i
  go_wp2_with fail
  show BP _ _
  rw [HBP.out]
  refine bodyPost_ret (v := .tuple #[.agg #[a0, a1, a2, a3, a4, a5], .agg #[.int .i64 tt.op, .int .i64 tt.n, .string tt.s, .string tt.t, .int .i64 tt.ty.op, .int .i64 tt.ty.n, .string tt.ty.s, .slice A1 tt.ty.kids.length c1, .slice A2 tt.inst.length c2, .slice A3 tt.vars.length c3, .slice A4 tt.kids.length c4]]) (by simp [results, Tryz.results31, go_sem, hcrC, hcqC]) rfl ?_
  exact ⟨a0, a1, a2, a3, a4, a5, tt, A1, c1, A2, c2, A3, c3, A4, c4, rfl, HU.out, HATC.out, hbT, MC.out⟩
 by_cases x3 : x = 3
 ·
  have y3 : (x == 3) = true := beq_iff_eq.2 x3
  have y0 : (x == 0) = false := beq_eq_false_iff_ne.2 (by omega)
  have y1 : (x == 1) = false := beq_eq_false_iff_ne.2 (by omega)
  have y2 : (x == 2) = false := beq_eq_false_iff_ne.2 (by omega)
  go_wp2_with fail
  obtain ⟨w10, e10, Rw10, hz10, K10⟩ := boxed w9 9 #[.string ⟨#[120]⟩, .string ⟨#[78, 105, 108]⟩, .string ⟨#[113]⟩]
  rw [← e10]
  have KB10 := LH (show Below w9.heap.size w9 w10 by rw [e10]; exact (Below.refl _ _).alloc (Nat.le_refl _) _)
  clear e10
  have Rr10 := LH (K10.out.row Rr9.out (by omega))
  have Rq10 := LH (K10.out.row Rq9.out (by omega))
  have Rp10 := LH (K10.out.row Rp9.out (by omega))
  have PR10 := LH (PR9.out.below KB10.out)
  have PN10 := LH (PN9.out.below KB10.out)
  have M10 := LH (M9.out.below KB10.out)
  refine (drawPickD M10.out [⟨#[120]⟩, ⟨#[78, 105, 108]⟩, ⟨#[113]⟩] w9.heap.size (by omega) 9 Rw10.out (by simp) (by simp) (fun s => s.size ≤ 3) pick3).mono ?_
  rintro e w11 ⟨yy, rfl, hyy, hm11⟩
  have hz11 := hm11.size
  have K11 := LH hm11.bx
  have Rr11 := LH (K11.out.row Rr10.out (by omega))
  have Rq11 := LH (K11.out.row Rq10.out (by omega))
  have Rp11 := LH (K11.out.row Rp10.out (by omega))
  have PR11 := LH (PR10.out.dm M10.out hm11)
  have PN11 := LH (PN10.out.dm M10.out hm11)
  have M11 := LH (M10.out.trans hm11)
  have hW := hyf w11 ((K11.out.block nb (by omega) hnng).trans (KB10.out.block nb hnl9))
  have k2 := hW.1 2 (by omega)
  have kf := hW.2
  have kl : nb < w11.heap.size := by omega
  clear hW
  clear hm11
  go_upto_region 20 with (fail)
  obtain ⟨w12, e12⟩ : ∃ x, x = setCells w11 nb (off + 2) [.string yy] := ⟨_, rfl⟩
  have E12 := LH e12
  rw [show (w11.setCell ⟨nb, off + 2, none⟩ (.string yy)) = w12 from e12.symm]
  have K12 := LH (show Bx nb w11 w12 by rw [e12]; exact bxCells _ _ _ _)
  have hz12 : w12.heap.size = w11.heap.size := by rw [e12]; exact setCells_size _ _ _ _
  clear e12 k2 kf kl
  have Rr12 := LH (K12.out.row Rr11.out (by omega))
  have Rq12 := LH (K12.out.row Rq11.out (by omega))
  have Rp12 := LH (K12.out.row Rp11.out (by omega))
  have M12 := LH (M11.out.chg K12.out (by omega) (by omega))
  have PT12 := LH (PR11.out.1.turn (PN11.out.putS hyy E12.out))
  clear E12 K10 K11 K12 KB10 Rw10 PN9 PN10 PR10 PR11 PN11 Rr9 Rq9 Rp9 Rr10 Rq10 Rp10 Rr11 Rq11 Rp11 M9 M10 M11 hndN
  obtain ⟨cT, tt, A1, c1, A2, c2, A3, c3, A4, c4, hrT, hcT, hatT, hbT⟩ := rootRead PT12.out PR9.out.2.1 (fun b hb => hb.elim)
  have HAT := LH hatT
  have q0 := hcT 0 _ rfl
  have q1 := hcT 1 _ rfl
  have q2 := hcT 2 _ rfl
  have q3 := hcT 3 _ rfl
  have q4 := hcT 4 _ rfl
  have q5 := hcT 5 _ rfl
  have q6 := hcT 6 _ rfl
  have q7 := hcT 7 _ rfl
  have q8 := hcT 8 _ rfl
  have q9 := hcT 9 _ rfl
  have q10 := hcT 10 _ rfl
  clear hcT hatT
  have hqlt : w3.heap.size + 1 ≠ w.heap.size ∧ w3.heap.size + 1 ≠ w.heap.size + 1 := by omega
  have RT := LH hrT
  clear hrT
  refine wp_region_T (fun x => Row x w3.heap.size 64 #[a0, a1, a2, a3, a4, a5] ∧ Row x (w3.heap.size + 1) 40 cT) 100 (by kernel_rfl) ?_
  obtain ⟨wA, eA⟩ : ∃ x, x = w12.drew := ⟨_, rfl⟩
  rw [← eA]
  have KA := LH (show Below w12.heap.size w12 wA by rw [eA]; exact (Below.refl _ _).drew)
  have hzA : wA.heap.size ≤ w12.heap.size ∧ w12.heap.size ≤ wA.heap.size := by rw [eA]; exact ⟨Nat.le_refl _, Nat.le_refl _⟩
  clear eA
  have RrA := LH (Rr12.out.below KA.out Rr12.out.lt)
  have RqA := LH (Rq12.out.below KA.out Rq12.out.lt)
  have RpA := Rp12.out.below KA.out Rp12.out.lt
  have RtA := RT.out.below KA.out RT.out.lt
  have HATA := LH (HAT.out.keep (w' := wA) (S' := InL w2.heap.size wA) fun b hb => ⟨⟨hb.1, by have := hb.2; omega⟩, KA.out.block b hb.2⟩)
  have MA := LH (M12.out.below KA.out)
  clear KA HAT RT
  refine wpAnyT_tk (i := 0) (oi := _) (v := ?tvz71) rfl (Or.inl ⟨by rfl, ?thz71⟩) ⟨RpA, RtA⟩ ?_
  case thz71 => (intro x hSx; have hcS := fun i => hSx.1.cell i; clear hSx; go_simp; (try with_reducible rfl))
  try simp only [List.getElem_toArray, List.getElem_cons_succ, List.getElem_cons_zero, Act.put, List.setIfInBounds_toArray, List.set_cons_zero, List.set_cons_succ]
  refine wpAnyT_tk (i := 1) (oi := _) (v := ?tvz72) rfl (Or.inl ⟨by rfl, ?thz72⟩) ⟨RpA, RtA⟩ ?_
  case thz72 => (intro x hSx; have hcS := fun i => hSx.2.cell i; clear hSx; go_simp; (try with_reducible rfl))
  try simp only [List.getElem_toArray, List.getElem_cons_succ, List.getElem_cons_zero, Act.put, List.setIfInBounds_toArray, List.set_cons_zero, List.set_cons_succ]
  have hcrA := fun i => RrA.out.cell i
  have hfrA := fun i => RrA.out.frozen i
  have hlrA := RrA.out.lt
  refine wpAnyT_step (i := 2) (by kernel_rfl) rfl (fun K hK => ?_)
  try simp only [List.getElem_toArray, List.getElem_cons_succ, List.getElem_cons_zero]
  go_simp
  obtain ⟨wB, eB, RrB, hzB, KB⟩ := storedSix RrA.out a0 a1 a2 a3 a4 a5
  rw [← eB]
  clear eB hcrA hfrA
  have RpB := KB.out.row RpA (by omega)
  have RtB := KB.out.row RtA (by omega)
  have RqB := LH (KB.out.row RqA.out (by omega))
  have HATB := LH (HATA.out.keep (w' := wB) (S' := InL w2.heap.size wB) fun b hb => ⟨⟨hb.1, by have := hb.2; omega⟩, KB.out.block b hb.2 (by have := hb.1; omega)⟩)
  have MB := LH (MA.out.chg KB.out (by omega) (by omega))
  clear RrA RqA MA HATA
  refine hK.out _ _ ⟨RpB, RtB⟩ (fun _ => ?_)
  clear hK K
  try simp only [List.getElem_toArray, List.getElem_cons_succ, List.getElem_cons_zero, Act.put, List.setIfInBounds_toArray, List.set_cons_zero, List.set_cons_succ]
  have hcqB := fun i => RqB.out.cell i
  have hfqB := fun i => RqB.out.frozen i
  have hlqB := RqB.out.lt
  refine wpAnyT_step (i := 3) (by kernel_rfl) rfl (fun K hK => ?_)
  try simp only [List.getElem_toArray, List.getElem_cons_succ, List.getElem_cons_zero]
  go_simp
  obtain ⟨wC, eC, RqC, hzC, KC⟩ := storedEleven RqB.out (.int .i64 tt.op) (.int .i64 tt.n) (.string tt.s) (.string tt.t) (.int .i64 tt.ty.op) (.int .i64 tt.ty.n) (.string tt.ty.s) (.slice A1 tt.ty.kids.length c1) (.slice A2 tt.inst.length c2) (.slice A3 tt.vars.length c3) (.slice A4 tt.kids.length c4)
  rw [← eC]
  clear eC hcqB hfqB
  have RpC := KC.out.row RpB (by omega)
  have RtC := KC.out.row RtB (by omega)
  have RrC := LH (KC.out.row RrB.out (by omega))
  have HATC := LH (HATB.out.keep (w' := wC) (S' := InL w.heap.size wC) fun b hb => ⟨⟨by have h1 := hb.1; omega, by have h2 := hb.2; omega⟩, KC.out.block b hb.2 (by have := hb.1; omega)⟩)
  have MC := LH (MB.out.chg KC.out (by omega) (by omega))
  clear RrB RqB MB HATB
  refine hK.out _ _ ⟨RpC, RtC⟩ (fun _ => ?_)
  refine wpAnyT_done (by kernel_rfl) ?_ _
  clear hK K RpA RtA RpB RtB RpC RtC
  have hcrC := fun i => RrC.out.cell i
  have hcqC := fun i => RqC.out.cell i
  go_wp2_with fail
  show BP _ _
  rw [HBP.out]
  refine bodyPost_ret (v := .tuple #[.agg #[a0, a1, a2, a3, a4, a5], .agg #[.int .i64 tt.op, .int .i64 tt.n, .string tt.s, .string tt.t, .int .i64 tt.ty.op, .int .i64 tt.ty.n, .string tt.ty.s, .slice A1 tt.ty.kids.length c1, .slice A2 tt.inst.length c2, .slice A3 tt.vars.length c3, .slice A4 tt.kids.length c4]]) (by simp [results, Tryz.results31, go_sem, hcrC, hcqC]) rfl ?_
  exact ⟨a0, a1, a2, a3, a4, a5, tt, A1, c1, A2, c2, A3, c3, A4, c4, rfl, HU.out, HATC.out, hbT, MC.out⟩
 by_cases x4 : x = 4
 ·
  have y4 : (x == 4) = true := beq_iff_eq.2 x4
  have y0 : (x == 0) = false := beq_eq_false_iff_ne.2 (by omega)
  have y1 : (x == 1) = false := beq_eq_false_iff_ne.2 (by omega)
  have y2 : (x == 2) = false := beq_eq_false_iff_ne.2 (by omega)
  have y3 : (x == 3) = false := beq_eq_false_iff_ne.2 (by omega)
  go_wp2_with fail
  refine (drawBelowD M9.out 22 (by omega) (by omega)).mono ?_
  rintro e w10 ⟨yy, rfl, hyy, hm10⟩
  have hz10 := hm10.size
  have K10 := LH hm10.bx
  have Rr10 := LH (K10.out.row Rr9.out (by omega))
  have Rq10 := LH (K10.out.row Rq9.out (by omega))
  have Rp10 := LH (K10.out.row Rp9.out (by omega))
  have PR10 := LH (PR9.out.dm M9.out hm10)
  have PN10 := LH (PN9.out.dm M9.out hm10)
  have M10 := LH (M9.out.trans hm10)
  have hW := hyf w10 (K10.out.block nb hnl9 hnng)
  have k0 := hW.1 0 (by omega)
  have kf := hW.2
  have kl : nb < w10.heap.size := by omega
  clear hW
  rw [Nat.add_zero] at k0
  clear hm10
  go_upto_region 20 with (fail)
  obtain ⟨w11, e11⟩ : ∃ x, x = setCells w10 nb (off + 0) [.int .i64 yy] := ⟨_, rfl⟩
  have E11 := LH e11
  rw [show (w10.setCell ⟨nb, off, none⟩ (.int .i64 yy)) = w11 from e11.symm]
  have K11 := LH (show Bx nb w10 w11 by rw [e11]; exact bxCells _ _ _ _)
  have hz11 : w11.heap.size = w10.heap.size := by rw [e11]; exact setCells_size _ _ _ _
  clear e11 k0 kf kl
  have Rr11 := LH (K11.out.row Rr10.out (by omega))
  have Rq11 := LH (K11.out.row Rq10.out (by omega))
  have Rp11 := LH (K11.out.row Rp10.out (by omega))
  have M11 := LH (M10.out.chg K11.out (by omega) (by omega))
  have PT11 := LH (PR10.out.1.turn (PN10.out.putOp (int_wfS ⟨by omega, by omega⟩) E11.out))
  clear E11 K10 K11 PN9 PN10 PR10 Rr9 Rq9 Rp9 Rr10 Rq10 Rp10 M9 M10 hndN
  obtain ⟨cT, tt, A1, c1, A2, c2, A3, c3, A4, c4, hrT, hcT, hatT, hbT⟩ := rootRead PT11.out PR9.out.2.1 (fun b hb => hb.elim)
  have HAT := LH hatT
  have q0 := hcT 0 _ rfl
  have q1 := hcT 1 _ rfl
  have q2 := hcT 2 _ rfl
  have q3 := hcT 3 _ rfl
  have q4 := hcT 4 _ rfl
  have q5 := hcT 5 _ rfl
  have q6 := hcT 6 _ rfl
  have q7 := hcT 7 _ rfl
  have q8 := hcT 8 _ rfl
  have q9 := hcT 9 _ rfl
  have q10 := hcT 10 _ rfl
  clear hcT hatT
  have hqlt : w3.heap.size + 1 ≠ w.heap.size ∧ w3.heap.size + 1 ≠ w.heap.size + 1 := by omega
  have RT := LH hrT
  clear hrT
  refine wp_region_T (fun x => Row x w3.heap.size 64 #[a0, a1, a2, a3, a4, a5] ∧ Row x (w3.heap.size + 1) 40 cT) 100 (by kernel_rfl) ?_
  obtain ⟨wA, eA⟩ : ∃ x, x = w11.drew := ⟨_, rfl⟩
  rw [← eA]
  have KA := LH (show Below w11.heap.size w11 wA by rw [eA]; exact (Below.refl _ _).drew)
  have hzA : wA.heap.size ≤ w11.heap.size ∧ w11.heap.size ≤ wA.heap.size := by rw [eA]; exact ⟨Nat.le_refl _, Nat.le_refl _⟩
  clear eA
  have RrA := LH (Rr11.out.below KA.out Rr11.out.lt)
  have RqA := LH (Rq11.out.below KA.out Rq11.out.lt)
  have RpA := Rp11.out.below KA.out Rp11.out.lt
  have RtA := RT.out.below KA.out RT.out.lt
  have HATA := LH (HAT.out.keep (w' := wA) (S' := InL w2.heap.size wA) fun b hb => ⟨⟨hb.1, by have := hb.2; omega⟩, KA.out.block b hb.2⟩)
  have MA := LH (M11.out.below KA.out)
  clear KA HAT RT
  refine wpAnyT_tk (i := 0) (oi := _) (v := ?tvz81) rfl (Or.inl ⟨by rfl, ?thz81⟩) ⟨RpA, RtA⟩ ?_
  case thz81 => (intro x hSx; have hcS := fun i => hSx.1.cell i; clear hSx; go_simp; (try with_reducible rfl))
  try simp only [List.getElem_toArray, List.getElem_cons_succ, List.getElem_cons_zero, Act.put, List.setIfInBounds_toArray, List.set_cons_zero, List.set_cons_succ]
  refine wpAnyT_tk (i := 1) (oi := _) (v := ?tvz82) rfl (Or.inl ⟨by rfl, ?thz82⟩) ⟨RpA, RtA⟩ ?_
  case thz82 => (intro x hSx; have hcS := fun i => hSx.2.cell i; clear hSx; go_simp; (try with_reducible rfl))
  try simp only [List.getElem_toArray, List.getElem_cons_succ, List.getElem_cons_zero, Act.put, List.setIfInBounds_toArray, List.set_cons_zero, List.set_cons_succ]
  have hcrA := fun i => RrA.out.cell i
  have hfrA := fun i => RrA.out.frozen i
  have hlrA := RrA.out.lt
  refine wpAnyT_step (i := 2) (by kernel_rfl) rfl (fun K hK => ?_)
  try simp only [List.getElem_toArray, List.getElem_cons_succ, List.getElem_cons_zero]
  go_simp
  obtain ⟨wB, eB, RrB, hzB, KB⟩ := storedSix RrA.out a0 a1 a2 a3 a4 a5
  rw [← eB]
  clear eB hcrA hfrA
  have RpB := KB.out.row RpA (by omega)
  have RtB := KB.out.row RtA (by omega)
  have RqB := LH (KB.out.row RqA.out (by omega))
  have HATB := LH (HATA.out.keep (w' := wB) (S' := InL w2.heap.size wB) fun b hb => ⟨⟨hb.1, by have := hb.2; omega⟩, KB.out.block b hb.2 (by have := hb.1; omega)⟩)
  have MB := LH (MA.out.chg KB.out (by omega) (by omega))
  clear RrA RqA MA HATA
  refine hK.out _ _ ⟨RpB, RtB⟩ (fun _ => ?_)
  clear hK K
  try simp only [List.getElem_toArray, List.getElem_cons_succ, List.getElem_cons_zero, Act.put, List.setIfInBounds_toArray, List.set_cons_zero, List.set_cons_succ]
  have hcqB := fun i => RqB.out.cell i
  have hfqB := fun i => RqB.out.frozen i
  have hlqB := RqB.out.lt
  refine wpAnyT_step (i := 3) (by kernel_rfl) rfl (fun K hK => ?_)
  try simp only [List.getElem_toArray, List.getElem_cons_succ, List.getElem_cons_zero]
  go_simp
  obtain ⟨wC, eC, RqC, hzC, KC⟩ := storedEleven RqB.out (.int .i64 tt.op) (.int .i64 tt.n) (.string tt.s) (.string tt.t) (.int .i64 tt.ty.op) (.int .i64 tt.ty.n) (.string tt.ty.s) (.slice A1 tt.ty.kids.length c1) (.slice A2 tt.inst.length c2) (.slice A3 tt.vars.length c3) (.slice A4 tt.kids.length c4)
  rw [← eC]
  clear eC hcqB hfqB
  have RpC := KC.out.row RpB (by omega)
  have RtC := KC.out.row RtB (by omega)
  have RrC := LH (KC.out.row RrB.out (by omega))
  have HATC := LH (HATB.out.keep (w' := wC) (S' := InL w.heap.size wC) fun b hb => ⟨⟨by have h1 := hb.1; omega, by have h2 := hb.2; omega⟩, KC.out.block b hb.2 (by have := hb.1; omega)⟩)
  have MC := LH (MB.out.chg KC.out (by omega) (by omega))
  clear RrB RqB MB HATB
  refine hK.out _ _ ⟨RpC, RtC⟩ (fun _ => ?_)
  refine wpAnyT_done (by kernel_rfl) ?_ _
  clear hK K RpA RtA RpB RtB RpC RtC
  have hcrC := fun i => RrC.out.cell i
  have hcqC := fun i => RqC.out.cell i
  go_wp2_with fail
  show BP _ _
  rw [HBP.out]
  refine bodyPost_ret (v := .tuple #[.agg #[a0, a1, a2, a3, a4, a5], .agg #[.int .i64 tt.op, .int .i64 tt.n, .string tt.s, .string tt.t, .int .i64 tt.ty.op, .int .i64 tt.ty.n, .string tt.ty.s, .slice A1 tt.ty.kids.length c1, .slice A2 tt.inst.length c2, .slice A3 tt.vars.length c3, .slice A4 tt.kids.length c4]]) (by simp [results, Tryz.results31, go_sem, hcrC, hcqC]) rfl ?_
  exact ⟨a0, a1, a2, a3, a4, a5, tt, A1, c1, A2, c2, A3, c3, A4, c4, rfl, HU.out, HATC.out, hbT, MC.out⟩
 by_cases x5 : x = 5
 ·
  have y5 : (x == 5) = true := beq_iff_eq.2 x5
  have y0 : (x == 0) = false := beq_eq_false_iff_ne.2 (by omega)
  have y1 : (x == 1) = false := beq_eq_false_iff_ne.2 (by omega)
  have y2 : (x == 2) = false := beq_eq_false_iff_ne.2 (by omega)
  have y3 : (x == 3) = false := beq_eq_false_iff_ne.2 (by omega)
  have y4 : (x == 4) = false := beq_eq_false_iff_ne.2 (by omega)
  have hW := hyf w9 (rfl)
  have k10 := hW.1 10 (by omega)
  have kf := hW.2
  have kl : nb < w9.heap.size := by omega
  clear hW
  go_upto_region 20 with (fail)
  obtain ⟨w10, e10⟩ : ∃ x, x = setCells w9 nb (off + 10) [.slice none 0 0] := ⟨_, rfl⟩
  have E10 := LH e10
  rw [show (w9.setCell ⟨nb, off + 10, none⟩ (.slice none 0 0)) = w10 from e10.symm]
  have K10 := LH (show Bx nb w9 w10 by rw [e10]; exact bxCells _ _ _ _)
  have hz10 : w10.heap.size = w9.heap.size := by rw [e10]; exact setCells_size _ _ _ _
  clear e10 k10 kf kl
  have Rr10 := LH (K10.out.row Rr9.out (by omega))
  have Rq10 := LH (K10.out.row Rq9.out (by omega))
  have Rp10 := LH (K10.out.row Rp9.out (by omega))
  have M10 := LH (M9.out.chg K10.out (by omega) (by omega))
  have PT10 := LH (PR9.out.1.turn (PN9.out.putKids E10.out))
  clear E10 K10 PN9 Rr9 Rq9 Rp9 M9 hndN
  obtain ⟨cT, tt, A1, c1, A2, c2, A3, c3, A4, c4, hrT, hcT, hatT, hbT⟩ := rootRead PT10.out PR9.out.2.1 (fun b hb => hb.elim)
  have HAT := LH hatT
  have q0 := hcT 0 _ rfl
  have q1 := hcT 1 _ rfl
  have q2 := hcT 2 _ rfl
  have q3 := hcT 3 _ rfl
  have q4 := hcT 4 _ rfl
  have q5 := hcT 5 _ rfl
  have q6 := hcT 6 _ rfl
  have q7 := hcT 7 _ rfl
  have q8 := hcT 8 _ rfl
  have q9 := hcT 9 _ rfl
  have q10 := hcT 10 _ rfl
  clear hcT hatT
  have hqlt : w3.heap.size + 1 ≠ w.heap.size ∧ w3.heap.size + 1 ≠ w.heap.size + 1 := by omega
  have RT := LH hrT
  clear hrT
  refine wp_region_T (fun x => Row x w3.heap.size 64 #[a0, a1, a2, a3, a4, a5] ∧ Row x (w3.heap.size + 1) 40 cT) 100 (by kernel_rfl) ?_
  obtain ⟨wA, eA⟩ : ∃ x, x = w10.drew := ⟨_, rfl⟩
  rw [← eA]
  have KA := LH (show Below w10.heap.size w10 wA by rw [eA]; exact (Below.refl _ _).drew)
  have hzA : wA.heap.size ≤ w10.heap.size ∧ w10.heap.size ≤ wA.heap.size := by rw [eA]; exact ⟨Nat.le_refl _, Nat.le_refl _⟩
  clear eA
  have RrA := LH (Rr10.out.below KA.out Rr10.out.lt)
  have RqA := LH (Rq10.out.below KA.out Rq10.out.lt)
  have RpA := Rp10.out.below KA.out Rp10.out.lt
  have RtA := RT.out.below KA.out RT.out.lt
  have HATA := LH (HAT.out.keep (w' := wA) (S' := InL w2.heap.size wA) fun b hb => ⟨⟨hb.1, by have := hb.2; omega⟩, KA.out.block b hb.2⟩)
  have MA := LH (M10.out.below KA.out)
  clear KA HAT RT
  refine wpAnyT_tk (i := 0) (oi := _) (v := ?tvz91) rfl (Or.inl ⟨by rfl, ?thz91⟩) ⟨RpA, RtA⟩ ?_
  case thz91 => (intro x hSx; have hcS := fun i => hSx.1.cell i; clear hSx; go_simp; (try with_reducible rfl))
  try simp only [List.getElem_toArray, List.getElem_cons_succ, List.getElem_cons_zero, Act.put, List.setIfInBounds_toArray, List.set_cons_zero, List.set_cons_succ]
  refine wpAnyT_tk (i := 1) (oi := _) (v := ?tvz92) rfl (Or.inl ⟨by rfl, ?thz92⟩) ⟨RpA, RtA⟩ ?_
  case thz92 => (intro x hSx; have hcS := fun i => hSx.2.cell i; clear hSx; go_simp; (try with_reducible rfl))
  try simp only [List.getElem_toArray, List.getElem_cons_succ, List.getElem_cons_zero, Act.put, List.setIfInBounds_toArray, List.set_cons_zero, List.set_cons_succ]
  have hcrA := fun i => RrA.out.cell i
  have hfrA := fun i => RrA.out.frozen i
  have hlrA := RrA.out.lt
  refine wpAnyT_step (i := 2) (by kernel_rfl) rfl (fun K hK => ?_)
  try simp only [List.getElem_toArray, List.getElem_cons_succ, List.getElem_cons_zero]
  go_simp
  obtain ⟨wB, eB, RrB, hzB, KB⟩ := storedSix RrA.out a0 a1 a2 a3 a4 a5
  rw [← eB]
  clear eB hcrA hfrA
  have RpB := KB.out.row RpA (by omega)
  have RtB := KB.out.row RtA (by omega)
  have RqB := LH (KB.out.row RqA.out (by omega))
  have HATB := LH (HATA.out.keep (w' := wB) (S' := InL w2.heap.size wB) fun b hb => ⟨⟨hb.1, by have := hb.2; omega⟩, KB.out.block b hb.2 (by have := hb.1; omega)⟩)
  have MB := LH (MA.out.chg KB.out (by omega) (by omega))
  clear RrA RqA MA HATA
  refine hK.out _ _ ⟨RpB, RtB⟩ (fun _ => ?_)
  clear hK K
  try simp only [List.getElem_toArray, List.getElem_cons_succ, List.getElem_cons_zero, Act.put, List.setIfInBounds_toArray, List.set_cons_zero, List.set_cons_succ]
  have hcqB := fun i => RqB.out.cell i
  have hfqB := fun i => RqB.out.frozen i
  have hlqB := RqB.out.lt
  refine wpAnyT_step (i := 3) (by kernel_rfl) rfl (fun K hK => ?_)
  try simp only [List.getElem_toArray, List.getElem_cons_succ, List.getElem_cons_zero]
  go_simp
  obtain ⟨wC, eC, RqC, hzC, KC⟩ := storedEleven RqB.out (.int .i64 tt.op) (.int .i64 tt.n) (.string tt.s) (.string tt.t) (.int .i64 tt.ty.op) (.int .i64 tt.ty.n) (.string tt.ty.s) (.slice A1 tt.ty.kids.length c1) (.slice A2 tt.inst.length c2) (.slice A3 tt.vars.length c3) (.slice A4 tt.kids.length c4)
  rw [← eC]
  clear eC hcqB hfqB
  have RpC := KC.out.row RpB (by omega)
  have RtC := KC.out.row RtB (by omega)
  have RrC := LH (KC.out.row RrB.out (by omega))
  have HATC := LH (HATB.out.keep (w' := wC) (S' := InL w.heap.size wC) fun b hb => ⟨⟨by have h1 := hb.1; omega, by have h2 := hb.2; omega⟩, KC.out.block b hb.2 (by have := hb.1; omega)⟩)
  have MC := LH (MB.out.chg KC.out (by omega) (by omega))
  clear RrB RqB MB HATB
  refine hK.out _ _ ⟨RpC, RtC⟩ (fun _ => ?_)
  refine wpAnyT_done (by kernel_rfl) ?_ _
  clear hK K RpA RtA RpB RtB RpC RtC
  have hcrC := fun i => RrC.out.cell i
  have hcqC := fun i => RqC.out.cell i
  go_wp2_with fail
  show BP _ _
  rw [HBP.out]
  refine bodyPost_ret (v := .tuple #[.agg #[a0, a1, a2, a3, a4, a5], .agg #[.int .i64 tt.op, .int .i64 tt.n, .string tt.s, .string tt.t, .int .i64 tt.ty.op, .int .i64 tt.ty.n, .string tt.ty.s, .slice A1 tt.ty.kids.length c1, .slice A2 tt.inst.length c2, .slice A3 tt.vars.length c3, .slice A4 tt.kids.length c4]]) (by simp [results, Tryz.results31, go_sem, hcrC, hcqC]) rfl ?_
  exact ⟨a0, a1, a2, a3, a4, a5, tt, A1, c1, A2, c2, A3, c3, A4, c4, rfl, HU.out, HATC.out, hbT, MC.out⟩
 by_cases x6 : x = 6
 ·
  have y6 : (x == 6) = true := beq_iff_eq.2 x6
  have y0 : (x == 0) = false := beq_eq_false_iff_ne.2 (by omega)
  have y1 : (x == 1) = false := beq_eq_false_iff_ne.2 (by omega)
  have y2 : (x == 2) = false := beq_eq_false_iff_ne.2 (by omega)
  have y3 : (x == 3) = false := beq_eq_false_iff_ne.2 (by omega)
  have y4 : (x == 4) = false := beq_eq_false_iff_ne.2 (by omega)
  have y5 : (x == 5) = false := beq_eq_false_iff_ne.2 (by omega)
  obtain ⟨A9, n9, c9, hc9, hn9, hin9, hbl9⟩ : ∃ A9 n9 c9, w9.cell? ⟨nb, off + 8, none⟩ = some (.slice A9 n9 c9) ∧ n9 ≤ 2400 ∧ InRow w9 27 4 (.slice A9 n9 c9) n9 ∧ ∀ b o c, Value.slice A9 n9 c9 = .slice (some ⟨b, o, none⟩) n9 c → w2.heap.size ≤ b ∧ b < w9.heap.size := by
   obtain ⟨op, n, s, t, βt, u8, β8, u9, β9, ⟨g0, g1, g2, g3, g8, g9⟩, f1, f2, f3, f4, f5, f6, f7, f8⟩ := hndN
   obtain ⟨A9, n9, c9, rfl, q1, q2, q3⟩ := f6.inRow
   exact ⟨A9, n9, c9, (hcN.cell _).trans g8, by omega, q2, q3⟩
  have HIN := LH hin9
  have HBL := LH hbl9
  clear hndN hin9 hbl9
  clear hyf hyN
  by_cases hp : 0 < n9
  ·
   have hpi : (0 : Int) < (n9 : Int) := by omega
   have dpi : decide ((0 : Int) < (n9 : Int)) = true := decide_eq_true hpi
   obtain ⟨bq, oq, cq, csq, hsl, hrq9, hal, hcap, hncq, hcm⟩ : ∃ b o c cs, Value.slice A9 n9 c9 = .slice (some ⟨b, o, none⟩) n9 c ∧ Row w9 b 27 cs ∧ o % 4 = 0 ∧ o + c * 4 ≤ cs.size ∧ n9 ≤ c ∧ c ≤ maxLen := by
    rcases HIN.out with ⟨_, h⟩ | h
    · omega
    · exact h
   have hbq := HBL.out bq oq cq hsl
   obtain ⟨rfl, rfl⟩ : A9 = some ⟨bq, oq, none⟩ ∧ cq = c9 := by
    cases hsl
    exact ⟨rfl, rfl⟩
   have RY9 := LH hrq9
   have hnbq : nb ≠ bq := by
    rintro rfl
    have := (rowSame hrq9 hcN.2).1
    revert this; decide
   have htpq : w3.heap.size ≠ bq := by
    intro e
    rw [← e] at hrq9
    have := (rowSame hrq9 Rp9.out).1
    revert this; decide
   have hgq : bq ≠ g := by
    obtain ⟨i, z, hc⟩ := M9.out.cur
    rintro rfl
    have := (rowSame hrq9 hc.row).1
    revert this; decide
   clear hrq9 hsl
   go_wp2_with fail
   refine wp_region_T (fun x => x.cell? ⟨nb, off + 8, none⟩ = some (.slice (some ⟨bq, oq, none⟩) n9 cq)) 100 (by kernel_rfl) ?_
   obtain ⟨w10, e10⟩ : ∃ x, x = w9.drew := ⟨_, rfl⟩
   rw [← e10]
   have K10 := LH (show Below w9.heap.size w9 w10 by rw [e10]; exact (Below.refl _ _).drew)
   have hz10 : w10.heap.size = w9.heap.size := by rw [e10]; rfl
   have hS1 : w10.cell? ⟨nb, off + 8, none⟩ = some (.slice (some ⟨bq, oq, none⟩) n9 cq) := by rw [e10]; exact hc9
   clear e10
   have Rr10 := LH (Rr9.out.below K10.out Rr9.out.lt)
   have Rq10 := LH (Rq9.out.below K10.out Rq9.out.lt)
   have Rp10 := LH (Rp9.out.below K10.out Rp9.out.lt)
   have PR10 := LH (PR9.out.below K10.out)
   have PN10 := LH (PN9.out.below K10.out)
   have M10 := LH (M9.out.below K10.out)
   have HIN10 := LH (HIN.out.below K10.out)
   have hN10 : w10.heap[nb]? = w9.heap[nb]? := K10.out.block nb hnl9
   have RY10 := LH (RY9.out.below K10.out RY9.out.lt)
   refine wpAnyT_tk (i := 0) (oi := _) (v := ?tvk13) rfl (Or.inl ⟨by rfl, ?thk13⟩) hS1 ?_
   case thk13 => (intro x hSx; (try dsimp only at hSx); go_simp; (try with_reducible rfl))
   try simp only [List.getElem_toArray, List.getElem_cons_succ, List.getElem_cons_zero, Act.put, List.setIfInBounds_toArray, List.set_cons_zero, List.set_cons_succ]
   refine wpAnyT_tk (i := 1) (oi := _) (v := ?tvk14) rfl (Or.inl ⟨by rfl, ?thk14⟩) hS1 ?_
   case thk14 => (intro x hSx; (try dsimp only at hSx); go_simp; (try with_reducible rfl))
   try simp only [List.getElem_toArray, List.getElem_cons_succ, List.getElem_cons_zero, Act.put, List.setIfInBounds_toArray, List.set_cons_zero, List.set_cons_succ]
   refine wpAnyT_tk (i := 2) (oi := _) (v := ?tvk15) rfl (Or.inl ⟨by rfl, ?thk15⟩) hS1 ?_
   case thk15 => (intro x hSx; (try dsimp only at hSx); go_simp; (try with_reducible rfl))
   try simp only [List.getElem_toArray, List.getElem_cons_succ, List.getElem_cons_zero, Act.put, List.setIfInBounds_toArray, List.set_cons_zero, List.set_cons_succ]
   refine wpAnyT_tk (i := 3) (oi := _) (v := ?tvk16) rfl (Or.inl ⟨by rfl, ?thk16⟩) hS1 ?_
   case thk16 => (intro x hSx; (try dsimp only at hSx); go_simp; (try with_reducible rfl))
   try simp only [List.getElem_toArray, List.getElem_cons_succ, List.getElem_cons_zero, Act.put, List.setIfInBounds_toArray, List.set_cons_zero, List.set_cons_succ]
   refine wpAnyT_tk (i := 4) (oi := _) (v := ?tvk17) rfl (Or.inl ⟨by rfl, ?thk17⟩) hS1 ?_
   case thk17 => (intro x hSx; (try dsimp only at hSx); go_simp; (try with_reducible rfl))
   try simp only [List.getElem_toArray, List.getElem_cons_succ, List.getElem_cons_zero, Act.put, List.setIfInBounds_toArray, List.set_cons_zero, List.set_cons_succ]
   have hSc10 := hS1
   clear hS1
   refine wpAnyT_step (i := 5) (by kernel_rfl) rfl (fun K hK => ?_)
   try simp only [List.getElem_toArray, List.getElem_cons_succ, List.getElem_cons_zero]
   go_simp
   refine (drawTyD M10.out 1 1 (by rfl) (by omega)).mono ?_
   rintro e w11 ⟨ty, AY, cY, rfl, hyb, hyat, hm11⟩
   have hz11 := hm11.size
   have K11 := LH hm11.bx
   have Rr11 := LH (K11.out.row Rr10.out (by omega))
   have Rq11 := LH (K11.out.row Rq10.out (by omega))
   have Rp11 := LH (K11.out.row Rp10.out (by omega))
   have PR11 := LH (PR10.out.dm M10.out hm11)
   have PN11 := LH (PN10.out.dm M10.out hm11)
   have hS11 := (PN10.out.cell M10.out hm11 (off + 8)).trans hSc10
   have M11 := LH (M10.out.trans hm11)
   have HIN11 := LH (HIN10.out.dm (.inr rfl) M10.out hm11)
   have hN11 : w11.heap[nb]? = w9.heap[nb]? := (K11.out.block nb (by omega) hnng).trans hN10
   have HY11 := LH hyat
   clear hm11 hyat
   try simp only [List.getElem_toArray, List.getElem_cons_succ, List.getElem_cons_zero]
   go_simp
   refine hK.out _ _ hS11 (fun hSc11 => ?_)
   clear hK K hS11
   try simp only [List.getElem_toArray, List.getElem_cons_succ, List.getElem_cons_zero, Act.put, List.setIfInBounds_toArray, List.set_cons_zero, List.set_cons_succ]
   have RY11 := LH (K11.out.row RY10.out hgq)
   refine wpAnyT_step (i := 6) (by kernel_rfl) rfl (fun K hK => ?_)
   try simp only [List.getElem_toArray, List.getElem_cons_succ, List.getElem_cons_zero]
   go_simp
   refine hK.out _ _ hSc11 (fun _ => ?_)
   clear hK K
   try simp only [List.getElem_toArray, List.getElem_cons_succ, List.getElem_cons_zero, Act.put, List.setIfInBounds_toArray, List.set_cons_zero, List.set_cons_succ]
   have hbnd : oq + 4 ≤ csq.size := by omega
   have p0 := (RY11.out.cell oq).trans (Array.getElem?_eq_getElem (show oq < csq.size by omega))
   have p1 := (RY11.out.cell (oq + 1)).trans (Array.getElem?_eq_getElem (show oq + 1 < csq.size by omega))
   have p2 := (RY11.out.cell (oq + 2)).trans (Array.getElem?_eq_getElem (show oq + 2 < csq.size by omega))
   have p3 := (RY11.out.cell (oq + 3)).trans (Array.getElem?_eq_getElem (show oq + 3 < csq.size by omega))
   have pf := fun i => RY11.out.frozen i
   have pl := RY11.out.lt
   refine wpAnyT_step (i := 7) (by kernel_rfl) rfl (fun K hK => ?_)
   try simp only [List.getElem_toArray, List.getElem_cons_succ, List.getElem_cons_zero]
   go_simp
   obtain ⟨w12, e12⟩ : ∃ x, x = setCells w11 bq oq [.int .i64 ty.op, .int .i64 ty.n, .string ty.s, .slice AY ty.kids.length cY] := ⟨_, rfl⟩
   have E12 := LH e12
   rw [show ((((w11.setCell ⟨bq, oq, none⟩ (.int .i64 ty.op)).setCell ⟨bq, oq + 1, none⟩ (.int .i64 ty.n)).setCell ⟨bq, oq + 2, none⟩ (.string ty.s)).setCell ⟨bq, oq + 3, none⟩ (.slice AY ty.kids.length cY)) = w12 from e12.symm]
   have K12 := LH (show Bx bq w11 w12 by rw [e12]; exact bxCells _ _ _ _)
   have hz12 : w12.heap.size = w11.heap.size := by rw [e12]; exact setCells_size _ _ _ _
   clear e12 p0 p1 p2 p3 pf pl
   have Rr12 := LH (K12.out.row Rr11.out (by omega))
   have Rq12 := LH (K12.out.row Rq11.out (by omega))
   have Rp12 := LH (K12.out.row Rp11.out (by omega))
   have M12 := LH (M11.out.chg K12.out (by omega) (by omega))
   have hS12 : w12.cell? ⟨nb, off + 8, none⟩ = some (.slice (some ⟨bq, oq, none⟩) n9 cq) := (World.cell?_of_block (a := ⟨nb, off + 8, none⟩) (K12.out.block nb (by omega) hnbq)).trans hSc11
   have PT12 := LH (PR11.out.1.turn (turnTy w2.heap.size RY11.out hal hbnd (fun h => by have h1 := h.1; omega) HY11.out hyb E12.out))
   refine hK.out _ _ hS12 (fun _ => ?_)
   refine wpAnyT_done (by kernel_rfl) ?_ _
   clear hK K E12 K10 K11 K12 HY11 HIN HIN10 HIN11 HBL PN9 PN10 PR10 PN11 PR11 Rr9 Rq9 Rp9 Rr10 Rq10 Rp10 Rr11 Rq11 Rp11 M9 M10 M11 RY9 RY10 RY11
   go_upto_region 20 with (fail)
   obtain ⟨cT, tt, A1, c1, A2, c2, A3, c3, A4, c4, hrT, hcT, hatT, hbT⟩ := rootRead PT12.out PR9.out.2.1 (fun b hb => ⟨by have h1 := hb.1; omega, by have h2 := hb.2; omega⟩)
   have HAT := LH hatT
   have q0 := hcT 0 _ rfl
   have q1 := hcT 1 _ rfl
   have q2 := hcT 2 _ rfl
   have q3 := hcT 3 _ rfl
   have q4 := hcT 4 _ rfl
   have q5 := hcT 5 _ rfl
   have q6 := hcT 6 _ rfl
   have q7 := hcT 7 _ rfl
   have q8 := hcT 8 _ rfl
   have q9 := hcT 9 _ rfl
   have q10 := hcT 10 _ rfl
   clear hcT hatT
   have hqlt : w3.heap.size + 1 ≠ w.heap.size ∧ w3.heap.size + 1 ≠ w.heap.size + 1 := by omega
   have RT := LH hrT
   clear hrT
   refine wp_region_T (fun x => Row x w3.heap.size 64 #[a0, a1, a2, a3, a4, a5] ∧ Row x (w3.heap.size + 1) 40 cT) 100 (by kernel_rfl) ?_
   obtain ⟨wA, eA⟩ : ∃ x, x = w12.drew := ⟨_, rfl⟩
   rw [← eA]
   have KA := LH (show Below w12.heap.size w12 wA by rw [eA]; exact (Below.refl _ _).drew)
   have hzA : wA.heap.size ≤ w12.heap.size ∧ w12.heap.size ≤ wA.heap.size := by rw [eA]; exact ⟨Nat.le_refl _, Nat.le_refl _⟩
   clear eA
   have RrA := LH (Rr12.out.below KA.out Rr12.out.lt)
   have RqA := LH (Rq12.out.below KA.out Rq12.out.lt)
   have RpA := Rp12.out.below KA.out Rp12.out.lt
   have RtA := RT.out.below KA.out RT.out.lt
   have HATA := LH (HAT.out.keep (w' := wA) (S' := InL w2.heap.size wA) fun b hb => ⟨⟨hb.1, by have := hb.2; omega⟩, KA.out.block b hb.2⟩)
   have MA := LH (M12.out.below KA.out)
   clear KA HAT RT
   refine wpAnyT_tk (i := 0) (oi := _) (v := ?tvz101) rfl (Or.inl ⟨by rfl, ?thz101⟩) ⟨RpA, RtA⟩ ?_
   case thz101 => (intro x hSx; have hcS := fun i => hSx.1.cell i; clear hSx; go_simp; (try with_reducible rfl))
   try simp only [List.getElem_toArray, List.getElem_cons_succ, List.getElem_cons_zero, Act.put, List.setIfInBounds_toArray, List.set_cons_zero, List.set_cons_succ]
   refine wpAnyT_tk (i := 1) (oi := _) (v := ?tvz102) rfl (Or.inl ⟨by rfl, ?thz102⟩) ⟨RpA, RtA⟩ ?_
   case thz102 => (intro x hSx; have hcS := fun i => hSx.2.cell i; clear hSx; go_simp; (try with_reducible rfl))
   try simp only [List.getElem_toArray, List.getElem_cons_succ, List.getElem_cons_zero, Act.put, List.setIfInBounds_toArray, List.set_cons_zero, List.set_cons_succ]
   have hcrA := fun i => RrA.out.cell i
   have hfrA := fun i => RrA.out.frozen i
   have hlrA := RrA.out.lt
   refine wpAnyT_step (i := 2) (by kernel_rfl) rfl (fun K hK => ?_)
   try simp only [List.getElem_toArray, List.getElem_cons_succ, List.getElem_cons_zero]
   go_simp
   obtain ⟨wB, eB, RrB, hzB, KB⟩ := storedSix RrA.out a0 a1 a2 a3 a4 a5
   rw [← eB]
   clear eB hcrA hfrA
   have RpB := KB.out.row RpA (by omega)
   have RtB := KB.out.row RtA (by omega)
   have RqB := LH (KB.out.row RqA.out (by omega))
   have HATB := LH (HATA.out.keep (w' := wB) (S' := InL w2.heap.size wB) fun b hb => ⟨⟨hb.1, by have := hb.2; omega⟩, KB.out.block b hb.2 (by have := hb.1; omega)⟩)
   have MB := LH (MA.out.chg KB.out (by omega) (by omega))
   clear RrA RqA MA HATA
   refine hK.out _ _ ⟨RpB, RtB⟩ (fun _ => ?_)
   clear hK K
   try simp only [List.getElem_toArray, List.getElem_cons_succ, List.getElem_cons_zero, Act.put, List.setIfInBounds_toArray, List.set_cons_zero, List.set_cons_succ]
   have hcqB := fun i => RqB.out.cell i
   have hfqB := fun i => RqB.out.frozen i
   have hlqB := RqB.out.lt
   refine wpAnyT_step (i := 3) (by kernel_rfl) rfl (fun K hK => ?_)
   try simp only [List.getElem_toArray, List.getElem_cons_succ, List.getElem_cons_zero]
   go_simp
   obtain ⟨wC, eC, RqC, hzC, KC⟩ := storedEleven RqB.out (.int .i64 tt.op) (.int .i64 tt.n) (.string tt.s) (.string tt.t) (.int .i64 tt.ty.op) (.int .i64 tt.ty.n) (.string tt.ty.s) (.slice A1 tt.ty.kids.length c1) (.slice A2 tt.inst.length c2) (.slice A3 tt.vars.length c3) (.slice A4 tt.kids.length c4)
   rw [← eC]
   clear eC hcqB hfqB
   have RpC := KC.out.row RpB (by omega)
   have RtC := KC.out.row RtB (by omega)
   have RrC := LH (KC.out.row RrB.out (by omega))
   have HATC := LH (HATB.out.keep (w' := wC) (S' := InL w.heap.size wC) fun b hb => ⟨⟨by have h1 := hb.1; omega, by have h2 := hb.2; omega⟩, KC.out.block b hb.2 (by have := hb.1; omega)⟩)
   have MC := LH (MB.out.chg KC.out (by omega) (by omega))
   clear RrB RqB MB HATB
   refine hK.out _ _ ⟨RpC, RtC⟩ (fun _ => ?_)
   refine wpAnyT_done (by kernel_rfl) ?_ _
   clear hK K RpA RtA RpB RtB RpC RtC
   have hcrC := fun i => RrC.out.cell i
   have hcqC := fun i => RqC.out.cell i
   go_wp2_with fail
   show BP _ _
   rw [HBP.out]
   refine bodyPost_ret (v := .tuple #[.agg #[a0, a1, a2, a3, a4, a5], .agg #[.int .i64 tt.op, .int .i64 tt.n, .string tt.s, .string tt.t, .int .i64 tt.ty.op, .int .i64 tt.ty.n, .string tt.ty.s, .slice A1 tt.ty.kids.length c1, .slice A2 tt.inst.length c2, .slice A3 tt.vars.length c3, .slice A4 tt.kids.length c4]]) (by simp [results, Tryz.results31, go_sem, hcrC, hcqC]) rfl ?_
   exact ⟨a0, a1, a2, a3, a4, a5, tt, A1, c1, A2, c2, A3, c3, A4, c4, rfl, HU.out, HATC.out, hbT, MC.out⟩
  ·
   have hpi : ¬ (0 : Int) < (n9 : Int) := by omega
   have dpi : decide ((0 : Int) < (n9 : Int)) = false := decide_eq_false hpi
   go_wp2_with fail
   have PT9 := LH (PR9.out.1.turn ((Turn0.refl (lo := w2.heap.size) (w := w9) (w1 := w9) (Fr' := fun _ => False) (fun _ _ => rfl)).same (B' := 2505) (by omega) fun _ _ _ => rfl))
   clear PN9 HIN HBL
   obtain ⟨cT, tt, A1, c1, A2, c2, A3, c3, A4, c4, hrT, hcT, hatT, hbT⟩ := rootRead PT9.out PR9.out.2.1 (fun b hb => hb.elim)
   have HAT := LH hatT
   have q0 := hcT 0 _ rfl
   have q1 := hcT 1 _ rfl
   have q2 := hcT 2 _ rfl
   have q3 := hcT 3 _ rfl
   have q4 := hcT 4 _ rfl
   have q5 := hcT 5 _ rfl
   have q6 := hcT 6 _ rfl
   have q7 := hcT 7 _ rfl
   have q8 := hcT 8 _ rfl
   have q9 := hcT 9 _ rfl
   have q10 := hcT 10 _ rfl
   clear hcT hatT
   have hqlt : w3.heap.size + 1 ≠ w.heap.size ∧ w3.heap.size + 1 ≠ w.heap.size + 1 := by omega
   have RT := LH hrT
   clear hrT
   refine wp_region_T (fun x => Row x w3.heap.size 64 #[a0, a1, a2, a3, a4, a5] ∧ Row x (w3.heap.size + 1) 40 cT) 100 (by kernel_rfl) ?_
   obtain ⟨wA, eA⟩ : ∃ x, x = w9.drew := ⟨_, rfl⟩
   rw [← eA]
   have KA := LH (show Below w9.heap.size w9 wA by rw [eA]; exact (Below.refl _ _).drew)
   have hzA : wA.heap.size ≤ w9.heap.size ∧ w9.heap.size ≤ wA.heap.size := by rw [eA]; exact ⟨Nat.le_refl _, Nat.le_refl _⟩
   clear eA
   have RrA := LH (Rr9.out.below KA.out Rr9.out.lt)
   have RqA := LH (Rq9.out.below KA.out Rq9.out.lt)
   have RpA := Rp9.out.below KA.out Rp9.out.lt
   have RtA := RT.out.below KA.out RT.out.lt
   have HATA := LH (HAT.out.keep (w' := wA) (S' := InL w2.heap.size wA) fun b hb => ⟨⟨hb.1, by have := hb.2; omega⟩, KA.out.block b hb.2⟩)
   have MA := LH (M9.out.below KA.out)
   clear KA HAT RT
   refine wpAnyT_tk (i := 0) (oi := _) (v := ?tvz111) rfl (Or.inl ⟨by rfl, ?thz111⟩) ⟨RpA, RtA⟩ ?_
   case thz111 => (intro x hSx; have hcS := fun i => hSx.1.cell i; clear hSx; go_simp; (try with_reducible rfl))
   try simp only [List.getElem_toArray, List.getElem_cons_succ, List.getElem_cons_zero, Act.put, List.setIfInBounds_toArray, List.set_cons_zero, List.set_cons_succ]
   refine wpAnyT_tk (i := 1) (oi := _) (v := ?tvz112) rfl (Or.inl ⟨by rfl, ?thz112⟩) ⟨RpA, RtA⟩ ?_
   case thz112 => (intro x hSx; have hcS := fun i => hSx.2.cell i; clear hSx; go_simp; (try with_reducible rfl))
   try simp only [List.getElem_toArray, List.getElem_cons_succ, List.getElem_cons_zero, Act.put, List.setIfInBounds_toArray, List.set_cons_zero, List.set_cons_succ]
   have hcrA := fun i => RrA.out.cell i
   have hfrA := fun i => RrA.out.frozen i
   have hlrA := RrA.out.lt
   refine wpAnyT_step (i := 2) (by kernel_rfl) rfl (fun K hK => ?_)
   try simp only [List.getElem_toArray, List.getElem_cons_succ, List.getElem_cons_zero]
   go_simp
   obtain ⟨wB, eB, RrB, hzB, KB⟩ := storedSix RrA.out a0 a1 a2 a3 a4 a5
   rw [← eB]
   clear eB hcrA hfrA
   have RpB := KB.out.row RpA (by omega)
   have RtB := KB.out.row RtA (by omega)
   have RqB := LH (KB.out.row RqA.out (by omega))
   have HATB := LH (HATA.out.keep (w' := wB) (S' := InL w2.heap.size wB) fun b hb => ⟨⟨hb.1, by have := hb.2; omega⟩, KB.out.block b hb.2 (by have := hb.1; omega)⟩)
   have MB := LH (MA.out.chg KB.out (by omega) (by omega))
   clear RrA RqA MA HATA
   refine hK.out _ _ ⟨RpB, RtB⟩ (fun _ => ?_)
   clear hK K
   try simp only [List.getElem_toArray, List.getElem_cons_succ, List.getElem_cons_zero, Act.put, List.setIfInBounds_toArray, List.set_cons_zero, List.set_cons_succ]
   have hcqB := fun i => RqB.out.cell i
   have hfqB := fun i => RqB.out.frozen i
   have hlqB := RqB.out.lt
   refine wpAnyT_step (i := 3) (by kernel_rfl) rfl (fun K hK => ?_)
   try simp only [List.getElem_toArray, List.getElem_cons_succ, List.getElem_cons_zero]
   go_simp
   obtain ⟨wC, eC, RqC, hzC, KC⟩ := storedEleven RqB.out (.int .i64 tt.op) (.int .i64 tt.n) (.string tt.s) (.string tt.t) (.int .i64 tt.ty.op) (.int .i64 tt.ty.n) (.string tt.ty.s) (.slice A1 tt.ty.kids.length c1) (.slice A2 tt.inst.length c2) (.slice A3 tt.vars.length c3) (.slice A4 tt.kids.length c4)
   rw [← eC]
   clear eC hcqB hfqB
   have RpC := KC.out.row RpB (by omega)
   have RtC := KC.out.row RtB (by omega)
   have RrC := LH (KC.out.row RrB.out (by omega))
   have HATC := LH (HATB.out.keep (w' := wC) (S' := InL w.heap.size wC) fun b hb => ⟨⟨by have h1 := hb.1; omega, by have h2 := hb.2; omega⟩, KC.out.block b hb.2 (by have := hb.1; omega)⟩)
   have MC := LH (MB.out.chg KC.out (by omega) (by omega))
   clear RrB RqB MB HATB
   refine hK.out _ _ ⟨RpC, RtC⟩ (fun _ => ?_)
   refine wpAnyT_done (by kernel_rfl) ?_ _
   clear hK K RpA RtA RpB RtB RpC RtC
   have hcrC := fun i => RrC.out.cell i
   have hcqC := fun i => RqC.out.cell i
   go_wp2_with fail
   show BP _ _
   rw [HBP.out]
   refine bodyPost_ret (v := .tuple #[.agg #[a0, a1, a2, a3, a4, a5], .agg #[.int .i64 tt.op, .int .i64 tt.n, .string tt.s, .string tt.t, .int .i64 tt.ty.op, .int .i64 tt.ty.n, .string tt.ty.s, .slice A1 tt.ty.kids.length c1, .slice A2 tt.inst.length c2, .slice A3 tt.vars.length c3, .slice A4 tt.kids.length c4]]) (by simp [results, Tryz.results31, go_sem, hcrC, hcqC]) rfl ?_
   exact ⟨a0, a1, a2, a3, a4, a5, tt, A1, c1, A2, c2, A3, c3, A4, c4, rfl, HU.out, HATC.out, hbT, MC.out⟩
 have y0 : (x == 0) = false := beq_eq_false_iff_ne.2 (by omega)
 have y1 : (x == 1) = false := beq_eq_false_iff_ne.2 (by omega)
 have y2 : (x == 2) = false := beq_eq_false_iff_ne.2 (by omega)
 have y3 : (x == 3) = false := beq_eq_false_iff_ne.2 (by omega)
 have y4 : (x == 4) = false := beq_eq_false_iff_ne.2 (by omega)
 have y5 : (x == 5) = false := beq_eq_false_iff_ne.2 (by omega)
 have y6 : (x == 6) = false := beq_eq_false_iff_ne.2 (by omega)
 go_upto_region 20 with (fail)
 have PT9 := LH (PR9.out.1.turn ((Turn0.refl (lo := w2.heap.size) (w := w9) (w1 := w9) (Fr' := fun _ => False) (fun _ _ => rfl)).same (B' := 2505) (by omega) fun _ _ _ => rfl))
 clear PN9 hndN
 obtain ⟨cT, tt, A1, c1, A2, c2, A3, c3, A4, c4, hrT, hcT, hatT, hbT⟩ := rootRead PT9.out PR9.out.2.1 (fun b hb => hb.elim)
 have HAT := LH hatT
 have q0 := hcT 0 _ rfl
 have q1 := hcT 1 _ rfl
 have q2 := hcT 2 _ rfl
 have q3 := hcT 3 _ rfl
 have q4 := hcT 4 _ rfl
 have q5 := hcT 5 _ rfl
 have q6 := hcT 6 _ rfl
 have q7 := hcT 7 _ rfl
 have q8 := hcT 8 _ rfl
 have q9 := hcT 9 _ rfl
 have q10 := hcT 10 _ rfl
 clear hcT hatT
 have hqlt : w3.heap.size + 1 ≠ w.heap.size ∧ w3.heap.size + 1 ≠ w.heap.size + 1 := by omega
 have RT := LH hrT
 clear hrT
 refine wp_region_T (fun x => Row x w3.heap.size 64 #[a0, a1, a2, a3, a4, a5] ∧ Row x (w3.heap.size + 1) 40 cT) 100 (by kernel_rfl) ?_
 obtain ⟨wA, eA⟩ : ∃ x, x = w9.drew := ⟨_, rfl⟩
 rw [← eA]
 have KA := LH (show Below w9.heap.size w9 wA by rw [eA]; exact (Below.refl _ _).drew)
 have hzA : wA.heap.size ≤ w9.heap.size ∧ w9.heap.size ≤ wA.heap.size := by rw [eA]; exact ⟨Nat.le_refl _, Nat.le_refl _⟩
 clear eA
 have RrA := LH (Rr9.out.below KA.out Rr9.out.lt)
 have RqA := LH (Rq9.out.below KA.out Rq9.out.lt)
 have RpA := Rp9.out.below KA.out Rp9.out.lt
 have RtA := RT.out.below KA.out RT.out.lt
 have HATA := LH (HAT.out.keep (w' := wA) (S' := InL w2.heap.size wA) fun b hb => ⟨⟨hb.1, by have := hb.2; omega⟩, KA.out.block b hb.2⟩)
 have MA := LH (M9.out.below KA.out)
 clear KA HAT RT
 refine wpAnyT_tk (i := 0) (oi := _) (v := ?tvz121) rfl (Or.inl ⟨by rfl, ?thz121⟩) ⟨RpA, RtA⟩ ?_
 case thz121 => (intro x hSx; have hcS := fun i => hSx.1.cell i; clear hSx; go_simp; (try with_reducible rfl))
 try simp only [List.getElem_toArray, List.getElem_cons_succ, List.getElem_cons_zero, Act.put, List.setIfInBounds_toArray, List.set_cons_zero, List.set_cons_succ]
 refine wpAnyT_tk (i := 1) (oi := _) (v := ?tvz122) rfl (Or.inl ⟨by rfl, ?thz122⟩) ⟨RpA, RtA⟩ ?_
 case thz122 => (intro x hSx; have hcS := fun i => hSx.2.cell i; clear hSx; go_simp; (try with_reducible rfl))
 try simp only [List.getElem_toArray, List.getElem_cons_succ, List.getElem_cons_zero, Act.put, List.setIfInBounds_toArray, List.set_cons_zero, List.set_cons_succ]
 have hcrA := fun i => RrA.out.cell i
 have hfrA := fun i => RrA.out.frozen i
 have hlrA := RrA.out.lt
 refine wpAnyT_step (i := 2) (by kernel_rfl) rfl (fun K hK => ?_)
 try simp only [List.getElem_toArray, List.getElem_cons_succ, List.getElem_cons_zero]
 go_simp
 obtain ⟨wB, eB, RrB, hzB, KB⟩ := storedSix RrA.out a0 a1 a2 a3 a4 a5
 rw [← eB]
 clear eB hcrA hfrA
 have RpB := KB.out.row RpA (by omega)
 have RtB := KB.out.row RtA (by omega)
 have RqB := LH (KB.out.row RqA.out (by omega))
 have HATB := LH (HATA.out.keep (w' := wB) (S' := InL w2.heap.size wB) fun b hb => ⟨⟨hb.1, by have := hb.2; omega⟩, KB.out.block b hb.2 (by have := hb.1; omega)⟩)
 have MB := LH (MA.out.chg KB.out (by omega) (by omega))
 clear RrA RqA MA HATA
 refine hK.out _ _ ⟨RpB, RtB⟩ (fun _ => ?_)
 clear hK K
 try simp only [List.getElem_toArray, List.getElem_cons_succ, List.getElem_cons_zero, Act.put, List.setIfInBounds_toArray, List.set_cons_zero, List.set_cons_succ]
 have hcqB := fun i => RqB.out.cell i
 have hfqB := fun i => RqB.out.frozen i
 have hlqB := RqB.out.lt
 refine wpAnyT_step (i := 3) (by kernel_rfl) rfl (fun K hK => ?_)
 try simp only [List.getElem_toArray, List.getElem_cons_succ, List.getElem_cons_zero]
 go_simp
 obtain ⟨wC, eC, RqC, hzC, KC⟩ := storedEleven RqB.out (.int .i64 tt.op) (.int .i64 tt.n) (.string tt.s) (.string tt.t) (.int .i64 tt.ty.op) (.int .i64 tt.ty.n) (.string tt.ty.s) (.slice A1 tt.ty.kids.length c1) (.slice A2 tt.inst.length c2) (.slice A3 tt.vars.length c3) (.slice A4 tt.kids.length c4)
 rw [← eC]
 clear eC hcqB hfqB
 have RpC := KC.out.row RpB (by omega)
 have RtC := KC.out.row RtB (by omega)
 have RrC := LH (KC.out.row RrB.out (by omega))
 have HATC := LH (HATB.out.keep (w' := wC) (S' := InL w.heap.size wC) fun b hb => ⟨⟨by have h1 := hb.1; omega, by have h2 := hb.2; omega⟩, KC.out.block b hb.2 (by have := hb.1; omega)⟩)
 have MC := LH (MB.out.chg KC.out (by omega) (by omega))
 clear RrB RqB MB HATB
 refine hK.out _ _ ⟨RpC, RtC⟩ (fun _ => ?_)
 refine wpAnyT_done (by kernel_rfl) ?_ _
 clear hK K RpA RtA RpB RtB RpC RtC
 have hcrC := fun i => RrC.out.cell i
 have hcqC := fun i => RqC.out.cell i
 go_wp2_with fail
 show BP _ _
 rw [HBP.out]
 refine bodyPost_ret (v := .tuple #[.agg #[a0, a1, a2, a3, a4, a5], .agg #[.int .i64 tt.op, .int .i64 tt.n, .string tt.s, .string tt.t, .int .i64 tt.ty.op, .int .i64 tt.ty.n, .string tt.ty.s, .slice A1 tt.ty.kids.length c1, .slice A2 tt.inst.length c2, .slice A3 tt.vars.length c3, .slice A4 tt.kids.length c4]]) (by simp [results, Tryz.results31, go_sem, hcrC, hcqC]) rfl ?_
 exact ⟨a0, a1, a2, a3, a4, a5, tt, A1, c1, A2, c2, A3, c3, A4, c4, rfl, HU.out, HATC.out, hbT, MC.out⟩
end Go.Proofs.YtlpichogambpfaaGreat
