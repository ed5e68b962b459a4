/- Texts of the claim LValues in one: WValues Joined. Conditions: none but bounds on sizes. -/
import Derived.Test.YtamfolaicncblaaZLValues17
import Derived.Test.YtamfolaicncblaaZLValues18
import Derived.Test.YtamfolaicncblaaZLValues19
import Derived.WalkKit
import Derived.ProofKit
import Derived.OpenShut
import Derived.Test.YtamfolaicncblaaZLValues2
namespace Go.Proofs.Ytamfolaicncblaa
set_option maxRecDepth 20000
set_option linter.unusedVariables false
set_option linter.unusedSimpArgs false
open Go.RowKit
set_option maxHeartbeats 2000000
theorem bigYesV {n : Nat} (A : Option Addr) (c : Nat) (hbi : (1048576 : Int) < (n : Int)) (w : World) : Calls Try.prog 4 #[.slice A n c] w fun e w' => e = .returned (.bool true) ∧ w = w' := by
 go_enter Try.func4, Try.ntmps4
 go_wp2_with fail
 go_ret
 exact ⟨rfl, rfl⟩
theorem bigNoV {n : Nat} (A : Option Addr) (c : Nat) (hbi : ¬ (1048576 : Int) < (n : Int)) (w : World) : Calls Try.prog 4 #[.slice A n c] w fun e w' => e = .returned (.bool false) ∧ w = w' := by
 have h : decide ((1048576 : Int) < (n : Int)) = false := decide_eq_false hbi
 go_enter Try.func4, Try.ntmps4
 go_wp2_with fail
 go_ret
 exact ⟨rfl, rfl⟩
theorem drawValueText (l : List Int) (A : Option Addr) (c : Nat) (w : World) (hs : Sl w (Lt w.heap.size) 1 A c (l.map (D.num .u8))) (hl : l.length ≤ 1048576) :
 Calls Try.prog 5 #[.slice A l.length c] w fun e w' => ∃ v A1 c1, e = .returned (.agg #[.int .i64 (GValue.kind v), .int .i64 (GValue.n v), .string (GValue.s v), .slice A1 (GValue.kids v).length c1]) ∧ valB v ∧ GValue.At w' (fun b => w.heap.size ≤ b ∧ b < w'.heap.size) A1 c1 v ∧ Below w.heap.size w w' := by
 obtain ⟨w2, e1, R2, hz1, K1⟩ := boxed w 26 #[.int .i64 0, .int .i64 0, .string ⟨#[]⟩, .slice none 0 0]
 have B2 := LH (show Below w.heap.size w w2 by rw [e1]; exact (Below.refl _ _).alloc (Nat.le_refl _) _)
 have HN := LH (newCur l A c w2 (hs.below B2.out B2.out.size) hl)
 have hz2 : w.heap.size + 1 ≤ w2.heap.size := by omega
 clear hz1
 clear hs
 go_enter Try.func5, Try.ntmps5
 refine wp_hide (fun BP hBP => ?_)
 have HBP := LH hBP
 clear hBP
 go_wp2_with fail
 rw [← e1]
 clear e1 K1
 refine HN.out.mono ?_
 rintro e w3 ⟨h0, rfl, hc, hb⟩
 have hgl := hc.row.lt
 have B3 := LH (B2.out.trans (hb.mono B2.out.size))
 have R3 := LH (R2.out.below hb R2.out.lt)
 have M3 := LH (Dm.start hc)
 clear hc hb HN B2 R2
 go_wp2_with fail
 refine (drawVal10 M3.out).mono ?_
 rintro e w4 ⟨v, A1, c1, rfl, hv, hat, hm⟩
 have hz4 := hm.size
 have hz3 := B3.out.size
 have B4 := LH (B3.out.trans (hm.bx.below (B := w.heap.size) (by omega) (by omega)))
 have R4 := LH (hm.bx.row R3.out (by omega))
 have HV := LH hv
 have V4 := LH hat
 clear hm hat hv M3 B3 R3
 have hc4 := fun k => R4.out.cell k
 have hf4 := fun k => R4.out.frozen k
 have hl4 := R4.out.lt
 go_wp2_with fail
 obtain ⟨w5, e5, R5, hz5, K5⟩ := stored4 R4.out (.int .i64 v.kind) (.int .i64 v.n) (.string v.s) (.slice A1 v.kids.length c1)
 rw [← e5]
 have hc5 := fun k => R5.out.cell k
 clear e5 hc4 hf4
 have B5 := LH (B4.out.trans (K5.out.below (by have := B4.out.size; omega) (Nat.le_refl _)))
 show BP _ _
 rw [HBP.out]
 refine bodyPost_ret (v := .agg #[.int .i64 v.kind, .int .i64 v.n, .string v.s, .slice A1 v.kids.length c1]) (by simp [results, Try.results5, go_sem, hc5]) rfl ?_
 exact ⟨v, A1, c1, rfl, HV.out, V4.out.keep fun b h => ⟨⟨by have := h.1; omega, by have := h.2; omega⟩, K5.out.block b h.2 (by have := h.1; omega)⟩, B5.out⟩
theorem drawValueOk (l : List Int) (A : Option Addr) (c : Nat) (w : World) (hs : Sl w (Lt w.heap.size) 1 A c (l.map (D.num .u8))) (hl : l.length ≤ 1048576) :
 Calls Try.prog 6 #[.slice A l.length c] w fun e w' => ∃ ds D d v A1 c1, e = .returned (.tuple #[.slice D (List.length ds) d, .agg #[.int .i64 (GValue.kind v), .int .i64 (GValue.n v), .string (GValue.s v), .slice A1 (GValue.kids v).length c1]]) ∧ Datas9 ds ∧ valB v ∧ Sl w' (Lt w'.heap.size) 3 D d (ds.map GData.toD) ∧ GValue.At w' (Lt w'.heap.size) A1 c1 v ∧ Below w.heap.size w w' := by
 obtain ⟨w1, e1, R1, hz1, K1⟩ := boxed w 26 #[.int .i64 0, .int .i64 0, .string ⟨#[]⟩, .slice none 0 0]
 have B1 := LH (show Below w.heap.size w w1 by rw [e1]; exact (Below.refl _ _).alloc (Nat.le_refl _) _)
 have S1 := LH (hs.below B1.out B1.out.size)
 clear hs
 go_enter Try.func6, Try.ntmps6
 refine wp_hide (fun BP hBP => ?_)
 have HBP := LH hBP
 clear hBP
 go_wp2_with fail
 rw [← e1]
 clear e1 K1
 refine (drawDatas9 w1).mono ?_
 rintro e w2 ⟨ds, D, d, rfl, hd, sd, hb2⟩
 have hz2 := hb2.size
 have HD := LH hd
 have B2 := LH (B1.out.trans (hb2.mono B1.out.size))
 have SD := LH (sd.keep (w' := w2) (S' := fun b => w1.heap.size ≤ b ∧ b < w2.heap.size) fun b h => ⟨h, rfl⟩)
 have R2 := LH (R1.out.below hb2 R1.out.lt)
 have HN := LH (newCur l A c w2 (S1.out.below hb2 hb2.size) hl)
 clear hb2 hd sd S1 R1 B1
 go_wp2_with fail
 refine HN.out.mono ?_
 rintro e w3 ⟨h0, rfl, hc, hb⟩
 have hgl := hc.row.lt
 have B3 := LH (B2.out.trans (hb.mono B2.out.size))
 have R3 := LH (R2.out.below hb R2.out.lt)
 have SD3 := LH (SD.out.keep (w' := w3) (S' := fun b => (b < w3.heap.size ∧ b ≠ w2.heap.size) ∧ b ≠ w.heap.size) fun b h => ⟨⟨⟨by have := h.2; have := hb.size; omega, by have := h.2; omega⟩, by have := h.1; omega⟩, hb.block b h.2⟩)
 clear SD
 have M3 := LH (Dm.start hc)
 clear hc hb HN B2 R2
 go_wp2_with fail
 refine (drawVal10 M3.out).mono ?_
 rintro e w4 ⟨v, A1, c1, rfl, hv, hat, hm⟩
 have hz4 := hm.size
 have hz3 := B3.out.size
 have B4 := LH (B3.out.trans (hm.bx.below (B := w.heap.size) (by omega) (by omega)))
 have R4 := LH (hm.bx.row R3.out (by omega))
 have HV := LH hv
 have V4 := LH hat
 have SD4 := LH (SD3.out.keep (w' := w4) (S' := fun b => b < w4.heap.size ∧ b ≠ w.heap.size) fun b h => ⟨⟨by have := h.1.1; omega, h.2⟩, hm.bx.block b h.1.1 h.1.2⟩)
 clear SD3
 clear hm hat hv M3 B3 R3
 have hc4 := fun k => R4.out.cell k
 have hf4 := fun k => R4.out.frozen k
 have hl4 := R4.out.lt
 go_wp2_with fail
 obtain ⟨w5, e5, R5, hz5, K5⟩ := stored4 R4.out (.int .i64 v.kind) (.int .i64 v.n) (.string v.s) (.slice A1 v.kids.length c1)
 rw [← e5]
 have hc5 := fun k => R5.out.cell k
 clear e5 hc4 hf4
 have B5 := LH (B4.out.trans (K5.out.below (by have := B4.out.size; omega) (Nat.le_refl _)))
 show BP _ _
 rw [HBP.out]
 refine bodyPost_ret (v := .tuple #[.slice D ds.length d, .agg #[.int .i64 v.kind, .int .i64 v.n, .string v.s, .slice A1 v.kids.length c1]]) (by simp [results, Try.results6, go_sem, hc5]) rfl ?_
 exact ⟨ds, D, d, v, A1, c1, rfl, HD.out, HV.out, SD4.out.keep fun b h => ⟨by have := h.1; show b < _; omega, K5.out.block b h.1 h.2⟩, V4.out.keep fun b h => ⟨by have := h.2; show b < _; omega, K5.out.block b h.2 (by have := h.1; omega)⟩, B5.out⟩
theorem walkValues (l : List Int) (A : Option Addr) (c : Nat) (w : World) (hs : Sl w (Lt w.heap.size) 1 A c (l.map (D.num .u8))) :
 Calls Try.prog 3 #[.slice A l.length c] w fun e w' => e = .returned (.bool true) ∧ Below w.heap.size w w' := by
 have S0 := LH hs
 have hln : l.length ≤ 9223372036854775807 := by simpa using hs.len
 clear hs
 by_cases hbig : 1048576 < l.length
 ·
  have hbi : (1048576 : Int) < (l.length : Int) := by omega
  go_enter Try.func3, Try.ntmps3
  go_wp2_with fail
  refine (bigYesV A c (by omega) w).mono ?_
  rintro e w1 ⟨rfl, rfl⟩
  go_wp2_with fail
  go_ret
  exact ⟨rfl, Below.refl _ _⟩
 have hbi : ¬ (1048576 : Int) < (l.length : Int) := by omega
 have hl : l.length ≤ 1048576 := by omega
 go_enter Try.func3, Try.ntmps3
 go_wp2_with fail
 refine (bigNoV A c (by omega) w).mono ?_
 rintro e w1 ⟨rfl, rfl⟩
 go_wp2_with fail
 refine (drawValueText l A c w S0.out hl).mono ?_
 rintro e w1 ⟨v, A1, c1, rfl, hv, av, hb⟩
 have hvb : v.bulk ≤ 60 := hv
 obtain ⟨w2, e2, R2, hz2, K2⟩ := boxed w1 26 #[.int .i64 v.kind, .int .i64 v.n, .string v.s, .slice A1 v.kids.length c1]
 have E2 := LH (show Below w1.heap.size w1 w2 by rw [e2]; exact (Below.refl _ _).alloc (Nat.le_refl _) _)
 have B2 := LH (hb.trans (E2.out.mono hb.size))
 have V2 := LH (av.keep (w' := w2) (S' := Lt w2.heap.size) fun b h => ⟨by have := h.2; show b < _; omega, E2.out.block b h.2⟩)
 have S2 := LH (S0.out.below B2.out B2.out.size)
 clear hb av K2 hv
 obtain ⟨q1, eq1⟩ : ∃ q, q = w1.heap.size := ⟨_, rfl⟩
 rw [← eq1] at R2
 have RV2 := LH R2
 have EQ1 := LH eq1
 clear eq1 R2
 go_wp2_with fail
 rw [← e2]
 clear e2
 refine (drawValueOk l A c w2 S2.out hl).mono ?_
 rintro e w3 ⟨ds, D, d, x, X, xc, rfl, hd, hx, sd, ax, hb3⟩
 have hxb : x.bulk ≤ 60 := hx
 have hdb := hd.bulk
 obtain ⟨w4, e4, R4, hz4, K4⟩ := boxed w3 26 #[.int .i64 x.kind, .int .i64 x.n, .string x.s, .slice X x.kids.length xc]
 have E4 := LH (show Below w2.heap.size w2 w4 by rw [e4]; exact hb3.alloc hb3.size _)
 have F4 := LH (show Below w3.heap.size w3 w4 by rw [e4]; exact (Below.refl _ _).alloc (Nat.le_refl _) _)
 have B4 := LH (B2.out.trans (E4.out.mono B2.out.size))
 have V4 := LH (V2.out.below E4.out E4.out.size)
 have RV4 := LH (RV2.out.below E4.out RV2.out.lt)
 have D4 := LH (sd.below F4.out F4.out.size)
 have X4 := LH (ax.below F4.out F4.out.size)
 obtain ⟨q2, eq2⟩ : ∃ q, q = w3.heap.size := ⟨_, rfl⟩
 rw [← eq2] at R4
 have RX4 := LH R4
 have EQ2 := LH eq2
 clear hb3 sd ax K4 hd hx RV2 V2 eq2 E4 F4 R4
 have HT1 := LH (fun y : Up w4 => implValueText (v.bulk + 1) v A1 c1 y.v (by omega) (by omega) (V4.out.below y.h y.h.size))
 have HT2 := LH (fun y : Up w4 => specValueText (v.bulk + 1) v A1 c1 y.v (by omega) (by omega) (V4.out.below y.h y.h.size))
 have HT3 := LH (fun y : Up w4 => implValueOk ds D d x X xc y.v (D4.out.below y.h y.h.size) (X4.out.below y.h y.h.size))
 have HT4 := LH (fun y : Up w4 => specValueOk ds D d x X xc y.v (by omega) (D4.out.below y.h y.h.size) (X4.out.below y.h y.h.size))
 go_upto_region 5 with (fail)
 rw [← e4, ← EQ1.out, ← EQ2.out]
 clear e4
 have hcv := upRow RV4.out
 have hcx := upRow RX4.out
 refine wp_region_up w4 (Below.refl _ _) (by kernel_rfl) (by kernel_rfl) ?_
 repeat (go_big_quiet_step (first
   | (go_at_call 7; exact upCall (HT1.out _))
   | (go_at_call 8; exact upCall (HT2.out _))
   | (go_at_call 9; exact upCall (HT3.out _))
   | (go_at_call 10; exact upCall (HT4.out _))))
 refine wpQuiet_nil ?_
 rintro w8 ⟨y, e8⟩
 have E8 := LH (show Below w4.heap.size w4 w8 by rw [e8]; exact y.h)
 clear e8 hcv hcx HT1 HT2 HT3 HT4
 have B8 := LH (B4.out.trans (E8.out.mono B4.out.size))
 have V8 := LH (V4.out.below E8.out E8.out.size)
 have X8 := LH (X4.out.below E8.out E8.out.size)
 have RV8 := LH (RV4.out.below E8.out RV4.out.lt)
 have RX8 := LH (RX4.out.below E8.out RX4.out.lt)
 clear E8 V4 X4 D4 RV4 RX4 B4
 have hcx := fun i => RX8.out.cell i
 have hfx := fun i => RX8.out.frozen i
 have hlx := RX8.out.lt
 have N8 := LH (GNode.leaf (w := w8) (S := Lt w8.heap.size) (op := 17) (n := 0) (s := ⟨#[]⟩) (t := ⟨#[]⟩) (show (Lit.int .i64 17).wf = true by decide) (show (Lit.int .i64 0).wf = true by decide) empty_le empty_le)
 go_wp2_with fail
 refine (implFits 1 (.mk 17 0 ⟨#[]⟩ ⟨#[]⟩ []) x none 0 X xc w8 (by decide) N8.out X8.out).mono ?_
 rintro e w9 ⟨rfl, hb9⟩
 clear hcx hfx hlx
 have B9 := LH (B8.out.trans (hb9.mono B8.out.size))
 have V9 := LH (V8.out.below hb9 hb9.size)
 have X9 := LH (X8.out.below hb9 hb9.size)
 have RV9 := LH (RV8.out.below hb9 RV8.out.lt)
 have RX9 := LH (RX8.out.below hb9 RX8.out.lt)
 clear hb9 V8 X8 RV8 RX8 B8 N8
 have hf1 : fitsB (.mk 17 0 ⟨#[]⟩ ⟨#[]⟩ []) x = true := by rw [fitsB_eq]; rfl
 have hcx := fun i => RX9.out.cell i
 have hfx := fun i => RX9.out.frozen i
 have hlx := RX9.out.lt
 have N9 := LH (GNode.leaf (w := w9) (S := Lt w9.heap.size) (op := 18) (n := 0) (s := ⟨#[120]⟩) (t := ⟨#[]⟩) (show (Lit.int .i64 18).wf = true by decide) (show (Lit.int .i64 0).wf = true by decide) (by decide) empty_le)
 go_wp2_with fail
 refine (implFits 2 (.mk 18 0 ⟨#[120]⟩ ⟨#[]⟩ []) x none 0 X xc w9 (by decide) N9.out X9.out).mono ?_
 rintro e w10 ⟨rfl, hb10⟩
 clear hcx hfx hlx
 have B10 := LH (B9.out.trans (hb10.mono B9.out.size))
 have V10 := LH (V9.out.below hb10 hb10.size)
 have RV10 := LH (RV9.out.below hb10 RV9.out.lt)
 clear hb10 V9 X9 RV9 RX9 B9 N9
 have hf2 : fitsB (.mk 18 0 ⟨#[120]⟩ ⟨#[]⟩ []) x = true := by rw [fitsB_eq]; rfl
 have hcv := fun i => RV10.out.cell i
 have hfv := fun i => RV10.out.frozen i
 have hlv := RV10.out.lt
 go_wp2_with fail
 refine (implValueText (v.bulk + 1) v A1 c1 w10 (by omega) (by omega) V10.out).mono ?_
 rintro e w11 ⟨rfl, hb11⟩
 clear hcv hfv hlv
 have B11 := LH (B10.out.trans (hb11.mono B10.out.size))
 have RV11 := LH (RV10.out.below hb11 RV10.out.lt)
 clear hb11 V10 RV10 B10
 have hcv := fun i => RV11.out.cell i
 have hfv := fun i => RV11.out.frozen i
 have hlv := RV11.out.lt
 by_cases hk : v.kind = 2
 · have hk2 : (v.kind == 2) = true := beq_iff_eq.2 hk
   clear hk
   go_wp2_with fail
   all_goals (go_ret; exact ⟨rfl, B11.out⟩)
 · have y0 : ¬ v.text.toList = [] := fun h => shown_some v hk (by apply ByteArray.ext; rw [ByteArray.toList_eq] at h; simpa using h)
   clear hk
   go_wp2_with fail
   all_goals (go_ret; exact ⟨rfl, B11.out⟩)
end Go.Proofs.Ytamfolaicncblaa
namespace Go.Proofs.Ytamfolaicncblaa
set_option maxRecDepth 20000
set_option linter.unusedVariables false
set_option linter.unusedSimpArgs false
open Go.ChangeShapes Go.WideShapes Go.ChangeAt Go.RowKit
def kindsOf (P : Program) (fn : Func) (c : OpenClaim) : List (Option IntKind) := if c.domain.isEmpty then [] else fn.params.toList.map fun t => match P.underlying t with | some (.int k) => some k | _ => none
theorem joinedAnd {a b : Bool} (h : a = true) (h2 : b = true) : (a && b) = true := by rw [h, h2]; rfl
set_option maxRecDepth 10000 in
theorem joinedOf {P : Program} {f : FuncId} {fn : Func} {s : ChangeSpec} {c : OpenClaim} (h0 : (c.wf (OpenSpec.ofChange s)) = true) (h1 : (laidOutB P) = true) (h2 : (mapsRowed P) = true) (h3 : (fn.params.all (P.readableRec ·)) = true) (h4 : (namedTie P c.named s.vars) = true) (h5 : (c.stops == []) = true) (h6 : (P.stops == []) = true) (h7 : (c.knobs == []) = true) (h8 : (P.stopKnobs == []) = true) (h9 : (c.inPlace == P.inPlace f) = true) (h10 : (c.unfollowed == P.unfollowed f) = true) (h11 : (c.recurses == P.recurses f) = true) (h12 : (c.named == P.varsNamed f) = true) (h13 : (c.maps == (fn.params.toList ++ s.plain.varTypes P).any (P.mapsRec ·)) = true) (h14 : (c.ifaces == (fn.params.toList ++ s.plain.varTypes P).any (P.ifacesRec ·)) = true) (h15 : (c.mapsOut == P.mapsAmong fn.resultTypes.toList) = true) (h16 : (c.loops == (fn.params.toList ++ s.plain.varTypes P).any (P.loopsFrom ·)) = true) (h17 : (c.wideKeys == (fn.params.toList ++ s.plain.varTypes P ++ fn.resultTypes.toList).any (P.wideKeysFrom ·)) = true) (h18 : (s.vars.all (P.varReadable ·)) = true) (h19 : (fn.resultTypes.all (fun t => P.readableRec t && decide (t < P.types.size))) = true) (h20 : (c.ifacesOut == fn.resultTypes.toList.any (P.ifacesRec ·)) = true) (h21 : (c.loopsOut == fn.resultTypes.toList.any (P.loopsFrom ·)) = true) (h22 : (c.plainKeys == P.plainKeys) = true) (h23 : (c.shortTexts.isNone) = true) (h24 : (P.stopsHeard) = true) (h25 : (P.mayEnter) = true) (h26 : (c.lifted == P.liftsFinal) = true) (h27 : (P.make == some c.make) = true) (h28 : (c.kinds == kindsOf P fn c) = true) (h29 : (c.pinned == c.pinnedBy) = true) (h30 : (c.veiled == (fn.params.toList ++ s.plain.varTypes P ++ fn.resultTypes.toList).any (P.veiledRec ·)) = true) (h31 : (c.veiledFits P fn.params.toList (fn.params.toList ++ s.plain.varTypes P ++ fn.resultTypes.toList)) = true) : joinedFacts P f fn s c = true := by
 unfold joinedFacts
 exact (joinedAnd (joinedAnd (joinedAnd (joinedAnd (joinedAnd (joinedAnd (joinedAnd (joinedAnd (joinedAnd (joinedAnd (joinedAnd (joinedAnd (joinedAnd (joinedAnd (joinedAnd (joinedAnd (joinedAnd (joinedAnd (joinedAnd (joinedAnd (joinedAnd (joinedAnd (joinedAnd (joinedAnd (joinedAnd (joinedAnd (joinedAnd (joinedAnd (joinedAnd (joinedAnd (joinedAnd h0 h1) h2) h3) h4) h5) h6) h7) h8) h9) h10) h11) h12) h13) h14) h15) h16) h17) h18) h19) h20) h21) h22) h23) h24) h25) h26) h27) h28) h29) h30) h31)
end Go.Proofs.Ytamfolaicncblaa
