/- Coverage: the rows of alternatives, in both. Conditions: the sizes are bounded. -/
import Derived.Test.YtgbcdfeflgnogaaCoverL
namespace Go.Proofs.Ytgbcdfeflgnogaa
open Go.RowKit
set_option linter.unusedVariables false
set_option linter.unusedSimpArgs false
set_option maxHeartbeats 1000000

/-- rows that both hand back -/
def RowsTo (rows : List (List GNode)) (w : World) (e : Ending) (w' : World) : Prop := ∃ A c, e = .returned (.slice A rows.length c) ∧ Sl w' (Lt w'.heap.size) 1 A c (rows.map rowD) ∧ Below w.heap.size w w'
theorem anyN_cells (w : World) (S : Nat → Prop) : anyN.toD.rd w S [.int .i64 17, .int .i64 0, .string ⟨#[]⟩, .string ⟨#[]⟩, .slice none 0 0] := anyN_rd w S 0 (Nat.zero_le _) none
def TrX : Nat → Prop := fun _ => True
theorem rowsOf_take {f : GNode → GNode} {alts : List GNode} {j : Nat} (h : j < alts.length) : rowsOf f (alts.take (j + 1)) = rowsOf f (alts.take j) ++ [[f alts[j]]] := by
  unfold rowsOf; rw [take_snoc' alts j h, List.map_append]; rfl
theorem patOf_cons {a k : GNode} {r : List GNode} (h : a.kids = k :: r) : patOf a = k := by unfold patOf hd; rw [h]; rfl
theorem patOf_nil {a : GNode} (h : a.kids = []) : patOf a = anyN := by unfold patOf hd; rw [h]; rfl
theorem patI_cons {a k : GNode} {r : List GNode} (h : a.kids = k :: r) : patI a = k := by unfold patI; rw [h]; rfl
theorem patI_nil {a : GNode} (h : a.kids = []) : patI a = zeroN := by unfold patI; rw [h]; rfl

/-- a pattern that is handed back -/
def PatTo (S : Nat → Prop) (p : GNode) (w : World) (e : Ending) (w' : World) : Prop := ∃ A c, e = .returned (.agg #[.int .i64 p.op, .int .i64 p.n, .string p.s, .string p.t, .slice A p.kids.length c]) ∧ GNode.At w' S A c p ∧ Below w.heap.size w w'
set_option maxRecDepth 20000 in
theorem implPatternOf (S : Nat → Prop) (a : GNode) (A1 : Option Addr) (c1 : Nat) (w : World) (hS : ∀ b, S b → b < w.heap.size) (hat : GNode.At w S A1 c1 a) :
    Calls Try.prog 138 #[.agg #[.int .i64 a.op, .int .i64 a.n, .string a.s, .string a.t, .slice A1 a.kids.length c1]] w (PatTo S (patI a) w) := by
  have HSS := Lib.hid hS
  clear hS
  obtain ⟨w0, e0⟩ : ∃ w0, w0 = (w.alloc (.cells #[.int .i64 a.op, .int .i64 a.n, .string a.s, .string a.t, .slice A1 a.kids.length c1] 49)).alloc (.cells #[.int .i64 0, .int .i64 0, .string ⟨#[]⟩, .string ⟨#[]⟩, .slice none 0 0] 49) := ⟨_, rfl⟩
  have E0 := Lib.hid (show Below w.heap.size w w0 by rw [e0]; exact ((Below.refl _ _).alloc (Nat.le_refl _) _).alloc (by simp) _)
  have hkm : a.kids.length ≤ 9223372036854775807 := by simpa using hat.2.2.2.2.len
  cases hks : a.kids with
  | nil =>
    have HV := Lib.hid (patI_nil hks)
    have EQ := Lib.hid e0
    rw [hks] at EQ
    clear hks hat e0
    go_enter Try.func138, Try.ntmps138
    go_wp2_with fail
    refine bodyPost_ret (v := .agg #[.int .i64 0, .int .i64 0, .string ⟨#[]⟩, .string ⟨#[]⟩, .slice none 0 0]) (by simp [results, Try.results138, go_sem]) rfl ?_
    rw [HV.out]
    refine ⟨none, 0, rfl, ⟨(show (Lit.int IntKind.i64 0).wf = true by decide), (show (Lit.int IntKind.i64 0).wf = true by decide), (show ByteArray.empty.size ≤ maxLen by unfold maxLen; simp), (show ByteArray.empty.size ≤ maxLen by unfold maxLen; simp), Sl.nil (Nat.zero_le _)⟩, ?_⟩
    have := E0.out
    rw [EQ.out] at this
    exact this
  | cons k r =>
    have hat2 := hat.2.2.2.2
    rw [hks] at hat2
    obtain ⟨b, off, A2, c2, rfl, hSb, q0, q1, q2, q3, q4, hk⟩ := GNode.elem hat2 0 (by simp)
    simp only [Nat.zero_mul, Nat.add_zero, List.getElem_cons_zero] at q0 q1 q2 q3 q4 hk
    have HV := Lib.hid (patI_cons hks)
    have HK := Lib.hid hk
    have k0 := (E0.out.cell (p := ⟨b, off, none⟩) (HSS.out b hSb)).trans q0
    have k1 := (E0.out.cell (p := ⟨b, off + 1, none⟩) (HSS.out b hSb)).trans q1
    have k2 := (E0.out.cell (p := ⟨b, off + 2, none⟩) (HSS.out b hSb)).trans q2
    have k3 := (E0.out.cell (p := ⟨b, off + 3, none⟩) (HSS.out b hSb)).trans q3
    have k4 := (E0.out.cell (p := ⟨b, off + 4, none⟩) (HSS.out b hSb)).trans q4
    rw [e0] at k0 k1 k2 k3 k4
    have EQ := Lib.hid e0
    have hl : a.kids.length = r.length + 1 := by rw [hks]; rfl
    rw [hl] at hkm EQ k0 k1 k2 k3 k4
    rw [List.length_cons]
    clear hks hat e0 hat2 hk q0 q1 q2 q3 q4 hl
    go_enter Try.func138, Try.ntmps138
    go_wp2_with fail
    refine bodyPost_ret (v := .agg #[.int .i64 k.op, .int .i64 k.n, .string k.s, .string k.t, .slice A2 k.kids.length c2]) (by simp [results, Try.results138, go_sem]) rfl ?_
    rw [HV.out]
    exact (fun (BB : Below w.heap.size w _) => ⟨A2, c2, rfl, HK.out.keep fun x hx => ⟨hx, BB.block x (HSS.out x hx)⟩, BB⟩) (((Below.refl _ _).alloc (Nat.le_refl _) _).alloc (by simp) _)

set_option maxRecDepth 20000 in
theorem specRows (alts : List GNode) (A : Option Addr) (c : Nat) (w : World) (hl : alts.length ≤ 1048576) (hs : Sl w (Lt w.heap.size) 5 A c (alts.map GNode.toD)) :
    Calls Try.prog 88 #[.slice A alts.length c] w (RowsTo (rowsOf patOf alts) w) := by
  have HS := Lib.hid hs
  have hlm : alts.length ≤ 9223372036854775807 := by omega
  obtain ⟨w0, e0⟩ : ∃ w0, w0 = w.alloc (.cells #[] 29) := ⟨_, rfl⟩
  have E0 := Lib.hid (show Below w.heap.size w w0 by rw [e0]; exact (Below.refl _ _).alloc (Nat.le_refl _) _)
  have G0 := Lib.hid (show Grx TrX w0 w.heap.size 29 1 (.slice (some ⟨w.heap.size, 0, none⟩) 0 0) 0 [] from Grx.made (by rw [e0]; exact Row.new' _ _ _ rfl) (Nat.le_refl _))
  clear hs
  go_enter Try.func88, Try.ntmps88
  go_wp2_with fail
  rw [← e0]
  clear e0
  go_loopw [3, 4] (fun v i wr => ∃ (j : Nat) (A : Option Addr) (c : Nat), j ≤ alts.length ∧ i = .int .i64 j ∧ v = .slice A j c ∧ Hid (Grx TrX wr w.heap.size 29 1 (.slice A j c) j ((rowsOf patOf (alts.take j)).map rowD)) ∧ Hid (Below w.heap.size w wr)) (fun _ i _ => alts.length - (intOf i).toNat)
  case atStart => exact ⟨0, _, _, by omega, by go_num, rfl, G0, E0⟩
  case round =>
    clear G0 E0
    obtain ⟨j, A', c', hj, rfl, rfl, HG, HB⟩ := hrel
    have hsz := HB.out.size
    have HOW := Lib.hid (fun g (hg : (Value.slice A' j c').ownBlock = some g) => HG.out.own g hg)
    by_cases hlt : j < alts.length
    · obtain ⟨b, off, A1, c1, rfl, hSb, q0, q1, q2, q3, q4, hat⟩ := GNode.elem (HS.out.keep (w' := wr) (S' := Lt w.heap.size) fun k hk => ⟨hk, HB.out.block k hk⟩) j hlt
      have HT := Lib.hid (rowsOf_take (f := patOf) hlt)
      have hkm : (alts[j]).kids.length ≤ 9223372036854775807 := by simpa using hat.2.2.2.2.len
      obtain ⟨wa, ea⟩ : ∃ wa, wa = wr.alloc (.cells #[.int .i64 17, .int .i64 0, .string ⟨#[]⟩, .string ⟨#[]⟩, .slice none 0 0] 49) := ⟨_, rfl⟩
      have EA := Lib.hid (show Below wr.heap.size wr wa by rw [ea]; exact (Below.refl _ _).alloc (Nat.le_refl _) _)
      have RA := Lib.hid (show Row wa wr.heap.size 49 #[.int .i64 17, .int .i64 0, .string ⟨#[]⟩, .string ⟨#[]⟩, .slice none 0 0] by rw [ea]; exact Row.new' _ _ _ rfl)
      have hsa := Nat.le_trans hsz EA.out.size
      have k4 := (EA.out.cell (p := ⟨b, off + j * 5 + 4, none⟩) (Nat.lt_of_lt_of_le hSb hsz)).trans q4
      cases hks : (alts[j]).kids with
      | nil =>
        have HV := Lib.hid (show patOf alts[j] = anyN from patOf_nil hks)
        rw [hks] at k4
        rw [ea] at k4
        have hwa : wa.heap.size = wr.heap.size + 1 := by rw [ea]; simp
        obtain ⟨w3, e3⟩ : ∃ w3, w3 = wa.alloc (.cells #[.slice (some ⟨wr.heap.size, 0, none⟩) 1 1] 29) := ⟨_, rfl⟩
        have E3 := Lib.hid (show Below wa.heap.size wa w3 by rw [e3]; exact (Below.refl _ _).alloc (Nat.le_refl _) _)
        have T3 := Lib.hid (oneRow (X := TrX) (r := [anyN]) (w' := w3) (T := 29) (Value.slice A' j c') (fun g hg => Nat.lt_of_lt_of_le (HOW.out g hg).2 EA.out.size) trivial e3
          (slOne RA.out (anyN_cells _ _) rfl ⟨RA.out.lt, fun e => by have := (HOW.out _ e).2; omega, trivial⟩))
        have T3x := Lib.hid (show Sl w3 (fun b => b < w3.heap.size ∧ (Value.slice A' j c').ownBlock ≠ some b ∧ TrX b) 1 (some ⟨wr.heap.size + 1, 0, none⟩) 1 ([[anyN]].map rowD) from by have h := T3.out; rw [hwa] at h; exact h)
        clear hwa
        have G3 := Lib.hid ((HG.out.below EA.out).below E3.out)
        have hs3 := Nat.le_trans hsa E3.out.size
        have B3 := Lib.hid ((HB.out.trans (EA.out.mono hsz)).trans (E3.out.mono hsa))
        clear hat hks q0 q1 q2 q3 q4
        go_wp2_with (first | (at_builtin; rw [← ea, ← e3]; refine wpList_append_X w3 rfl (.tmp 30) (.tmp 32) 37 rfl 29 zRow 1 24 Try.underlying37 (by kernel_rfl) rfl (by omega) w.heap.size (.slice A' j c') j _ G3.out (some ⟨wr.heap.size + 1, 0, none⟩) 1 1 _ rfl T3x.out hs3 (by unfold maxLen; omega) (by omega) rfl rfl ?_; intro A4 c4 w4 G4 hGr4; have G4h := Lib.hid G4; have B4 := Lib.hid (B3.out.trans (hGr4.below hs3 (fun g hg => (HOW.out g hg).1))); clear G4 hGr4))
        go_roundw
        case rel => exact ⟨j + 1, A4, c4, by omega, by go_num, rfl, Lib.hid (by rw [HT.out, HV.out, List.map_append]; exact G4h.out), B4⟩
        case measure => simp [intOf]; omega
      | cons k r =>
        have hl : (alts[j]).kids.length = r.length + 1 := by rw [hks]; rfl
        have HV := Lib.hid (show patOf alts[j] = k from patOf_cons hks)
        have hat2 := hat.2.2.2.2
        rw [hks] at hat2
        obtain ⟨bk, offk, A2, c2, rfl, hSk, p0, p1, p2, p3, p4, hk⟩ := GNode.elem hat2 0 (by simp)
        simp only [Nat.zero_mul, Nat.add_zero, List.getElem_cons_zero] at p0 p1 p2 p3 p4 hk
        rw [hl] at k4 hkm
        have m0 := (EA.out.cell (p := ⟨bk, offk, none⟩) (Nat.lt_of_lt_of_le hSk hsz)).trans p0
        have m1 := (EA.out.cell (p := ⟨bk, offk + 1, none⟩) (Nat.lt_of_lt_of_le hSk hsz)).trans p1
        have m2 := (EA.out.cell (p := ⟨bk, offk + 2, none⟩) (Nat.lt_of_lt_of_le hSk hsz)).trans p2
        have m3 := (EA.out.cell (p := ⟨bk, offk + 3, none⟩) (Nat.lt_of_lt_of_le hSk hsz)).trans p3
        have m4 := (EA.out.cell (p := ⟨bk, offk + 4, none⟩) (Nat.lt_of_lt_of_le hSk hsz)).trans p4
        rw [ea] at k4 m0 m1 m2 m3 m4
        have hwa : wa.heap.size = wr.heap.size + 1 := by rw [ea]; simp
        obtain ⟨wb, eb⟩ : ∃ wb, wb = wa.alloc (.cells #[.int .i64 k.op, .int .i64 k.n, .string k.s, .string k.t, .slice A2 k.kids.length c2] 49) := ⟨_, rfl⟩
        have EB := Lib.hid (show Below wa.heap.size wa wb by rw [eb]; exact (Below.refl _ _).alloc (Nat.le_refl _) _)
        have RB := Lib.hid (show Row wb (wr.heap.size + 1) 49 #[.int .i64 k.op, .int .i64 k.n, .string k.s, .string k.t, .slice A2 k.kids.length c2] by rw [eb]; exact Row.new' _ _ _ hwa.symm)
        have hwb : wb.heap.size = wr.heap.size + 2 := by rw [eb]; simp; omega
        obtain ⟨w3, e3⟩ : ∃ w3, w3 = wb.alloc (.cells #[.slice (some ⟨wr.heap.size + 1, 0, none⟩) 1 1] 29) := ⟨_, rfl⟩
        have E3 := Lib.hid (show Below wb.heap.size wb w3 by rw [e3]; exact (Below.refl _ _).alloc (Nat.le_refl _) _)
        have T3 := Lib.hid (oneRow (X := TrX) (r := [k]) (w' := w3) (T := 29) (Value.slice A' j c') (fun g hg => Nat.lt_of_lt_of_le (HOW.out g hg).2 (Nat.le_trans EA.out.size EB.out.size)) trivial e3
          (slOne RB.out (GNode.rd_mk (t := k) (hk.keep (w' := wb) (S' := fun b => b < wb.heap.size ∧ (Value.slice A' j c').ownBlock ≠ some b ∧ TrX b) fun b hb => ⟨⟨by have : b < w.heap.size := hb; omega, fun e => by have := (HOW.out _ e).1; have : b < w.heap.size := hb; omega, trivial⟩, (EB.out.block b (by have : b < w.heap.size := hb; omega)).trans (EA.out.block b (by have : b < w.heap.size := hb; omega))⟩)) rfl ⟨RB.out.lt, fun e => by have := (HOW.out _ e).2; omega, trivial⟩))
        have T3x := Lib.hid (show Sl w3 (fun b => b < w3.heap.size ∧ (Value.slice A' j c').ownBlock ≠ some b ∧ TrX b) 1 (some ⟨wr.heap.size + 2, 0, none⟩) 1 ([[k]].map rowD) from by have h := T3.out; rw [hwb] at h; exact h)
        have G3 := Lib.hid (((HG.out.below EA.out).below EB.out).below E3.out)
        have hs3 : w.heap.size ≤ w3.heap.size := Nat.le_trans hsa (Nat.le_trans EB.out.size E3.out.size)
        have B3 := Lib.hid (((HB.out.trans (EA.out.mono hsz)).trans (EB.out.mono hsa)).trans (E3.out.mono (Nat.le_trans hsa EB.out.size)))
        rw [hl] at q4
        clear hat hat2 hks hk p0 p1 p2 p3 p4 hwa hwb hl q0 q1 q2 q3
        go_wp2_with (first | (at_builtin; rw [← ea, ← eb, ← e3]; refine wpList_append_X w3 rfl (.tmp 30) (.tmp 32) 37 rfl 29 zRow 1 24 Try.underlying37 (by kernel_rfl) rfl (by omega) w.heap.size (.slice A' j c') j _ G3.out (some ⟨wr.heap.size + 2, 0, none⟩) 1 1 _ rfl T3x.out hs3 (by unfold maxLen; omega) (by omega) rfl rfl ?_; intro A4 c4 w4 G4 hGr4; have G4h := Lib.hid G4; have B4 := Lib.hid (B3.out.trans (hGr4.below hs3 (fun g hg => (HOW.out g hg).1))); clear G4 hGr4))
        go_roundw
        case rel => exact ⟨j + 1, A4, c4, by omega, by go_num, rfl, Lib.hid (by rw [HT.out, HV.out, List.map_append]; exact G4h.out), B4⟩
        case measure => simp [intOf]; omega
    · have hje : j = alts.length := by omega
      have HLE := Lib.hid (show alts.take j = alts by rw [hje, List.take_length])
      clear hje
      go_wp2_with fail
      go_ret
      have hG := HG.out
      rw [HLE.out] at hG
      obtain ⟨A5, c5, e5, hs5⟩ := hG.sl (fun _ _ => trivial)
      have hl5 := hG.1
      obtain ⟨rfl, rfl⟩ : A' = A5 ∧ c' = c5 := by simpa using e5
      exact ⟨A', c', ret_sl (by rw [← hl5]; simp), hs5.keep fun b hb => ⟨hb.1, rfl⟩, HB.out⟩

set_option maxRecDepth 20000 in
theorem implPatterns (alts : List GNode) (A : Option Addr) (c : Nat) (w : World) (hl : alts.length ≤ 1048576) (hs : Sl w (Lt w.heap.size) 5 A c (alts.map GNode.toD)) :
    Calls Try.prog 91 #[.slice A alts.length c] w (RowsTo (rowsOf patI alts) w) := by
  have HS := Lib.hid hs
  have hlm : alts.length ≤ 9223372036854775807 := by omega
  obtain ⟨w0, e0⟩ : ∃ w0, w0 = w.alloc (.cells #[] 29) := ⟨_, rfl⟩
  have E0 := Lib.hid (show Below w.heap.size w w0 by rw [e0]; exact (Below.refl _ _).alloc (Nat.le_refl _) _)
  have G0 := Lib.hid (show Grx TrX w0 w.heap.size 29 1 (.slice (some ⟨w.heap.size, 0, none⟩) 0 0) 0 [] from Grx.made (by rw [e0]; exact Row.new' _ _ _ rfl) (Nat.le_refl _))
  clear hs
  go_enter Try.func91, Try.ntmps91
  go_wp2_with fail
  rw [← e0]
  clear e0
  go_loopw [3, 9] (fun v i wr => ∃ (j : Nat) (A : Option Addr) (c : Nat), j ≤ alts.length ∧ i = .int .i64 j ∧ v = .slice A j c ∧ Hid (Grx TrX wr w.heap.size 29 1 (.slice A j c) j ((rowsOf patI (alts.take j)).map rowD)) ∧ Hid (Below w.heap.size w wr)) (fun _ i _ => alts.length - (intOf i).toNat)
  case atStart => exact ⟨0, _, _, by omega, by go_num, rfl, G0, E0⟩
  case round =>
    clear G0 E0
    obtain ⟨j, A', c', hj, rfl, rfl, HG, HB⟩ := hrel
    have hsz := HB.out.size
    have HOW := Lib.hid (fun g (hg : (Value.slice A' j c').ownBlock = some g) => HG.out.own g hg)
    by_cases hlt : j < alts.length
    · obtain ⟨b, off, A1, c1, rfl, hSb, q0, q1, q2, q3, q4, hat⟩ := GNode.elem (HS.out.keep (w' := wr) (S' := Lt w.heap.size) fun k hk => ⟨hk, HB.out.block k hk⟩) j hlt
      have HT := Lib.hid (rowsOf_take (f := patI) hlt)
      obtain ⟨wa, ea⟩ : ∃ wa, wa = wr.alloc (.cells #[.int .i64 (alts[j]).op, .int .i64 (alts[j]).n, .string (alts[j]).s, .string (alts[j]).t, .slice A1 (alts[j]).kids.length c1] 49) := ⟨_, rfl⟩
      have EA := Lib.hid (show Below wr.heap.size wr wa by rw [ea]; exact (Below.refl _ _).alloc (Nat.le_refl _) _)
      have hsa := Nat.le_trans hsz EA.out.size
      have HP := Lib.hid (implPatternOf (Lt w.heap.size) alts[j] A1 c1 wa (fun x hx => Nat.lt_of_lt_of_le hx hsa) (hat.keep fun x hx => ⟨hx, EA.out.block x (Nat.lt_of_lt_of_le hx hsz)⟩))
      generalize alts[j] = al at *
      clear hat
      go_wp2_with fail
      rw [← ea]
      refine HP.out.mono ?_
      rintro e w1 ⟨A2, c2, rfl, hk, hb1⟩
      have B1 := Lib.hid ((HB.out.trans (EA.out.mono hsz)).trans (hb1.mono hsa))
      have G1 := Lib.hid ((HG.out.below EA.out).below hb1)
      have hs1 := B1.out.size
      obtain ⟨wb, eb⟩ : ∃ wb, wb = w1.alloc (.cells #[.int .i64 (patI al).op, .int .i64 (patI al).n, .string (patI al).s, .string (patI al).t, .slice A2 (patI al).kids.length c2] 49) := ⟨_, rfl⟩
      have EB := Lib.hid (show Below w1.heap.size w1 wb by rw [eb]; exact (Below.refl _ _).alloc (Nat.le_refl _) _)
      have RB := Lib.hid (show Row wb w1.heap.size 49 #[.int .i64 (patI al).op, .int .i64 (patI al).n, .string (patI al).s, .string (patI al).t, .slice A2 (patI al).kids.length c2] by rw [eb]; exact Row.new' _ _ _ rfl)
      have hwb : wb.heap.size = w1.heap.size + 1 := by rw [eb]; simp
      obtain ⟨w3, e3⟩ : ∃ w3, w3 = wb.alloc (.cells #[.slice (some ⟨w1.heap.size, 0, none⟩) 1 1] 29) := ⟨_, rfl⟩
      have E3 := Lib.hid (show Below wb.heap.size wb w3 by rw [e3]; exact (Below.refl _ _).alloc (Nat.le_refl _) _)
      have hlt1 : ∀ x, Lt w.heap.size x → x < w1.heap.size := fun x hx => Nat.lt_of_lt_of_le hx hs1
      have T3 := Lib.hid (oneRow (X := TrX) (r := [patI al]) (w' := w3) (T := 29) (Value.slice A' j c') (fun g hg => Nat.lt_of_lt_of_le (G1.out.own g hg).2 EB.out.size) trivial e3
        (slOne RB.out (GNode.rd_mk (t := patI al) (hk.keep (w' := wb) (S' := fun b => b < wb.heap.size ∧ (Value.slice A' j c').ownBlock ≠ some b ∧ TrX b) fun b hb => ⟨⟨by have := hlt1 b hb; omega, fun e => by have := (HOW.out _ e).1; have : b < w.heap.size := hb; omega, trivial⟩, EB.out.block b (hlt1 b hb)⟩)) rfl ⟨RB.out.lt, fun e => by have := (G1.out.own _ e).2; omega, trivial⟩))
      have T3x := Lib.hid (show Sl w3 (fun b => b < w3.heap.size ∧ (Value.slice A' j c').ownBlock ≠ some b ∧ TrX b) 1 (some ⟨w1.heap.size + 1, 0, none⟩) 1 ([[patI al]].map rowD) from by have h := T3.out; rw [hwb] at h; exact h)
      have G3 := Lib.hid ((G1.out.below EB.out).below E3.out)
      have hs3 : w.heap.size ≤ w3.heap.size := Nat.le_trans hs1 (Nat.le_trans EB.out.size E3.out.size)
      have B3 := Lib.hid ((B1.out.trans (EB.out.mono hs1)).trans (E3.out.mono (Nat.le_trans hs1 EB.out.size)))
      clear hk hb1 hwb hlt1
      go_wp2_with (first | (at_builtin; rw [← eb, ← e3]; refine wpList_append_X w3 rfl (.tmp 13) (.tmp 17) 37 rfl 29 zRow 1 24 Try.underlying37 (by kernel_rfl) rfl (by omega) w.heap.size (.slice A' j c') j _ G3.out (some ⟨w1.heap.size + 1, 0, none⟩) 1 1 _ rfl T3x.out hs3 (by unfold maxLen; omega) (by omega) rfl rfl ?_; intro A4 c4 w4 G4 hGr4; have G4h := Lib.hid G4; have B4 := Lib.hid (B3.out.trans (hGr4.below hs3 (fun g hg => (HOW.out g hg).1))); clear G4 hGr4))
      go_roundw
      case rel => exact ⟨j + 1, A4, c4, by omega, by go_num, rfl, Lib.hid (by rw [HT.out, List.map_append]; exact G4h.out), B4⟩
      case measure => simp [intOf]; omega
    · have hje : j = alts.length := by omega
      have HLE := Lib.hid (show alts.take j = alts by rw [hje, List.take_length])
      clear hje
      go_wp2_with fail
      go_ret
      have hG := HG.out
      rw [HLE.out] at hG
      obtain ⟨A5, c5, e5, hs5⟩ := hG.sl (fun _ _ => trivial)
      have hl5 := hG.1
      obtain ⟨rfl, rfl⟩ : A' = A5 ∧ c' = c5 := by simpa using e5
      exact ⟨A', c', ret_sl (by rw [← hl5]; simp), hs5.keep fun b hb => ⟨hb.1, rfl⟩, HB.out⟩

theorem rowsOf_B {f : GNode → GNode} {alts : List GNode} (h : ∀ a ∈ alts, nodeB 1048576 (f a)) : ∀ r ∈ rowsOf f alts, ∀ x ∈ r, nodeB 1048576 x := fun r hr x hx => by
  unfold rowsOf at hr
  obtain ⟨a, ha, rfl⟩ := List.mem_map.1 hr
  rw [List.mem_singleton.1 hx]; exact h a ha
theorem pat_B {alts : List GNode} (h : bulkL GNode.bulk alts ≤ 1048576) : (∀ a ∈ alts, nodeB 1048576 (patOf a)) ∧ ∀ a ∈ alts, nodeB 1048576 (patI a) := by
  have key : ∀ a ∈ alts, ∀ k ∈ a.kids, nodeB 1048576 k := fun a ha k hk => by
    have h1 := bulkL_mem GNode.bulk alts a ha
    have h2 := bulkL_mem GNode.bulk a.kids k hk
    have h3 := a.bulk_eq
    unfold nodeB; omega
  refine ⟨fun a ha => ?_, fun a ha => ?_⟩
  · cases hk : a.kids with
    | nil => rw [patOf_nil hk]; exact anyN_B _
    | cons k r => rw [patOf_cons hk]; exact key a ha k (by rw [hk]; simp)
  · cases hk : a.kids with
    | nil => rw [patI_nil hk]; unfold nodeB; rw [GNode.bulk_eq]; decide
    | cons k r => rw [patI_cons hk]; exact key a ha k (by rw [hk]; simp)
theorem rowsOf_length (f : GNode → GNode) (alts : List GNode) : (rowsOf f alts).length = alts.length := by unfold rowsOf; simp
end Go.Proofs.Ytgbcdfeflgnogaa
