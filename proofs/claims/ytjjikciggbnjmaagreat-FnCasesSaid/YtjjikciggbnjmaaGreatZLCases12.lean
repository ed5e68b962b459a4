/- Texts of the claim LCases in one: TiD TiE TiF TiG TiH TrG TiI. Conditions: none but bounds on sizes. -/
import Derived.Test.YtjjikciggbnjmaaGreatZLCases11
import Derived.Test.YtjjikciggbnjmaaGreatZLCases2
import Derived.Test.YtjjikciggbnjmaaGreatZLCases10
import Derived.BigQuiet
namespace Go.Proofs.YtjjikciggbnjmaaGreat
set_option maxRecDepth 20000
set_option linter.unusedVariables false
set_option linter.unusedSimpArgs false
open Go.RowKit
set_option maxHeartbeats 1000000
def ToClone (l : List Int) (w : World) (e : Ending) (w' : World) : Prop := ∃ A1 c1, e = .returned (.slice A1 l.length c1) ∧ Grx AnyB w' w.heap.size 3 1 (.slice A1 l.length c1) l.length (l.map (D.num .i64)) ∧ Below w.heap.size w w'
theorem cloneInts (l : List Int) (A : Option Addr) (c : Nat) (w : World) (hl : l.length ≤ 1048577) (hs : Sl w (Lt w.heap.size) 1 A c (l.map (D.num .i64))) :
 Calls Tryz.prog 36 #[.slice A l.length c] w (ToClone l w) := by
 have S0 := LH hs
 have heq := fun (u : World) => Lib.run_eql_slice_nil (P := Tryz.prog) u 31 3 A l.length c 0 0 Tryz.underlying31
 cases hA : A with
 | none =>
  have HL := LH (show l = [] by
    have h := hs.2.2
    rw [hA] at h
    rcases h with h | ⟨b, off, e, -⟩
    · simpa using h
    · cases e)
  rw [hA] at heq
  clear hA hs S0
  go_enter Tryz.func36, Tryz.ntmps36
  go_wp2_with fail
  go_ret
  rw [HL.out]
  exact ⟨none, 0, rfl, Grx.nil _ _ _ _ _, Below.refl _ _⟩
 | some a0 =>
  rw [hA] at heq S0
  obtain ⟨w0, e0⟩ : ∃ w0, w0 = w.alloc (.cells #[] 3) := ⟨_, rfl⟩
  have B0 := LH (show Below w.heap.size w w0 by rw [e0]; exact (Below.refl _ _).alloc (Nat.le_refl _) _)
  have G0 := LH (show Grx AnyB w0 w.heap.size 3 1 (.slice (some ⟨w.heap.size, 0, none⟩) 0 0) 0 [] from Grx.made (by rw [e0]; exact Row.new' _ _ _ rfl) (Nat.le_refl _))
  have S1 := LH (S0.out.any B0.out B0.out.size (v := .slice (some ⟨w.heap.size, 0, none⟩) 0 0) (fun g hg => own_ge hg))
  have EQ := LH e0
  clear hA hs e0
  go_enter Tryz.func36, Tryz.ntmps36
  go_wp2_with (first
    | (at_builtin
       rw [← EQ.out]
       refine wpList_append_X (X := AnyB) w0 rfl (.tmp 5) (.tmp 6) 31 rfl 3 (.int .i64 0) 1 8 Tryz.underlying31 (by kernel_rfl) rfl (by omega) w.heap.size (.slice (some ⟨w.heap.size, 0, none⟩) 0 0) 0 _ G0.out _ c l.length _ (by simp) S1.out B0.out.size (by unfold maxLen; omega) (by omega) rfl rfl ?_
       intro A4 c4 w4 G4 hGr4
       have HE := LH (show Value.slice A4 (0 + l.length) c4 = .slice A4 l.length c4 by rw [Nat.zero_add])
       have HF := LH (show ToClone l w (.returned (.slice A4 l.length c4)) w4 from ⟨A4, c4, rfl, by simpa using G4, B0.out.trans (hGr4.below B0.out.size (fun g hg => (G0.out.own g hg).1))⟩)
       clear G4 hGr4
       rw [HE.out]))
  go_ret
  exact Hid.out (by assumption)
def ToAsksS (S : Nat → Prop) (l : List GAsk) (w : World) (e : Ending) (w' : World) : Prop := ∃ A1 c1, e = .returned (.slice A1 l.length c1) ∧ Sl w' (fun b => Xs S w.heap.size b ∧ b < w'.heap.size) 6 A1 c1 (l.map GAsk.toD) ∧ Below w.heap.size w w'
theorem implInside (S : Nat → Prop) (a : GAsk) (A1 : Option Addr) (c1 : Nat) (A2 : Option Addr) (c2 : Nat) (w : World) (hp : a.path.length ≤ 1048575) (hkl : a.pat.kids.length ≤ 1048576) (hS : ∀ b, S b → b < w.heap.size) (ha : GAsk.At w S A1 c1 A2 c2 a) :
 Calls Tryz.prog 66 #[.agg #[.slice A1 a.path.length c1, .int .i64 a.pat.op, .int .i64 a.pat.n, .string a.pat.s, .string a.pat.t, .slice A2 a.pat.kids.length c2]] w (ToAsksS S (bareA (kidsA a.path 0 a.pat.kids)) w) := by
 have HA := LH ha
 have HSL := LH hS
 obtain ⟨w0, e0⟩ : ∃ w0, w0 = (w.alloc (.cells #[.slice A1 a.path.length c1, .int .i64 a.pat.op, .int .i64 a.pat.n, .string a.pat.s, .string a.pat.t, .slice A2 a.pat.kids.length c2] 54)).alloc (.cells #[] 54) := ⟨_, rfl⟩
 have E0 := LH (show Below w.heap.size w w0 by rw [e0]; exact ((Below.refl _ _).alloc (Nat.le_refl _) _).alloc (by simp) _)
 have R0 := LH (show Row w0 w.heap.size 54 #[.slice A1 a.path.length c1, .int .i64 a.pat.op, .int .i64 a.pat.n, .string a.pat.s, .string a.pat.t, .slice A2 a.pat.kids.length c2] by rw [e0]; exact (Row.new' _ _ _ rfl).alloc _)
 have G0 := LH (show Grx (Xs S w.heap.size) w0 (w.heap.size + 1) 54 6 (.slice (some ⟨w.heap.size + 1, 0, none⟩) 0 0) 0 [] from Grx.made (by rw [e0]; exact Row.new' _ _ _ (by simp)) (Nat.le_refl _))
 have hz0 : w.heap.size + 1 ≤ w0.heap.size := by rw [e0]; simp
 clear ha hS
 go_enter Tryz.func66, Tryz.ntmps66
 go_wp2_with fail
 rw [← e0]
 clear e0
 go_loopw [3, 11] (fun v i wr => ∃ (j : Nat) (A' : Option Addr) (c' : Nat), j ≤ a.pat.kids.length ∧ i = .int .i64 j ∧ v = .slice A' j c' ∧ Hid (Grx (Xs S w.heap.size) wr (w.heap.size + 1) 54 6 (.slice A' j c') j ((kidsA a.path 0 (a.pat.kids.take j)).map GAsk.toD)) ∧ Hid (Row wr w.heap.size 54 #[.slice A1 a.path.length c1, .int .i64 a.pat.op, .int .i64 a.pat.n, .string a.pat.s, .string a.pat.t, .slice A2 a.pat.kids.length c2]) ∧ w.heap.size + 1 ≤ wr.heap.size ∧ Hid (Below w.heap.size w wr)) (fun _ i _ => a.pat.kids.length - (intOf i).toNat)
 case atStart => exact ⟨0, _, _, by omega, by go_num, rfl, G0, R0, hz0, E0⟩
 case round =>
  clear G0 R0 E0 hz0
  obtain ⟨j, A', c', hj, rfl, rfl, HG, HR, hz, HB⟩ := hrel
  have hsz := HB.out.size
  have HOW := LH (fun g (hg : (Value.slice A' j c').ownBlock = some g) => HG.out.own g hg)
  by_cases hlt : j < a.pat.kids.length
  ·
   have dl : decide ((j : Int) < (a.pat.kids.length : Int)) = true := decide_eq_true (by omega)
   obtain ⟨b, off, A3, c3, rfl, hSb, q0, q1, q2, q3, q4, hk⟩ := GNode.elem (HA.out.2.2.2.2.2.keep (w' := wr) (S' := S) fun q hq => ⟨hq, HB.out.block q (HSL.out q hq)⟩) j hlt
   have hbl := Nat.lt_of_lt_of_le (HSL.out _ hSb) hsz
   obtain ⟨p, hp2⟩ : ∃ p, a.pat.kids[j] = p := ⟨_, rfl⟩
   have HT := LH (show kidsA a.path 0 (a.pat.kids.take (j + 1)) = kidsA a.path 0 (a.pat.kids.take j) ++ [⟨a.path ++ [(j : Int)], p⟩] by rw [kidsA_take a.path _ j hlt, hp2])
   rw [hp2] at q0 q1 q2 q3 q4 hk
   have HK := LH hk
   clear hk hp2
   obtain ⟨w2, e2⟩ : ∃ w2, w2 = wr.alloc (.cells #[.int .i64 p.op, .int .i64 p.n, .string p.s, .string p.t, .slice A3 p.kids.length c3] 39) := ⟨_, rfl⟩
   have E2 := LH (show Below wr.heap.size wr w2 by rw [e2]; exact (Below.refl _ _).alloc (Nat.le_refl _) _)
   have hz2 : wr.heap.size < w2.heap.size := by rw [e2]; simp
   have RK2 := LH (show Row w2 wr.heap.size 39 #[.int .i64 p.op, .int .i64 p.n, .string p.s, .string p.t, .slice A3 p.kids.length c3] by rw [e2]; exact Row.new _ _ _)
   have RA2 := LH (HR.out.below E2.out HR.out.lt)
   have G2 := LH (HG.out.below E2.out)
   have F5 := LH (fun (x : World) (hx : Below w2.heap.size w2 x) => show (∀ i, x.cell? ⟨w.heap.size, i, none⟩ = (#[.slice A1 a.path.length c1, .int .i64 a.pat.op, .int .i64 a.pat.n, .string a.pat.s, .string a.pat.t, .slice (some ⟨b, off, none⟩) a.pat.kids.length c2] : Array Value)[i]?) ∧ (∀ i, x.cell? ⟨wr.heap.size, i, none⟩ = (#[.int .i64 p.op, .int .i64 p.n, .string p.s, .string p.t, .slice A3 p.kids.length c3] : Array Value)[i]?) from ⟨fun i => (RA2.out.below hx RA2.out.lt).cell i, fun i => (RK2.out.below hx RK2.out.lt).cell i⟩)
   have hca := fun i => HR.out.cell i
   go_upto_region 5 with (fail)
   rw [← e2]
   clear e2 q0 q1 q2 q3 q4 hca
   have SP := LH (fun (x : World) (hx : Below w2.heap.size w2 x) => show Sl x (Lt x.heap.size) 1 A1 c1 (a.path.map (D.num .i64)) from HA.out.1.keep fun q hq => ⟨Nat.lt_of_lt_of_le (HSL.out q hq) (Nat.le_trans hsz (Nat.le_trans E2.out.size hx.size)), (hx.block q (by have := HSL.out q hq; omega)).trans ((E2.out.block q (by have := HSL.out q hq; omega)).trans (HB.out.block q (HSL.out q hq)))⟩)
   have hj3 : (Lit.int .i64 (j : Int)).wf = true := wf_i64 (by omega) (by omega)
   have ED := LH (show Below w2.heap.size w2 w2.drew from (Below.refl _ _).drew)
   have EA := LH (show Below w2.heap.size w2 (w2.alloc (.cells #[.int .i64 (j : Int)] 3)).drew from ((Below.refl _ _).alloc (Nat.le_refl _) _).drew)
   have RJ := LH (show Row (w2.alloc (.cells #[.int .i64 (j : Int)] 3)).drew w2.heap.size 3 #[.int .i64 (j : Int)] from (show Row (w2.alloc (.cells #[.int .i64 (j : Int)] 3)) w2.heap.size 3 #[.int .i64 (j : Int)] from Row.new _ _ _))
   refine wp_region_T (fun x => (∀ i, x.cell? ⟨w.heap.size, i, none⟩ = (#[.slice A1 a.path.length c1, .int .i64 a.pat.op, .int .i64 a.pat.n, .string a.pat.s, .string a.pat.t, .slice (some ⟨b, off, none⟩) a.pat.kids.length c2] : Array Value)[i]?) ∧ (∀ i, x.cell? ⟨wr.heap.size, i, none⟩ = (#[.int .i64 p.op, .int .i64 p.n, .string p.s, .string p.t, .slice A3 p.kids.length c3] : Array Value)[i]?)) 11 (by kernel_rfl) ?_
   have hS1 := F5.out _ ED.out
   refine wpAnyT_take (i := 0) (oi := _) (v := ?tv1) rfl (by kernel_rfl) (by kernel_rfl) (by kernel_rfl) (by kernel_rfl) (fun _ _ _ h => h) (Or.inl ⟨by rfl, ?th1⟩) hS1 ?_
   case th1 => (intro x hSx; (try dsimp only at hSx); go_simp; (try with_reducible rfl))
   try simp only [List.getElem_toArray, List.getElem_cons_succ, List.getElem_cons_zero, Act.put, List.setIfInBounds_toArray, List.set_cons_zero, List.set_cons_succ]
   refine wpAnyT_take (i := 1) (oi := _) (v := ?tv2) rfl (by kernel_rfl) (by kernel_rfl) (by kernel_rfl) (by kernel_rfl) (fun _ _ _ h => h) (Or.inl ⟨by rfl, ?th2⟩) hS1 ?_
   case th2 => (intro x hSx; (try dsimp only at hSx); go_simp; (try with_reducible rfl))
   try simp only [List.getElem_toArray, List.getElem_cons_succ, List.getElem_cons_zero, Act.put, List.setIfInBounds_toArray, List.set_cons_zero, List.set_cons_succ]
   refine wpAnyT_take (i := 2) (oi := _) (v := ?tv3) rfl (by kernel_rfl) (by kernel_rfl) (by kernel_rfl) (by kernel_rfl) (fun _ _ _ h => h) (Or.inl ⟨by rfl, ?th3⟩) hS1 ?_
   case th3 => (intro x hSx; (try dsimp only at hSx); go_simp; (try with_reducible rfl))
   try simp only [List.getElem_toArray, List.getElem_cons_succ, List.getElem_cons_zero, Act.put, List.setIfInBounds_toArray, List.set_cons_zero, List.set_cons_succ]
   refine wpAnyT_take (i := 4) (oi := _) (v := ?tv4) rfl (by kernel_rfl) (by kernel_rfl) (by kernel_rfl) (by kernel_rfl) (fun _ _ _ h => h) (Or.inl ⟨by rfl, ?th4⟩) hS1 ?_
   case th4 => (intro x hSx; (try dsimp only at hSx); go_simp; (try with_reducible rfl))
   try simp only [List.getElem_toArray, List.getElem_cons_succ, List.getElem_cons_zero, Act.put, List.setIfInBounds_toArray, List.set_cons_zero, List.set_cons_succ]
   refine wpAnyT_take (i := 7) (oi := _) (v := ?tv5) rfl (by kernel_rfl) (by kernel_rfl) (by kernel_rfl) (by kernel_rfl) (fun _ _ _ h => h) (Or.inl ⟨by rfl, ?th5⟩) hS1 ?_
   case th5 => (intro x hSx; (try dsimp only at hSx); go_simp; (try with_reducible rfl))
   try simp only [List.getElem_toArray, List.getElem_cons_succ, List.getElem_cons_zero, Act.put, List.setIfInBounds_toArray, List.set_cons_zero, List.set_cons_succ]
   refine wpAnyT_two (i := 3) (j := 5) (by kernel_rfl) rfl rfl (fun K hK => ?_) (fun K hK => ?_)
   ·
    try simp only [List.getElem_toArray, List.getElem_cons_succ, List.getElem_cons_zero]
    go_simp
    go_at_call 36
    refine (cloneInts a.path A1 c1 w2.drew (by omega) (SP.out _ ED.out)).mono ?_
    rintro e w3 ⟨Ap, cp, rfl, gp, hb3⟩
    have E3 := LH (ED.out.trans hb3)
    have GP3 := LH (show Grx AnyB w3 w2.heap.size 3 1 (.slice Ap a.path.length cp) a.path.length (a.path.map (D.num .i64)) from gp)
    clear gp hb3
    refine hK.out _ _ (F5.out _ E3.out) (fun hS3 => ?_)
    clear hK K hS1
    try simp only [List.getElem_toArray, List.getElem_cons_succ, List.getElem_cons_zero, Act.put, List.setIfInBounds_toArray, List.set_cons_zero, List.set_cons_succ]
    refine wpAnyT_step (i := 5) (by kernel_rfl) rfl (fun K hK => ?_)
    try simp only [List.getElem_toArray, List.getElem_cons_succ, List.getElem_cons_zero]
    go_simp
    have E4 := LH (show Below w2.heap.size w2 (w3.alloc (.cells #[.int .i64 (j : Int)] 3)) from E3.out.alloc E3.out.size _)
    have GP4 := LH (GP3.out.below (show Below w3.heap.size w3 (w3.alloc (.cells #[.int .i64 (j : Int)] 3)) from (Below.refl _ _).alloc (Nat.le_refl _) _))
    have HOP := LH (fun g (hg : (Value.slice Ap a.path.length cp).ownBlock = some g) => GP3.out.own g hg)
    have T4 := LH (show Sl (w3.alloc (.cells #[.int .i64 (j : Int)] 3)) (fun b => b < (w3.alloc (.cells #[.int .i64 (j : Int)] 3)).heap.size ∧ (Value.slice Ap a.path.length cp).ownBlock ≠ some b ∧ AnyB b) 1 (some ⟨w3.heap.size, 0, none⟩) 1 [D.num .i64 (j : Int)] from
      slOne (T := 3) (cs := [.int .i64 (j : Int)]) (Row.new _ _ _) (D.rd_num.2 ⟨rfl, hj3⟩) rfl ⟨by simp, fun e => by have := (HOP.out _ e).2; omega, trivial⟩)
    refine hK.out _ _ (F5.out _ E4.out) (fun hS4 => ?_)
    clear hK K hS3
    try simp only [List.getElem_toArray, List.getElem_cons_succ, List.getElem_cons_zero, Act.put, List.setIfInBounds_toArray, List.set_cons_zero, List.set_cons_succ]
    refine wpAnyT_step (i := 6) (by kernel_rfl) rfl (fun K hK => ?_)
    refine step_append_X (X := AnyB) _ rfl (.tmp 19) (.tmp 21) 31 rfl 3 (.int .i64 0) 1 8 Tryz.underlying31 (by kernel_rfl) rfl (by omega) w2.heap.size (.slice Ap a.path.length cp) a.path.length _ GP4.out (some ⟨w3.heap.size, 0, none⟩) 1 1 _ rfl T4.out E4.out.size (by unfold maxLen; omega) (by omega) rfl rfl ?_
    intro Aq cq w5 GQ hGr5
    have FQ := LH (show Below w2.heap.size w2 w5 ∧ Sl w5 (Btw w2.heap.size w5.heap.size) 1 Aq cq ((a.path ++ [(j : Int)]).map (D.num .i64)) from ⟨E4.out.trans (hGr5.below E4.out.size (fun g hg => (HOP.out g hg).1)), by
      obtain ⟨A9, c9, e9, h9⟩ := Grx.slInts (l := a.path ++ [(j : Int)]) (by rw [List.map_append]; exact GQ)
      obtain ⟨rfl, rfl⟩ : Aq = A9 ∧ cq = c9 := by simpa using e9
      exact h9⟩)
    clear GQ hGr5
    refine hK.out _ _ (F5.out _ FQ.out.1) (fun hS5 => ?_)
    clear hK K hS4
    try simp only [List.getElem_toArray, List.getElem_cons_succ, List.getElem_cons_zero, Act.put, List.setIfInBounds_toArray, List.set_cons_zero, List.set_cons_succ]
    refine wpAnyT_take (i := 8) (oi := _) (v := ?tv6) rfl (by kernel_rfl) (by kernel_rfl) (by kernel_rfl) (by kernel_rfl) (fun _ _ _ h => h) (Or.inl ⟨by rfl, ?th6⟩) hS5 ?_
    case th6 => (intro x hSx; (try dsimp only at hSx); go_simp; (try with_reducible rfl))
    try simp only [List.getElem_toArray, List.getElem_cons_succ, List.getElem_cons_zero, Act.put, List.setIfInBounds_toArray, List.set_cons_zero, List.set_cons_succ]
    refine wpAnyT_step (i := 9) (by kernel_rfl) rfl (fun K hK => ?_)
    try simp only [List.getElem_toArray, List.getElem_cons_succ, List.getElem_cons_zero]
    go_simp
    have E6 := LH (show Below w2.heap.size w2 (w5.alloc (.cells #[.slice Aq (a.path.length + 1) cq, .int .i64 p.op, .int .i64 p.n, .string p.s, .string p.t, .slice A3 p.kids.length c3] 54)) from FQ.out.1.alloc FQ.out.1.size _)
    have T6 := LH (show Sl (w5.alloc (.cells #[.slice Aq (a.path.length + 1) cq, .int .i64 p.op, .int .i64 p.n, .string p.s, .string p.t, .slice A3 p.kids.length c3] 54)) (fun b => b < (w5.alloc (.cells #[.slice Aq (a.path.length + 1) cq, .int .i64 p.op, .int .i64 p.n, .string p.s, .string p.t, .slice A3 p.kids.length c3] 54)).heap.size ∧ (Value.slice A' j c').ownBlock ≠ some b ∧ Xs S w.heap.size b) 6 (some ⟨w5.heap.size, 0, none⟩) 1 [(⟨a.path ++ [(j : Int)], p⟩ : GAsk).toD] from by
      have hsz5 := FQ.out.1.size
      refine slOne (T := 54) (cs := [.slice Aq (a.path.length + 1) cq, .int .i64 p.op, .int .i64 p.n, .string p.s, .string p.t, .slice A3 p.kids.length c3]) (Row.new _ _ _) ?_ rfl ⟨by simp, fun e => by have := (HOW.out _ e).2; omega, .inr (by omega)⟩
      have hrd := GAsk.rd_mk (w := w5.alloc (.cells #[.slice Aq (a.path.length + 1) cq, .int .i64 p.op, .int .i64 p.n, .string p.s, .string p.t, .slice A3 p.kids.length c3] 54)) (S := fun b => b < (w5.alloc (.cells #[.slice Aq (a.path.length + 1) cq, .int .i64 p.op, .int .i64 p.n, .string p.s, .string p.t, .slice A3 p.kids.length c3] 54)).heap.size ∧ (Value.slice A' j c').ownBlock ≠ some b ∧ Xs S w.heap.size b) (t := ⟨a.path ++ [(j : Int)], p⟩) (A1 := Aq) (c1 := cq) (A2 := A3) (c2 := c3) ⟨FQ.out.2.keep fun b hb => ⟨⟨by have := hb.2; simp; omega, fun e => by have := (HOW.out _ e).2; have := hb.1; omega, .inr (by have := hb.1; omega)⟩, Below.heap_alloc _ _ _ hb.2⟩, HK.out.keep fun b hb => ⟨⟨by have := HSL.out b hb; simp; omega, fun e => by have := (HOW.out _ e).1; have := HSL.out b hb; omega, .inl hb⟩, (E6.out.block b (by have := HSL.out b hb; omega)).trans (E2.out.block b (by have := HSL.out b hb; omega))⟩⟩
      simpa using hrd)
    have G6 := LH (G2.out.below E6.out)
    have hsz6 := E6.out.size
    refine hK.out _ _ (F5.out _ E6.out) (fun hS6 => ?_)
    clear hK K hS5
    try simp only [List.getElem_toArray, List.getElem_cons_succ, List.getElem_cons_zero, Act.put, List.setIfInBounds_toArray, List.set_cons_zero, List.set_cons_succ]
    refine wpAnyT_step (i := 10) (by kernel_rfl) rfl (fun K hK => ?_)
    refine step_append_X _ rfl (.tmp 16) (.tmp 25) 51 rfl 54 zAsk 6 96 Tryz.underlying51 (by kernel_rfl) rfl (by omega) (w.heap.size + 1) (.slice A' j c') j _ G6.out (some ⟨w5.heap.size, 0, none⟩) 1 1 _ rfl T6.out (by omega) (by unfold maxLen; omega) (by omega) rfl rfl ?_
    intro A7 c7 w7 G7 hGr7
    have G7h := LH G7
    have R7 := LH (hGr7.row (RA2.out.below E6.out RA2.out.lt) (fun e => by have := (HOW.out _ e).1; omega))
    have RK7 := LH (hGr7.row (RK2.out.below E6.out RK2.out.lt) (fun e => by have := (HOW.out _ e).2; omega))
    have Z7 := LH hGr7.size
    have B7 := LH (((HB.out.trans (E2.out.mono hsz)).trans (E6.out.mono (by omega))).trans (hGr7.below (B := w.heap.size) (by omega) (fun g hg => by have := (HOW.out g hg).1; omega)))
    clear G7 hGr7
    refine hK.out _ _ ⟨fun i => R7.out.cell i, fun i => RK7.out.cell i⟩ (fun hS7 => ?_)
    clear hK K hS6
    try simp only [List.getElem_toArray, List.getElem_cons_succ, List.getElem_cons_zero, Act.put, List.setIfInBounds_toArray, List.set_cons_zero, List.set_cons_succ]
    refine wpAnyT_last (by kernel_rfl) (by kernel_rfl) rfl (fun K hK => ?_)
    try simp only [List.getElem_toArray, List.getElem_cons_succ, List.getElem_cons_zero]
    go_simp
    refine hK.out _ _ ?_
    clear hK K
    try simp only [List.getElem_toArray, List.getElem_cons_succ, List.getElem_cons_zero, Act.put, List.setIfInBounds_toArray, List.set_cons_zero, List.set_cons_succ]
    go_wp2_with fail
    go_roundw
    case rel => exact ⟨j + 1, A7, c7, by omega, by go_num, rfl, LH (by rw [HT.out, List.map_append]; exact G7h.out), R7, by have := Z7.out; omega, B7⟩
    case measure => simp [intOf]; omega
   ·
    try simp only [List.getElem_toArray, List.getElem_cons_succ, List.getElem_cons_zero]
    go_simp
    refine hK.out _ _ (F5.out _ EA.out) (fun hS3 => ?_)
    clear hK K hS1
    try simp only [List.getElem_toArray, List.getElem_cons_succ, List.getElem_cons_zero, Act.put, List.setIfInBounds_toArray, List.set_cons_zero, List.set_cons_succ]
    refine wpAnyT_step (i := 3) (by kernel_rfl) rfl (fun K hK => ?_)
    try simp only [List.getElem_toArray, List.getElem_cons_succ, List.getElem_cons_zero]
    go_simp
    go_at_call 36
    refine (cloneInts a.path A1 c1 _ (by omega) (SP.out _ EA.out)).mono ?_
    rintro e w3 ⟨Ap, cp, rfl, gp, hb3⟩
    have E4 := LH (EA.out.trans (hb3.mono EA.out.size))
    have RJ3 := LH (RJ.out.below hb3 RJ.out.lt)
    have hzj := RJ.out.lt
    have GP4 := LH gp
    have HOP := LH (fun g (hg : (Value.slice Ap a.path.length cp).ownBlock = some g) => gp.own g hg)
    have T4 := LH (show Sl w3 (fun b => b < w3.heap.size ∧ (Value.slice Ap a.path.length cp).ownBlock ≠ some b ∧ AnyB b) 1 (some ⟨w2.heap.size, 0, none⟩) 1 [D.num .i64 (j : Int)] from
      slOne (T := 3) (cs := [.int .i64 (j : Int)]) RJ3.out (D.rd_num.2 ⟨rfl, hj3⟩) rfl ⟨RJ3.out.lt, fun e => by have := (HOP.out _ e).1; omega, trivial⟩)
    have hEA := EA.out.size
    have hzb := hb3.size
    clear gp hb3
    refine hK.out _ _ (F5.out _ E4.out) (fun hS4 => ?_)
    clear hK K hS3
    try simp only [List.getElem_toArray, List.getElem_cons_succ, List.getElem_cons_zero, Act.put, List.setIfInBounds_toArray, List.set_cons_zero, List.set_cons_succ]
    refine wpAnyT_step (i := 6) (by kernel_rfl) rfl (fun K hK => ?_)
    refine step_append_X (X := AnyB) _ rfl (.tmp 19) (.tmp 21) 31 rfl 3 (.int .i64 0) 1 8 Tryz.underlying31 (by kernel_rfl) rfl (by omega) _ (.slice Ap a.path.length cp) a.path.length _ GP4.out (some ⟨w2.heap.size, 0, none⟩) 1 1 _ rfl T4.out hzb (by unfold maxLen; omega) (by omega) rfl rfl ?_
    intro Aq cq w5 GQ hGr5
    have FQ := LH (show Below w2.heap.size w2 w5 ∧ Sl w5 (Btw w2.heap.size w5.heap.size) 1 Aq cq ((a.path ++ [(j : Int)]).map (D.num .i64)) from ⟨E4.out.trans (hGr5.below E4.out.size (fun g hg => by have := (HOP.out g hg).1; omega)), by
      obtain ⟨A9, c9, e9, h9⟩ := Grx.slInts (l := a.path ++ [(j : Int)]) (by rw [List.map_append]; exact GQ)
      obtain ⟨rfl, rfl⟩ : Aq = A9 ∧ cq = c9 := by simpa using e9
      exact h9.keep fun b hb => ⟨⟨by have := hb.1; omega, hb.2⟩, rfl⟩⟩)
    clear GQ hGr5
    refine hK.out _ _ (F5.out _ FQ.out.1) (fun hS5 => ?_)
    clear hK K hS4
    try simp only [List.getElem_toArray, List.getElem_cons_succ, List.getElem_cons_zero, Act.put, List.setIfInBounds_toArray, List.set_cons_zero, List.set_cons_succ]
    refine wpAnyT_take (i := 8) (oi := _) (v := ?tv7) rfl (by kernel_rfl) (by kernel_rfl) (by kernel_rfl) (by kernel_rfl) (fun _ _ _ h => h) (Or.inl ⟨by rfl, ?th7⟩) hS5 ?_
    case th7 => (intro x hSx; (try dsimp only at hSx); go_simp; (try with_reducible rfl))
    try simp only [List.getElem_toArray, List.getElem_cons_succ, List.getElem_cons_zero, Act.put, List.setIfInBounds_toArray, List.set_cons_zero, List.set_cons_succ]
    refine wpAnyT_step (i := 9) (by kernel_rfl) rfl (fun K hK => ?_)
    try simp only [List.getElem_toArray, List.getElem_cons_succ, List.getElem_cons_zero]
    go_simp
    have E6 := LH (show Below w2.heap.size w2 (w5.alloc (.cells #[.slice Aq (a.path.length + 1) cq, .int .i64 p.op, .int .i64 p.n, .string p.s, .string p.t, .slice A3 p.kids.length c3] 54)) from FQ.out.1.alloc FQ.out.1.size _)
    have T6 := LH (show Sl (w5.alloc (.cells #[.slice Aq (a.path.length + 1) cq, .int .i64 p.op, .int .i64 p.n, .string p.s, .string p.t, .slice A3 p.kids.length c3] 54)) (fun b => b < (w5.alloc (.cells #[.slice Aq (a.path.length + 1) cq, .int .i64 p.op, .int .i64 p.n, .string p.s, .string p.t, .slice A3 p.kids.length c3] 54)).heap.size ∧ (Value.slice A' j c').ownBlock ≠ some b ∧ Xs S w.heap.size b) 6 (some ⟨w5.heap.size, 0, none⟩) 1 [(⟨a.path ++ [(j : Int)], p⟩ : GAsk).toD] from by
      have hsz5 := FQ.out.1.size
      refine slOne (T := 54) (cs := [.slice Aq (a.path.length + 1) cq, .int .i64 p.op, .int .i64 p.n, .string p.s, .string p.t, .slice A3 p.kids.length c3]) (Row.new _ _ _) ?_ rfl ⟨by simp, fun e => by have := (HOW.out _ e).2; omega, .inr (by omega)⟩
      have hrd := GAsk.rd_mk (w := w5.alloc (.cells #[.slice Aq (a.path.length + 1) cq, .int .i64 p.op, .int .i64 p.n, .string p.s, .string p.t, .slice A3 p.kids.length c3] 54)) (S := fun b => b < (w5.alloc (.cells #[.slice Aq (a.path.length + 1) cq, .int .i64 p.op, .int .i64 p.n, .string p.s, .string p.t, .slice A3 p.kids.length c3] 54)).heap.size ∧ (Value.slice A' j c').ownBlock ≠ some b ∧ Xs S w.heap.size b) (t := ⟨a.path ++ [(j : Int)], p⟩) (A1 := Aq) (c1 := cq) (A2 := A3) (c2 := c3) ⟨FQ.out.2.keep fun b hb => ⟨⟨by have := hb.2; simp; omega, fun e => by have := (HOW.out _ e).2; have := hb.1; omega, .inr (by have := hb.1; omega)⟩, Below.heap_alloc _ _ _ hb.2⟩, HK.out.keep fun b hb => ⟨⟨by have := HSL.out b hb; simp; omega, fun e => by have := (HOW.out _ e).1; have := HSL.out b hb; omega, .inl hb⟩, (E6.out.block b (by have := HSL.out b hb; omega)).trans (E2.out.block b (by have := HSL.out b hb; omega))⟩⟩
      simpa using hrd)
    have G6 := LH (G2.out.below E6.out)
    have hsz6 := E6.out.size
    refine hK.out _ _ (F5.out _ E6.out) (fun hS6 => ?_)
    clear hK K hS5
    try simp only [List.getElem_toArray, List.getElem_cons_succ, List.getElem_cons_zero, Act.put, List.setIfInBounds_toArray, List.set_cons_zero, List.set_cons_succ]
    refine wpAnyT_step (i := 10) (by kernel_rfl) rfl (fun K hK => ?_)
    refine step_append_X _ rfl (.tmp 16) (.tmp 25) 51 rfl 54 zAsk 6 96 Tryz.underlying51 (by kernel_rfl) rfl (by omega) (w.heap.size + 1) (.slice A' j c') j _ G6.out (some ⟨w5.heap.size, 0, none⟩) 1 1 _ rfl T6.out (by omega) (by unfold maxLen; omega) (by omega) rfl rfl ?_
    intro A7 c7 w7 G7 hGr7
    have G7h := LH G7
    have R7 := LH (hGr7.row (RA2.out.below E6.out RA2.out.lt) (fun e => by have := (HOW.out _ e).1; omega))
    have RK7 := LH (hGr7.row (RK2.out.below E6.out RK2.out.lt) (fun e => by have := (HOW.out _ e).2; omega))
    have Z7 := LH hGr7.size
    have B7 := LH (((HB.out.trans (E2.out.mono hsz)).trans (E6.out.mono (by omega))).trans (hGr7.below (B := w.heap.size) (by omega) (fun g hg => by have := (HOW.out g hg).1; omega)))
    clear G7 hGr7
    refine hK.out _ _ ⟨fun i => R7.out.cell i, fun i => RK7.out.cell i⟩ (fun hS7 => ?_)
    clear hK K hS6
    try simp only [List.getElem_toArray, List.getElem_cons_succ, List.getElem_cons_zero, Act.put, List.setIfInBounds_toArray, List.set_cons_zero, List.set_cons_succ]
    refine wpAnyT_last (by kernel_rfl) (by kernel_rfl) rfl (fun K hK => ?_)
    try simp only [List.getElem_toArray, List.getElem_cons_succ, List.getElem_cons_zero]
    go_simp
    refine hK.out _ _ ?_
    clear hK K
    try simp only [List.getElem_toArray, List.getElem_cons_succ, List.getElem_cons_zero, Act.put, List.setIfInBounds_toArray, List.set_cons_zero, List.set_cons_succ]
    go_wp2_with fail
    go_roundw
    case rel => exact ⟨j + 1, A7, c7, by omega, by go_num, rfl, LH (by rw [HT.out, List.map_append]; exact G7h.out), R7, by have := Z7.out; omega, B7⟩
    case measure => simp [intOf]; omega
  ·
   obtain rfl : j = a.pat.kids.length := by omega
   have dl : decide ((a.pat.kids.length : Int) < (a.pat.kids.length : Int)) = false := decide_eq_false (by omega)
   have hG := HG.out
   rw [List.take_length] at hG
   have hl := hG.1
   rw [List.length_map] at hl
   have HGL := LH (show Grx (Xs S w.heap.size) wr (w.heap.size + 1) 54 6 (.slice A' (kidsA a.path 0 a.pat.kids).length c') (kidsA a.path 0 a.pat.kids).length ((kidsA a.path 0 a.pat.kids).map GAsk.toD) by rw [hl]; exact hG)
   have hll := implLasting (Xs S w.heap.size) (w.heap.size + 1) (kidsA a.path 0 a.pat.kids) A' c' wr (by rw [hl]; omega) HGL.out
   rw [hl] at hll
   have HLL := LH hll
   have hca := fun i => HR.out.cell i
   clear hll hl hG HGL
   go_wp2_with fail
   refine HLL.out.mono ?_
   rintro e w2 ⟨rfl, hg, hgr⟩
   have GG := LH hg
   have BB := LH (HB.out.trans (hgr.below (B := w.heap.size) (by omega) (fun g hg => by have := (HOW.out g hg).1; omega)))
   clear hg hgr HLL hca
   go_wp2_with fail
   go_ret
   obtain ⟨A5, c5, e5, hs5⟩ := GG.out.slY (Y := Xs S w.heap.size) (fun _ h => h) (fun b h => .inr (by omega))
   obtain ⟨rfl, rfl⟩ : A' = A5 ∧ c' = c5 := by simpa using e5
   exact ⟨A', c', rfl, hs5, BB.out⟩
def rowDA (r : List GAsk) : D := .sl 6 (r.map GAsk.toD)
theorem rowDA_elem {w : World} {S : Nat → Prop} {A : Option Addr} {c : Nat} {rows : List (List GAsk)} (h : Sl w S 1 A c (rows.map rowDA)) (i : Nat) (hi : i < rows.length) :
 ∃ b off A1 c1, A = some ⟨b, off, none⟩ ∧ S b ∧ w.cell? ⟨b, off + i, none⟩ = some (.slice A1 rows[i].length c1) ∧ Sl w S 6 A1 c1 (rows[i].map GAsk.toD) := by
 obtain ⟨b, off, cs, e, hb, hl, hc, hr⟩ := Sl.get h i (by simpa using hi)
 rw [List.getElem_map] at hr
 obtain ⟨A1, c1, rfl, h1⟩ := D.rd_sl.1 hr
 have := hc 0 _ rfl
 simp only [Nat.mul_one, Nat.add_zero, List.length_map] at this
 exact ⟨b, off, A1, c1, e, hb, this, h1⟩
def LToA (X : Nat → Prop) (xs : List GAsk) (w : World) (e : Ending) (w' : World) : Prop := ∃ A c, e = .returned (.slice A xs.length c) ∧ Sl w' (Lx X w') 6 A c (xs.map GAsk.toD) ∧ Below w.heap.size w w'
theorem zAsk_cells : zAsk.cells.size = 6 := rfl
theorem implGrowA (X : Nat → Prop) (n : Nat) (w : World) (hn : n ≤ 1099511627776) :
 Calls Tryz.prog 93 #[.slice none 0 0, .int .i64 n] w (fun e w' => ∃ A c, e = .returned (.slice A 0 c) ∧ Grx X w' w.heap.size 54 6 (.slice A 0 c) 0 [] ∧ Below w.heap.size w w') := by
 by_cases h0 : n = 0
 · subst h0
   go_enter Tryz.func93, Tryz.ntmps93
   go_wp2_with fail
   go_ret
   exact ⟨none, 0, rfl, Grx.nil _ _ _ _ _, Below.refl _ _⟩
 ·
  obtain ⟨i, hi⟩ : ∃ i, Tryz.prog.info? 54 = some i := Option.isSome_iff_exists.1 (by kernel_rfl)
  have hp : (Tryz.prog.info? 54).map (fun i => (i.zero, i.size, i.bytes)) = some (some zAsk, 6, 96) := by kernel_rfl
  obtain ⟨i', i1, i2, i3, i4⟩ := info_parts hp
  have hold : (Builtin.firstCells i'.size 0 (.slice none 0 0)).run Tryz.prog w.drew = .ok ([] : List Value).toArray w.drew := run_firstCells_none w.drew i'.size 0 0 0
  have hrz := fun ty => Lib.run_append_grow_zeros (P := Tryz.prog) w 51 3 ty 54 i' zAsk .i64 .i64 Tryz.underlying51 (by kernel_rfl) i1 i2 none 0 0 [] hold n (by omega) (by rw [i3]; omega) (by omega) (by omega) (by rw [i4]; omega) (by rw [i4]; exact growslice_fits (by omega) (by omega))
  rw [Nat.zero_add] at hrz
  obtain ⟨G, hG⟩ : ∃ G, G = grownCap w n 0 54 := ⟨_, rfl⟩
  rw [← hG] at hrz
  have hGn : n ≤ G := by rw [hG]; exact grownCap_ge w _ _ _
  have hG63 : G ≤ maxLen := by rw [hG]; exact grownCap_le_maxLen w n 0 _ (by unfold maxLen; omega)
  have hG64 : G ≤ 9223372036854775807 := hG63
  have hni : (0 : Int) < n := by omega
  have h1 : ¬ ((n : Int) < 0) := by omega
  have h2 : wrap64 ((n : Int) - 0) = (n : Int) := by unfold wrap64; omega
  have h4 : (n : Int) > 0 := by omega
  obtain ⟨cs, hcs⟩ : ∃ cs : Array Value, cs = ([] : List Value).toArray ++ Builtin.zeroCells zAsk.cells n ++ Builtin.zeroCells zAsk.cells (G - n) := ⟨_, rfl⟩
  rw [← hcs] at hrz
  have HC := LH (show cs.size = G * 6 by rw [hcs]; simp [Builtin.zeroCells, zAsk_cells]; omega)
  have HG63 := LH hG63
  obtain ⟨w1, e1⟩ : ∃ w1, w1 = w.drew.alloc (.cells cs 54) := ⟨_, rfl⟩
  have B1 := LH (show Below w.heap.size w w1 by rw [e1]; exact (Below.refl w.heap.size w).drew.alloc (Nat.le_refl _) _)
  have R1 := LH (show Row w1 w.heap.size 54 cs by rw [e1]; exact Row.new' _ _ _ rfl)
  rw [← e1] at hrz
  clear hold hG hcs e1 i1 i2 i3 i4 hp hi
  go_enter Tryz.func93, Tryz.ntmps93
  go_wp2_with (at_builtin; refine Lib.wpList_append_run _ rfl _ _ _ _ rfl _ _ rfl rfl _ _ (hrz _) ?_)
  go_ret
  exact ⟨some ⟨w.heap.size, 0, none⟩, G, rfl, Grx.roomy R1.out (Nat.le_refl _) HG63.out HC.out, B1.out⟩
theorem implConcatA (X : Nat → Prop) (ls : List (List GAsk)) (A : Option Addr) (c : Nat) (w : World) (hX : ∀ b, w.heap.size ≤ b → X b) (hn : ls.flatten.length ≤ 1099511627776) (hs : Sl w (Lx X w) 1 A c (ls.map rowDA)) :
 Calls Tryz.prog 65 #[.slice A ls.length c] w (LToA X ls.flatten w) := by
 have HX := LH hX
 have hlen : ls.length ≤ 9223372036854775807 := by simpa using hs.len
 have HS := LH hs
 have HF := LH (fun (j : Nat) (h : j < ls.length) => flat_take ls h)
 have HL := LH (fun (j : Nat) => Nat.le_trans (flat_le ls j) hn)
 clear hX hs hn
 go_enter Tryz.func65, Tryz.ntmps65
 go_wp2_with fail
 go_loopw [3, 11] (fun s i wr => ∃ (j n : Nat), j ≤ ls.length ∧ i = .int .i64 j ∧ s = .int .i64 n ∧ n ≤ 1099511627776 ∧ Hid (n = (ls.take j).flatten.length) ∧ Hid (Below w.heap.size w wr)) (fun _ i _ => ls.length - (intOf i).toNat)
 case atStart => exact ⟨0, 0, by omega, by go_num, by go_num, by omega, LH (by simp), LH (Below.refl _ _)⟩
 case round =>
  obtain ⟨j, n, hj, rfl, rfl, hn, HN, HB⟩ := hrel
  have hsz := HB.out.size
  by_cases hlt : j < ls.length
  ·
   obtain ⟨b, off, A1, c1, rfl, hSb, g0, hs1⟩ := rowDA_elem (HS.out.stay HB.out) j hlt
   have hl1 : n + (ls[j]).length ≤ 1099511627776 := by
    have h1 := HL.out (j + 1)
    rw [HF.out j hlt, List.length_append, ← HN.out] at h1
    exact h1
   have hn0 : ¬ ((n : Int) + ((ls[j]).length : Int) < 0) := by omega
   clear hs1
   go_wp2_with fail
   go_roundw
   case rel => exact ⟨j + 1, n + (ls[j]).length, by omega, by go_num, by go_num, hl1, LH (by rw [HF.out j hlt, List.length_append, ← HN.out]), HB⟩
   case measure => simp [intOf]; omega
  ·
   have hje : j = ls.length := by omega
   have HNN := LH (show n = ls.flatten.length by rw [HN.out, hje, List.take_length])
   clear hje
   go_wp2_with fail
   refine (implGrowA X n _ hn).mono ?_
   rintro e w1 ⟨A1, c1, rfl, hG, hb1⟩
   have HG := LH (show Grx X w1 w.heap.size 54 6 (.slice A1 0 c1) 0 [] from by
     obtain ⟨h1, cs, h2, h3⟩ := hG
     refine ⟨h1, cs, ⟨h2.1, ?_⟩, h3⟩
     rcases h2.2 with h | ⟨g, cap, cur, r1, r2, r3⟩
     · exact .inl h
     · exact .inr ⟨g, cap, cur, r1, by omega, r3⟩)
   have HB1 := LH (HB.out.trans (hb1.mono hsz))
   clear hG hb1 hlt
   go_wp2_with fail
   go_loopw [6, 27] (fun v i wr => ∃ (j n : Nat) (A : Option Addr) (c : Nat), j ≤ ls.length ∧ i = .int .i64 j ∧ v = .slice A n c ∧ n ≤ 1099511627776 ∧ Hid (n = (ls.take j).flatten.length) ∧ Hid (Grx X wr w.heap.size 54 6 (.slice A n c) n ((ls.take j).flatten.map GAsk.toD)) ∧ Hid (Below w.heap.size w wr)) (fun _ i _ => ls.length - (intOf i).toNat)
   case atStart => exact ⟨0, 0, A1, c1, by omega, by go_num, rfl, by omega, LH (by simp), HG, HB1⟩
   case round =>
    obtain ⟨i, m, A2, c2, hi, rfl, rfl, hm, HM, HG2, HB2⟩ := hrel
    have hsz2 := HB2.out.size
    have HOW := LH (fun g (hg : (Value.slice A2 m c2).ownBlock = some g) => HG2.out.own g hg)
    by_cases hlt : i < ls.length
    ·
     obtain ⟨b, off, A3, c3, rfl, hSb, g0, hs1⟩ := rowDA_elem (HS.out.stay HB2.out) i hlt
     have TA := LH (show Sl wr (fun b => b < wr.heap.size ∧ (Value.slice A2 m c2).ownBlock ≠ some b ∧ X b) 6 A3 c3 (ls[i].map GAsk.toD) from hs1.keep fun b hb => ⟨⟨Nat.lt_of_lt_of_le hb.1 hsz2, fun e => by have := (HOW.out b e).1; have := hb.1; omega, hb.2⟩, rfl⟩)
     have hl1 : m + (ls[i]).length ≤ 1099511627776 := by
      have h1 := HL.out (i + 1)
      rw [HF.out i hlt, List.length_append, ← HM.out] at h1
      exact h1
     clear hs1
     go_wp2_with (first | (at_builtin; refine wpList_append_X wr rfl (.tmp 31) (.tmp 32) 51 rfl 54 zAsk 6 96 Tryz.underlying51 (by kernel_rfl) rfl (by omega) w.heap.size (.slice A2 m c2) m _ HG2.out A3 c3 (ls[i]).length _ (by simp) TA.out hsz2 (by unfold maxLen; omega) (by omega) rfl rfl ?_; intro A5 c5 w5 G5 hGr5; have G5h := LH G5; have B5 := LH (HB2.out.trans (hGr5.below hsz2 (fun g hg => (HOW.out g hg).1))); clear G5 hGr5))
     go_roundw
     case rel => exact ⟨i + 1, m + (ls[i]).length, A5, c5, by omega, by go_num, rfl, hl1, LH (by rw [HF.out i hlt, List.length_append, ← HM.out]), LH (by rw [HF.out i hlt, List.map_append]; exact G5h.out), B5⟩
     case measure => simp [intOf]; omega
    ·
     have hie : i = ls.length := by omega
     have HME := LH (show m = ls.flatten.length by rw [HM.out, hie, List.take_length])
     have HLE := LH (show ls.take i = ls by rw [hie, List.take_length])
     clear hie
     go_wp2_with fail
     go_ret
     obtain ⟨A5, c5, e5, hs5⟩ := HG2.out.sl HX.out
     obtain ⟨rfl, rfl⟩ : A2 = A5 ∧ c2 = c5 := by simpa using e5
     rw [HLE.out] at hs5
     exact ⟨A2, c2, ret_sl HME.out, hs5, HB2.out⟩
theorem implHolding1 (a x : GAsk) (A1 : Option Addr) (c1 : Nat) (A2 : Option Addr) (c2 : Nat) (B1 : Option Addr) (d1 : Nat) (B2 : Option Addr) (d2 : Nat) (g : Nat) (w : World) (hr : Row w g 54 #[.slice A1 a.path.length c1, .int .i64 a.pat.op, .int .i64 a.pat.n, .string a.pat.s, .string a.pat.t, .slice A2 a.pat.kids.length c2]) (ha : Sl w (Lt w.heap.size) 1 A1 c1 (a.path.map (D.num .i64))) (hx : Sl w (Lt w.heap.size) 1 B1 d1 (x.path.map (D.num .i64))) :
 Calls Tryz.prog 62 (#[.agg #[.slice B1 x.path.length d1, .int .i64 x.pat.op, .int .i64 x.pat.n, .string x.pat.s, .string x.pat.t, .slice B2 x.pat.kids.length d2]] ++ #[.pointer (some ⟨g, 0, none⟩)]) w fun e w' => e = .returned (.bool (x.path == a.path)) ∧ Below w.heap.size w w' := by
 obtain ⟨w0, e0⟩ : ∃ w0, w0 = w.alloc (.cells #[.slice B1 x.path.length d1, .int .i64 x.pat.op, .int .i64 x.pat.n, .string x.pat.s, .string x.pat.t, .slice B2 x.pat.kids.length d2] 54) := ⟨_, rfl⟩
 have E0 := LH (show Below w.heap.size w w0 by rw [e0]; exact (Below.refl _ _).alloc (Nat.le_refl _) _)
 have HR := LH hr
 have hgl := hr.lt
 have hca := fun i => HR.out.cell i
 have HC := LH (equalInts x.path a.path B1 d1 A1 c1 w0 (hx.below E0.out E0.out.size) (ha.below E0.out E0.out.size))
 clear hr ha hx
 go_enter Tryz.func62, Tryz.ntmps62
 go_wp2_with fail
 rw [← e0]
 refine HC.out.mono ?_
 rintro e w1 ⟨rfl, hb1⟩
 go_wp2_with fail
 go_ret
 exact ⟨rfl, E0.out.trans (hb1.mono E0.out.size)⟩
theorem implFindH (a : GAsk) (l : List GAsk) (A : Option Addr) (c : Nat) (A1 : Option Addr) (c1 : Nat) (A2 : Option Addr) (c2 : Nat) (g : Nat) (w : World) (hr : Row w g 54 #[.slice A1 a.path.length c1, .int .i64 a.pat.op, .int .i64 a.pat.n, .string a.pat.s, .string a.pat.t, .slice A2 a.pat.kids.length c2]) (ha : Sl w (Lt w.heap.size) 1 A1 c1 (a.path.map (D.num .i64))) (hs : Sl w (Lt w.heap.size) 6 A c (l.map GAsk.toD)) :
 Calls Tryz.prog 61 #[.slice A l.length c, .func (.func 62) #[] #[.pointer (some ⟨g, 0, none⟩)]] w fun e w' => e = .returned (.int .i64 (findA l a.path)) ∧ Below w.heap.size w w' :=
 indexFuncAsk 62 (enters Tryz.func62 (by kernel_rfl) (by kernel_rfl)) #[.pointer (some ⟨g, 0, none⟩)] (fun x => x.path == a.path) l A c w hs
  (fun x hx B1 d1 B2 d2 w2 hb hat => implHolding1 a x A1 c1 A2 c2 B1 d1 B2 d2 g w2 (hr.below hb hr.lt) (ha.below hb hb.size) hat.1)
theorem slThreeRows {X : Nat → Prop} {w' : World} {g : Nat} {T : TypeId} {A1 A2 A3 : Option Addr} {c1 c2 c3 : Nat} {r1 r2 r3 : List GAsk} (hr : Row w' g T #[.slice A1 r1.length c1, .slice A2 r2.length c2, .slice A3 r3.length c3]) (hX : X g) (h1 : Sl w' (Lx X w') 6 A1 c1 (r1.map GAsk.toD)) (h2 : Sl w' (Lx X w') 6 A2 c2 (r2.map GAsk.toD)) (h3 : Sl w' (Lx X w') 6 A3 c3 (r3.map GAsk.toD)) :
 Sl w' (Lx X w') 1 (some ⟨g, 0, none⟩) 3 ([r1, r2, r3].map rowDA) := by
 refine ⟨by simp, by unfold maxLen; omega, .inr ⟨g, 0, rfl, ⟨hr.lt, hX⟩, ?_⟩⟩
 refine rdC_row [rowDA r1, rowDA r2, rowDA r3] [.slice A1 r1.length c1, .slice A2 r2.length c2, .slice A3 r3.length c3] 0 (fun j v hj => ?_) ?_
 · rw [Nat.zero_add, hr.cell]; simpa using hj
 · simp only [rdC]
   refine ⟨[.slice A1 r1.length c1], [.slice A2 r2.length c2, .slice A3 r3.length c3], by simp, rfl, ?_, [.slice A2 r2.length c2], [.slice A3 r3.length c3], by simp, rfl, ?_, [.slice A3 r3.length c3], [], by simp, rfl, ?_, rfl⟩
   · unfold rowDA; rw [D.rd_sl]; exact ⟨A1, c1, by simp, h1⟩
   · unfold rowDA; rw [D.rd_sl]; exact ⟨A2, c2, by simp, h2⟩
   · unfold rowDA; rw [D.rd_sl]; exact ⟨A3, c3, by simp, h3⟩
set_option maxHeartbeats 2000000
theorem implHolding (S : Nat → Prop) (a : GAsk) (rows : List GTrow) (A : Option Addr) (c : Nat) (A1 : Option Addr) (c1 : Nat) (A2 : Option Addr) (c2 : Nat) (w : World) (hl : rows.length ≤ 1048576) (n : Nat) (hn : n ≤ 1048575) (hap : a.path.length ≤ n) (hb : RowsOk n rows) (hS : ∀ b, S b → b < w.heap.size) (hs : Sl w S 2 A c (rows.map GTrow.toD)) (ha : GAsk.At w (Lt w.heap.size) A1 c1 A2 c2 a) :
 Calls Tryz.prog 37 #[.slice A rows.length c, .agg #[.slice A1 a.path.length c1, .int .i64 a.pat.op, .int .i64 a.pat.n, .string a.pat.s, .string a.pat.t, .slice A2 a.pat.kids.length c2]] w (ToTrowsS S (yesR a rows) w) := by
 have HS := LH hs
 have HA := LH ha
 have HBD := LH hb
 have HSL := LH hS
 clear hs ha hb hS
 obtain ⟨w0, e0⟩ : ∃ w0, w0 = (w.alloc (.cells #[.slice A1 a.path.length c1, .int .i64 a.pat.op, .int .i64 a.pat.n, .string a.pat.s, .string a.pat.t, .slice A2 a.pat.kids.length c2] 54)).alloc (.cells #[] 56) := ⟨_, rfl⟩
 have HB0 := LH (show Below w.heap.size w w0 by rw [e0]; exact ((Below.refl _ _).alloc (Nat.le_refl _) _).alloc (by simp) _)
 have HRa0 := LH (show Row w0 w.heap.size 54 #[.slice A1 a.path.length c1, .int .i64 a.pat.op, .int .i64 a.pat.n, .string a.pat.s, .string a.pat.t, .slice A2 a.pat.kids.length c2] by rw [e0]; exact (Row.new' _ _ _ rfl).alloc _)
 have G0 := LH (show Grx (Xs S w.heap.size) w0 (w.heap.size + 1) 56 2 (.slice (some ⟨w.heap.size + 1, 0, none⟩) 0 0) 0 [] from Grx.made (by rw [e0]; exact Row.new' _ _ _ (by simp)) (Nat.le_refl _))
 have hs0 : w.heap.size + 1 ≤ w0.heap.size := by rw [e0]; simp
 go_enter Tryz.func37, Tryz.ntmps37
 go_wp2_with fail
 rw [← e0]
 clear e0
 go_loopw [5, 12] (fun v i wr => ∃ (j m : Nat) (A' : Option Addr) (c' : Nat), j ≤ rows.length ∧ i = .int .i64 j ∧ v = .slice A' m c' ∧ m ≤ j ∧ Hid (Grx (Xs S w.heap.size) wr (w.heap.size + 1) 56 2 (.slice A' m c') m ((yesR a (rows.take j)).map GTrow.toD)) ∧ Hid (Row wr w.heap.size 54 #[.slice A1 a.path.length c1, .int .i64 a.pat.op, .int .i64 a.pat.n, .string a.pat.s, .string a.pat.t, .slice A2 a.pat.kids.length c2]) ∧ w.heap.size + 1 ≤ wr.heap.size ∧ Hid (Below w.heap.size w wr)) (fun _ i _ => rows.length - (intOf i).toNat)
 case atStart => exact ⟨0, 0, _, _, by omega, by go_num, rfl, by omega, G0, HRa0, hs0, HB0⟩
 case round =>
  clear HRa0 HB0 G0 hs0
  obtain ⟨j, m, A', c', hj, rfl, rfl, hm, HG, HRa, hs1, HB⟩ := hrel
  have hsz := HB.out.size
  have HOW := LH (fun g (hg : (Value.slice A' m c').ownBlock = some g) => HG.out.own g hg)
  by_cases hlt : j < rows.length
  ·
   obtain ⟨b, off, B1, d1, rfl, hSb, g0, g1, hat⟩ := GTrow.elem (HS.out.keep (w' := wr) (S' := S) fun q hq => ⟨hq, HB.out.block q (HSL.out q hq)⟩) j hlt
   have hSb' : b < w.heap.size := HSL.out b hSb
   have hbl : b < wr.heap.size := Nat.lt_of_lt_of_le hSb' hsz
   have dl : decide ((j : Int) < (rows.length : Int)) = true := decide_eq_true (by omega)
   have HT := LH (yesR_take (a := a) (rows := rows) (j := j) hlt)
   have HBR := LH (HBD.out _ (List.getElem_mem hlt))
   obtain ⟨r, hr⟩ : ∃ r, rows[j] = r := ⟨_, rfl⟩
   rw [hr] at g0 g1 hat HT HBR
   have HAT := LH hat
   have hkm := HBR.out.1
   have hkl := asksM_len r.asks
   have hd1 := hat.2.1
   rw [List.length_map] at hd1
   clear hat hr
   obtain ⟨w2, e2⟩ : ∃ w2, w2 = wr.alloc (.cells #[.int .i64 r.alt, .slice B1 r.asks.length d1] 56) := ⟨_, rfl⟩
   have E2 := LH (show Below wr.heap.size wr w2 by rw [e2]; exact (Below.refl _ _).alloc (Nat.le_refl _) _)
   have hz2 : wr.heap.size < w2.heap.size := by rw [e2]; simp
   have RR2 := LH (show Row w2 wr.heap.size 56 #[.int .i64 r.alt, .slice B1 r.asks.length d1] by rw [e2]; exact Row.new _ _ _)
   have RA2 := LH (HRa.out.below E2.out HRa.out.lt)
   obtain ⟨fi, hfi⟩ : ∃ fi, findA r.asks a.path = fi := ⟨_, rfl⟩
   have hff := implFindH a r.asks B1 d1 A1 c1 A2 c2 w.heap.size w2 RA2.out ((HA.out.1.below HB.out hsz).below E2.out E2.out.size) (HAT.out.2.keep fun q hq => ⟨(show q < w2.heap.size by have := HSL.out q hq; omega), E2.out.block q (by have := HSL.out q hq; omega)⟩)
   rw [hfi] at hff
   have HF := LH hff
   have HFI := LH hfi
   clear hff hfi
   go_upto_region 5 with (fail)
   rw [← e2]
   clear e2 g0 g1
   have hcr := fun i => RR2.out.cell i
   go_wp2_with fail
   refine HF.out.mono ?_
   rintro e w3 ⟨rfl, hb3⟩
   have E3 := LH (E2.out.trans (hb3.mono E2.out.size))
   have hz3 := hb3.size
   have RR3 := LH (RR2.out.below hb3 RR2.out.lt)
   have RA3 := LH (RA2.out.below hb3 RA2.out.lt)
   have G3 := LH (HG.out.below E3.out)
   have B3 := LH (HB.out.trans (E3.out.mono hsz))
   clear hb3 hcr HF
   by_cases hnn : fi < 0
   ·
    have HV := LH (show yesR a (rows.take (j + 1)) = yesR a (rows.take j) ++ [r] by rw [HT.out]; unfold yes1; rw [HFI.out]; simp [hnn])
    have dn : decide (fi < 0) = true := decide_eq_true hnn
    have hcr := fun i => RR3.out.cell i
    clear hnn
    obtain ⟨w5, e5⟩ : ∃ w5, w5 = w3.alloc (.cells #[.int .i64 r.alt, .slice B1 r.asks.length d1] 56) := ⟨_, rfl⟩
    have E5 := LH (show Below wr.heap.size wr w5 by rw [e5]; exact E3.out.alloc E3.out.size _)
    have G5 := LH (HG.out.below E5.out)
    have B5 := LH (HB.out.trans (E5.out.mono hsz))
    have hs5 : w.heap.size + 1 ≤ w5.heap.size := Nat.le_trans hs1 E5.out.size
    have hz5 : w3.heap.size < w5.heap.size := by rw [e5]; simp
    have T5 := LH (show Sl w5 (fun b => b < w5.heap.size ∧ (Value.slice A' m c').ownBlock ≠ some b ∧ Xs S w.heap.size b) 2 (some ⟨w3.heap.size, 0, none⟩) 1 [r.toD] from
      slOne (T := 56) (cs := [.int .i64 r.alt, .slice B1 r.asks.length d1]) (by rw [e5]; exact Row.new' _ _ _ rfl) (GTrow.rd_mk (HAT.out.keep fun q hq => ⟨⟨by have := HSL.out q hq; omega, fun e => by have := (HOW.out q e).1; have h4 := HSL.out q hq; omega, .inl hq⟩, E5.out.block q (by have := HSL.out q hq; omega)⟩)) rfl ⟨hz5, fun e => by have := (HOW.out _ e).2; omega, .inr (by omega)⟩)
    go_wp2_with (first
      | (at_builtin
         rw [← e5]
         refine wpList_append_X w5 rfl (.tmp 23) (.tmp 25) 48 rfl 56 zTrow 2 32 Tryz.underlying48 (by kernel_rfl) rfl (by omega) (w.heap.size + 1) (.slice A' m c') m _ G5.out (some ⟨w3.heap.size, 0, none⟩) 1 1 _ rfl T5.out hs5 (by unfold maxLen; omega) (by omega) rfl rfl ?_
         intro A6 c6 w6 G6 hGr6
         have G6h := LH G6
         have Z6 := LH (Nat.le_trans hs5 hGr6.size)
         have Ra6 := LH (hGr6.row (HRa.out.below E5.out HRa.out.lt) (fun e => by have := (HOW.out _ e).1; omega))
         have B6 := LH (B5.out.trans (hGr6.below (B := w.heap.size) (by omega) (fun g hg => by have := (HOW.out g hg).1; omega)))
         clear G6 hGr6))
    go_roundw
    case rel => exact ⟨j + 1, m + 1, A6, c6, by omega, by go_num, rfl, by omega, LH (by rw [HV.out, List.map_append]; exact G6h.out), Ra6, Z6.out, B6⟩
    case measure => simp [intOf]; omega
   ·
    obtain ⟨k, hk, ek, hpk, -⟩ := idxI_spec (p := fun x : GAsk => x.path == a.path) (l := r.asks) (show 0 ≤ findA r.asks a.path by rw [HFI.out]; omega)
    obtain rfl : fi = (k : Int) := by rw [← HFI.out]; exact ek
    have hpe : r.asks[k].path = a.path := by simpa using hpk
    obtain ⟨b2, off2, D1, f1, D2, f2, rfl, hSb2, q0, q1, q2, q3, q4, q5, hatk⟩ := GAsk.elem (HAT.out.2.keep (w' := w3) (S' := S) fun q hq => ⟨hq, E3.out.block q (by have := HSL.out q hq; omega)⟩) k hk
    have hSb2' : b2 < w.heap.size := HSL.out _ hSb2
    have dn : decide ((k : Int) < 0) = false := decide_eq_false hnn
    have HYE := LH (show yes1 a r = if sameP r.asks[k].pat a.pat = true then some ⟨r.alt, r.asks.take k ++ bareA (kidsA a.path 0 r.asks[k].pat.kids) ++ r.asks.drop (k + 1)⟩ else none by
      unfold yes1
      rw [HFI.out, if_neg hnn]
      simp [hk])
    have hkn : r.asks[k].pat.kids.length ≤ 1048576 := by
     have h1 := asksM_mem (List.getElem_mem hk)
     have h2 := GNode.bulk_eq r.asks[k].pat
     have h3 := bulkL_len GNode.bulk r.asks[k].pat.kids
     omega
    have HTM := LH (show asksM (r.asks.take k ++ kidsA a.path 0 r.asks[k].pat.kids ++ r.asks.drop (k + 1)) ≤ asksM r.asks from asksM_turned r.asks k hk a.path)
    obtain ⟨x, hx⟩ : ∃ x, r.asks[k] = x := ⟨_, rfl⟩
    rw [hx] at q0 q1 q2 q3 q4 q5 hatk HYE hkn hpe HTM
    have HATK := LH hatk
    have HPE := LH hpe
    have HAL := LH (fun u : World => implSameAsk x.pat a.pat D2 f2 A2 c2 u)
    have hal3 := RA3.out.lt
    have F8 := LH (fun (u : World) (hu : ∀ q, q < w3.heap.size → (Value.slice A' m c').ownBlock ≠ some q → u.heap[q]? = w3.heap[q]?) => show (∀ i, u.cell? ⟨w.heap.size, i, none⟩ = (#[.slice A1 a.path.length c1, .int .i64 a.pat.op, .int .i64 a.pat.n, .string a.pat.s, .string a.pat.t, .slice A2 a.pat.kids.length c2] : Array Value)[i]?) ∧ (∀ i, u.cell? ⟨wr.heap.size, i, none⟩ = (#[.int .i64 r.alt, .slice (some ⟨b2, off2, none⟩) r.asks.length d1] : Array Value)[i]?) ∧ u.cell? ⟨b2, off2 + k * 6, none⟩ = some (.slice D1 x.path.length f1) ∧ u.cell? ⟨b2, off2 + k * 6 + 1, none⟩ = some (.int .i64 x.pat.op) ∧ u.cell? ⟨b2, off2 + k * 6 + 2, none⟩ = some (.int .i64 x.pat.n) ∧ u.cell? ⟨b2, off2 + k * 6 + 3, none⟩ = some (.string x.pat.s) ∧ u.cell? ⟨b2, off2 + k * 6 + 4, none⟩ = some (.string x.pat.t) ∧ u.cell? ⟨b2, off2 + k * 6 + 5, none⟩ = some (.slice D2 x.pat.kids.length f2) from by
      have n1 : (Value.slice A' m c').ownBlock ≠ some w.heap.size := fun e => by have := (HOW.out _ e).1; omega
      have n2 : (Value.slice A' m c').ownBlock ≠ some wr.heap.size := fun e => by have := (HOW.out _ e).2; omega
      have n3 : (Value.slice A' m c').ownBlock ≠ some b2 := fun e => by have := (HOW.out _ e).1; omega
      have l1 : w.heap.size < w3.heap.size := by omega
      have l2 : wr.heap.size < w3.heap.size := by omega
      have l3 : b2 < w3.heap.size := by omega
      exact ⟨fun i => (World.cell?_of_block (hu _ l1 n1)).trans (RA3.out.cell i), fun i => (World.cell?_of_block (hu _ l2 n2)).trans (RR3.out.cell i), (World.cell?_of_block (hu _ l3 n3)).trans q0, (World.cell?_of_block (hu _ l3 n3)).trans q1, (World.cell?_of_block (hu _ l3 n3)).trans q2, (World.cell?_of_block (hu _ l3 n3)).trans q3, (World.cell?_of_block (hu _ l3 n3)).trans q4, (World.cell?_of_block (hu _ l3 n3)).trans q5⟩)
    clear hpk ek hnn hatk hpe hx q0 q1 q2 q3 q4 q5
    go_upto_region 8 with (fail)
    refine wp_region_T (fun u => (∀ i, u.cell? ⟨w.heap.size, i, none⟩ = (#[.slice A1 a.path.length c1, .int .i64 a.pat.op, .int .i64 a.pat.n, .string a.pat.s, .string a.pat.t, .slice A2 a.pat.kids.length c2] : Array Value)[i]?) ∧ (∀ i, u.cell? ⟨wr.heap.size, i, none⟩ = (#[.int .i64 r.alt, .slice (some ⟨b2, off2, none⟩) r.asks.length d1] : Array Value)[i]?) ∧ u.cell? ⟨b2, off2 + k * 6, none⟩ = some (.slice D1 x.path.length f1) ∧ u.cell? ⟨b2, off2 + k * 6 + 1, none⟩ = some (.int .i64 x.pat.op) ∧ u.cell? ⟨b2, off2 + k * 6 + 2, none⟩ = some (.int .i64 x.pat.n) ∧ u.cell? ⟨b2, off2 + k * 6 + 3, none⟩ = some (.string x.pat.s) ∧ u.cell? ⟨b2, off2 + k * 6 + 4, none⟩ = some (.string x.pat.t) ∧ u.cell? ⟨b2, off2 + k * 6 + 5, none⟩ = some (.slice D2 x.pat.kids.length f2)) 100 (by kernel_rfl) ?_
    have hS1 := F8.out w3.drew (fun _ _ _ => rfl)
    refine wpAnyT_take (i := 0) (oi := _) (v := ?tv1) rfl (by kernel_rfl) (by kernel_rfl) (by kernel_rfl) (by kernel_rfl) (fun _ _ _ h => h) (Or.inl ⟨by rfl, ?th1⟩) hS1 ?_
    case th1 => (intro x hSx; (try dsimp only at hSx); go_simp; (try with_reducible rfl))
    try simp only [List.getElem_toArray, List.getElem_cons_succ, List.getElem_cons_zero, Act.put, List.setIfInBounds_toArray, List.set_cons_zero, List.set_cons_succ]
    refine wpAnyT_take (i := 1) (oi := _) (v := ?tv2) rfl (by kernel_rfl) (by kernel_rfl) (by kernel_rfl) (by kernel_rfl) (fun _ _ _ h => h) (Or.inl ⟨by rfl, ?th2⟩) hS1 ?_
    case th2 => (intro x hSx; (try dsimp only at hSx); go_simp; (try with_reducible rfl))
    try simp only [List.getElem_toArray, List.getElem_cons_succ, List.getElem_cons_zero, Act.put, List.setIfInBounds_toArray, List.set_cons_zero, List.set_cons_succ]
    refine wpAnyT_take (i := 2) (oi := _) (v := ?tv3) rfl (by kernel_rfl) (by kernel_rfl) (by kernel_rfl) (by kernel_rfl) (fun _ _ _ h => h) (Or.inl ⟨by rfl, ?th3⟩) hS1 ?_
    case th3 => (intro x hSx; (try dsimp only at hSx); go_simp; (try with_reducible rfl))
    try simp only [List.getElem_toArray, List.getElem_cons_succ, List.getElem_cons_zero, Act.put, List.setIfInBounds_toArray, List.set_cons_zero, List.set_cons_succ]
    refine wpAnyT_take (i := 3) (oi := _) (v := ?tv4) rfl (by kernel_rfl) (by kernel_rfl) (by kernel_rfl) (by kernel_rfl) (fun _ _ _ h => h) (Or.inl ⟨by rfl, ?th4⟩) hS1 ?_
    case th4 => (intro x hSx; (try dsimp only at hSx); go_simp; (try with_reducible rfl))
    try simp only [List.getElem_toArray, List.getElem_cons_succ, List.getElem_cons_zero, Act.put, List.setIfInBounds_toArray, List.set_cons_zero, List.set_cons_succ]
    refine wpAnyT_take (i := 4) (oi := _) (v := ?tv5) rfl (by kernel_rfl) (by kernel_rfl) (by kernel_rfl) (by kernel_rfl) (fun _ _ _ h => h) (Or.inl ⟨by rfl, ?th5⟩) hS1 ?_
    case th5 => (intro x hSx; (try dsimp only at hSx); go_simp; (try with_reducible rfl))
    try simp only [List.getElem_toArray, List.getElem_cons_succ, List.getElem_cons_zero, Act.put, List.setIfInBounds_toArray, List.set_cons_zero, List.set_cons_succ]
    refine wpAnyT_take (i := 5) (oi := _) (v := ?tv6) rfl (by kernel_rfl) (by kernel_rfl) (by kernel_rfl) (by kernel_rfl) (fun _ _ _ h => h) (Or.inl ⟨by rfl, ?th6⟩) hS1 ?_
    case th6 => (intro x hSx; (try dsimp only at hSx); go_simp; (try with_reducible rfl))
    try simp only [List.getElem_toArray, List.getElem_cons_succ, List.getElem_cons_zero, Act.put, List.setIfInBounds_toArray, List.set_cons_zero, List.set_cons_succ]
    refine wpAnyT_take (i := 6) (oi := _) (v := ?tv7) rfl (by kernel_rfl) (by kernel_rfl) (by kernel_rfl) (by kernel_rfl) (fun _ _ _ h => h) (Or.inl ⟨by rfl, ?th7⟩) hS1 ?_
    case th7 => (intro x hSx; (try dsimp only at hSx); go_simp; (try with_reducible rfl))
    try simp only [List.getElem_toArray, List.getElem_cons_succ, List.getElem_cons_zero, Act.put, List.setIfInBounds_toArray, List.set_cons_zero, List.set_cons_succ]
    refine wpAnyT_take (i := 7) (oi := _) (v := ?tv8) rfl (by kernel_rfl) (by kernel_rfl) (by kernel_rfl) (by kernel_rfl) (fun _ _ _ h => h) (Or.inl ⟨by rfl, ?th8⟩) hS1 ?_
    case th8 => (intro x hSx; (try dsimp only at hSx); go_simp; (try with_reducible rfl))
    try simp only [List.getElem_toArray, List.getElem_cons_succ, List.getElem_cons_zero, Act.put, List.setIfInBounds_toArray, List.set_cons_zero, List.set_cons_succ]
    refine wpAnyT_step (i := 8) (by kernel_rfl) rfl (fun K hK => ?_)
    try simp only [List.getElem_toArray, List.getElem_cons_succ, List.getElem_cons_zero]
    go_simp
    go_at_call 64
    refine (HAL.out w3.drew).mono ?_
    rintro e w4 ⟨rfl, hb4⟩
    have E4 := LH (((Below.refl w3.heap.size w3).drew).trans hb4)
    clear hb4
    refine hK.out _ _ (F8.out _ (fun q hq _ => E4.out.block q hq)) (fun hS4 => ?_)
    clear hK K hS1
    try simp only [List.getElem_toArray, List.getElem_cons_succ, List.getElem_cons_zero, Act.put, List.setIfInBounds_toArray, List.set_cons_zero, List.set_cons_succ]
    refine wpAnyT_step (i := 9) (by kernel_rfl) rfl (fun K hK => ?_)
    try simp only [List.getElem_toArray, List.getElem_cons_succ, List.getElem_cons_zero]
    go_simp
    refine hK.out _ _ hS4 (fun hS4b => ?_)
    clear hK K hS4
    try simp only [List.getElem_toArray, List.getElem_cons_succ, List.getElem_cons_zero, Act.put, List.setIfInBounds_toArray, List.set_cons_zero, List.set_cons_succ]
    refine wpAnyT_done (by kernel_rfl) ?_ _
    have hz4 := E4.out.size
    have RA4 := LH (RA3.out.below E4.out RA3.out.lt)
    have G4 := LH (G3.out.below E4.out)
    have B4 := LH (B3.out.trans (E4.out.mono (by omega)))
    have hs4 : w.heap.size + 1 ≤ w4.heap.size := by omega
    cases hsp : sameP x.pat a.pat
    · have HV := LH (show yesR a (rows.take (j + 1)) = yesR a (rows.take j) by rw [HT.out, HYE.out, hsp]; simp)
      clear hsp hS4b
      go_wp2_with fail
      go_roundw
      case rel => exact ⟨j + 1, m, A', c', by omega, by go_num, rfl, by omega, LH (by rw [HV.out]; exact G4.out), RA4, hs4, B4⟩
      case measure => simp [intOf]; omega
    ·
     have HV := LH (show yesR a (rows.take (j + 1)) = yesR a (rows.take j) ++ [⟨r.alt, r.asks.take k ++ bareA (kidsA a.path 0 x.pat.kids) ++ r.asks.drop (k + 1)⟩] by rw [HT.out, HYE.out, hsp]; rfl)
     clear hsp hS4b
     have HH := run_headAt (P := Tryz.prog) 51 54 6 Tryz.underlying51 (by kernel_rfl) b2 off2 r.asks.length d1 k k rfl (by omega)
     have HRE := run_restAt (P := Tryz.prog) 51 54 6 Tryz.underlying51 (by kernel_rfl) b2 off2 r.asks.length d1 (k + 1) ((k : Int) + 1) (by omega) (by omega) (by omega)
     have hwk : IntKind.i64.wrap ((k : Int) + 1) = (k : Int) + 1 := (IntWalk.i64_left _).trans (IntWalk.wrap64_in ((k : Int) + 1) (by omega))
     have F9 := LH (fun (u : World) (hu : ∀ q, q < w4.heap.size → (Value.slice A' m c').ownBlock ≠ some q → u.heap[q]? = w4.heap[q]?) => F8.out u (fun q hq hq2 => (hu q (by omega) hq2).trans (E4.out.block q hq)))
     have SX := LH (fun (u : World) (hu : Below w4.heap.size w4 u) (q : Nat) (hq : S q) => show q < u.heap.size ∧ u.heap[q]? = wr.heap[q]? from ⟨by have := HSL.out q hq; have := hu.size; omega, (hu.block q (by have := HSL.out q hq; omega)).trans ((E4.out.block q (by have := HSL.out q hq; omega)).trans (E3.out.block q (by have := HSL.out q hq; omega)))⟩)
     go_upto_region 9 with (fail)
     refine wp_region_T (fun u => (∀ i, u.cell? ⟨w.heap.size, i, none⟩ = (#[.slice A1 a.path.length c1, .int .i64 a.pat.op, .int .i64 a.pat.n, .string a.pat.s, .string a.pat.t, .slice A2 a.pat.kids.length c2] : Array Value)[i]?) ∧ (∀ i, u.cell? ⟨wr.heap.size, i, none⟩ = (#[.int .i64 r.alt, .slice (some ⟨b2, off2, none⟩) r.asks.length d1] : Array Value)[i]?) ∧ u.cell? ⟨b2, off2 + k * 6, none⟩ = some (.slice D1 x.path.length f1) ∧ u.cell? ⟨b2, off2 + k * 6 + 1, none⟩ = some (.int .i64 x.pat.op) ∧ u.cell? ⟨b2, off2 + k * 6 + 2, none⟩ = some (.int .i64 x.pat.n) ∧ u.cell? ⟨b2, off2 + k * 6 + 3, none⟩ = some (.string x.pat.s) ∧ u.cell? ⟨b2, off2 + k * 6 + 4, none⟩ = some (.string x.pat.t) ∧ u.cell? ⟨b2, off2 + k * 6 + 5, none⟩ = some (.slice D2 x.pat.kids.length f2)) 23 (by kernel_rfl) ?_
     have hS5 := F9.out w4.drew (fun _ _ _ => rfl)
     refine wpAnyT_take (i := 0) (oi := _) (v := ?tv9) rfl (by kernel_rfl) (by kernel_rfl) (by kernel_rfl) (by kernel_rfl) (fun _ _ _ h => h) (Or.inl ⟨by rfl, ?th9⟩) hS5 ?_
     case th9 => (intro x hSx; (try dsimp only at hSx); go_simp; (try with_reducible rfl))
     try simp only [List.getElem_toArray, List.getElem_cons_succ, List.getElem_cons_zero, Act.put, List.setIfInBounds_toArray, List.set_cons_zero, List.set_cons_succ]
     refine wpAnyT_take (i := 1) (oi := _) (v := ?tv10) rfl (by kernel_rfl) (by kernel_rfl) (by kernel_rfl) (by kernel_rfl) (fun _ _ _ h => h) (Or.inl ⟨by rfl, ?th10⟩) hS5 ?_
     case th10 => (intro x hSx; (try dsimp only at hSx); go_simp; (try with_reducible rfl))
     try simp only [List.getElem_toArray, List.getElem_cons_succ, List.getElem_cons_zero, Act.put, List.setIfInBounds_toArray, List.set_cons_zero, List.set_cons_succ]
     refine wpAnyT_take (i := 2) (oi := _) (v := ?tv11) rfl (by kernel_rfl) (by kernel_rfl) (by kernel_rfl) (by kernel_rfl) (fun _ _ _ h => h) (Or.inl ⟨by rfl, ?th11⟩) hS5 ?_
     case th11 => (intro x hSx; (try dsimp only at hSx); go_simp; (try with_reducible rfl))
     try simp only [List.getElem_toArray, List.getElem_cons_succ, List.getElem_cons_zero, Act.put, List.setIfInBounds_toArray, List.set_cons_zero, List.set_cons_succ]
     refine wpAnyT_take (i := 3) (oi := _) (v := ?tv12) rfl (by kernel_rfl) (by kernel_rfl) (by kernel_rfl) (by kernel_rfl) (fun _ _ _ h => h) (Or.inl ⟨by rfl, ?th12⟩) hS5 ?_
     case th12 => (intro x hSx; (try dsimp only at hSx); go_simp; (try with_reducible rfl))
     try simp only [List.getElem_toArray, List.getElem_cons_succ, List.getElem_cons_zero, Act.put, List.setIfInBounds_toArray, List.set_cons_zero, List.set_cons_succ]
     refine wpAnyT_take (i := 4) (oi := _) (v := ?tv13) rfl (by kernel_rfl) (by kernel_rfl) (by kernel_rfl) (by kernel_rfl) (fun _ _ _ h => h) (Or.inl ⟨by rfl, ?th13⟩) hS5 ?_
     case th13 => (intro x hSx; (try dsimp only at hSx); go_simp; (try with_reducible rfl))
     try simp only [List.getElem_toArray, List.getElem_cons_succ, List.getElem_cons_zero, Act.put, List.setIfInBounds_toArray, List.set_cons_zero, List.set_cons_succ]
     refine wpAnyT_take (i := 5) (oi := _) (v := ?tv14) rfl (by kernel_rfl) (by kernel_rfl) (by kernel_rfl) (by kernel_rfl) (fun _ _ _ h => h) (Or.inl ⟨by rfl, ?th14⟩) hS5 ?_
     case th14 => (intro x hSx; (try dsimp only at hSx); go_simp; (try with_reducible rfl))
     try simp only [List.getElem_toArray, List.getElem_cons_succ, List.getElem_cons_zero, Act.put, List.setIfInBounds_toArray, List.set_cons_zero, List.set_cons_succ]
     refine wpAnyT_take (i := 6) (oi := _) (v := ?tv15) rfl (by kernel_rfl) (by kernel_rfl) (by kernel_rfl) (by kernel_rfl) (fun _ _ _ h => h) (Or.inl ⟨by rfl, ?th15⟩) hS5 ?_
     case th15 => (intro x hSx; (try dsimp only at hSx); go_simp; (try with_reducible rfl))
     try simp only [List.getElem_toArray, List.getElem_cons_succ, List.getElem_cons_zero, Act.put, List.setIfInBounds_toArray, List.set_cons_zero, List.set_cons_succ]
     refine wpAnyT_take (i := 7) (oi := _) (v := ?tv16) rfl (by kernel_rfl) (by kernel_rfl) (by kernel_rfl) (by kernel_rfl) (fun _ _ _ h => h) (Or.inl ⟨by rfl, ?th16⟩) hS5 ?_
     case th16 => (intro x hSx; (try dsimp only at hSx); go_simp; (try with_reducible rfl))
     try simp only [List.getElem_toArray, List.getElem_cons_succ, List.getElem_cons_zero, Act.put, List.setIfInBounds_toArray, List.set_cons_zero, List.set_cons_succ]
     refine wpAnyT_take (i := 8) (oi := _) (v := ?tv17) rfl (by kernel_rfl) (by kernel_rfl) (by kernel_rfl) (by kernel_rfl) (fun _ _ _ h => h) (Or.inl ⟨by rfl, ?th17⟩) hS5 ?_
     case th17 => (intro x hSx; (try dsimp only at hSx); go_simp; (try with_reducible rfl))
     try simp only [List.getElem_toArray, List.getElem_cons_succ, List.getElem_cons_zero, Act.put, List.setIfInBounds_toArray, List.set_cons_zero, List.set_cons_succ]
     refine wpAnyT_take (i := 9) (oi := _) (v := ?tv18) rfl (by kernel_rfl) (by kernel_rfl) (by kernel_rfl) (by kernel_rfl) (fun _ _ _ h => h) (Or.inl ⟨by rfl, ?th18⟩) hS5 ?_
     case th18 => (intro x hSx; (try dsimp only at hSx); go_simp; (try with_reducible rfl))
     try simp only [List.getElem_toArray, List.getElem_cons_succ, List.getElem_cons_zero, Act.put, List.setIfInBounds_toArray, List.set_cons_zero, List.set_cons_succ]
     refine wpAnyT_take (i := 10) (oi := _) (v := ?tv19) rfl (by kernel_rfl) (by kernel_rfl) (by kernel_rfl) (by kernel_rfl) (fun _ _ _ h => h) (Or.inl ⟨by rfl, ?th19⟩) hS5 ?_
     case th19 => (intro x hSx; (try dsimp only at hSx); go_simp; (try with_reducible rfl))
     try simp only [List.getElem_toArray, List.getElem_cons_succ, List.getElem_cons_zero, Act.put, List.setIfInBounds_toArray, List.set_cons_zero, List.set_cons_succ]
     refine wpAnyT_take (i := 11) (oi := _) (v := ?tv20) rfl (by kernel_rfl) (by kernel_rfl) (by kernel_rfl) (by kernel_rfl) (fun _ _ _ h => h) (Or.inl ⟨by rfl, ?th20⟩) hS5 ?_
     case th20 => (intro x hSx; (try dsimp only at hSx); go_simp; (try with_reducible rfl))
     try simp only [List.getElem_toArray, List.getElem_cons_succ, List.getElem_cons_zero, Act.put, List.setIfInBounds_toArray, List.set_cons_zero, List.set_cons_succ]
     refine wpAnyT_take (i := 13) (oi := _) (v := ?tv21) rfl (by kernel_rfl) (by kernel_rfl) (by kernel_rfl) (by kernel_rfl) (fun _ _ _ h => h) (Or.inl ⟨by rfl, ?th21⟩) hS5 ?_
     case th21 => (intro x hSx; (try dsimp only at hSx); go_simp; (try with_reducible rfl))
     try simp only [List.getElem_toArray, List.getElem_cons_succ, List.getElem_cons_zero, Act.put, List.setIfInBounds_toArray, List.set_cons_zero, List.set_cons_succ]
     refine wpAnyT_take (i := 14) (oi := _) (v := ?tv22) rfl (by kernel_rfl) (by kernel_rfl) (by kernel_rfl) (by kernel_rfl) (fun _ _ _ h => h) (Or.inl ⟨by rfl, ?th22⟩) hS5 ?_
     case th22 => (intro x hSx; (try dsimp only at hSx); go_simp; (try with_reducible rfl))
     try simp only [List.getElem_toArray, List.getElem_cons_succ, List.getElem_cons_zero, Act.put, List.setIfInBounds_toArray, List.set_cons_zero, List.set_cons_succ]
     refine wpAnyT_take (i := 15) (oi := _) (v := ?tv23) rfl (by kernel_rfl) (by kernel_rfl) (by kernel_rfl) (by kernel_rfl) (fun _ _ _ h => h) (Or.inl ⟨by rfl, ?th23⟩) hS5 ?_
     case th23 => (intro x hSx; (try dsimp only at hSx); go_simp; (try with_reducible rfl))
     try simp only [List.getElem_toArray, List.getElem_cons_succ, List.getElem_cons_zero, Act.put, List.setIfInBounds_toArray, List.set_cons_zero, List.set_cons_succ]
     refine wpAnyT_take (i := 16) (oi := _) (v := ?tv24) rfl (by kernel_rfl) (by kernel_rfl) (by kernel_rfl) (by kernel_rfl) (fun _ _ _ h => h) (Or.inl ⟨by rfl, ?th24⟩) hS5 ?_
     case th24 => (intro x hSx; (try dsimp only at hSx); go_simp; (try with_reducible rfl))
     try simp only [List.getElem_toArray, List.getElem_cons_succ, List.getElem_cons_zero, Act.put, List.setIfInBounds_toArray, List.set_cons_zero, List.set_cons_succ]
     refine wpAnyT_take (i := 17) (oi := _) (v := ?tv25) rfl (by kernel_rfl) (by kernel_rfl) (by kernel_rfl) (by kernel_rfl) (fun _ _ _ h => h) (Or.inl ⟨by rfl, ?th25⟩) hS5 ?_
     case th25 => (intro x hSx; (try dsimp only at hSx); go_simp; (try with_reducible rfl))
     try simp only [List.getElem_toArray, List.getElem_cons_succ, List.getElem_cons_zero, Act.put, List.setIfInBounds_toArray, List.set_cons_zero, List.set_cons_succ]
     refine wpAnyT_step (i := 12) (by kernel_rfl) rfl (fun K hK => ?_)
     try simp only [List.getElem_toArray, List.getElem_cons_succ, List.getElem_cons_zero]
     go_simp
     go_at_call 66
     refine (implInside S x D1 f1 D2 f2 w4.drew (by rw [HPE.out]; omega) hkn (fun q hq => by have := HSL.out q hq; show q < w4.heap.size; omega) (HATK.out.keep fun q hq => ⟨hq, E4.out.block q (by have := HSL.out q hq; omega)⟩)).mono ?_
     rintro e w5 ⟨I1, i1, rfl, hin, hb5⟩
     have E5 := LH (((Below.refl w4.heap.size w4).drew).trans hb5)
     have hz5 := E5.out.size
     obtain ⟨L, hL⟩ : ∃ L, bareA (kidsA x.path 0 x.pat.kids) = L := ⟨_, rfl⟩
     rw [hL] at hin ⊢
     have HIN := LH hin
     have HLE := LH (show bareA (kidsA a.path 0 x.pat.kids) = L by rw [← hL, HPE.out])
     clear hin hb5 hL
     refine hK.out _ _ (F9.out _ (fun q hq _ => E5.out.block q hq)) (fun hS6 => ?_)
     clear hK K hS5
     try simp only [List.getElem_toArray, List.getElem_cons_succ, List.getElem_cons_zero, Act.put, List.setIfInBounds_toArray, List.set_cons_zero, List.set_cons_succ]
     refine wpAnyT_step (i := 18) (by kernel_rfl) rfl (fun K hK => ?_)
     try simp only [List.getElem_toArray, List.getElem_cons_succ, List.getElem_cons_zero]
     go_simp
     obtain ⟨w6, e6⟩ : ∃ w6, w6 = w5.alloc (.cells #[.slice (some ⟨b2, off2, none⟩) k d1, .slice I1 L.length i1, .slice (restAt b2 off2 6 (k + 1) d1) (r.asks.length - (k + 1)) (d1 - (k + 1))] 51) := ⟨_, rfl⟩
     rw [← e6]
     have E6 := LH (show Below w4.heap.size w4 w6 by rw [e6]; exact E5.out.alloc E5.out.size _)
     have hz6 : w5.heap.size < w6.heap.size := by rw [e6]; simp
     have h56 : ∀ q, q < w5.heap.size → w6.heap[q]? = w5.heap[q]? := fun q hq => by rw [e6]; exact Below.heap_alloc _ _ _ hq
     have R6 := LH (show Row w6 w5.heap.size 51 #[.slice (some ⟨b2, off2, none⟩) (r.asks.take k).length d1, .slice I1 L.length i1, .slice (restAt b2 off2 6 (k + 1) d1) (r.asks.drop (k + 1)).length (d1 - (k + 1))] by
       rw [e6, show (r.asks.take k).length = k by rw [List.length_take]; omega, List.length_drop]
       exact Row.new _ _ _)
     obtain ⟨X, hX⟩ : ∃ X : Nat → Prop, X = fun q => (Value.slice A' m c').ownBlock ≠ some q ∧ Xs S w.heap.size q := ⟨_, rfl⟩
     have HXS := LH (show ∀ q, S q → X q from fun q hq => by rw [hX]; exact ⟨fun e => by have := (HOW.out q e).1; have := HSL.out q hq; omega, .inl hq⟩)
     have HXN := LH (show ∀ q, w4.heap.size ≤ q → X q from fun q hq => by rw [hX]; exact ⟨fun e => by have := (HOW.out q e).2; omega, .inr (by omega)⟩)
     have HXO := LH (show ∀ q, X q → (Value.slice A' m c').ownBlock ≠ some q ∧ Xs S w.heap.size q from fun q hq => by rw [hX] at hq; exact hq)
     have T6 := LH (show Sl w6 (Lx X w6) 1 (some ⟨w5.heap.size, 0, none⟩) 3 ([r.asks.take k, L, r.asks.drop (k + 1)].map rowDA) from
       slThreeRows R6.out (HXN.out _ hz5)
         (by rw [List.map_take]; exact (HAT.out.2.take k).keep fun q hq => ⟨⟨(SX.out _ E6.out q hq).1, HXS.out q hq⟩, (SX.out _ E6.out q hq).2⟩)
         (HIN.out.keep fun q hq => ⟨⟨by have := hq.2; omega, by rcases hq.1 with h | h; exact HXS.out q h; exact HXN.out q h⟩, h56 q hq.2⟩)
         (by rw [List.map_drop]; exact (Sl.restAt HAT.out.2 (by rw [List.length_map]; omega)).keep fun q hq => ⟨⟨(SX.out _ E6.out q hq).1, HXS.out q hq⟩, (SX.out _ E6.out q hq).2⟩))
     have HCC := LH (show Calls Tryz.prog 65 #[.slice (some ⟨w5.heap.size, 0, none⟩) 3 3] w6 (LToA X (r.asks.take k ++ L ++ r.asks.drop (k + 1)) w6) from by
       have hbl : ([r.asks.take k, L, r.asks.drop (k + 1)] : List (List GAsk)).flatten = r.asks.take k ++ L ++ r.asks.drop (k + 1) := by simp [List.append_assoc]
       have hlen : (r.asks.take k ++ L ++ r.asks.drop (k + 1)).length ≤ 1099511627776 := by
         have h1 : L.length ≤ (kidsA a.path 0 x.pat.kids).length := by rw [← HLE.out]; exact List.length_filter_le _ _
         rw [kidsA_len] at h1
         simp only [List.length_append, List.length_take, List.length_drop]
         omega
       have h := implConcatA X [r.asks.take k, L, r.asks.drop (k + 1)] (some ⟨w5.heap.size, 0, none⟩) 3 w6 (fun q hq => HXN.out q (by omega)) (by rw [hbl]; exact hlen) T6.out
       rw [hbl] at h
       exact h)
     clear e6 hX h56
     refine hK.out _ _ (F9.out _ (fun q hq _ => E6.out.block q hq)) (fun hS7 => ?_)
     clear hK K hS6
     try simp only [List.getElem_toArray, List.getElem_cons_succ, List.getElem_cons_zero, Act.put, List.setIfInBounds_toArray, List.set_cons_zero, List.set_cons_succ]
     refine wpAnyT_step (i := 19) (by kernel_rfl) rfl (fun K hK => ?_)
     try simp only [List.getElem_toArray, List.getElem_cons_succ, List.getElem_cons_zero]
     go_simp
     go_at_call 65
     refine HCC.out.mono ?_
     rintro e w7 ⟨C1, k1, rfl, hcc, hb7⟩
     obtain ⟨M, hM⟩ : ∃ M, r.asks.take k ++ L ++ r.asks.drop (k + 1) = M := ⟨_, rfl⟩
     rw [hM] at hcc ⊢
     have E7 := LH (E6.out.trans (hb7.mono E6.out.size))
     have hz7 := hb7.size
     have HC7 := LH hcc
     have HV2 := LH (show yesR a (rows.take (j + 1)) = yesR a (rows.take j) ++ [⟨r.alt, M⟩] by rw [HV.out, HLE.out, hM])
     clear hcc hb7 hM
     refine hK.out _ _ (F9.out _ (fun q hq _ => E7.out.block q hq)) (fun hS8 => ?_)
     clear hK K hS7
     try simp only [List.getElem_toArray, List.getElem_cons_succ, List.getElem_cons_zero, Act.put, List.setIfInBounds_toArray, List.set_cons_zero, List.set_cons_succ]
     refine wpAnyT_take (i := 20) (oi := _) (v := ?tv26) rfl (by kernel_rfl) (by kernel_rfl) (by kernel_rfl) (by kernel_rfl) (fun _ _ _ h => h) (Or.inl ⟨by rfl, ?th26⟩) hS8 ?_
     case th26 => (intro x hSx; (try dsimp only at hSx); go_simp; (try with_reducible rfl))
     try simp only [List.getElem_toArray, List.getElem_cons_succ, List.getElem_cons_zero, Act.put, List.setIfInBounds_toArray, List.set_cons_zero, List.set_cons_succ]
     refine wpAnyT_step (i := 21) (by kernel_rfl) rfl (fun K hK => ?_)
     try simp only [List.getElem_toArray, List.getElem_cons_succ, List.getElem_cons_zero]
     go_simp
     obtain ⟨w8, e8⟩ : ∃ w8, w8 = w7.alloc (.cells #[.int .i64 r.alt, .slice C1 M.length k1] 56) := ⟨_, rfl⟩
     rw [← e8]
     have E8 := LH (show Below w4.heap.size w4 w8 by rw [e8]; exact E7.out.alloc E7.out.size _)
     have hz8 : w7.heap.size < w8.heap.size := by rw [e8]; simp
     have T8 := LH (show Sl w8 (fun q => q < w8.heap.size ∧ (Value.slice A' m c').ownBlock ≠ some q ∧ Xs S w.heap.size q) 2 (some ⟨w7.heap.size, 0, none⟩) 1 [(⟨r.alt, M⟩ : GTrow).toD] from
       slOne (T := 56) (cs := [.int .i64 r.alt, .slice C1 M.length k1]) (by rw [e8]; exact Row.new' _ _ _ rfl) (GTrow.rd_mk (t := ⟨r.alt, M⟩) ⟨HAT.out.1, HC7.out.keep fun q hq => ⟨⟨by have := hq.1; omega, (HXO.out q hq.2).1, (HXO.out q hq.2).2⟩, by rw [e8]; exact Below.heap_alloc _ _ _ hq.1⟩⟩) rfl ⟨hz8, fun e => by have := (HOW.out _ e).2; omega, .inr (by omega)⟩)
     have G8 := LH (G4.out.below E8.out)
     have hs8 : w.heap.size + 1 ≤ w8.heap.size := by omega
     clear e8
     refine hK.out _ _ (F9.out _ (fun q hq _ => E8.out.block q hq)) (fun hS9 => ?_)
     clear hK K hS8
     try simp only [List.getElem_toArray, List.getElem_cons_succ, List.getElem_cons_zero, Act.put, List.setIfInBounds_toArray, List.set_cons_zero, List.set_cons_succ]
     refine wpAnyT_step (i := 22) (by kernel_rfl) rfl (fun K hK => ?_)
     refine step_append_X _ rfl (.tmp 37) (.tmp 58) 48 rfl 56 zTrow 2 32 Tryz.underlying48 (by kernel_rfl) rfl (by omega) (w.heap.size + 1) (.slice A' m c') m _ G8.out (some ⟨w7.heap.size, 0, none⟩) 1 1 _ rfl T8.out hs8 (by unfold maxLen; omega) (by omega) rfl rfl ?_
     intro A9 c9 w9 G9 hGr9
     have G9h := LH G9
     have Z9 := LH (Nat.le_trans hs8 hGr9.size)
     have Ra9 := LH (hGr9.row (RA4.out.below E8.out RA4.out.lt) (fun e => by have := (HOW.out _ e).1; omega))
     have B9 := LH ((B4.out.trans (E8.out.mono (by omega))).trans (hGr9.below (B := w.heap.size) (by omega) (fun g hg => by have := (HOW.out g hg).1; omega)))
     have K9 := LH (fun q (hq : q < w4.heap.size) (hq2 : (Value.slice A' m c').ownBlock ≠ some q) => (hGr9.grow.block q (by omega) (fun e => hq2 e.symm)).trans (E8.out.block q hq))
     clear G9 hGr9
     refine hK.out _ _ (F9.out _ K9.out) (fun hS10 => ?_)
     clear hK K hS9
     try simp only [List.getElem_toArray, List.getElem_cons_succ, List.getElem_cons_zero, Act.put, List.setIfInBounds_toArray, List.set_cons_zero, List.set_cons_succ]
     refine wpAnyT_last (by kernel_rfl) (by kernel_rfl) rfl (fun K hK => ?_)
     try simp only [List.getElem_toArray, List.getElem_cons_succ, List.getElem_cons_zero]
     go_simp
     refine hK.out _ _ ?_
     clear hK K
     try simp only [List.getElem_toArray, List.getElem_cons_succ, List.getElem_cons_zero, Act.put, List.setIfInBounds_toArray, List.set_cons_zero, List.set_cons_succ]
     clear hS10 HH HRE hwk
     go_wp2_with fail
     go_roundw
     case rel => exact ⟨j + 1, m + 1, A9, c9, by omega, by go_num, rfl, by omega, LH (by rw [HV2.out, List.map_append]; exact G9h.out), Ra9, Z9.out, B9⟩
     case measure => simp [intOf]; omega
  ·
   have hje : j = rows.length := by omega
   have HLE := LH (show rows.take j = rows by rw [hje, List.take_length])
   have dl : decide ((j : Int) < (rows.length : Int)) = false := decide_eq_false (by omega)
   clear hje
   go_wp2_with fail
   go_ret
   have hG := HG.out
   rw [HLE.out] at hG
   obtain ⟨A5, c5, e5, hs5⟩ := hG.slY (Y := Xs S w.heap.size) (fun _ h => h) (fun b h => .inr (by omega))
   have hl5 := hG.1
   obtain ⟨rfl, rfl⟩ : A' = A5 ∧ c' = c5 := by simpa using e5
   exact ⟨A', c', ret_sl (by rw [← hl5]; simp), hs5, HB.out⟩
theorem implFailing1 (a x : GAsk) (A1 : Option Addr) (c1 : Nat) (A2 : Option Addr) (c2 : Nat) (B1 : Option Addr) (d1 : Nat) (B2 : Option Addr) (d2 : Nat) (g : Nat) (w : World) (hr : Row w g 54 #[.slice A1 a.path.length c1, .int .i64 a.pat.op, .int .i64 a.pat.n, .string a.pat.s, .string a.pat.t, .slice A2 a.pat.kids.length c2]) (ha : Sl w (Lt w.heap.size) 1 A1 c1 (a.path.map (D.num .i64))) (hx : Sl w (Lt w.heap.size) 1 B1 d1 (x.path.map (D.num .i64))) :
 Calls Tryz.prog 67 (#[.agg #[.slice B1 x.path.length d1, .int .i64 x.pat.op, .int .i64 x.pat.n, .string x.pat.s, .string x.pat.t, .slice B2 x.pat.kids.length d2]] ++ #[.pointer (some ⟨g, 0, none⟩)]) w fun e w' => e = .returned (.bool (x.path == a.path)) ∧ Below w.heap.size w w' := by
 obtain ⟨w0, e0⟩ : ∃ w0, w0 = w.alloc (.cells #[.slice B1 x.path.length d1, .int .i64 x.pat.op, .int .i64 x.pat.n, .string x.pat.s, .string x.pat.t, .slice B2 x.pat.kids.length d2] 54) := ⟨_, rfl⟩
 have E0 := LH (show Below w.heap.size w w0 by rw [e0]; exact (Below.refl _ _).alloc (Nat.le_refl _) _)
 have HR := LH hr
 have hgl := hr.lt
 have hca := fun i => HR.out.cell i
 have HC := LH (equalInts x.path a.path B1 d1 A1 c1 w0 (hx.below E0.out E0.out.size) (ha.below E0.out E0.out.size))
 clear hr ha hx
 go_enter Tryz.func67, Tryz.ntmps67
 go_wp2_with fail
 rw [← e0]
 refine HC.out.mono ?_
 rintro e w1 ⟨rfl, hb1⟩
 go_wp2_with fail
 go_ret
 exact ⟨rfl, E0.out.trans (hb1.mono E0.out.size)⟩
theorem implFindF (a : GAsk) (l : List GAsk) (A : Option Addr) (c : Nat) (A1 : Option Addr) (c1 : Nat) (A2 : Option Addr) (c2 : Nat) (g : Nat) (w : World) (hr : Row w g 54 #[.slice A1 a.path.length c1, .int .i64 a.pat.op, .int .i64 a.pat.n, .string a.pat.s, .string a.pat.t, .slice A2 a.pat.kids.length c2]) (ha : Sl w (Lt w.heap.size) 1 A1 c1 (a.path.map (D.num .i64))) (hs : Sl w (Lt w.heap.size) 6 A c (l.map GAsk.toD)) :
 Calls Tryz.prog 61 #[.slice A l.length c, .func (.func 67) #[] #[.pointer (some ⟨g, 0, none⟩)]] w fun e w' => e = .returned (.int .i64 (findA l a.path)) ∧ Below w.heap.size w w' :=
 indexFuncAsk 67 (enters Tryz.func67 (by kernel_rfl) (by kernel_rfl)) #[.pointer (some ⟨g, 0, none⟩)] (fun x => x.path == a.path) l A c w hs
  (fun x hx B1 d1 B2 d2 w2 hb hat => implFailing1 a x A1 c1 A2 c2 B1 d1 B2 d2 g w2 (hr.below hb hr.lt) (ha.below hb hb.size) hat.1)
theorem implFailing (S : Nat → Prop) (a : GAsk) (rows : List GTrow) (A : Option Addr) (c : Nat) (A1 : Option Addr) (c1 : Nat) (A2 : Option Addr) (c2 : Nat) (w : World) (hl : rows.length ≤ 1048576) (hb : ∀ r ∈ rows, r.asks.length ≤ 1048576) (hS : ∀ b, S b → b < w.heap.size) (hs : Sl w S 2 A c (rows.map GTrow.toD)) (ha : GAsk.At w (Lt w.heap.size) A1 c1 A2 c2 a) :
 Calls Tryz.prog 38 #[.slice A rows.length c, .agg #[.slice A1 a.path.length c1, .int .i64 a.pat.op, .int .i64 a.pat.n, .string a.pat.s, .string a.pat.t, .slice A2 a.pat.kids.length c2]] w (ToTrowsS S (noR a rows) w) := by
 have HS := LH hs
 have HA := LH ha
 have HBD := LH hb
 have HSL := LH hS
 clear hs ha hb hS
 obtain ⟨w0, e0⟩ : ∃ w0, w0 = (w.alloc (.cells #[.slice A1 a.path.length c1, .int .i64 a.pat.op, .int .i64 a.pat.n, .string a.pat.s, .string a.pat.t, .slice A2 a.pat.kids.length c2] 54)).alloc (.cells #[] 56) := ⟨_, rfl⟩
 have HB0 := LH (show Below w.heap.size w w0 by rw [e0]; exact ((Below.refl _ _).alloc (Nat.le_refl _) _).alloc (by simp) _)
 have HRa0 := LH (show Row w0 w.heap.size 54 #[.slice A1 a.path.length c1, .int .i64 a.pat.op, .int .i64 a.pat.n, .string a.pat.s, .string a.pat.t, .slice A2 a.pat.kids.length c2] by rw [e0]; exact (Row.new' _ _ _ rfl).alloc _)
 have G0 := LH (show Grx (Xs S w.heap.size) w0 (w.heap.size + 1) 56 2 (.slice (some ⟨w.heap.size + 1, 0, none⟩) 0 0) 0 [] from Grx.made (by rw [e0]; exact Row.new' _ _ _ (by simp)) (Nat.le_refl _))
 have hs0 : w.heap.size + 1 ≤ w0.heap.size := by rw [e0]; simp
 go_enter Tryz.func38, Tryz.ntmps38
 go_wp2_with fail
 rw [← e0]
 clear e0
 go_loopw [5, 12] (fun v i wr => ∃ (j m : Nat) (A' : Option Addr) (c' : Nat), j ≤ rows.length ∧ i = .int .i64 j ∧ v = .slice A' m c' ∧ m ≤ j ∧ Hid (Grx (Xs S w.heap.size) wr (w.heap.size + 1) 56 2 (.slice A' m c') m ((noR a (rows.take j)).map GTrow.toD)) ∧ Hid (Row wr w.heap.size 54 #[.slice A1 a.path.length c1, .int .i64 a.pat.op, .int .i64 a.pat.n, .string a.pat.s, .string a.pat.t, .slice A2 a.pat.kids.length c2]) ∧ w.heap.size + 1 ≤ wr.heap.size ∧ Hid (Below w.heap.size w wr)) (fun _ i _ => rows.length - (intOf i).toNat)
 case atStart => exact ⟨0, 0, _, _, by omega, by go_num, rfl, by omega, G0, HRa0, hs0, HB0⟩
 case round =>
  clear HRa0 HB0 G0 hs0
  obtain ⟨j, m, A', c', hj, rfl, rfl, hm, HG, HRa, hs1, HB⟩ := hrel
  have hsz := HB.out.size
  have HOW := LH (fun g (hg : (Value.slice A' m c').ownBlock = some g) => HG.out.own g hg)
  by_cases hlt : j < rows.length
  ·
   obtain ⟨b, off, B1, d1, rfl, hSb, g0, g1, hat⟩ := GTrow.elem (HS.out.keep (w' := wr) (S' := S) fun q hq => ⟨hq, HB.out.block q (HSL.out q hq)⟩) j hlt
   have hSb' : b < w.heap.size := HSL.out b hSb
   have hbl : b < wr.heap.size := Nat.lt_of_lt_of_le hSb' hsz
   have dl : decide ((j : Int) < (rows.length : Int)) = true := decide_eq_true (by omega)
   have HT := LH (noR_take (a := a) (rows := rows) (j := j) hlt)
   have HBR := LH (HBD.out _ (List.getElem_mem hlt))
   obtain ⟨r, hr⟩ : ∃ r, rows[j] = r := ⟨_, rfl⟩
   rw [hr] at g0 g1 hat HT HBR
   have HAT := LH hat
   have hkm := HBR.out
   have hd1 := hat.2.1
   rw [List.length_map] at hd1
   clear hat hr
   obtain ⟨w2, e2⟩ : ∃ w2, w2 = wr.alloc (.cells #[.int .i64 r.alt, .slice B1 r.asks.length d1] 56) := ⟨_, rfl⟩
   have E2 := LH (show Below wr.heap.size wr w2 by rw [e2]; exact (Below.refl _ _).alloc (Nat.le_refl _) _)
   have hz2 : wr.heap.size < w2.heap.size := by rw [e2]; simp
   have RR2 := LH (show Row w2 wr.heap.size 56 #[.int .i64 r.alt, .slice B1 r.asks.length d1] by rw [e2]; exact Row.new _ _ _)
   have RA2 := LH (HRa.out.below E2.out HRa.out.lt)
   obtain ⟨fi, hfi⟩ : ∃ fi, findA r.asks a.path = fi := ⟨_, rfl⟩
   have hff := implFindF a r.asks B1 d1 A1 c1 A2 c2 w.heap.size w2 RA2.out ((HA.out.1.below HB.out hsz).below E2.out E2.out.size) (HAT.out.2.keep fun q hq => ⟨(show q < w2.heap.size by have := HSL.out q hq; omega), E2.out.block q (by have := HSL.out q hq; omega)⟩)
   rw [hfi] at hff
   have HF := LH hff
   have HFI := LH hfi
   clear hff hfi
   go_upto_region 5 with (fail)
   rw [← e2]
   clear e2 g0 g1
   have hcr := fun i => RR2.out.cell i
   go_wp2_with fail
   refine HF.out.mono ?_
   rintro e w3 ⟨rfl, hb3⟩
   have E3 := LH (E2.out.trans (hb3.mono E2.out.size))
   have hz3 := hb3.size
   have RR3 := LH (RR2.out.below hb3 RR2.out.lt)
   have RA3 := LH (RA2.out.below hb3 RA2.out.lt)
   have G3 := LH (HG.out.below E3.out)
   have B3 := LH (HB.out.trans (E3.out.mono hsz))
   clear hb3 hcr HF
   by_cases hnn : fi < 0
   ·
    have HV := LH (show noR a (rows.take (j + 1)) = noR a (rows.take j) ++ [r] by rw [HT.out]; unfold no1; rw [HFI.out]; simp [hnn])
    have dn : decide (fi < 0) = true := decide_eq_true hnn
    clear hnn
    go_wp2_with fail
    go_simp
    go_big_quiet (fail)
    obtain ⟨w4, e4⟩ : ∃ w4, w4 = w3.drewN nq := ⟨_, rfl⟩
    rw [← e4]
    have E4 := LH (show Below wr.heap.size wr w4 by rw [e4]; exact E3.out.trans ⟨rfl, rfl, rfl, Nat.le_refl _, fun _ _ => rfl⟩)
    have hz4 : w3.heap.size = w4.heap.size := by rw [e4]; rfl
    have RR4 := LH (show Row w4 wr.heap.size 56 #[.int .i64 r.alt, .slice B1 r.asks.length d1] by rw [e4]; exact RR3.out)
    have hcr := fun i => RR4.out.cell i
    clear e4
    obtain ⟨w5, e5⟩ : ∃ w5, w5 = w4.alloc (.cells #[.int .i64 r.alt, .slice B1 r.asks.length d1] 56) := ⟨_, rfl⟩
    have E5 := LH (show Below wr.heap.size wr w5 by rw [e5]; exact E4.out.alloc E4.out.size _)
    have G5 := LH (HG.out.below E5.out)
    have B5 := LH (HB.out.trans (E5.out.mono hsz))
    have hs5 : w.heap.size + 1 ≤ w5.heap.size := Nat.le_trans hs1 E5.out.size
    have hz5 : w4.heap.size < w5.heap.size := by rw [e5]; simp
    have T5 := LH (show Sl w5 (fun b => b < w5.heap.size ∧ (Value.slice A' m c').ownBlock ≠ some b ∧ Xs S w.heap.size b) 2 (some ⟨w4.heap.size, 0, none⟩) 1 [r.toD] from
      slOne (T := 56) (cs := [.int .i64 r.alt, .slice B1 r.asks.length d1]) (by rw [e5]; exact Row.new' _ _ _ rfl) (GTrow.rd_mk (HAT.out.keep fun q hq => ⟨⟨by have := HSL.out q hq; omega, fun e => by have := (HOW.out q e).1; have h4 := HSL.out q hq; omega, .inl hq⟩, E5.out.block q (by have := HSL.out q hq; omega)⟩)) rfl ⟨hz5, fun e => by have := (HOW.out _ e).2; omega, .inr (by omega)⟩)
    go_wp2_with (first
      | (at_builtin
         rw [← e5]
         refine wpList_append_X w5 rfl (.tmp 34) (.tmp 36) 48 rfl 56 zTrow 2 32 Tryz.underlying48 (by kernel_rfl) rfl (by omega) (w.heap.size + 1) (.slice A' m c') m _ G5.out (some ⟨w4.heap.size, 0, none⟩) 1 1 _ rfl T5.out hs5 (by unfold maxLen; omega) (by omega) rfl rfl ?_
         intro A6 c6 w6 G6 hGr6
         have G6h := LH G6
         have Z6 := LH (Nat.le_trans hs5 hGr6.size)
         have Ra6 := LH (hGr6.row (HRa.out.below E5.out HRa.out.lt) (fun e => by have := (HOW.out _ e).1; omega))
         have B6 := LH (B5.out.trans (hGr6.below (B := w.heap.size) (by omega) (fun g hg => by have := (HOW.out g hg).1; omega)))
         clear G6 hGr6))
    go_roundw
    case rel => exact ⟨j + 1, m + 1, A6, c6, by omega, by go_num, rfl, by omega, LH (by rw [HV.out, List.map_append]; exact G6h.out), Ra6, Z6.out, B6⟩
    case measure => simp [intOf]; omega
   ·
    obtain ⟨k, hk, ek, hpk, -⟩ := idxI_spec (p := fun x : GAsk => x.path == a.path) (l := r.asks) (show 0 ≤ findA r.asks a.path by rw [HFI.out]; omega)
    obtain rfl : fi = (k : Int) := by rw [← HFI.out]; exact ek
    have hpe : r.asks[k].path = a.path := by simpa using hpk
    obtain ⟨b2, off2, D1, f1, D2, f2, rfl, hSb2, q0, q1, q2, q3, q4, q5, hatk⟩ := GAsk.elem (HAT.out.2.keep (w' := w3) (S' := S) fun q hq => ⟨hq, E3.out.block q (by have := HSL.out q hq; omega)⟩) k hk
    have hSb2' : b2 < w.heap.size := HSL.out _ hSb2
    have dn : decide ((k : Int) < 0) = false := decide_eq_false hnn
    have HNO := LH (show no1 a r = !sameP r.asks[k].pat a.pat by
      unfold no1
      rw [HFI.out, if_neg hnn]
      simp [hk])
    obtain ⟨x, hx⟩ : ∃ x, r.asks[k] = x := ⟨_, rfl⟩
    rw [hx] at q0 q1 q2 q3 q4 q5 hatk HNO hpe
    have HATK := LH hatk
    have HPE := LH hpe
    have HAL := LH (fun u : World => implSameAsk x.pat a.pat D2 f2 A2 c2 u)
    have hal3 := RA3.out.lt
    have F8 := LH (fun (u : World) (hu : ∀ q, q < w3.heap.size → (Value.slice A' m c').ownBlock ≠ some q → u.heap[q]? = w3.heap[q]?) => show (∀ i, u.cell? ⟨w.heap.size, i, none⟩ = (#[.slice A1 a.path.length c1, .int .i64 a.pat.op, .int .i64 a.pat.n, .string a.pat.s, .string a.pat.t, .slice A2 a.pat.kids.length c2] : Array Value)[i]?) ∧ (∀ i, u.cell? ⟨wr.heap.size, i, none⟩ = (#[.int .i64 r.alt, .slice (some ⟨b2, off2, none⟩) r.asks.length d1] : Array Value)[i]?) ∧ u.cell? ⟨b2, off2 + k * 6, none⟩ = some (.slice D1 x.path.length f1) ∧ u.cell? ⟨b2, off2 + k * 6 + 1, none⟩ = some (.int .i64 x.pat.op) ∧ u.cell? ⟨b2, off2 + k * 6 + 2, none⟩ = some (.int .i64 x.pat.n) ∧ u.cell? ⟨b2, off2 + k * 6 + 3, none⟩ = some (.string x.pat.s) ∧ u.cell? ⟨b2, off2 + k * 6 + 4, none⟩ = some (.string x.pat.t) ∧ u.cell? ⟨b2, off2 + k * 6 + 5, none⟩ = some (.slice D2 x.pat.kids.length f2) from by
      have n1 : (Value.slice A' m c').ownBlock ≠ some w.heap.size := fun e => by have := (HOW.out _ e).1; omega
      have n2 : (Value.slice A' m c').ownBlock ≠ some wr.heap.size := fun e => by have := (HOW.out _ e).2; omega
      have n3 : (Value.slice A' m c').ownBlock ≠ some b2 := fun e => by have := (HOW.out _ e).1; omega
      have l1 : w.heap.size < w3.heap.size := by omega
      have l2 : wr.heap.size < w3.heap.size := by omega
      have l3 : b2 < w3.heap.size := by omega
      exact ⟨fun i => (World.cell?_of_block (hu _ l1 n1)).trans (RA3.out.cell i), fun i => (World.cell?_of_block (hu _ l2 n2)).trans (RR3.out.cell i), (World.cell?_of_block (hu _ l3 n3)).trans q0, (World.cell?_of_block (hu _ l3 n3)).trans q1, (World.cell?_of_block (hu _ l3 n3)).trans q2, (World.cell?_of_block (hu _ l3 n3)).trans q3, (World.cell?_of_block (hu _ l3 n3)).trans q4, (World.cell?_of_block (hu _ l3 n3)).trans q5⟩)
    clear hpk ek hnn hatk hpe hx q0 q1 q2 q3 q4 q5
    go_upto_region 6 with (fail)
    refine wp_region_T (fun u => (∀ i, u.cell? ⟨w.heap.size, i, none⟩ = (#[.slice A1 a.path.length c1, .int .i64 a.pat.op, .int .i64 a.pat.n, .string a.pat.s, .string a.pat.t, .slice A2 a.pat.kids.length c2] : Array Value)[i]?) ∧ (∀ i, u.cell? ⟨wr.heap.size, i, none⟩ = (#[.int .i64 r.alt, .slice (some ⟨b2, off2, none⟩) r.asks.length d1] : Array Value)[i]?) ∧ u.cell? ⟨b2, off2 + k * 6, none⟩ = some (.slice D1 x.path.length f1) ∧ u.cell? ⟨b2, off2 + k * 6 + 1, none⟩ = some (.int .i64 x.pat.op) ∧ u.cell? ⟨b2, off2 + k * 6 + 2, none⟩ = some (.int .i64 x.pat.n) ∧ u.cell? ⟨b2, off2 + k * 6 + 3, none⟩ = some (.string x.pat.s) ∧ u.cell? ⟨b2, off2 + k * 6 + 4, none⟩ = some (.string x.pat.t) ∧ u.cell? ⟨b2, off2 + k * 6 + 5, none⟩ = some (.slice D2 x.pat.kids.length f2)) 100 (by kernel_rfl) ?_
    have hS1 := F8.out w3.drew (fun _ _ _ => rfl)
    refine wpAnyT_take (i := 0) (oi := _) (v := ?tv1) rfl (by kernel_rfl) (by kernel_rfl) (by kernel_rfl) (by kernel_rfl) (fun _ _ _ h => h) (Or.inl ⟨by rfl, ?th1⟩) hS1 ?_
    case th1 => (intro x hSx; (try dsimp only at hSx); go_simp; (try with_reducible rfl))
    try simp only [List.getElem_toArray, List.getElem_cons_succ, List.getElem_cons_zero, Act.put, List.setIfInBounds_toArray, List.set_cons_zero, List.set_cons_succ]
    refine wpAnyT_take (i := 1) (oi := _) (v := ?tv2) rfl (by kernel_rfl) (by kernel_rfl) (by kernel_rfl) (by kernel_rfl) (fun _ _ _ h => h) (Or.inl ⟨by rfl, ?th2⟩) hS1 ?_
    case th2 => (intro x hSx; (try dsimp only at hSx); go_simp; (try with_reducible rfl))
    try simp only [List.getElem_toArray, List.getElem_cons_succ, List.getElem_cons_zero, Act.put, List.setIfInBounds_toArray, List.set_cons_zero, List.set_cons_succ]
    refine wpAnyT_take (i := 2) (oi := _) (v := ?tv3) rfl (by kernel_rfl) (by kernel_rfl) (by kernel_rfl) (by kernel_rfl) (fun _ _ _ h => h) (Or.inl ⟨by rfl, ?th3⟩) hS1 ?_
    case th3 => (intro x hSx; (try dsimp only at hSx); go_simp; (try with_reducible rfl))
    try simp only [List.getElem_toArray, List.getElem_cons_succ, List.getElem_cons_zero, Act.put, List.setIfInBounds_toArray, List.set_cons_zero, List.set_cons_succ]
    refine wpAnyT_take (i := 3) (oi := _) (v := ?tv4) rfl (by kernel_rfl) (by kernel_rfl) (by kernel_rfl) (by kernel_rfl) (fun _ _ _ h => h) (Or.inl ⟨by rfl, ?th4⟩) hS1 ?_
    case th4 => (intro x hSx; (try dsimp only at hSx); go_simp; (try with_reducible rfl))
    try simp only [List.getElem_toArray, List.getElem_cons_succ, List.getElem_cons_zero, Act.put, List.setIfInBounds_toArray, List.set_cons_zero, List.set_cons_succ]
    refine wpAnyT_take (i := 4) (oi := _) (v := ?tv5) rfl (by kernel_rfl) (by kernel_rfl) (by kernel_rfl) (by kernel_rfl) (fun _ _ _ h => h) (Or.inl ⟨by rfl, ?th5⟩) hS1 ?_
    case th5 => (intro x hSx; (try dsimp only at hSx); go_simp; (try with_reducible rfl))
    try simp only [List.getElem_toArray, List.getElem_cons_succ, List.getElem_cons_zero, Act.put, List.setIfInBounds_toArray, List.set_cons_zero, List.set_cons_succ]
    refine wpAnyT_take (i := 5) (oi := _) (v := ?tv6) rfl (by kernel_rfl) (by kernel_rfl) (by kernel_rfl) (by kernel_rfl) (fun _ _ _ h => h) (Or.inl ⟨by rfl, ?th6⟩) hS1 ?_
    case th6 => (intro x hSx; (try dsimp only at hSx); go_simp; (try with_reducible rfl))
    try simp only [List.getElem_toArray, List.getElem_cons_succ, List.getElem_cons_zero, Act.put, List.setIfInBounds_toArray, List.set_cons_zero, List.set_cons_succ]
    refine wpAnyT_take (i := 6) (oi := _) (v := ?tv7) rfl (by kernel_rfl) (by kernel_rfl) (by kernel_rfl) (by kernel_rfl) (fun _ _ _ h => h) (Or.inl ⟨by rfl, ?th7⟩) hS1 ?_
    case th7 => (intro x hSx; (try dsimp only at hSx); go_simp; (try with_reducible rfl))
    try simp only [List.getElem_toArray, List.getElem_cons_succ, List.getElem_cons_zero, Act.put, List.setIfInBounds_toArray, List.set_cons_zero, List.set_cons_succ]
    refine wpAnyT_take (i := 7) (oi := _) (v := ?tv8) rfl (by kernel_rfl) (by kernel_rfl) (by kernel_rfl) (by kernel_rfl) (fun _ _ _ h => h) (Or.inl ⟨by rfl, ?th8⟩) hS1 ?_
    case th8 => (intro x hSx; (try dsimp only at hSx); go_simp; (try with_reducible rfl))
    try simp only [List.getElem_toArray, List.getElem_cons_succ, List.getElem_cons_zero, Act.put, List.setIfInBounds_toArray, List.set_cons_zero, List.set_cons_succ]
    refine wpAnyT_take (i := 8) (oi := _) (v := ?tv9) rfl (by kernel_rfl) (by kernel_rfl) (by kernel_rfl) (by kernel_rfl) (fun _ _ _ h => h) (Or.inl ⟨by rfl, ?th9⟩) hS1 ?_
    case th9 => (intro x hSx; (try dsimp only at hSx); go_simp; (try with_reducible rfl))
    try simp only [List.getElem_toArray, List.getElem_cons_succ, List.getElem_cons_zero, Act.put, List.setIfInBounds_toArray, List.set_cons_zero, List.set_cons_succ]
    refine wpAnyT_take (i := 9) (oi := _) (v := ?tv10) rfl (by kernel_rfl) (by kernel_rfl) (by kernel_rfl) (by kernel_rfl) (fun _ _ _ h => h) (Or.inl ⟨by rfl, ?th10⟩) hS1 ?_
    case th10 => (intro x hSx; (try dsimp only at hSx); go_simp; (try with_reducible rfl))
    try simp only [List.getElem_toArray, List.getElem_cons_succ, List.getElem_cons_zero, Act.put, List.setIfInBounds_toArray, List.set_cons_zero, List.set_cons_succ]
    refine wpAnyT_take (i := 10) (oi := _) (v := ?tv11) rfl (by kernel_rfl) (by kernel_rfl) (by kernel_rfl) (by kernel_rfl) (fun _ _ _ h => h) (Or.inl ⟨by rfl, ?th11⟩) hS1 ?_
    case th11 => (intro x hSx; (try dsimp only at hSx); go_simp; (try with_reducible rfl))
    try simp only [List.getElem_toArray, List.getElem_cons_succ, List.getElem_cons_zero, Act.put, List.setIfInBounds_toArray, List.set_cons_zero, List.set_cons_succ]
    refine wpAnyT_step (i := 11) (by kernel_rfl) rfl (fun K hK => ?_)
    try simp only [List.getElem_toArray, List.getElem_cons_succ, List.getElem_cons_zero]
    go_simp
    go_at_call 64
    refine (HAL.out w3.drew).mono ?_
    rintro e w4 ⟨rfl, hb4⟩
    have E34 := LH (((Below.refl w3.heap.size w3).drew).trans hb4)
    clear hb4
    refine hK.out _ _ (F8.out _ (fun q hq _ => E34.out.block q hq)) (fun hS4 => ?_)
    clear hK K hS1
    try simp only [List.getElem_toArray, List.getElem_cons_succ, List.getElem_cons_zero, Act.put, List.setIfInBounds_toArray, List.set_cons_zero, List.set_cons_succ]
    refine wpAnyT_take (i := 12) (oi := _) (v := ?tv12) rfl (by kernel_rfl) (by kernel_rfl) (by kernel_rfl) (by kernel_rfl) (fun _ _ _ h => h) (Or.inl ⟨by rfl, ?th12⟩) hS4 ?_
    case th12 => (intro x hSx; (try dsimp only at hSx); go_simp; (try with_reducible rfl))
    try simp only [List.getElem_toArray, List.getElem_cons_succ, List.getElem_cons_zero, Act.put, List.setIfInBounds_toArray, List.set_cons_zero, List.set_cons_succ]
    refine wpAnyT_take (i := 13) (oi := _) (v := ?tv13) rfl (by kernel_rfl) (by kernel_rfl) (by kernel_rfl) (by kernel_rfl) (fun _ _ _ h => h) (Or.inl ⟨by rfl, ?th13⟩) hS4 ?_
    case th13 => (intro x hSx; (try dsimp only at hSx); go_simp; (try with_reducible rfl))
    try simp only [List.getElem_toArray, List.getElem_cons_succ, List.getElem_cons_zero, Act.put, List.setIfInBounds_toArray, List.set_cons_zero, List.set_cons_succ]
    refine wpAnyT_done (by kernel_rfl) ?_ _
    have hz4 := E34.out.size
    have E4 := LH (E3.out.trans (E34.out.mono (by omega)))
    have RA4 := LH (RA3.out.below E34.out RA3.out.lt)
    have RR4 := LH (RR3.out.below E34.out RR3.out.lt)
    have G4 := LH (G3.out.below E34.out)
    have B4 := LH (B3.out.trans (E34.out.mono (by omega)))
    have hs4 : w.heap.size + 1 ≤ w4.heap.size := by omega
    cases hsp : sameP x.pat a.pat
    ·
     have HV := LH (show noR a (rows.take (j + 1)) = noR a (rows.take j) ++ [r] by rw [HT.out, HNO.out, hsp]; rfl)
     have hcr := fun i => RR4.out.cell i
     clear hsp hS4
     obtain ⟨w5, e5⟩ : ∃ w5, w5 = w4.alloc (.cells #[.int .i64 r.alt, .slice (some ⟨b2, off2, none⟩) r.asks.length d1] 56) := ⟨_, rfl⟩
     have E5 := LH (show Below wr.heap.size wr w5 by rw [e5]; exact E4.out.alloc E4.out.size _)
     have G5 := LH (HG.out.below E5.out)
     have B5 := LH (HB.out.trans (E5.out.mono hsz))
     have hs5 : w.heap.size + 1 ≤ w5.heap.size := Nat.le_trans hs1 E5.out.size
     have hz5 : w4.heap.size < w5.heap.size := by rw [e5]; simp
     have T5 := LH (show Sl w5 (fun b => b < w5.heap.size ∧ (Value.slice A' m c').ownBlock ≠ some b ∧ Xs S w.heap.size b) 2 (some ⟨w4.heap.size, 0, none⟩) 1 [r.toD] from
       slOne (T := 56) (cs := [.int .i64 r.alt, .slice (some ⟨b2, off2, none⟩) r.asks.length d1]) (by rw [e5]; exact Row.new' _ _ _ rfl) (GTrow.rd_mk (HAT.out.keep fun q hq => ⟨⟨by have := HSL.out q hq; omega, fun e => by have := (HOW.out q e).1; have h4 := HSL.out q hq; omega, .inl hq⟩, E5.out.block q (by have := HSL.out q hq; omega)⟩)) rfl ⟨hz5, fun e => by have := (HOW.out _ e).2; omega, .inr (by omega)⟩)
     go_wp2_with (first
       | (at_builtin
          rw [← e5]
          refine wpList_append_X w5 rfl (.tmp 34) (.tmp 36) 48 rfl 56 zTrow 2 32 Tryz.underlying48 (by kernel_rfl) rfl (by omega) (w.heap.size + 1) (.slice A' m c') m _ G5.out (some ⟨w4.heap.size, 0, none⟩) 1 1 _ rfl T5.out hs5 (by unfold maxLen; omega) (by omega) rfl rfl ?_
          intro A6 c6 w6 G6 hGr6
          have G6h := LH G6
          have Z6 := LH (Nat.le_trans hs5 hGr6.size)
          have Ra6 := LH (hGr6.row (HRa.out.below E5.out HRa.out.lt) (fun e => by have := (HOW.out _ e).1; omega))
          have B6 := LH (B5.out.trans (hGr6.below (B := w.heap.size) (by omega) (fun g hg => by have := (HOW.out g hg).1; omega)))
          clear G6 hGr6))
     go_roundw
     case rel => exact ⟨j + 1, m + 1, A6, c6, by omega, by go_num, rfl, by omega, LH (by rw [HV.out, List.map_append]; exact G6h.out), Ra6, Z6.out, B6⟩
     case measure => simp [intOf]; omega
    · have HV := LH (show noR a (rows.take (j + 1)) = noR a (rows.take j) by rw [HT.out, HNO.out, hsp]; simp)
      clear hsp hS4
      go_wp2_with fail
      go_roundw
      case rel => exact ⟨j + 1, m, A', c', by omega, by go_num, rfl, by omega, LH (by rw [HV.out]; exact G4.out), RA4, hs4, B4⟩
      case measure => simp [intOf]; omega
  ·
   have hje : j = rows.length := by omega
   have HLE := LH (show rows.take j = rows by rw [hje, List.take_length])
   have dl : decide ((j : Int) < (rows.length : Int)) = false := decide_eq_false (by omega)
   clear hje
   go_wp2_with fail
   go_ret
   have hG := HG.out
   rw [HLE.out] at hG
   obtain ⟨A5, c5, e5, hs5⟩ := hG.slY (Y := Xs S w.heap.size) (fun _ h => h) (fun b h => .inr (by omega))
   have hl5 := hG.1
   obtain ⟨rfl, rfl⟩ : A' = A5 ∧ c' = c5 := by simpa using e5
   exact ⟨A', c', ret_sl (by rw [← hl5]; simp), hs5, HB.out⟩
set_option maxHeartbeats 1000000
def ToMade (g : Nat) (dv : Value) (p : GTree × Nat) (w : World) (e : Ending) (w' : World) : Prop := ∃ A1 c1 A2 c2, e = .returned (.agg #[.int .i64 p.1.op, .int .i64 p.1.n, .slice A1 p.1.path.length c1, .string p.1.s, .slice A2 p.1.kids.length c2]) ∧ GTree.Ow w' (Btw w.heap.size w'.heap.size) A1 c1 A2 c2 p.1 ∧ Row w' g 72 #[dv, .int .i64 p.2, .bool (decide (p.2 ≤ 300))] ∧ Bx g w w'
def MadeOk (g : Nat) (dv : Value) (k : Nat) : Prop := ∀ (many : Nat) (rows : List GTrow) (A : Option Addr) (c : Nat) (w : World), 300 < many + k → many ≤ 100000 → RowsOk many rows → rows.length ≤ 1048576 → Row w g 72 #[dv, .int .i64 many, .bool (decide (many ≤ 300))] → Sl w (fun b => b < w.heap.size ∧ b ≠ g) 2 A c (rows.map GTrow.toD) →
 Calls Tryz.prog 23 #[.pointer (some ⟨g, 0, none⟩), .slice A rows.length c] w (ToMade g dv (growV k many rows) w)
theorem owLeaf {w : World} {S : Nat → Prop} {op n : Int} (h1 : (Lit.int .i64 op).wf = true) (h2 : (Lit.int .i64 n).wf = true) : GTree.Ow w S none 0 none 0 (.mk op n [] ⟨#[]⟩ []) :=
 ⟨fun _ => False, fun _ => False, fun _ h => h.elim, fun _ h => h.elim, fun _ h => h.elim, h1, h2, Osl.nil (by unfold maxLen; omega), by simp [GTree.s, ByteArray.size, maxLen], Osl.nil (by unfold maxLen; omega)⟩
theorem madeLeaf {g m : Nat} {dv : Value} {op n : Int} {p : GTree × Nat} {w w' : World} (hp : p = (.mk op n [] ⟨#[]⟩ [], m)) (h1 : (Lit.int .i64 op).wf = true) (h2 : (Lit.int .i64 n).wf = true) (hr : Row w' g 72 #[dv, .int .i64 m, .bool (decide (m ≤ 300))]) (hb : Bx g w w') :
 ToMade g dv p w (.returned (.agg #[.int .i64 op, .int .i64 n, .slice none 0 0, .string ⟨#[]⟩, .slice none 0 0])) w' := by
 subst hp
 exact ⟨none, 0, none, 0, rfl, owLeaf h1 h2, hr, hb⟩
theorem specMadeOver (g : Nat) (dv : Value) (k many : Nat) (rows : List GTrow) (A : Option Addr) (c : Nat) (w : World) (h : 300 < many + 1) (hm : many ≤ 100000) (hrow : Row w g 72 #[dv, .int .i64 many, .bool (decide (many ≤ 300))]) :
 Calls Tryz.prog 23 #[.pointer (some ⟨g, 0, none⟩), .slice A rows.length c] w (ToMade g dv (growV k many rows) w) := by
 have HV := LH (growV_over (k := k) (rows := rows) h)
 have RW := LH hrow
 have hgl := hrow.lt
 have hcw := fun i => RW.out.cell i
 have hfw := fun i => RW.out.frozen i
 have hwr : IntKind.i64.wrap ((many : Int) + 1) = (many : Int) + 1 := (IntWalk.i64_left _).trans (IntWalk.wrap64_in ((many : Int) + 1) (by omega))
 have dm : decide ((300 : Int) < (many : Int) + 1) = true := decide_eq_true (by omega)
 have HF := LH (show decide (many + 1 ≤ 300) = false from decide_eq_false (by omega))
 clear hrow
 go_enter Tryz.func23, Tryz.ntmps23
 go_wp2_with fail
 obtain ⟨w9, e9⟩ : ∃ w9, w9 = ((w.setCell ⟨g, 1, none⟩ (.int .i64 ((many : Int) + 1))).setCell ⟨g, 2, none⟩ (.bool false)).alloc (.cells #[.int .i64 0, .int .i64 0, .slice none 0 0, .string ⟨#[]⟩, .slice none 0 0] 34) := ⟨_, rfl⟩
 rw [← e9]
 have R9 := LH (show Row w9 g 72 #[dv, .int .i64 ((many + 1 : Nat) : Int), .bool (decide (many + 1 ≤ 300))] by rw [e9, HF.out]; exact ((RW.out.set 1 _).set 2 _).alloc _)
 have B9 := LH (show Bx g w w9 by rw [e9]; exact (((Bx.refl g w).set (p := ⟨g, 1, none⟩) (.inl rfl) _).set (p := ⟨g, 2, none⟩) (.inl rfl) _).alloc _)
 have RZ := LH (show Row w9 w.heap.size 34 #[.int .i64 0, .int .i64 0, .slice none 0 0, .string ⟨#[]⟩, .slice none 0 0] by rw [e9]; exact Row.new' _ _ _ (by simp [World.setCell]))
 have hcz := fun i => RZ.out.cell i
 clear hcw hfw e9
 exact bodyPost_ret (v := .agg #[.int .i64 0, .int .i64 0, .slice none 0 0, .string ⟨#[]⟩, .slice none 0 0]) (by simp [results, Tryz.results23, go_sem, hcz]) rfl (madeLeaf HV.out (by decide) (by decide) R9.out B9.out)
theorem specMadeNone (g : Nat) (dv : Value) (k many : Nat) (rows : List GTrow) (A : Option Addr) (c : Nat) (w : World) (h : ¬ 300 < many + 1) (hl : rows.length = 0) (hrow : Row w g 72 #[dv, .int .i64 many, .bool (decide (many ≤ 300))]) :
 Calls Tryz.prog 23 #[.pointer (some ⟨g, 0, none⟩), .slice A rows.length c] w (ToMade g dv (growV (k + 1) many rows) w) := by
 have HV := LH (growV_none (k := k) h hl)
 have RW := LH (show Row w g 72 #[dv, .int .i64 many, .bool true] by rw [show decide (many ≤ 300) = true from decide_eq_true (by omega)] at hrow; exact hrow)
 have hgl := hrow.lt
 have hcw := fun i => RW.out.cell i
 have hfw := fun i => RW.out.frozen i
 have hwr : IntKind.i64.wrap ((many : Int) + 1) = (many : Int) + 1 := (IntWalk.i64_left _).trans (IntWalk.wrap64_in ((many : Int) + 1) (by omega))
 have dm : decide ((300 : Int) < (many : Int) + 1) = false := decide_eq_false (by omega)
 have HF := LH (show decide (many + 1 ≤ 300) = true from decide_eq_true (by omega))
 rw [hl]
 clear hrow hl
 go_enter Tryz.func23, Tryz.ntmps23
 go_wp2_with fail
 obtain ⟨w9, e9⟩ : ∃ w9, w9 = (w.setCell ⟨g, 1, none⟩ (.int .i64 ((many : Int) + 1))).alloc (.cells #[.int .i64 2, .int .i64 0, .slice none 0 0, .string ⟨#[]⟩, .slice none 0 0] 34) := ⟨_, rfl⟩
 rw [← e9]
 have R9 := LH (show Row w9 g 72 #[dv, .int .i64 ((many + 1 : Nat) : Int), .bool (decide (many + 1 ≤ 300))] by rw [e9, HF.out]; exact (RW.out.set 1 _).alloc _)
 have B9 := LH (show Bx g w w9 by rw [e9]; exact ((Bx.refl g w).set (p := ⟨g, 1, none⟩) (.inl rfl) _).alloc _)
 have RZ := LH (show Row w9 w.heap.size 34 #[.int .i64 2, .int .i64 0, .slice none 0 0, .string ⟨#[]⟩, .slice none 0 0] by rw [e9]; exact Row.new' _ _ _ (by simp [World.setCell]))
 have hcz := fun i => RZ.out.cell i
 clear hcw hfw e9
 exact bodyPost_ret (v := .agg #[.int .i64 2, .int .i64 0, .slice none 0 0, .string ⟨#[]⟩, .slice none 0 0]) (by simp [results, Tryz.results23, go_sem, hcz]) rfl (madeLeaf HV.out (by decide) (by decide) R9.out B9.out)
theorem specMadeDone (g : Nat) (dv : Value) (k many : Nat) (rows : List GTrow) (A : Option Addr) (c : Nat) (w : World) (h : ¬ 300 < many + 1) (hl : 0 < rows.length) (hl2 : rows.length ≤ 1048576) (ha : rows[0].asks.length = 0) (hrow : Row w g 72 #[dv, .int .i64 many, .bool (decide (many ≤ 300))]) (hs : Sl w (fun b => b < w.heap.size ∧ b ≠ g) 2 A c (rows.map GTrow.toD)) :
 Calls Tryz.prog 23 #[.pointer (some ⟨g, 0, none⟩), .slice A rows.length c] w (ToMade g dv (growV (k + 1) many rows) w) := by
 have HV := LH (growV_done (k := k) h hl ha)
 have RW := LH (show Row w g 72 #[dv, .int .i64 many, .bool true] by rw [show decide (many ≤ 300) = true from decide_eq_true (by omega)] at hrow; exact hrow)
 have hgl := hrow.lt
 have hcw := fun i => RW.out.cell i
 have hfw := fun i => RW.out.frozen i
 have hwr : IntKind.i64.wrap ((many : Int) + 1) = (many : Int) + 1 := (IntWalk.i64_left _).trans (IntWalk.wrap64_in ((many : Int) + 1) (by omega))
 have dm : decide ((300 : Int) < (many : Int) + 1) = false := decide_eq_false (by omega)
 have HF := LH (show decide (many + 1 ≤ 300) = true from decide_eq_true (by omega))
 obtain ⟨b, off, B1, d1, rfl, hSb, g0, g1, hat⟩ := GTrow.elem hs 0 hl
 have hbl := hSb.1
 have hbg := hSb.2
 obtain ⟨al, hal⟩ : ∃ al, rows[0].alt = al := ⟨_, rfl⟩
 rw [hal] at g0 HV
 have haw : Hid ((Lit.int .i64 al).wf = true) := LH (by rw [← hal]; exact hat.1)
 rw [ha] at g1
 simp only [Nat.zero_mul, Nat.add_zero] at g0 g1
 have dl : decide ((rows.length : Int) = 0) = false := decide_eq_false (by omega)
 have dl2 : ((rows.length : Int) == 0) = false := by rw [beq_eq_false_iff_ne]; omega
 clear hrow hs hal hat ha hSb
 go_enter Tryz.func23, Tryz.ntmps23
 go_wp2_with fail
 obtain ⟨w9, e9⟩ : ∃ w9, w9 = (w.setCell ⟨g, 1, none⟩ (.int .i64 ((many : Int) + 1))).alloc (.cells #[.int .i64 1, .int .i64 al, .slice none 0 0, .string ⟨#[]⟩, .slice none 0 0] 34) := ⟨_, rfl⟩
 rw [← e9]
 have R9 := LH (show Row w9 g 72 #[dv, .int .i64 ((many + 1 : Nat) : Int), .bool (decide (many + 1 ≤ 300))] by rw [e9, HF.out]; exact (RW.out.set 1 _).alloc _)
 have B9 := LH (show Bx g w w9 by rw [e9]; exact ((Bx.refl g w).set (p := ⟨g, 1, none⟩) (.inl rfl) _).alloc _)
 have RZ := LH (show Row w9 w.heap.size 34 #[.int .i64 1, .int .i64 al, .slice none 0 0, .string ⟨#[]⟩, .slice none 0 0] by rw [e9]; exact Row.new' _ _ _ (by simp [World.setCell]))
 have hcz := fun i => RZ.out.cell i
 clear hcw hfw e9
 exact bodyPost_ret (v := .agg #[.int .i64 1, .int .i64 al, .slice none 0 0, .string ⟨#[]⟩, .slice none 0 0]) (by simp [results, Tryz.results23, go_sem, hcz]) rfl (madeLeaf HV.out (by decide) haw.out R9.out B9.out)
def ToGrown (g : Nat) (p : GTree × Nat) (w : World) (e : Ending) (w' : World) : Prop := ∃ A1 c1 A2 c2, e = .returned (.agg #[.int .i64 p.1.op, .int .i64 p.1.n, .slice A1 p.1.path.length c1, .string p.1.s, .slice A2 p.1.kids.length c2]) ∧ GTree.Ow w' (Btw w.heap.size w'.heap.size) A1 c1 A2 c2 p.1 ∧ Row w' g 59 #[.int .i64 p.2] ∧ Bx g w w'
def GrownOk (g : Nat) (k : Nat) : Prop := ∀ (many : Nat) (rows : List GTrow) (A : Option Addr) (c : Nat) (w : World), 300 < many + k → many ≤ 100000 → RowsOk many rows → rows.length ≤ 1048576 → Row w g 59 #[.int .i64 many] → Sl w (fun b => b < w.heap.size ∧ b ≠ g) 2 A c (rows.map GTrow.toD) →
 Calls Tryz.prog 19 #[.pointer (some ⟨g, 0, none⟩), .slice A rows.length c] w (ToGrown g (growV k many rows) w)
theorem grownLeaf {g m : Nat} {op n : Int} {p : GTree × Nat} {w w' : World} (hp : p = (.mk op n [] ⟨#[]⟩ [], m)) (h1 : (Lit.int .i64 op).wf = true) (h2 : (Lit.int .i64 n).wf = true) (hr : Row w' g 59 #[.int .i64 m]) (hb : Bx g w w') :
 ToGrown g p w (.returned (.agg #[.int .i64 op, .int .i64 n, .slice none 0 0, .string ⟨#[]⟩, .slice none 0 0])) w' := by
 subst hp
 exact ⟨none, 0, none, 0, rfl, owLeaf h1 h2, hr, hb⟩
theorem growTrOver (g : Nat) (k many : Nat) (rows : List GTrow) (A : Option Addr) (c : Nat) (w : World) (h : 300 < many + 1) (hm : many ≤ 100000) (hrow : Row w g 59 #[.int .i64 many]) :
 Calls Tryz.prog 19 #[.pointer (some ⟨g, 0, none⟩), .slice A rows.length c] w (ToGrown g (growV k many rows) w) := by
 have HV := LH (growV_over (k := k) (rows := rows) h)
 have RW := LH hrow
 have hgl := hrow.lt
 have hcw := fun i => RW.out.cell i
 have hfw := fun i => RW.out.frozen i
 have hwr : IntKind.i64.wrap ((many : Int) + 1) = (many : Int) + 1 := (IntWalk.i64_left _).trans (IntWalk.wrap64_in ((many : Int) + 1) (by omega))
 have dm : decide ((300 : Int) < (many : Int) + 1) = true := decide_eq_true (by omega)
 clear hrow
 go_enter Tryz.func19, Tryz.ntmps19
 go_wp2_with fail
 obtain ⟨w9, e9⟩ : ∃ w9, w9 = (w.setCell ⟨g, 0, none⟩ (.int .i64 ((many : Int) + 1))).alloc (.cells #[.int .i64 0, .int .i64 0, .slice none 0 0, .string ⟨#[]⟩, .slice none 0 0] 34) := ⟨_, rfl⟩
 rw [← e9]
 have R9 := LH (show Row w9 g 59 #[.int .i64 ((many + 1 : Nat) : Int)] by rw [e9]; exact (RW.out.set 0 _).alloc _)
 have B9 := LH (show Bx g w w9 by rw [e9]; exact ((Bx.refl g w).set (p := ⟨g, 0, none⟩) (.inl rfl) _).alloc _)
 have RZ := LH (show Row w9 w.heap.size 34 #[.int .i64 0, .int .i64 0, .slice none 0 0, .string ⟨#[]⟩, .slice none 0 0] by rw [e9]; exact Row.new' _ _ _ (by simp [World.setCell]))
 have hcz := fun i => RZ.out.cell i
 clear hcw hfw e9
 exact bodyPost_ret (v := .agg #[.int .i64 0, .int .i64 0, .slice none 0 0, .string ⟨#[]⟩, .slice none 0 0]) (by simp [results, Tryz.results19, go_sem, hcz]) rfl (grownLeaf HV.out (by decide) (by decide) R9.out B9.out)
theorem growTrNone (g : Nat) (k many : Nat) (rows : List GTrow) (A : Option Addr) (c : Nat) (w : World) (h : ¬ 300 < many + 1) (hl : rows.length = 0) (hrow : Row w g 59 #[.int .i64 many]) :
 Calls Tryz.prog 19 #[.pointer (some ⟨g, 0, none⟩), .slice A rows.length c] w (ToGrown g (growV (k + 1) many rows) w) := by
 have HV := LH (growV_none (k := k) h hl)
 have RW := LH hrow
 have hgl := hrow.lt
 have hcw := fun i => RW.out.cell i
 have hfw := fun i => RW.out.frozen i
 have hwr : IntKind.i64.wrap ((many : Int) + 1) = (many : Int) + 1 := (IntWalk.i64_left _).trans (IntWalk.wrap64_in ((many : Int) + 1) (by omega))
 have dm : decide ((300 : Int) < (many : Int) + 1) = false := decide_eq_false (by omega)
 rw [hl]
 clear hrow hl
 go_enter Tryz.func19, Tryz.ntmps19
 go_wp2_with fail
 obtain ⟨w9, e9⟩ : ∃ w9, w9 = (w.setCell ⟨g, 0, none⟩ (.int .i64 ((many : Int) + 1))).alloc (.cells #[.int .i64 2, .int .i64 0, .slice none 0 0, .string ⟨#[]⟩, .slice none 0 0] 34) := ⟨_, rfl⟩
 rw [← e9]
 have R9 := LH (show Row w9 g 59 #[.int .i64 ((many + 1 : Nat) : Int)] by rw [e9]; exact (RW.out.set 0 _).alloc _)
 have B9 := LH (show Bx g w w9 by rw [e9]; exact ((Bx.refl g w).set (p := ⟨g, 0, none⟩) (.inl rfl) _).alloc _)
 have RZ := LH (show Row w9 w.heap.size 34 #[.int .i64 2, .int .i64 0, .slice none 0 0, .string ⟨#[]⟩, .slice none 0 0] by rw [e9]; exact Row.new' _ _ _ (by simp [World.setCell]))
 have hcz := fun i => RZ.out.cell i
 clear hcw hfw e9
 exact bodyPost_ret (v := .agg #[.int .i64 2, .int .i64 0, .slice none 0 0, .string ⟨#[]⟩, .slice none 0 0]) (by simp [results, Tryz.results19, go_sem, hcz]) rfl (grownLeaf HV.out (by decide) (by decide) R9.out B9.out)
theorem growTrDone (g : Nat) (k many : Nat) (rows : List GTrow) (A : Option Addr) (c : Nat) (w : World) (h : ¬ 300 < many + 1) (hl : 0 < rows.length) (hl2 : rows.length ≤ 1048576) (ha : rows[0].asks.length = 0) (hrow : Row w g 59 #[.int .i64 many]) (hs : Sl w (fun b => b < w.heap.size ∧ b ≠ g) 2 A c (rows.map GTrow.toD)) :
 Calls Tryz.prog 19 #[.pointer (some ⟨g, 0, none⟩), .slice A rows.length c] w (ToGrown g (growV (k + 1) many rows) w) := by
 have HV := LH (growV_done (k := k) h hl ha)
 have RW := LH hrow
 have hgl := hrow.lt
 have hcw := fun i => RW.out.cell i
 have hfw := fun i => RW.out.frozen i
 have hwr : IntKind.i64.wrap ((many : Int) + 1) = (many : Int) + 1 := (IntWalk.i64_left _).trans (IntWalk.wrap64_in ((many : Int) + 1) (by omega))
 have dm : decide ((300 : Int) < (many : Int) + 1) = false := decide_eq_false (by omega)
 obtain ⟨b, off, B1, d1, rfl, hSb, g0, g1, hat⟩ := GTrow.elem hs 0 hl
 have hbl := hSb.1
 have hbg := hSb.2
 obtain ⟨al, hal⟩ : ∃ al, rows[0].alt = al := ⟨_, rfl⟩
 rw [hal] at g0 HV
 have haw : Hid ((Lit.int .i64 al).wf = true) := LH (by rw [← hal]; exact hat.1)
 rw [ha] at g1
 simp only [Nat.zero_mul, Nat.add_zero] at g0 g1
 have dl : decide ((rows.length : Int) = 0) = false := decide_eq_false (by omega)
 have dl2 : ((rows.length : Int) == 0) = false := by rw [beq_eq_false_iff_ne]; omega
 clear hrow hs hal hat ha hSb
 go_enter Tryz.func19, Tryz.ntmps19
 go_wp2_with fail
 obtain ⟨w9, e9⟩ : ∃ w9, w9 = (w.setCell ⟨g, 0, none⟩ (.int .i64 ((many : Int) + 1))).alloc (.cells #[.int .i64 1, .int .i64 al, .slice none 0 0, .string ⟨#[]⟩, .slice none 0 0] 34) := ⟨_, rfl⟩
 rw [← e9]
 have R9 := LH (show Row w9 g 59 #[.int .i64 ((many + 1 : Nat) : Int)] by rw [e9]; exact (RW.out.set 0 _).alloc _)
 have B9 := LH (show Bx g w w9 by rw [e9]; exact ((Bx.refl g w).set (p := ⟨g, 0, none⟩) (.inl rfl) _).alloc _)
 have RZ := LH (show Row w9 w.heap.size 34 #[.int .i64 1, .int .i64 al, .slice none 0 0, .string ⟨#[]⟩, .slice none 0 0] by rw [e9]; exact Row.new' _ _ _ (by simp [World.setCell]))
 have hcz := fun i => RZ.out.cell i
 clear hcw hfw e9
 exact bodyPost_ret (v := .agg #[.int .i64 1, .int .i64 al, .slice none 0 0, .string ⟨#[]⟩, .slice none 0 0]) (by simp [results, Tryz.results19, go_sem, hcz]) rfl (grownLeaf HV.out (by decide) haw.out R9.out B9.out)
end Go.Proofs.YtjjikciggbnjmaaGreat
