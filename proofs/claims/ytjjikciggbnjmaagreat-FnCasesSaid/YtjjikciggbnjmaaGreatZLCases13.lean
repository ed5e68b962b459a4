/- Texts of the claim LCases in one: TiJ TrI TiK CoverS FRow CoverW CoverV CoverU CoverT CoverN CoverL CoverM TrH TrJ. Conditions: none but bounds on sizes. -/
import Derived.Test.YtjjikciggbnjmaaGreatZLCases12
import Derived.Deep.CutRange
import Derived.Test.YtjjikciggbnjmaaGreatZLCases10
import Derived.Test.YtjjikciggbnjmaaGreatZLCases2
import Derived.BigQuiet
import Derived.Deep.RegionLaw
import Derived.Test.YtjjikciggbnjmaaGreatZLCases8
import Derived.Test.YtjjikciggbnjmaaGreatRows
import Derived.Test.YtjjikciggbnjmaaGreatZLCases0
import Derived.Test.YtjjikciggbnjmaaGreatZLCases7
import Derived.Lib.Hide
namespace Go.Proofs.YtjjikciggbnjmaaGreat
set_option maxRecDepth 20000
set_option linter.unusedVariables false
set_option linter.unusedSimpArgs false
open Go.RowKit
set_option maxHeartbeats 2000000
theorem growTrAsk (g : Nat) (k many : Nat) (rows : List GTrow) (A : Option Addr) (c : Nat) (w : World) (hIH : GrownOk g k) (h : ¬ 300 < many + 1) (hk : 300 < many + (k + 1)) (hk2 : k ≤ 1000) (hok : RowsOk many rows) (hl : 0 < rows.length) (hl2 : rows.length ≤ 1048576) (ha : 0 < rows[0].asks.length) (hrow : Row w g 59 #[.int .i64 many]) (hs : Sl w (fun b => b < w.heap.size ∧ b ≠ g) 2 A c (rows.map GTrow.toD)) :
 Calls Tryz.prog 19 #[.pointer (some ⟨g, 0, none⟩), .slice A rows.length c] w (ToGrown g (growV (k + 1) many rows) w) := by
 have hv := growV_ask (k := k) h hl ha
 have RW := LH hrow
 have hgl := hrow.lt
 have hcw := fun i => RW.out.cell i
 have hfw := fun i => RW.out.frozen i
 have hwr : IntKind.i64.wrap ((many : Int) + 1) = (many : Int) + 1 := (IntWalk.i64_left _).trans (IntWalk.wrap64_in ((many : Int) + 1) (by omega))
 have dm : decide ((300 : Int) < (many : Int) + 1) = false := decide_eq_false (by omega)
 have HS := LH hs
 have HOK := LH hok
 have HIH := LH hIH
 obtain ⟨b, off, B1, d1, rfl, hSb, g0, g1, hat⟩ := GTrow.elem hs 0 hl
 obtain ⟨b2, off2, A1, c1, A2, c2, rfl, hSb2, q0, q1, q2, q3, q4, q5, hatk⟩ := GAsk.elem hat.2 0 ha
 have hbl := hSb.1
 have hbg := hSb.2
 have hbl2 := hSb2.1
 have hbg2 := hSb2.2
 have dl : ((rows.length : Int) == 0) = false := by rw [beq_eq_false_iff_ne]; omega
 have dl2 : ((rows[0].asks.length : Int) == 0) = false := by rw [beq_eq_false_iff_ne]; omega
 have hla2 : rows[0].asks.length ≤ 1048576 := Nat.le_trans (asksM_len _) (hok _ (List.getElem_mem hl)).1
 have hap := ((hok _ (List.getElem_mem hl)).2 _ (List.getElem_mem ha)).2
 obtain ⟨n1, hn1⟩ : ∃ n1, rows[0].asks.length = n1 := ⟨_, rfl⟩
 obtain ⟨a, hea⟩ : ∃ a, rows[0].asks[0] = a := ⟨_, rfl⟩
 rw [hea] at q0 q1 q2 q3 q4 q5 hatk hap hv
 rw [hn1] at g1 dl2 ha hla2
 obtain ⟨p, hp⟩ : ∃ p, growV k (many + 1) (yesR a rows) = p := ⟨_, rfl⟩
 rw [hp] at hv
 obtain ⟨q, hq⟩ : ∃ q, growV k p.2 (noR a rows) = q := ⟨_, rfl⟩
 rw [hq] at hv
 have HV := LH hv
 have HP := LH hp
 have HQ := LH hq
 have HA := LH hatk
 simp only [Nat.zero_mul, Nat.add_zero] at g0 g1 q0 q1 q2 q3 q4 q5
 clear hrow hs hat hatk hSb hSb2 hv hp hq hea hn1 hok hIH g0
 go_enter Tryz.func19, Tryz.ntmps19
 refine wp_hide (fun BP hBP => ?_)
 have HBP := LH hBP
 clear hBP
 go_upto_region 9 with (fail)
 obtain ⟨w2, e2⟩ : ∃ w2, w2 = ((w.setCell ⟨g, 0, none⟩ (.int .i64 ((many : Int) + 1))).alloc (.cells #[.int .i64 0, .int .i64 0, .slice none 0 0, .string ⟨#[]⟩, .slice none 0 0] 34)).alloc (.cells #[.slice A1 a.path.length c1, .int .i64 a.pat.op, .int .i64 a.pat.n, .string a.pat.s, .string a.pat.t, .slice A2 a.pat.kids.length c2] 54) := ⟨_, rfl⟩
 rw [← e2]
 have X2 := LH (show Bx g w w2 by rw [e2]; exact (((Bx.refl g w).set (p := ⟨g, 0, none⟩) (.inl rfl) _).alloc _).alloc _)
 have RG2 := LH (show Row w2 g 59 #[.int .i64 ((many : Int) + 1)] by rw [e2]; exact ((RW.out.set 0 _).alloc _).alloc _)
 have RB2 := LH (show Row w2 w.heap.size 34 #[.int .i64 0, .int .i64 0, .slice none 0 0, .string ⟨#[]⟩, .slice none 0 0] by rw [e2]; exact (Row.new' _ _ _ (by simp [World.setCell])).alloc _)
 have RA2 := LH (show Row w2 (w.heap.size + 1) 54 #[.slice A1 a.path.length c1, .int .i64 a.pat.op, .int .i64 a.pat.n, .string a.pat.s, .string a.pat.t, .slice A2 a.pat.kids.length c2] by rw [e2]; exact Row.new' _ _ _ (by simp [World.setCell]))
 have hz2 : w.heap.size + 2 = w2.heap.size := by rw [e2]; simp [World.setCell]
 have HZ2 := LH hz2
 have hz2' : w.heap.size + 2 ≤ w2.heap.size := Nat.le_of_eq hz2
 have HA2 := LH (HA.out.keep (w' := w2) (S' := fun b => b < w2.heap.size ∧ b ≠ g) fun q hq => ⟨⟨Nat.lt_of_lt_of_le hq.1 X2.out.size, hq.2⟩, X2.out.block q hq.1 hq.2⟩)
 have hca := fun i => RA2.out.cell i
 have hla := RA2.out.lt
 have HF5 := LH (fun (x : World) (hx : Below w2.heap.size w2 x) => show ∀ i, x.cell? ⟨w.heap.size + 1, i, none⟩ = (#[.slice A1 a.path.length c1, .int .i64 a.pat.op, .int .i64 a.pat.n, .string a.pat.s, .string a.pat.t, .slice A2 a.pat.kids.length c2] : Array Value)[i]? from fun i => (RA2.out.below hx RA2.out.lt).cell i)
 have SP := LH (fun (x : World) (hx : Below w2.heap.size w2 x) => show Sl x (Lt x.heap.size) 1 A1 c1 (a.path.map (D.num .i64)) from HA2.out.1.keep fun q hq => ⟨Nat.lt_of_lt_of_le hq.1 hx.size, hx.block q hq.1⟩)
 clear hcw hfw e2 hz2
 have ED := LH (show Below w2.heap.size w2 w2.drew from (Below.refl _ _).drew)
 have EZ := LH (show Below w2.heap.size w2 (w2.alloc (.cells #[.int .i64 0, .int .i64 0, .slice none 0 0, .string ⟨#[]⟩, .slice none 0 0] 34)).drew from ((Below.refl _ _).alloc (Nat.le_refl _) _).drew)
 have RZ := LH (show Row (w2.alloc (.cells #[.int .i64 0, .int .i64 0, .slice none 0 0, .string ⟨#[]⟩, .slice none 0 0] 34)).drew w2.heap.size 34 #[.int .i64 0, .int .i64 0, .slice none 0 0, .string ⟨#[]⟩, .slice none 0 0] from (show Row (w2.alloc (.cells #[.int .i64 0, .int .i64 0, .slice none 0 0, .string ⟨#[]⟩, .slice none 0 0] 34)) w2.heap.size 34 #[.int .i64 0, .int .i64 0, .slice none 0 0, .string ⟨#[]⟩, .slice none 0 0] from Row.new _ _ _))
 have hzz0 : (w2.alloc (.cells #[.int .i64 0, .int .i64 0, .slice none 0 0, .string ⟨#[]⟩, .slice none 0 0] 34)).drew.heap.size = w2.heap.size + 1 := by show (w2.alloc (.cells #[.int .i64 0, .int .i64 0, .slice none 0 0, .string ⟨#[]⟩, .slice none 0 0] 34)).heap.size = _; simp
 have HZZ := LH hzz0
 clear hzz0
 go_cut [6] from 46 to 52 (fun v x => ∃ (n3 : Nat) (A6 : Option Addr) (c6 : Nat), v = .pointer (some ⟨n3, 0, none⟩) ∧ Hid (Below w2.heap.size w2 x) ∧ Hid (Row x n3 34 #[.int .i64 4, .int .i64 a.pat.n, .slice A6 a.path.length c6, .string ⟨#[]⟩, .slice none 0 0]) ∧ Hid (Osl x (fun b => (w2.heap.size ≤ b ∧ b < x.heap.size) ∧ b ≠ n3) 1 A6 c6 (a.path.map (D.num .i64))) ∧ w2.heap.size ≤ n3)
 case first =>
  refine wp_region_T (fun x => ∀ i, x.cell? ⟨w.heap.size + 1, i, none⟩ = (#[.slice A1 a.path.length c1, .int .i64 a.pat.op, .int .i64 a.pat.n, .string a.pat.s, .string a.pat.t, .slice A2 a.pat.kids.length c2] : Array Value)[i]?) 8 (by kernel_rfl) ?_
  have hS1 := HF5.out _ ED.out
  refine wpAnyT_take (i := 0) (oi := _) (v := ?tv1) rfl (by kernel_rfl) (by kernel_rfl) (by kernel_rfl) (by kernel_rfl) (fun _ _ _ h => h) (Or.inl ⟨by rfl, ?th1⟩) hS1 ?_
  case th1 => (intro x hSx; (try dsimp only at hSx); go_simp; (try with_reducible rfl))
  try simp only [List.getElem_toArray, List.getElem_cons_succ, List.getElem_cons_zero, Act.put, List.setIfInBounds_toArray, List.set_cons_zero, List.set_cons_succ]
  refine wpAnyT_take (i := 1) (oi := _) (v := ?tv2) rfl (by kernel_rfl) (by kernel_rfl) (by kernel_rfl) (by kernel_rfl) (fun _ _ _ h => h) (Or.inl ⟨by rfl, ?th2⟩) hS1 ?_
  case th2 => (intro x hSx; (try dsimp only at hSx); go_simp; (try with_reducible rfl))
  try simp only [List.getElem_toArray, List.getElem_cons_succ, List.getElem_cons_zero, Act.put, List.setIfInBounds_toArray, List.set_cons_zero, List.set_cons_succ]
  refine wpAnyT_take (i := 2) (oi := _) (v := ?tv3) rfl (by kernel_rfl) (by kernel_rfl) (by kernel_rfl) (by kernel_rfl) (fun _ _ _ h => h) (Or.inl ⟨by rfl, ?th3⟩) hS1 ?_
  case th3 => (intro x hSx; (try dsimp only at hSx); go_simp; (try with_reducible rfl))
  try simp only [List.getElem_toArray, List.getElem_cons_succ, List.getElem_cons_zero, Act.put, List.setIfInBounds_toArray, List.set_cons_zero, List.set_cons_succ]
  refine wpAnyT_take (i := 3) (oi := _) (v := ?tv4) rfl (by kernel_rfl) (by kernel_rfl) (by kernel_rfl) (by kernel_rfl) (fun _ _ _ h => h) (Or.inl ⟨by rfl, ?th4⟩) hS1 ?_
  case th4 => (intro x hSx; (try dsimp only at hSx); go_simp; (try with_reducible rfl))
  try simp only [List.getElem_toArray, List.getElem_cons_succ, List.getElem_cons_zero, Act.put, List.setIfInBounds_toArray, List.set_cons_zero, List.set_cons_succ]
  refine wpAnyT_take (i := 4) (oi := _) (v := ?tv5) rfl (by kernel_rfl) (by kernel_rfl) (by kernel_rfl) (by kernel_rfl) (fun _ _ _ h => h) (Or.inl ⟨by rfl, ?th5⟩) hS1 ?_
  case th5 => (intro x hSx; (try dsimp only at hSx); go_simp; (try with_reducible rfl))
  try simp only [List.getElem_toArray, List.getElem_cons_succ, List.getElem_cons_zero, Act.put, List.setIfInBounds_toArray, List.set_cons_zero, List.set_cons_succ]
  refine wpAnyT_two (i := 5) (j := 7) (by kernel_rfl) rfl rfl (fun K hK => ?_) (fun K hK => ?_)
  ·
   try simp only [List.getElem_toArray, List.getElem_cons_succ, List.getElem_cons_zero]
   go_simp
   go_at_call 36
   refine (cloneInts a.path A1 c1 w2.drew (by omega) (SP.out _ ED.out)).mono ?_
   rintro e w6 ⟨A6, c6, rfl, gp, hb6⟩
   have E6 := LH (ED.out.trans hb6)
   have HG6 := LH (show Grx AnyB w6 w2.heap.size 3 1 (.slice A6 a.path.length c6) a.path.length (a.path.map (D.num .i64)) from gp)
   clear gp hb6
   refine hK.out _ _ (HF5.out _ E6.out) (fun hS3 => ?_)
   clear hK K hS1
   try simp only [List.getElem_toArray, List.getElem_cons_succ, List.getElem_cons_zero, Act.put, List.setIfInBounds_toArray, List.set_cons_zero, List.set_cons_succ]
   refine wpAnyT_take (i := 6) (oi := _) (v := ?tv6) rfl (by kernel_rfl) (by kernel_rfl) (by kernel_rfl) (by kernel_rfl) (fun _ _ _ h => h) (Or.inl ⟨by rfl, ?th6⟩) hS3 ?_
   case th6 => (intro x hSx; (try dsimp only at hSx); go_simp; (try with_reducible rfl))
   try simp only [List.getElem_toArray, List.getElem_cons_succ, List.getElem_cons_zero, Act.put, List.setIfInBounds_toArray, List.set_cons_zero, List.set_cons_succ]
   refine wpAnyT_step (i := 7) (by kernel_rfl) rfl (fun K hK => ?_)
   try simp only [List.getElem_toArray, List.getElem_cons_succ, List.getElem_cons_zero]
   go_simp
   refine hK.out _ _ (HF5.out _ (E6.out.alloc E6.out.size _)) (fun hS4 => ?_)
   clear hK K hS3
   try simp only [List.getElem_toArray, List.getElem_cons_succ, List.getElem_cons_zero, Act.put, List.setIfInBounds_toArray, List.set_cons_zero, List.set_cons_succ]
   refine wpAnyT_last (by kernel_rfl) (by kernel_rfl) rfl (fun K hK => ?_)
   try simp only [List.getElem_toArray, List.getElem_cons_succ, List.getElem_cons_zero]
   go_simp
   refine hK.out _ _ ?_
   clear hK K
   try simp only [List.getElem_toArray, List.getElem_cons_succ, List.getElem_cons_zero, Act.put, List.setIfInBounds_toArray, List.set_cons_zero, List.set_cons_succ]
   obtain ⟨w7, e7⟩ : ∃ w7, w7 = w6.alloc (.cells #[.int .i64 4, .int .i64 a.pat.n, .slice A6 a.path.length c6, .string ⟨#[]⟩, .slice none 0 0] 34) := ⟨_, rfl⟩
   rw [← e7]
   have K7 := fun b (hb : (Value.slice A6 a.path.length c6).ownBlock = some b) => show ((w2.heap.size ≤ b ∧ b < w7.heap.size) ∧ b ≠ w6.heap.size) ∧ w7.heap[b]? = w6.heap[b]? from by
    have h1 := HG6.out.own b hb
    rw [e7]
    exact ⟨⟨⟨h1.1, by simp; omega⟩, by omega⟩, Below.heap_alloc _ _ _ h1.2⟩
   have O7 := LH (show Osl w7 (fun b => (w2.heap.size ≤ b ∧ b < w7.heap.size) ∧ b ≠ w6.heap.size) 1 A6 c6 (a.path.map (D.num .i64)) by
     obtain ⟨A5, c5, e5, h5⟩ := HG6.out.oslOwn
     obtain ⟨rfl, rfl⟩ : A6 = A5 ∧ c6 = c5 := by simpa using e5
     exact h5.keep fun b hb => K7 b hb)
   have E7 := LH (show Below w2.heap.size w2 w7 by rw [e7]; exact E6.out.alloc E6.out.size _)
   have R7 := LH (show Row w7 w6.heap.size 34 #[.int .i64 4, .int .i64 a.pat.n, .slice A6 a.path.length c6, .string ⟨#[]⟩, .slice none 0 0] by rw [e7]; exact Row.new w6 _ _)
   have hn7 := E6.out.size
   clear e7 K7
   go_wp2_with fail
   go_meet
   exact ⟨w6.heap.size, A6, c6, rfl, E7, R7, O7, hn7⟩
  ·
   try simp only [List.getElem_toArray, List.getElem_cons_succ, List.getElem_cons_zero]
   go_simp
   refine hK.out _ _ (HF5.out _ EZ.out) (fun hS3 => ?_)
   clear hK K hS1
   try simp only [List.getElem_toArray, List.getElem_cons_succ, List.getElem_cons_zero, Act.put, List.setIfInBounds_toArray, List.set_cons_zero, List.set_cons_succ]
   refine wpAnyT_step (i := 5) (by kernel_rfl) rfl (fun K hK => ?_)
   try simp only [List.getElem_toArray, List.getElem_cons_succ, List.getElem_cons_zero]
   go_simp
   go_at_call 36
   refine (cloneInts a.path A1 c1 _ (by omega) (SP.out _ EZ.out)).mono ?_
   rintro e w6 ⟨A6, c6, rfl, gp, hb6⟩
   have E6 := LH (EZ.out.trans (hb6.mono EZ.out.size))
   have HG6 := LH gp
   have RN6 := LH (RZ.out.below hb6 RZ.out.lt)
   have NN6 := LH (show (Value.slice A6 a.path.length c6).ownBlock ≠ some w2.heap.size from fun e => by have := (gp.own _ e).1; rw [HZZ.out] at this; omega)
   have HO6 := LH (fun g (hg : (Value.slice A6 a.path.length c6).ownBlock = some g) => show w2.heap.size ≤ g ∧ g < w6.heap.size from by have h := gp.own _ hg; rw [HZZ.out] at h; exact ⟨by omega, h.2⟩)
   have hcn6 := fun i => RN6.out.cell i
   have hfn6 := fun i => RN6.out.frozen i
   clear gp hb6
   refine hK.out _ _ (HF5.out _ E6.out) (fun hS4 => ?_)
   clear hK K hS3
   try simp only [List.getElem_toArray, List.getElem_cons_succ, List.getElem_cons_zero, Act.put, List.setIfInBounds_toArray, List.set_cons_zero, List.set_cons_succ]
   refine wpAnyT_take (i := 6) (oi := _) (v := ?tv7) rfl (by kernel_rfl) (by kernel_rfl) (by kernel_rfl) (by kernel_rfl) (fun _ _ _ h => h) (Or.inl ⟨by rfl, ?th7⟩) hS4 ?_
   case th7 => (intro x hSx; (try dsimp only at hSx); go_simp; (try with_reducible rfl))
   try simp only [List.getElem_toArray, List.getElem_cons_succ, List.getElem_cons_zero, Act.put, List.setIfInBounds_toArray, List.set_cons_zero, List.set_cons_succ]
   refine wpAnyT_last (by kernel_rfl) (by kernel_rfl) rfl (fun K hK => ?_)
   try simp only [List.getElem_toArray, List.getElem_cons_succ, List.getElem_cons_zero]
   go_simp
   refine hK.out _ _ ?_
   clear hK K
   try simp only [List.getElem_toArray, List.getElem_cons_succ, List.getElem_cons_zero, Act.put, List.setIfInBounds_toArray, List.set_cons_zero, List.set_cons_succ]
   obtain ⟨w7, e7⟩ : ∃ w7, w7 = ((((w6.setCell ⟨w2.heap.size, 0, none⟩ (.int .i64 4)).setCell ⟨w2.heap.size, 1, none⟩ (.int .i64 a.pat.n)).setCell ⟨w2.heap.size, 2, none⟩ (.slice A6 a.path.length c6)).setCell ⟨w2.heap.size, 3, none⟩ (.string ⟨#[]⟩)).setCell ⟨w2.heap.size, 4, none⟩ (.slice none 0 0) := ⟨_, rfl⟩
   rw [← e7]
   have Q7 := LH (show ∀ b, b ≠ w2.heap.size → w7.heap[b]? = w6.heap[b]? from fun b hb => by rw [e7]; simp only [Below.heap_setCell _ _ _ b (show b ≠ (⟨w2.heap.size, _, none⟩ : Addr).block from hb)])
   have hz7 : w7.heap.size = w6.heap.size := by rw [e7]; simp [World.setCell]
   have K7 := fun b (hb : (Value.slice A6 a.path.length c6).ownBlock = some b) => show ((w2.heap.size ≤ b ∧ b < w7.heap.size) ∧ b ≠ w2.heap.size) ∧ w7.heap[b]? = w6.heap[b]? from by
    have h1 := HO6.out b hb
    have h2 : b ≠ w2.heap.size := fun e => NN6.out (by rw [← e]; exact hb)
    exact ⟨⟨⟨h1.1, by omega⟩, h2⟩, Q7.out b h2⟩
   have O7 := LH (show Osl w7 (fun b => (w2.heap.size ≤ b ∧ b < w7.heap.size) ∧ b ≠ w2.heap.size) 1 A6 c6 (a.path.map (D.num .i64)) by
     obtain ⟨A5, c5, e5, h5⟩ := HG6.out.oslOwn
     obtain ⟨rfl, rfl⟩ : A6 = A5 ∧ c6 = c5 := by simpa using e5
     exact h5.keep fun b hb => K7 b hb)
   have E7 := LH (show Below w2.heap.size w2 w7 by rw [e7]; exact ((((E6.out.setCell (p := ⟨w2.heap.size, 0, none⟩) (by simp) _).setCell (p := ⟨w2.heap.size, 1, none⟩) (by simp) _).setCell (p := ⟨w2.heap.size, 2, none⟩) (by simp) _).setCell (p := ⟨w2.heap.size, 3, none⟩) (by simp) _).setCell (p := ⟨w2.heap.size, 4, none⟩) (by simp) _)
   have R7 := LH (show Row w7 (w2.heap.size) 34 #[.int .i64 4, .int .i64 a.pat.n, .slice A6 a.path.length c6, .string ⟨#[]⟩, .slice none 0 0] by rw [e7]; exact ((((RN6.out.set 0 _).set 1 _).set 2 _).set 3 _).set 4 _)
   clear e7 K7 Q7 hz7 hcn6 hfn6
   go_wp2_with fail
   go_meet
   exact ⟨w2.heap.size, A6, c6, rfl, E7, R7, O7, by omega⟩
 case rest =>
  clear RZ EZ ED HZZ SP HF5
  obtain ⟨n3, A6, c6, rfl, C1, C2, C3, hn3⟩ := hcut
  have RAc := LH (RA2.out.below C1.out RA2.out.lt)
  have hcac := fun i => RAc.out.cell i
  have hnc := C2.out.lt
  clear hca
  have SPc := LH (show Sl wc.drew (Lt wc.drew.heap.size) 1 A1 c1 (a.path.map (D.num .i64)) from HA2.out.1.keep fun q hq => ⟨Nat.lt_of_lt_of_le hq.1 C1.out.size, C1.out.block q hq.1⟩)
  have HFc := LH (fun (x : World) (hx : Below wc.heap.size wc x) => show ∀ i, x.cell? ⟨w.heap.size + 1, i, none⟩ = (#[.slice A1 a.path.length c1, .int .i64 a.pat.op, .int .i64 a.pat.n, .string a.pat.s, .string a.pat.t, .slice A2 a.pat.kids.length c2] : Array Value)[i]? from fun i => (RAc.out.below hx RAc.out.lt).cell i)
  have EDc := LH (show Below wc.heap.size wc wc.drew from (Below.refl _ _).drew)
  go_upto_if 56 with (fail)
  go_cut [6] from 53 to 63 (fun v x => ∃ (A7 : Option Addr) (c7 : Nat), v = .pointer (some ⟨n3, 0, none⟩) ∧ Hid (Below w2.heap.size w2 x) ∧ Hid (Row x n3 34 #[.int .i64 (askO a), .int .i64 (askN a), .slice A7 a.path.length c7, .string (askS a), .slice none 0 0]) ∧ Hid (Osl x (fun b => (w2.heap.size ≤ b ∧ b < x.heap.size) ∧ b ≠ n3) 1 A7 c7 (a.path.map (D.num .i64))) ∧ wc.heap.size ≤ x.heap.size)
  case first =>
   cases h20 : (a.pat.op == 20)
   case true =>
    have e20 : a.pat.op = 20 := by simpa using h20
    have HO := LH (show askO a = 3 ∧ askN a = 0 ∧ askS a = a.pat.s by unfold askO askN askS; simp [e20])
    clear e20
    go_wp2_with fail
    refine wp_region_T (fun x => ∀ i, x.cell? ⟨w.heap.size + 1, i, none⟩ = (#[.slice A1 a.path.length c1, .int .i64 a.pat.op, .int .i64 a.pat.n, .string a.pat.s, .string a.pat.t, .slice A2 a.pat.kids.length c2] : Array Value)[i]?) 7 (by kernel_rfl) ?_
    have hS1 := HFc.out _ EDc.out
    refine wpAnyT_take (i := 0) (oi := _) (v := ?tv8) rfl (by kernel_rfl) (by kernel_rfl) (by kernel_rfl) (by kernel_rfl) (fun _ _ _ h => h) (Or.inl ⟨by rfl, ?th8⟩) hS1 ?_
    case th8 => (intro x hSx; (try dsimp only at hSx); go_simp; (try with_reducible rfl))
    try simp only [List.getElem_toArray, List.getElem_cons_succ, List.getElem_cons_zero, Act.put, List.setIfInBounds_toArray, List.set_cons_zero, List.set_cons_succ]
    refine wpAnyT_take (i := 1) (oi := _) (v := ?tv9) rfl (by kernel_rfl) (by kernel_rfl) (by kernel_rfl) (by kernel_rfl) (fun _ _ _ h => h) (Or.inl ⟨by rfl, ?th9⟩) hS1 ?_
    case th9 => (intro x hSx; (try dsimp only at hSx); go_simp; (try with_reducible rfl))
    try simp only [List.getElem_toArray, List.getElem_cons_succ, List.getElem_cons_zero, Act.put, List.setIfInBounds_toArray, List.set_cons_zero, List.set_cons_succ]
    refine wpAnyT_take (i := 2) (oi := _) (v := ?tv10) rfl (by kernel_rfl) (by kernel_rfl) (by kernel_rfl) (by kernel_rfl) (fun _ _ _ h => h) (Or.inl ⟨by rfl, ?th10⟩) hS1 ?_
    case th10 => (intro x hSx; (try dsimp only at hSx); go_simp; (try with_reducible rfl))
    try simp only [List.getElem_toArray, List.getElem_cons_succ, List.getElem_cons_zero, Act.put, List.setIfInBounds_toArray, List.set_cons_zero, List.set_cons_succ]
    refine wpAnyT_take (i := 3) (oi := _) (v := ?tv11) rfl (by kernel_rfl) (by kernel_rfl) (by kernel_rfl) (by kernel_rfl) (fun _ _ _ h => h) (Or.inl ⟨by rfl, ?th11⟩) hS1 ?_
    case th11 => (intro x hSx; (try dsimp only at hSx); go_simp; (try with_reducible rfl))
    try simp only [List.getElem_toArray, List.getElem_cons_succ, List.getElem_cons_zero, Act.put, List.setIfInBounds_toArray, List.set_cons_zero, List.set_cons_succ]
    refine wpAnyT_take (i := 4) (oi := _) (v := ?tv12) rfl (by kernel_rfl) (by kernel_rfl) (by kernel_rfl) (by kernel_rfl) (fun _ _ _ h => h) (Or.inl ⟨by rfl, ?th12⟩) hS1 ?_
    case th12 => (intro x hSx; (try dsimp only at hSx); go_simp; (try with_reducible rfl))
    try simp only [List.getElem_toArray, List.getElem_cons_succ, List.getElem_cons_zero, Act.put, List.setIfInBounds_toArray, List.set_cons_zero, List.set_cons_succ]
    refine wpAnyT_step (i := 5) (by kernel_rfl) rfl (fun K hK => ?_)
    try simp only [List.getElem_toArray, List.getElem_cons_succ, List.getElem_cons_zero]
    go_simp
    go_at_call 36
    refine (cloneInts a.path A1 c1 wc.drew (by omega) SPc.out).mono ?_
    rintro e w6 ⟨A7, c7, rfl, gp, hb6⟩
    have E6 := LH (EDc.out.trans hb6)
    have hz6 := E6.out.size
    have HG6 := LH (show Grx AnyB w6 wc.heap.size 3 1 (.slice A7 a.path.length c7) a.path.length (a.path.map (D.num .i64)) from gp)
    have RN6 := LH (C2.out.below E6.out C2.out.lt)
    have hcn6 := fun i => RN6.out.cell i
    have hfn6 := fun i => RN6.out.frozen i
    clear gp hb6
    refine hK.out _ _ (HFc.out _ E6.out) (fun hS3 => ?_)
    clear hK K hS1
    try simp only [List.getElem_toArray, List.getElem_cons_succ, List.getElem_cons_zero, Act.put, List.setIfInBounds_toArray, List.set_cons_zero, List.set_cons_succ]
    refine wpAnyT_take (i := 6) (oi := _) (v := ?tv13) rfl (by kernel_rfl) (by kernel_rfl) (by kernel_rfl) (by kernel_rfl) (fun _ _ _ h => h) (Or.inl ⟨by rfl, ?th13⟩) hS3 ?_
    case th13 => (intro x hSx; (try dsimp only at hSx); go_simp; (try with_reducible rfl))
    try simp only [List.getElem_toArray, List.getElem_cons_succ, List.getElem_cons_zero, Act.put, List.setIfInBounds_toArray, List.set_cons_zero, List.set_cons_succ]
    refine wpAnyT_last (by kernel_rfl) (by kernel_rfl) rfl (fun K hK => ?_)
    try simp only [List.getElem_toArray, List.getElem_cons_succ, List.getElem_cons_zero]
    go_simp
    refine hK.out _ _ ?_
    clear hK K
    try simp only [List.getElem_toArray, List.getElem_cons_succ, List.getElem_cons_zero, Act.put, List.setIfInBounds_toArray, List.set_cons_zero, List.set_cons_succ]
    obtain ⟨w7, e7⟩ : ∃ w7, w7 = ((((w6.setCell ⟨n3, 0, none⟩ (.int .i64 3)).setCell ⟨n3, 1, none⟩ (.int .i64 0)).setCell ⟨n3, 2, none⟩ (.slice A7 a.path.length c7)).setCell ⟨n3, 3, none⟩ (.string a.pat.s)).setCell ⟨n3, 4, none⟩ (.slice none 0 0) := ⟨_, rfl⟩
    rw [← e7]
    have Q7 := LH (show ∀ b, b ≠ n3 → w7.heap[b]? = w6.heap[b]? from fun b hb => by rw [e7]; simp only [Below.heap_setCell _ _ _ b (show b ≠ (⟨n3, _, none⟩ : Addr).block from hb)])
    have hz7 : w7.heap.size = w6.heap.size := by rw [e7]; simp [World.setCell]
    have hzc1 := C1.out.size
    have O7 := LH (show Osl w7 (fun b => (w2.heap.size ≤ b ∧ b < w7.heap.size) ∧ b ≠ n3) 1 A7 c7 (a.path.map (D.num .i64)) by
      obtain ⟨A5, c5, e5, h5⟩ := HG6.out.oslOwn
      obtain ⟨rfl, rfl⟩ : A7 = A5 ∧ c7 = c5 := by simpa using e5
      exact h5.keep fun b hb => by
        have h1 := HG6.out.own b hb
        exact ⟨⟨⟨by omega, by omega⟩, by omega⟩, Q7.out b (by omega)⟩)
    have E7 := LH (show Below w2.heap.size w2 w7 by rw [e7]; exact (((((C1.out.trans (E6.out.mono hzc1)).setCell (p := ⟨n3, 0, none⟩) hn3 _).setCell (p := ⟨n3, 1, none⟩) hn3 _).setCell (p := ⟨n3, 2, none⟩) hn3 _).setCell (p := ⟨n3, 3, none⟩) hn3 _).setCell (p := ⟨n3, 4, none⟩) hn3 _)
    have R7 := LH (show Row w7 n3 34 #[.int .i64 (askO a), .int .i64 (askN a), .slice A7 a.path.length c7, .string (askS a), .slice none 0 0] by rw [HO.out.1, HO.out.2.1, HO.out.2.2, e7]; exact ((((RN6.out.set 0 _).set 1 _).set 2 _).set 3 _).set 4 _)
    clear e7 Q7 hcn6 hfn6
    go_wp2_with fail
    go_meet
    exact ⟨A7, c7, rfl, E7, R7, O7, by omega⟩
   case false =>
    have e20 : ¬ a.pat.op = 20 := by simpa using h20
    have HO := LH (show askO a = 4 ∧ askN a = a.pat.n ∧ askS a = ⟨#[]⟩ by unfold askO askN askS; simp [e20])
    clear e20
    go_wp2_with fail
    go_meet
    exact ⟨A6, c6, rfl, C1, LH (by rw [HO.out.1, HO.out.2.1, HO.out.2.2]; exact C2.out), C3, Nat.le_refl _⟩
  case rest =>
   clear hcac RAc C2 C3 SPc HFc EDc hnc
   obtain ⟨A7, c7, rfl, D1, D2, D3, hcd⟩ := hcut
   have hnd := D2.out.lt
   have hzd := D1.out.size
   have Xd := LH (X2.out.trans (Bx.of_below D1.out (Nat.le_refl _)))
   have RAd := LH (RA2.out.below D1.out RA2.out.lt)
   have hcad := fun i => RAd.out.cell i
   have RGd := LH (RG2.out.below D1.out RG2.out.lt)
   have RBd := LH (RB2.out.below D1.out RB2.out.lt)
   have hgw2 : g < w2.heap.size := by omega
   have HAd := LH (HA.out.keep (w' := wc) (S' := Lt wc.heap.size) fun x hx => ⟨Nat.lt_of_lt_of_le hx.1 Xd.out.size, Xd.out.block x hx.1 hx.2⟩)
   have hyy := implHolding (fun b => b < w.heap.size ∧ b ≠ g) a rows (some ⟨b, off, none⟩) c A1 c1 A2 c2 wc hl2 many (by omega) hap HOK.out (fun x hx => Nat.lt_of_lt_of_le hx.1 Xd.out.size) (HS.out.keep fun x hx => ⟨hx, Xd.out.block x hx.1 hx.2⟩) HAd.out
   have HYY := LH hyy
   clear hyy
   go_wp2_with fail
   refine HYY.out.mono ?_
   rintro e wy ⟨Ay, cy, rfl, hsy, hby⟩
   have EY := LH hby
   have Xy := LH (Xd.out.trans (Bx.of_below hby (Nat.le_refl _)))
   have hzy := hby.size
   have RGy := LH (RGd.out.below EY.out RGd.out.lt)
   have hia := HIH.out (many + 1) (yesR a rows) Ay cy wy (by omega) (by omega) (HOK.out.yes a hap) (Nat.le_trans (yesR_len a rows) hl2) RGy.out (hsy.keep fun x hx => ⟨⟨hx.2, by rcases hx.1 with h1 | h1; exact h1.2; omega⟩, rfl⟩)
   rw [HP.out] at hia
   have HIA := LH hia
   clear hia hsy hby HYY hcad
   go_wp2_with fail
   refine HIA.out.mono ?_
   rintro e wa ⟨P1, pc1, P2, pc2, rfl, hoa, hga, hxa⟩
   have OA := LH hoa
   have GA := LH hga
   have XA := LH hxa
   have hza := hxa.size
   clear hoa hga hxa HIA
   obtain ⟨wb, eb⟩ : ∃ wb, wb = wa.alloc (.cells #[.int .i64 p.1.op, .int .i64 p.1.n, .slice P1 p.1.path.length pc1, .string p.1.s, .slice P2 p.1.kids.length pc2] 34) := ⟨_, rfl⟩
   have Eb := LH (show Below wa.heap.size wa wb by rw [eb]; exact (Below.refl _ _).alloc (Nat.le_refl _) _)
   have hzb : wa.heap.size + 1 ≤ wb.heap.size := by rw [eb]; simp
   have Xb := LH ((Xy.out.trans XA.out).trans (Bx.of_below Eb.out (Nat.le_refl _)))
   have RPb := LH (show Row wb wa.heap.size 34 #[.int .i64 p.1.op, .int .i64 p.1.n, .slice P1 p.1.path.length pc1, .string p.1.s, .slice P2 p.1.kids.length pc2] by rw [eb]; exact Row.new _ _ _)
   have RAa := LH (XA.out.row (RAd.out.below EY.out RAd.out.lt) (by omega))
   have RAb := LH (RAa.out.below Eb.out RAa.out.lt)
   have RNa := LH (XA.out.row (D2.out.below EY.out D2.out.lt) (by omega))
   have RNb := LH (RNa.out.below Eb.out RNa.out.lt)
   have RBa := LH (XA.out.row (RBd.out.below EY.out RBd.out.lt) (by omega))
   have RBb := LH (RBa.out.below Eb.out RBa.out.lt)
   have RGb := LH (GA.out.below Eb.out GA.out.lt)
   have hcab := fun i => RAb.out.cell i
   have hp2 : many + 1 < p.2 ∧ p.2 ≤ max (many + 1 + 1) (301 + k) := by rw [← HP.out]; exact ⟨growV_less k _ _, growV_le k _ _⟩
   have HAb := LH (HA.out.keep (w' := wb) (S' := Lt wb.heap.size) fun x hx => ⟨Nat.lt_of_lt_of_le hx.1 Xb.out.size, Xb.out.block x hx.1 hx.2⟩)
   have hnn := implFailing (fun b => b < w.heap.size ∧ b ≠ g) a rows (some ⟨b, off, none⟩) c A1 c1 A2 c2 wb hl2 (fun r hr => Nat.le_trans (asksM_len _) (HOK.out r hr).1) (fun x hx => Nat.lt_of_lt_of_le hx.1 Xb.out.size) (HS.out.keep fun x hx => ⟨hx, Xb.out.block x hx.1 hx.2⟩) HAb.out
   have HNN := LH hnn
   clear hnn
   go_upto_region 13 with (fail)
   rw [← eb]
   clear eb
   go_wp2_with fail
   refine HNN.out.mono ?_
   rintro e wn ⟨An, cn, rfl, hsn, hbn⟩
   have EN := LH hbn
   have hzn := hbn.size
   have Xn' := LH (Xb.out.trans (Bx.of_below hbn (Nat.le_refl _)))
   have RGn := LH (RGb.out.below EN.out RGb.out.lt)
   have hzwb := Xb.out.size
   have hiq := HIH.out p.2 (noR a rows) An cn wn (by omega) (by omega) ((HOK.out.no a).mono (by omega)) (Nat.le_trans (noR_len a rows) hl2) RGn.out (hsn.keep fun x hx => ⟨⟨hx.2, by rcases hx.1 with h1 | h1; exact h1.2; omega⟩, rfl⟩)
   rw [HQ.out] at hiq
   have HIQ := LH hiq
   clear hiq hsn hbn HNN hcab
   go_wp2_with fail
   refine HIQ.out.mono ?_
   rintro e wq ⟨Q1, qc1, Q2, qc2, rfl, hoq, hgq, hxq⟩
   have OQ := LH hoq
   have GQ := LH hgq
   have XQ := LH hxq
   have hzq := hxq.size
   clear hoq hgq hxq HIQ
   obtain ⟨wz, ez⟩ : ∃ wz, wz = wq.alloc (.cells #[.int .i64 q.1.op, .int .i64 q.1.n, .slice Q1 q.1.path.length qc1, .string q.1.s, .slice Q2 q.1.kids.length qc2] 34) := ⟨_, rfl⟩
   have Ez := LH (show Below wq.heap.size wq wz by rw [ez]; exact (Below.refl _ _).alloc (Nat.le_refl _) _)
   have hzz : wq.heap.size + 1 = wz.heap.size := by rw [ez]; simp
   have Xz := LH ((Xn'.out.trans XQ.out).trans (Bx.of_below Ez.out (Nat.le_refl _)))
   have RQz := LH (show Row wz wq.heap.size 34 #[.int .i64 q.1.op, .int .i64 q.1.n, .slice Q1 q.1.path.length qc1, .string q.1.s, .slice Q2 q.1.kids.length qc2] by rw [ez]; exact Row.new _ _ _)
   have RPq := LH (XQ.out.row (RPb.out.below EN.out RPb.out.lt) (by omega))
   have RPz := LH (RPq.out.below Ez.out RPq.out.lt)
   have RNq := LH (XQ.out.row (RNb.out.below EN.out RNb.out.lt) (by omega))
   have RNz := LH (RNq.out.below Ez.out RNq.out.lt)
   have RBq := LH (XQ.out.row (RBb.out.below EN.out RBb.out.lt) (by omega))
   have RBz := LH (RBq.out.below Ez.out RBq.out.lt)
   have RGz := LH (GQ.out.below Ez.out GQ.out.lt)
   have hzc2 := Nat.le_trans hzd hzy
   have c1z := fun i => RQz.out.cell i
   have c2z := fun i => RPz.out.cell i
   have c3z := fun i => RNz.out.cell i
   have f3z := fun i => RNz.out.frozen i
   have c4z := fun i => RBz.out.cell i
   have f4z := fun i => RBz.out.frozen i
   have l1z := RQz.out.lt
   have l2z := RPz.out.lt
   have l3z := RNz.out.lt
   have l4z := RBz.out.lt
   have hne34 : n3 ≠ w.heap.size := by omega
   have hne43 : w.heap.size ≠ n3 := by omega
   go_upto_region 14 with (fail)
   rw [← ez]
   clear ez
   go_wp2_with fail
   obtain ⟨wm, em⟩ : ∃ wm, wm = (((((wz.setCell ⟨n3, 4, none⟩ (.slice (some ⟨wz.heap.size, 0, none⟩) 2 2)).setCell ⟨w.heap.size, 0, none⟩ (.int .i64 (askO a))).setCell ⟨w.heap.size, 1, none⟩ (.int .i64 (askN a))).setCell ⟨w.heap.size, 2, none⟩ (.slice A7 a.path.length c7)).setCell ⟨w.heap.size, 3, none⟩ (.string (askS a))).setCell ⟨w.heap.size, 4, none⟩ (.slice (some ⟨wz.heap.size, 0, none⟩) 2 2) := ⟨_, rfl⟩
   rw [← em]
   obtain ⟨wf, ef⟩ : ∃ wf, wf = wm.alloc (.cells #[.int .i64 p.1.op, .int .i64 p.1.n, .slice P1 p.1.path.length pc1, .string p.1.s, .slice P2 p.1.kids.length pc2, .int .i64 q.1.op, .int .i64 q.1.n, .slice Q1 q.1.path.length qc1, .string q.1.s, .slice Q2 q.1.kids.length qc2] 34) := ⟨_, rfl⟩
   rw [← ef]
   have hzm : wm.heap.size = wz.heap.size := by rw [em]; simp [World.setCell]
   have hwn3 : w.heap.size ≤ n3 := by omega
   have Qm := LH (fun b (h1 : b ≠ n3) (h2 : b ≠ w.heap.size) (h3 : b < wz.heap.size) => show wf.heap[b]? = wz.heap[b]? from by
     rw [ef, Below.heap_alloc wm _ b (by omega), em]
     rw [Below.heap_setCell _ ⟨w.heap.size, 4, none⟩ _ b h2, Below.heap_setCell _ ⟨w.heap.size, 3, none⟩ _ b h2, Below.heap_setCell _ ⟨w.heap.size, 2, none⟩ _ b h2, Below.heap_setCell _ ⟨w.heap.size, 1, none⟩ _ b h2, Below.heap_setCell _ ⟨w.heap.size, 0, none⟩ _ b h2, Below.heap_setCell _ ⟨n3, 4, none⟩ _ b h1])
   have hzf : wz.heap.size + 1 = wf.heap.size := by rw [ef]; simp [hzm]
   have RKf := LH (show Row wf wz.heap.size 34 #[.int .i64 p.1.op, .int .i64 p.1.n, .slice P1 p.1.path.length pc1, .string p.1.s, .slice P2 p.1.kids.length pc2, .int .i64 q.1.op, .int .i64 q.1.n, .slice Q1 q.1.path.length qc1, .string q.1.s, .slice Q2 q.1.kids.length qc2] by rw [ef]; exact Row.new' _ _ _ hzm.symm)
   have RBf := LH (show Row wf w.heap.size 34 #[.int .i64 (askO a), .int .i64 (askN a), .slice A7 a.path.length c7, .string (askS a), .slice (some ⟨wz.heap.size, 0, none⟩) 2 2] by
     rw [ef, em]
     exact ((((((RBz.out.far (p := ⟨n3, 4, none⟩) hne43 _).set 0 _).set 1 _).set 2 _).set 3 _).set 4 _).alloc _)
   have RGf := LH (show Row wf g 59 #[.int .i64 q.2] from (Qm.out g (by omega) (by omega) (by omega)).trans RGz.out)
   have XF := LH (show Bx g w wf by
     rw [ef, em]
     exact ((((((Xz.out.set (p := ⟨n3, 4, none⟩) (.inr hwn3) _).set (p := ⟨w.heap.size, 0, none⟩) (.inr (Nat.le_refl _)) _).set (p := ⟨w.heap.size, 1, none⟩) (.inr (Nat.le_refl _)) _).set (p := ⟨w.heap.size, 2, none⟩) (.inr (Nat.le_refl _)) _).set (p := ⟨w.heap.size, 3, none⟩) (.inr (Nat.le_refl _)) _).set (p := ⟨w.heap.size, 4, none⟩) (.inr (Nat.le_refl _)) _).alloc _)
   have QQ := LH (fun b (h1 : wn.heap.size ≤ b) (h2 : b < wq.heap.size) => show wf.heap[b]? = wq.heap[b]? from (Qm.out b (by omega) (by omega) (by omega)).trans (Ez.out.block b h2))
   have QA := LH (fun b (h1 : b ≠ n3) (h2 : b ≠ w.heap.size) (h3 : b ≠ g) (h4 : b < wa.heap.size) => show wf.heap[b]? = wa.heap[b]? from
     (Qm.out b h1 h2 (by omega)).trans ((Ez.out.block b (by omega)).trans ((XQ.out.block b (by omega) h3).trans ((EN.out.block b (by omega)).trans (Eb.out.block b h4)))))
   have OAf := LH (OA.out.keep (w' := wf) (S' := Btw wy.heap.size wa.heap.size) fun b hb => ⟨hb, QA.out b (by have := hb.1; omega) (by have := hb.1; omega) (by have := hb.1; omega) hb.2⟩)
   have OQf := LH (OQ.out.keep (w' := wf) (S' := Btw wn.heap.size wq.heap.size) fun b hb => ⟨hb, QQ.out b hb.1 hb.2⟩)
   have D3f := LH (D3.out.keep (w' := wf) (S' := fun b => (w2.heap.size ≤ b ∧ b < wc.heap.size) ∧ b ≠ n3) fun b hb => ⟨hb, (QA.out b hb.2 (by have := hb.1.1; omega) (by have := hb.1.1; omega) (by have := hb.1.2; omega)).trans ((XA.out.block b (by have := hb.1.2; omega) (by have := hb.1.1; omega)).trans (EY.out.block b hb.1.2))⟩)
   have OK := LH (oslTwoTree (S := fun b => wc.heap.size ≤ b ∧ b < wf.heap.size) (t1 := p.1) (t2 := q.1) RKf.out OAf.out OQf.out (fun x hx => ⟨⟨⟨by have := hx.1; omega, by have := hx.2; omega⟩, by have := hx.2; omega⟩, fun h2 => by have := hx.2; have := h2.1; omega⟩) (fun x hx => ⟨⟨by have := hx.1; omega, by have := hx.2; omega⟩, by have := hx.2; omega⟩) ⟨by omega, by omega⟩)
   have hwfs : (Lit.int .i64 (askO a)).wf = true ∧ (Lit.int .i64 (askN a)).wf = true ∧ (askS a).size ≤ maxLen := by
    unfold askO askN askS
    split
    · exact ⟨by decide, by decide, HA.out.2.2.2.1⟩
    · exact ⟨by decide, HA.out.2.2.1, by simp [ByteArray.size, maxLen]⟩
   have hczf := fun i => RBf.out.cell i
   have HVT := LH (show growV (k + 1) many rows = (.mk (askO a) (askN a) a.path (askS a) [p.1, q.1], q.2) by rw [HV.out, askT_eq])
   clear ef em c1z c2z c3z c4z f3z f4z
   show BP _ _
   rw [HBP.out, HVT.out]
   exact bodyPost_ret (v := .agg #[.int .i64 (askO a), .int .i64 (askN a), .slice A7 a.path.length c7, .string (askS a), .slice (some ⟨wz.heap.size, 0, none⟩) 2 2]) (by simp [results, Tryz.results19, go_sem, hczf]) rfl ⟨A7, c7, some ⟨wz.heap.size, 0, none⟩, 2, rfl, ⟨fun b => (w2.heap.size ≤ b ∧ b < wc.heap.size) ∧ b ≠ n3, fun b => wc.heap.size ≤ b ∧ b < wf.heap.size, fun x hx => ⟨by have := hx.1.1; omega, by have := hx.1.2; omega⟩, fun x hx => ⟨by have := hx.1; omega, hx.2⟩, fun x hx h2 => by have := hx.1.2; have := h2.1; omega, hwfs.1, hwfs.2.1, D3f.out, hwfs.2.2, OK.out⟩, RGf.out, XF.out⟩
theorem growTr (g : Nat) : ∀ (k : Nat), k ≤ 1000 → GrownOk g k
 | 0, _, many, rows, A, c, w, h, hm, hok, hl, hrow, hs => growTrOver g 0 many rows A c w (by omega) hm hrow
 | k + 1, hk, many, rows, A, c, w, h, hm, hok, hl, hrow, hs => by
  by_cases ho : 300 < many + 1
  · exact growTrOver g (k + 1) many rows A c w ho hm hrow
  · by_cases h0 : 0 < rows.length
    · by_cases ha : 0 < rows[0].asks.length
      · exact growTrAsk g k many rows A c w (growTr g k (by omega)) ho h (by omega) hok h0 hl ha hrow hs
      · exact growTrDone g k many rows A c w ho h0 hl (by omega) hrow hs
    · exact growTrNone g k many rows A c w ho (by omega) hrow
set_option maxHeartbeats 1000000
def conConV (ds : List GData) (s : ByteArray) : Option GCon := match conOf s ds 0 with
 | some (j, k) => match ds[j]? with
  | some d => d.cons[k]?
  | none => none
 | none => none
def argsOk (ds : List GData) (s : ByteArray) (n : Nat) : Bool := match conConV ds s with
 | some x => x.args.length == n
 | none => false
mutual
def conOk (ds : List GData) : GNode → Bool | .mk op n s t kids => (op != 20 || argsOk ds s kids.length) && conOkL ds kids
def conOkL (ds : List GData) : List GNode → Bool | [] => true | k :: r => conOk ds k && conOkL ds r
end
theorem conOk_eq (ds : List GData) (t : GNode) : conOk ds t = ((t.op != 20 || argsOk ds t.s t.kids.length) && conOkL ds t.kids) := by
 cases t; simp only [conOk, GNode.op, GNode.s, GNode.kids]
theorem conOkL_all (ds : List GData) : ∀ l : List GNode, conOkL ds l = l.all (conOk ds)
 | [] => rfl
 | k :: r => by simp only [conOkL, List.all_cons, conOkL_all ds r]
theorem tagIn_lt2 {s : ByteArray} : ∀ (l : List GCon) (n k : Nat), tagIn s l n = some k → n ≤ k ∧ k < n + l.length
 | [], n, k, h => by simp [tagIn] at h
 | c :: r, n, k, h => by
  unfold tagIn at h
  split at h
  · cases h; simp
  · have := tagIn_lt2 r (n + 1) k h
    simp only [List.length_cons]; omega
theorem conOf_lt2 {s : ByteArray} : ∀ (l : List GData) (n j k : Nat), conOf s l n = some (j, k) → n ≤ j ∧ ∃ h : j - n < l.length, k < l[j - n].cons.length
 | [], n, j, k, h => by simp [conOf] at h
 | d :: r, n, j, k, h => by
  unfold conOf at h
  split at h
  · rename_i m hm
    have e : n = j ∧ m = k := by simpa using h
    obtain ⟨rfl, rfl⟩ := e
    have := tagIn_lt2 d.cons 0 m hm
    exact ⟨Nat.le_refl _, by simp, by simp; omega⟩
  · obtain ⟨h1, h2, h3⟩ := conOf_lt2 r (n + 1) j k h
    have e : j - n = (j - (n + 1)) + 1 := by omega
    refine ⟨by omega, by simp only [List.length_cons]; omega, ?_⟩
    simp only [e, List.getElem_cons_succ]; exact h3
theorem conConV_some {ds : List GData} {s : ByteArray} {j k : Nat} (h : conOf s ds 0 = some (j, k)) : ∃ (hj : j < ds.length) (hk : k < ds[j].cons.length), conConV ds s = some ds[j].cons[k] := by
 obtain ⟨-, h1, h2⟩ := conOf_lt2 ds 0 j k h
 simp only [Nat.sub_zero] at h1 h2
 refine ⟨h1, h2, ?_⟩
 unfold conConV
 simp [h, h1, h2]
theorem conOkL_take {ds : List GData} {l : List GNode} {j : Nat} (h : j < l.length) : conOkL ds (l.take (j + 1)) = (conOkL ds (l.take j) && conOk ds l[j]) := by
 rw [conOkL_all, conOkL_all, take_snoc' l j h, List.all_append]; simp
theorem specCons (ds : List GData) (A : Option Addr) (c : Nat) : ∀ (kk : Nat) (p : GNode) (A1 : Option Addr) (c1 : Nat) (w : World), p.bulk < kk → Sl w (Lt w.heap.size) 3 A c (ds.map GData.toD) → GNode.At w (Lt w.heap.size) A1 c1 p →
 Calls Tryz.prog 21 #[.slice A ds.length c, .agg #[.int .i64 p.op, .int .i64 p.n, .string p.s, .string p.t, .slice A1 p.kids.length c1]] w fun e w' => e = .returned (.bool (conOk ds p)) ∧ Below w.heap.size w w'
 | 0, p, A1, c1, w, h, _, _ => absurd h (by omega)
 | kk + 1, p, A1, c1, w, h, hs, hat => by
  have HD := LH hs
  have HA := LH hat
  have HIH := LH (specCons ds A c kk)
  have hkl : p.kids.length ≤ 9223372036854775807 := by simpa using hat.2.2.2.2.len
  have hdl : ds.length ≤ 9223372036854775807 := by simpa using hs.len
  have hbk : bulkL GNode.bulk p.kids ≤ kk := by have := GNode.bulk_eq p; omega
  obtain ⟨w0, e0⟩ : ∃ w0, w0 = w.alloc (.cells #[.int .i64 p.op, .int .i64 p.n, .string p.s, .string p.t, .slice A1 p.kids.length c1] 39) := ⟨_, rfl⟩
  have E0 := LH (show Below w.heap.size w w0 by rw [e0]; exact (Below.refl _ _).alloc (Nat.le_refl _) _)
  have R0 := LH (show Row w0 w.heap.size 39 #[.int .i64 p.op, .int .i64 p.n, .string p.s, .string p.t, .slice A1 p.kids.length c1] by rw [e0]; exact Row.new _ _ _)
  have HE := LH (conOk_eq ds p)
  clear hs hat
  go_enter Tryz.func21, Tryz.ntmps21
  go_wp2_with fail
  rw [← e0]
  clear e0
  go_loopw [5] (fun i wr => ∃ (j : Nat), j ≤ p.kids.length ∧ i = .int .i64 j ∧ Hid (conOkL ds (p.kids.take j) = true) ∧ Hid (Row wr w.heap.size 39 #[.int .i64 p.op, .int .i64 p.n, .string p.s, .string p.t, .slice A1 p.kids.length c1]) ∧ Hid (Below w.heap.size w wr)) (fun i _ => p.kids.length - (intOf i).toNat)
  case atStart => exact ⟨0, by omega, by go_num, LH rfl, R0, E0⟩
  case round =>
   clear R0 E0
   obtain ⟨j, hj, rfl, HL, HR, HB⟩ := hrel
   have hsz := HB.out.size
   have hca := fun i => HR.out.cell i
   by_cases hlt : j < p.kids.length
   ·
    obtain ⟨b, off, A2, c2, rfl, hSb, g0, g1, g2, g3, g4, hk⟩ := GNode.elem (HA.out.2.2.2.2.keep (w' := wr) (S' := Lt w.heap.size) fun q hq => ⟨hq, HB.out.block q hq⟩) j hlt
    have dl : decide ((j : Int) < (p.kids.length : Int)) = true := decide_eq_true (by omega)
    have HT := LH (conOkL_take (ds := ds) hlt)
    have hbj : p.kids[j].bulk < kk := by have := bulkL_mem GNode.bulk p.kids p.kids[j] (List.getElem_mem hlt); omega
    have HC := LH (HIH.out p.kids[j] A2 c2 wr hbj (HD.out.below HB.out hsz) (hk.keep fun q hq => ⟨Nat.lt_of_lt_of_le hq hsz, rfl⟩))
    clear hk
    go_wp2_with fail
    refine HC.out.mono ?_
    rintro e w2 ⟨rfl, hb2⟩
    have B2 := LH (HB.out.trans (hb2.mono hsz))
    have R2 := LH (HR.out.below hb2 HR.out.lt)
    clear hb2
    cases hc : conOk ds p.kids[j]
    ·
     have HF := LH (show conOk ds p = false by
       rw [HE.out]
       have h1 : conOkL ds p.kids = false := by
         rw [conOkL_all, List.all_eq_false]
         exact ⟨_, List.getElem_mem hlt, by simp [hc]⟩
       rw [h1, Bool.and_false])
     clear hc
     go_wp2_with fail
     go_ret
     exact ⟨congrArg (fun b => Ending.returned (Value.bool b)) HF.out.symm, B2.out⟩
    · have HL2 := LH (show conOkL ds (p.kids.take (j + 1)) = true by rw [HT.out, HL.out, hc]; rfl)
      clear hc
      go_wp2_with fail
      go_roundw
      case rel => exact ⟨j + 1, by omega, by go_num, HL2, R2, B2⟩
      case measure => simp [intOf]; omega
   ·
    have dl : decide ((j : Int) < (p.kids.length : Int)) = false := decide_eq_false (by omega)
    have HLA := LH (show conOkL ds p.kids = true by have := HL.out; rwa [List.take_of_length_le (by omega)] at this)
    cases h20 : (p.op == 20)
    · have HV := LH (show conOk ds p = true by rw [HE.out, HLA.out, bne, h20]; rfl)
      have hne : (p.op != 20) = true := by rw [bne, h20]; rfl
      go_wp2_with fail
      go_ret
      exact ⟨congrArg (fun b => Ending.returned (Value.bool b)) HV.out.symm, HB.out⟩
    ·
     have HV := LH (show conOk ds p = argsOk ds p.s p.kids.length by rw [HE.out, HLA.out, bne, h20]; simp)
     have hne : (p.op != 20) = false := by rw [bne, h20]; rfl
     have HC := LH (specConOf ds A c p.s wr (HD.out.below HB.out hsz))
     go_wp2_with fail
     refine HC.out.mono ?_
     rintro e w2 ⟨rfl, hb2⟩
     have B2 := LH (HB.out.trans (hb2.mono hsz))
     have R2 := LH (HR.out.below hb2 HR.out.lt)
     have hca2 := fun i => R2.out.cell i
     clear hb2 hca
     cases hco : conOf p.s ds 0 with
     | none =>
      have HF := LH (show conOk ds p = false by rw [HV.out]; unfold argsOk conConV; simp [hco])
      have d1 : decide ((0 : Int) ≤ -1) = false := by decide
      simp only [conI]
      clear hco
      go_wp2_with fail
      go_simp
      go_big_quiet (fail)
      go_wp2_with fail
      go_ret
      exact ⟨congrArg (fun b => Ending.returned (Value.bool b)) HF.out.symm, B2.out.trans ⟨rfl, rfl, rfl, Nat.le_refl _, fun _ _ => rfl⟩⟩
     | some jk =>
      obtain ⟨j2, k2⟩ := jk
      obtain ⟨hj2, hk2, hcc⟩ := conConV_some hco
      obtain ⟨b3, off3, B3, c3, rfl, hSb3, x0, x1, x2, hx⟩ := GData.elem (HD.out.keep (w' := w2) (S' := Lt w.heap.size) fun q hq => ⟨hq, B2.out.block q hq⟩) j2 hj2
      obtain ⟨b4, off4, B4, c4, rfl, hSb4, y0, y1, hy⟩ := GCon.elem hx.2.2 k2 hk2
      have hcl : ds[j2].cons.length ≤ 9223372036854775807 := by simpa using hx.2.2.len
      have HV2 := LH (show ((ds[j2].cons[k2].args.length : Int) == (p.kids.length : Int)) = conOk ds p by
        rw [HV.out]; unfold argsOk; rw [hcc]
        show _ = (ds[j2].cons[k2].args.length == p.kids.length)
        by_cases h : ds[j2].cons[k2].args.length = p.kids.length
        · rw [h]; simp
        · rw [show (ds[j2].cons[k2].args.length == p.kids.length) = false from by rw [beq_eq_false_iff_ne]; exact h, beq_eq_false_iff_ne]; omega)
      have d1 : decide ((0 : Int) ≤ (j2 : Int)) = true := decide_eq_true (by omega)
      simp only [conI]
      have hl2 := Nat.lt_of_lt_of_le hSb3 hsz
      clear hco hcc hx hy x0 x1 y0 h
      go_wp2_with fail
      go_simp
      go_big_quiet (fail)
      go_wp2_with fail
      go_ret
      exact ⟨congrArg (fun b => Ending.returned (Value.bool b)) HV2.out, B2.out.trans ⟨rfl, rfl, rfl, Nat.le_refl _, fun _ _ => rfl⟩⟩
theorem implConsOk (ds : List GData) (A : Option Addr) (c : Nat) : ∀ (kk : Nat) (p : GNode) (A1 : Option Addr) (c1 : Nat) (w : World), p.bulk < kk → Sl w (Lt w.heap.size) 3 A c (ds.map GData.toD) → GNode.At w (Lt w.heap.size) A1 c1 p →
 Calls Tryz.prog 17 #[.slice A ds.length c, .agg #[.int .i64 p.op, .int .i64 p.n, .string p.s, .string p.t, .slice A1 p.kids.length c1]] w fun e w' => e = .returned (.bool (conOk ds p)) ∧ Below w.heap.size w w'
 | 0, p, A1, c1, w, h, _, _ => absurd h (by omega)
 | kk + 1, p, A1, c1, w, h, hs, hat => by
  have HD := LH hs
  have HA := LH hat
  have HIH := LH (implConsOk ds A c kk)
  have hdl : ds.length ≤ 9223372036854775807 := by simpa using hs.len
  have hkl : p.kids.length ≤ 9223372036854775807 := by simpa using hat.2.2.2.2.len
  have hbk : bulkL GNode.bulk p.kids ≤ kk := by have := GNode.bulk_eq p; omega
  obtain ⟨w0, e0⟩ : ∃ w0, w0 = (w.alloc (.cells #[.slice A ds.length c] 24)).alloc (.cells #[.int .i64 p.op, .int .i64 p.n, .string p.s, .string p.t, .slice A1 p.kids.length c1] 39) := ⟨_, rfl⟩
  have E0 := LH (show Below w.heap.size w w0 by rw [e0]; exact ((Below.refl _ _).alloc (Nat.le_refl _) _).alloc (by simp) _)
  have RL0 := LH (show Row w0 w.heap.size 24 #[.slice A ds.length c] by rw [e0]; exact (Row.new' _ _ _ rfl).alloc _)
  have RP0 := LH (show Row w0 (w.heap.size + 1) 39 #[.int .i64 p.op, .int .i64 p.n, .string p.s, .string p.t, .slice A1 p.kids.length c1] by rw [e0]; exact Row.new' _ _ _ (by simp))
  have HE := LH (conOk_eq ds p)
  have HKID : Hid (∀ x, x ∈ p.kids → ∀ (A2 : Option Addr) (c2 : Nat) (w2 : World), Below w0.heap.size w0 w2 → GNode.At w2 (Lt w2.heap.size) A2 c2 x →
    Calls Tryz.prog 32 (#[.agg #[.int .i64 x.op, .int .i64 x.n, .string x.s, .string x.t, .slice A2 x.kids.length c2]] ++ #[.pointer (some ⟨w.heap.size, 0, none⟩)]) w2 fun e w' => e = .returned (.bool (conOk ds x)) ∧ Below w2.heap.size w2 w') := LH (by
    intro x hx A2 c2 w2 hb hatx
    have hbx : x.bulk < kk := by have := bulkL_mem GNode.bulk p.kids x hx; omega
    obtain ⟨w3, e3⟩ : ∃ w3, w3 = w2.alloc (.cells #[.int .i64 x.op, .int .i64 x.n, .string x.s, .string x.t, .slice A2 x.kids.length c2] 39) := ⟨_, rfl⟩
    have E3 := LH (show Below w2.heap.size w2 w3 by rw [e3]; exact (Below.refl _ _).alloc (Nat.le_refl _) _)
    have R2 := LH (RL0.out.below hb RL0.out.lt)
    have hgl := R2.out.lt
    have hca := fun i => R2.out.cell i
    have BW := E0.out.trans (hb.mono E0.out.size)
    have HC := LH (HIH.out x A2 c2 w3 hbx ((HD.out.below BW BW.size).below E3.out E3.out.size) (hatx.below E3.out E3.out.size))
    clear hatx hb BW e0 hs hat HE hx
    go_enter Tryz.func32, Tryz.ntmps32
    go_wp2_with fail
    rw [← e3]
    refine HC.out.mono ?_
    rintro e w4 ⟨rfl, hb4⟩
    go_wp2_with fail
    go_ret
    exact ⟨rfl, E3.out.trans (hb4.mono E3.out.size)⟩)
  have hz0 : w.heap.size + 2 = w0.heap.size := by rw [e0]; simp
  have HAL := LH (fun (w2 : World) (hb : Below w0.heap.size w0 w2) => implAllNodes 32 (enters Tryz.func32 (by kernel_rfl) (by kernel_rfl)) #[.pointer (some ⟨w.heap.size, 0, none⟩)] (conOk ds) p.kids A1 c1 w2 (HA.out.2.2.2.2.keep fun q hq => ⟨by have h1 : q < w.heap.size := hq; have := hb.size; show q < w2.heap.size; omega, (hb.block q (by have h1 : q < w.heap.size := hq; omega)).trans (E0.out.block q hq)⟩) (fun x hx A2 c2 w3 hb3 hatx => HKID.out x hx A2 c2 w3 (hb.trans (hb3.mono hb.size)) hatx))
  clear hs hat
  go_enter Tryz.func17, Tryz.ntmps17
  cases h20 : (p.op == 20)
  ·
   have HV := LH (show conOk ds p = p.kids.all (conOk ds) by rw [HE.out, conOkL_all, bne, h20]; rfl)
   have HAL0 := LH (HAL.out w0 (Below.refl _ _))
   go_wp2_with fail
   rw [← e0]
   clear e0
   refine HAL0.out.mono ?_
   rintro e w1 ⟨rfl, hb1⟩
   go_wp2_with fail
   go_ret
   exact ⟨congrArg (fun b => Ending.returned (Value.bool b)) HV.out.symm, E0.out.trans (hb1.mono E0.out.size)⟩
  ·
   have HV := LH (show conOk ds p = (argsOk ds p.s p.kids.length && p.kids.all (conOk ds)) by rw [HE.out, conOkL_all, bne, h20]; simp)
   have HC := LH (implConOf ds A c p.s w0 (HD.out.below E0.out E0.out.size))
   go_wp2_with fail
   rw [← e0]
   clear e0
   refine HC.out.mono ?_
   rintro e w2 ⟨rfl, hb2⟩
   have E2 := LH hb2
   have B2 := LH (E0.out.trans (hb2.mono E0.out.size))
   have RL2 := LH (RL0.out.below hb2 RL0.out.lt)
   have RP2 := LH (RP0.out.below hb2 RP0.out.lt)
   have hcl := fun i => RL2.out.cell i
   have hcp := fun i => RP2.out.cell i
   have hz2 := hb2.size
   clear hb2 HC
   cases hco : conOf p.s ds 0 with
   | none =>
    have HF := LH (show conOk ds p = false by rw [HV.out]; unfold argsOk conConV; simp [hco])
    simp only [conI]
    clear hco
    go_wp2_with fail
    go_simp
    go_big_quiet (fail)
    go_wp2_with fail
    go_ret
    exact ⟨congrArg (fun b => Ending.returned (Value.bool b)) HF.out.symm, B2.out.trans ⟨rfl, rfl, rfl, Nat.le_refl _, fun _ _ => rfl⟩⟩
   | some jk =>
    obtain ⟨j2, k2⟩ := jk
    obtain ⟨hj2, hk2, hcc⟩ := conConV_some hco
    obtain ⟨b3, off3, B3, c3, rfl, hSb3, x0, x1, x2, hx⟩ := GData.elem (HD.out.keep (w' := w2) (S' := Lt w.heap.size) fun q hq => ⟨hq, B2.out.block q hq⟩) j2 hj2
    obtain ⟨b4, off4, B4, c4, rfl, hSb4, y0, y1, hy⟩ := GCon.elem hx.2.2 k2 hk2
    have hcln : ds[j2].cons.length ≤ 9223372036854775807 := by simpa using hx.2.2.len
    have HAK := LH (show argsOk ds p.s p.kids.length = (ds[j2].cons[k2].args.length == p.kids.length) by unfold argsOk; rw [hcc])
    have d1 : decide ((j2 : Int) < 0) = false := decide_eq_false (by omega)
    simp only [conI]
    have hl2 : b3 < w2.heap.size := Nat.lt_of_lt_of_le hSb3 B2.out.size
    have hl4 : b4 < w2.heap.size := Nat.lt_of_lt_of_le hSb4 B2.out.size
    clear hco hcc hx hy x0 x1 y0 h
    by_cases hq : ds[j2].cons[k2].args.length = p.kids.length
    ·
     have hne : ((ds[j2].cons[k2].args.length : Int) != (p.kids.length : Int)) = false := by rw [bne, hq]; simp
     have HV2 := LH (show conOk ds p = p.kids.all (conOk ds) by rw [HV.out, HAK.out, hq]; simp)
     clear hq
     go_wp2_with fail
     go_simp
     go_big_quiet (fail)
     obtain ⟨w4, e4⟩ : ∃ w4, w4 = w2.drewN nq := ⟨_, rfl⟩
     rw [← e4]
     have E4 := LH (show Below w0.heap.size w0 w4 by rw [e4]; exact E2.out.trans ⟨rfl, rfl, rfl, by show w2.heap.size ≤ w2.heap.size; exact Nat.le_refl _, fun _ _ => rfl⟩)
     have RP4 := LH (show Row w4 (w.heap.size + 1) 39 #[.int .i64 p.op, .int .i64 p.n, .string p.s, .string p.t, .slice A1 p.kids.length c1] by rw [e4]; exact RP2.out)
     have hcp4 := fun i => RP4.out.cell i
     have HA4 := LH (HAL.out w4 E4.out)
     clear e4 hcl hcp x2 y1
     go_wp2_with fail
     refine HA4.out.mono ?_
     rintro e w5 ⟨rfl, hb5⟩
     go_wp2_with fail
     go_ret
     exact ⟨congrArg (fun b => Ending.returned (Value.bool b)) HV2.out.symm, (E0.out.trans (E4.out.mono E0.out.size)).trans (hb5.mono (E0.out.trans (E4.out.mono E0.out.size)).size)⟩
    ·
     have hne : ((ds[j2].cons[k2].args.length : Int) != (p.kids.length : Int)) = true := by rw [bne, show ((ds[j2].cons[k2].args.length : Int) == (p.kids.length : Int)) = false from by rw [beq_eq_false_iff_ne]; omega]; rfl
     have HF := LH (show conOk ds p = false by rw [HV.out, HAK.out, show (ds[j2].cons[k2].args.length == p.kids.length) = false from by rw [beq_eq_false_iff_ne]; exact hq]; rfl)
     clear hq
     go_wp2_with fail
     go_simp
     go_big_quiet (fail)
     go_wp2_with fail
     go_ret
     exact ⟨congrArg (fun b => Ending.returned (Value.bool b)) HF.out.symm, B2.out.trans ⟨rfl, rfl, rfl, Nat.le_refl _, fun _ _ => rfl⟩⟩
set_option maxHeartbeats 400000
set_option maxHeartbeats 1000000
def zeroN : GNode := .mk 0 0 ByteArray.empty ByteArray.empty []
def patI (a : GNode) : GNode := a.kids.headD zeroN
def rowsOf (f : GNode → GNode) (alts : List GNode) : List (List GNode) := alts.map fun a => [f a]
theorem anyN_cells (w : World) (S : Nat → Prop) : anyN.toD.rd w S [.int .i64 17, .int .i64 0, .string ⟨#[]⟩, .string ⟨#[]⟩, .slice none 0 0] := anyN_rd w S 0 (Nat.zero_le _) none
theorem rowsOf_take {f : GNode → GNode} {alts : List GNode} {j : Nat} (h : j < alts.length) : rowsOf f (alts.take (j + 1)) = rowsOf f (alts.take j) ++ [[f alts[j]]] := by
 unfold rowsOf; rw [take_snoc' alts j h, List.map_append]; rfl
theorem patOf_cons {a k : GNode} {r : List GNode} (h : a.kids = k :: r) : patOf a = k := by unfold patOf hd; rw [h]; rfl
theorem patOf_nil {a : GNode} (h : a.kids = []) : patOf a = anyN := by unfold patOf hd; rw [h]; rfl
theorem patI_cons {a k : GNode} {r : List GNode} (h : a.kids = k :: r) : patI a = k := by unfold patI; rw [h]; rfl
theorem patI_nil {a : GNode} (h : a.kids = []) : patI a = zeroN := by unfold patI; rw [h]; rfl
def PatTo (S : Nat → Prop) (p : GNode) (w : World) (e : Ending) (w' : World) : Prop := ∃ A c, e = .returned (.agg #[.int .i64 p.op, .int .i64 p.n, .string p.s, .string p.t, .slice A p.kids.length c]) ∧ GNode.At w' S A c p ∧ Below w.heap.size w w'
theorem implPatternOf (S : Nat → Prop) (a : GNode) (A1 : Option Addr) (c1 : Nat) (w : World) (hS : ∀ b, S b → b < w.heap.size) (hat : GNode.At w S A1 c1 a) :
 Calls Tryz.prog 16 #[.agg #[.int .i64 a.op, .int .i64 a.n, .string a.s, .string a.t, .slice A1 a.kids.length c1]] w (PatTo S (patI a) w) := by
 have HSS := LH hS
 clear hS
 obtain ⟨w0, e0⟩ : ∃ w0, w0 = (w.alloc (.cells #[.int .i64 a.op, .int .i64 a.n, .string a.s, .string a.t, .slice A1 a.kids.length c1] 39)).alloc (.cells #[.int .i64 0, .int .i64 0, .string ⟨#[]⟩, .string ⟨#[]⟩, .slice none 0 0] 39) := ⟨_, rfl⟩
 have E0 := LH (show Below w.heap.size w w0 by rw [e0]; exact ((Below.refl _ _).alloc (Nat.le_refl _) _).alloc (by simp) _)
 have hkm : a.kids.length ≤ 9223372036854775807 := by simpa using hat.2.2.2.2.len
 cases hks : a.kids with
 | nil =>
  have HV := LH (patI_nil hks)
  have EQ := LH e0
  rw [hks] at EQ
  clear hks hat e0
  go_enter Tryz.func16, Tryz.ntmps16
  go_wp2_with fail
  refine bodyPost_ret (v := .agg #[.int .i64 0, .int .i64 0, .string ⟨#[]⟩, .string ⟨#[]⟩, .slice none 0 0]) (by simp [results, Tryz.results16, go_sem]) rfl ?_
  rw [HV.out]
  refine ⟨none, 0, rfl, ⟨(show (Lit.int IntKind.i64 0).wf = true by decide), (show (Lit.int IntKind.i64 0).wf = true by decide), (show ByteArray.empty.size ≤ maxLen by unfold maxLen; simp), (show ByteArray.empty.size ≤ maxLen by unfold maxLen; simp), Sl.nil (Nat.zero_le _)⟩, ?_⟩
  have := E0.out
  rw [EQ.out] at this
  exact this
 | cons k r =>
  have hat2 := hat.2.2.2.2
  rw [hks] at hat2
  obtain ⟨b, off, A2, c2, rfl, hSb, q0, q1, q2, q3, q4, hk⟩ := GNode.elem hat2 0 (by simp)
  simp only [Nat.zero_mul, Nat.add_zero, List.getElem_cons_zero] at q0 q1 q2 q3 q4 hk
  have HV := LH (patI_cons hks)
  have HK := LH hk
  have k0 := (E0.out.cell (p := ⟨b, off, none⟩) (HSS.out b hSb)).trans q0
  have k1 := (E0.out.cell (p := ⟨b, off + 1, none⟩) (HSS.out b hSb)).trans q1
  have k2 := (E0.out.cell (p := ⟨b, off + 2, none⟩) (HSS.out b hSb)).trans q2
  have k3 := (E0.out.cell (p := ⟨b, off + 3, none⟩) (HSS.out b hSb)).trans q3
  have k4 := (E0.out.cell (p := ⟨b, off + 4, none⟩) (HSS.out b hSb)).trans q4
  rw [e0] at k0 k1 k2 k3 k4
  have EQ := LH e0
  have hl : a.kids.length = r.length + 1 := by rw [hks]; rfl
  rw [hl] at hkm EQ k0 k1 k2 k3 k4
  rw [List.length_cons]
  clear hks hat e0 hat2 hk q0 q1 q2 q3 q4 hl
  go_enter Tryz.func16, Tryz.ntmps16
  go_wp2_with fail
  refine bodyPost_ret (v := .agg #[.int .i64 k.op, .int .i64 k.n, .string k.s, .string k.t, .slice A2 k.kids.length c2]) (by simp [results, Tryz.results16, go_sem]) rfl ?_
  rw [HV.out]
  exact (fun (BB : Below w.heap.size w _) => ⟨A2, c2, rfl, HK.out.keep fun x hx => ⟨hx, BB.block x (HSS.out x hx)⟩, BB⟩) (((Below.refl _ _).alloc (Nat.le_refl _) _).alloc (by simp) _)
set_option maxHeartbeats 2000000
theorem specMadeAsk (g : Nat) (dv : Value) (k many : Nat) (rows : List GTrow) (A : Option Addr) (c : Nat) (w : World) (hIH : MadeOk g dv k) (h : ¬ 300 < many + 1) (hk : 300 < many + (k + 1)) (hk2 : k ≤ 1000) (hok : RowsOk many rows) (hl : 0 < rows.length) (hl2 : rows.length ≤ 1048576) (ha : 0 < rows[0].asks.length) (hrow : Row w g 72 #[dv, .int .i64 many, .bool (decide (many ≤ 300))]) (hs : Sl w (fun b => b < w.heap.size ∧ b ≠ g) 2 A c (rows.map GTrow.toD)) :
 Calls Tryz.prog 23 #[.pointer (some ⟨g, 0, none⟩), .slice A rows.length c] w (ToMade g dv (growV (k + 1) many rows) w) := by
 have hv := growV_ask (k := k) h hl ha
 have RW := LH (show Row w g 72 #[dv, .int .i64 many, .bool true] by rw [show decide (many ≤ 300) = true from decide_eq_true (by omega)] at hrow; exact hrow)
 have hgl := hrow.lt
 have hcw := fun i => RW.out.cell i
 have hfw := fun i => RW.out.frozen i
 have hwr : IntKind.i64.wrap ((many : Int) + 1) = (many : Int) + 1 := (IntWalk.i64_left _).trans (IntWalk.wrap64_in ((many : Int) + 1) (by omega))
 have dm : decide ((300 : Int) < (many : Int) + 1) = false := decide_eq_false (by omega)
 have HF := LH (show decide (many + 1 ≤ 300) = true from decide_eq_true (by omega))
 have HS := LH hs
 have HOK := LH hok
 have HIH := LH hIH
 obtain ⟨b, off, B1, d1, rfl, hSb, g0, g1, hat⟩ := GTrow.elem hs 0 hl
 obtain ⟨b2, off2, A1, c1, A2, c2, rfl, hSb2, q0, q1, q2, q3, q4, q5, hatk⟩ := GAsk.elem hat.2 0 ha
 have hbl := hSb.1
 have hbg := hSb.2
 have hbl2 := hSb2.1
 have hbg2 := hSb2.2
 have dl : ((rows.length : Int) == 0) = false := by rw [beq_eq_false_iff_ne]; omega
 have dl2 : ((rows[0].asks.length : Int) == 0) = false := by rw [beq_eq_false_iff_ne]; omega
 have hla2 : rows[0].asks.length ≤ 1048576 := Nat.le_trans (asksM_len _) (hok _ (List.getElem_mem hl)).1
 have hap := ((hok _ (List.getElem_mem hl)).2 _ (List.getElem_mem ha)).2
 obtain ⟨n1, hn1⟩ : ∃ n1, rows[0].asks.length = n1 := ⟨_, rfl⟩
 obtain ⟨a, hea⟩ : ∃ a, rows[0].asks[0] = a := ⟨_, rfl⟩
 rw [hea] at q0 q1 q2 q3 q4 q5 hatk hap hv
 rw [hn1] at g1 dl2 ha hla2
 obtain ⟨p, hp⟩ : ∃ p, growV k (many + 1) (yesR a rows) = p := ⟨_, rfl⟩
 rw [hp] at hv
 obtain ⟨q, hq⟩ : ∃ q, growV k p.2 (noR a rows) = q := ⟨_, rfl⟩
 rw [hq] at hv
 have HV := LH hv
 have HP := LH hp
 have HQ := LH hq
 have HA := LH hatk
 simp only [Nat.zero_mul, Nat.add_zero] at g0 g1 q0 q1 q2 q3 q4 q5
 clear hrow hs hat hatk hSb hSb2 hv hp hq hea hn1 hok hIH g0
 go_enter Tryz.func23, Tryz.ntmps23
 refine wp_hide (fun BP hBP => ?_)
 have HBP := LH hBP
 clear hBP
 go_upto_region 11 with (fail)
 obtain ⟨w2, e2⟩ : ∃ w2, w2 = ((w.setCell ⟨g, 1, none⟩ (.int .i64 ((many : Int) + 1))).alloc (.cells #[.int .i64 0, .int .i64 0, .slice none 0 0, .string ⟨#[]⟩, .slice none 0 0] 34)).alloc (.cells #[.slice A1 a.path.length c1, .int .i64 a.pat.op, .int .i64 a.pat.n, .string a.pat.s, .string a.pat.t, .slice A2 a.pat.kids.length c2] 69) := ⟨_, rfl⟩
 rw [← e2]
 have X2 := LH (show Bx g w w2 by rw [e2]; exact (((Bx.refl g w).set (p := ⟨g, 1, none⟩) (.inl rfl) _).alloc _).alloc _)
 have RG2 := LH (show Row w2 g 72 #[dv, .int .i64 ((many : Int) + 1), .bool true] by rw [e2]; exact ((RW.out.set 1 _).alloc _).alloc _)
 have RB2 := LH (show Row w2 w.heap.size 34 #[.int .i64 0, .int .i64 0, .slice none 0 0, .string ⟨#[]⟩, .slice none 0 0] by rw [e2]; exact (Row.new' _ _ _ (by simp [World.setCell])).alloc _)
 have RA2 := LH (show Row w2 (w.heap.size + 1) 69 #[.slice A1 a.path.length c1, .int .i64 a.pat.op, .int .i64 a.pat.n, .string a.pat.s, .string a.pat.t, .slice A2 a.pat.kids.length c2] by rw [e2]; exact Row.new' _ _ _ (by simp [World.setCell]))
 have hz2 : w.heap.size + 2 = w2.heap.size := by rw [e2]; simp [World.setCell]
 have HZ2 := LH hz2
 have hz2' : w.heap.size + 2 ≤ w2.heap.size := Nat.le_of_eq hz2
 have HA2 := LH (HA.out.keep (w' := w2) (S' := fun b => b < w2.heap.size ∧ b ≠ g) fun q hq => ⟨⟨Nat.lt_of_lt_of_le hq.1 X2.out.size, hq.2⟩, X2.out.block q hq.1 hq.2⟩)
 have hca := fun i => RA2.out.cell i
 have hla := RA2.out.lt
 have HF5 := LH (fun (x : World) (hx : Below w2.heap.size w2 x) => show ∀ i, x.cell? ⟨w.heap.size + 1, i, none⟩ = (#[.slice A1 a.path.length c1, .int .i64 a.pat.op, .int .i64 a.pat.n, .string a.pat.s, .string a.pat.t, .slice A2 a.pat.kids.length c2] : Array Value)[i]? from fun i => (RA2.out.below hx RA2.out.lt).cell i)
 have HT5 := LH (fun (x : World) (be : Nat) (hx : Below w2.heap.size w2 x) (hbe : w2.heap.size ≤ be) => show Sl x (fun b => b < x.heap.size ∧ (Value.slice (some ⟨be, 0, none⟩) 0 0).ownBlock ≠ some b ∧ AnyB b) 1 A1 c1 (a.path.map (D.num .i64)) from
   HA2.out.1.keep fun q hq => ⟨⟨Nat.lt_of_lt_of_le hq.1 hx.size, fun e => by have := own_ge e; have := hq.1; omega, trivial⟩, hx.block q hq.1⟩)
 clear hcw hfw e2 hz2
 have GA5 := LH (show Grx AnyB (w2.alloc (.cells #[] 3)).drew w2.heap.size 3 1 (.slice (some ⟨w2.heap.size, 0, none⟩) 0 0) 0 [] from Grx.made (Row.new w2 _ _) (Nat.le_refl _))
 have GB5 := LH (show Grx AnyB ((w2.alloc (.cells #[] 3)).alloc (.cells #[.int .i64 0, .int .i64 0, .slice none 0 0, .string ⟨#[]⟩, .slice none 0 0] 34)).drew w2.heap.size 3 1 (.slice (some ⟨w2.heap.size, 0, none⟩) 0 0) 0 [] from Grx.made ((Row.new w2 _ _).alloc _) (Nat.le_refl _))
 have GC5 := LH (show Grx AnyB ((w2.alloc (.cells #[.int .i64 0, .int .i64 0, .slice none 0 0, .string ⟨#[]⟩, .slice none 0 0] 34)).alloc (.cells #[] 3)).drew w2.heap.size 3 1 (.slice (some ⟨w2.heap.size + 1, 0, none⟩) 0 0) 0 [] from Grx.made (show Row ((w2.alloc (.cells #[.int .i64 0, .int .i64 0, .slice none 0 0, .string ⟨#[]⟩, .slice none 0 0] 34)).alloc (.cells #[] 3)) (w2.heap.size + 1) 3 #[] from Row.new' _ _ _ (by simp)) (Nat.le_succ _))
 have RB5 := LH (show Row ((w2.alloc (.cells #[] 3)).alloc (.cells #[.int .i64 0, .int .i64 0, .slice none 0 0, .string ⟨#[]⟩, .slice none 0 0] 34)).drew (w2.heap.size + 1) 34 #[.int .i64 0, .int .i64 0, .slice none 0 0, .string ⟨#[]⟩, .slice none 0 0] from (show Row ((w2.alloc (.cells #[] 3)).alloc (.cells #[.int .i64 0, .int .i64 0, .slice none 0 0, .string ⟨#[]⟩, .slice none 0 0] 34)) (w2.heap.size + 1) 34 #[.int .i64 0, .int .i64 0, .slice none 0 0, .string ⟨#[]⟩, .slice none 0 0] from Row.new' _ _ _ (by simp)))
 have RC5 := LH (show Row ((w2.alloc (.cells #[.int .i64 0, .int .i64 0, .slice none 0 0, .string ⟨#[]⟩, .slice none 0 0] 34)).alloc (.cells #[] 3)).drew w2.heap.size 34 #[.int .i64 0, .int .i64 0, .slice none 0 0, .string ⟨#[]⟩, .slice none 0 0] from (Row.new w2 _ _).alloc _)
 have NB5 := LH (show (Value.slice (some ⟨w2.heap.size, 0, none⟩) 0 0).ownBlock ≠ some (w2.heap.size + 1) by simp [Value.ownBlock])
 have NC5 := LH (show (Value.slice (some ⟨w2.heap.size + 1, 0, none⟩) 0 0).ownBlock ≠ some w2.heap.size by simp [Value.ownBlock])
 obtain ⟨oe, hoe⟩ : ∃ oe, oe = Obj.cells #[] 3 := ⟨_, rfl⟩
 obtain ⟨on, hon⟩ : ∃ on, on = Obj.cells #[.int .i64 0, .int .i64 0, .slice none 0 0, .string ⟨#[]⟩, .slice none 0 0] 34 := ⟨_, rfl⟩
 have EA := LH (show Below w2.heap.size w2 (w2.alloc oe).drew from ((Below.refl _ _).alloc (Nat.le_refl _) _).drew)
 have EB := LH (show Below w2.heap.size w2 ((w2.alloc oe).alloc on).drew from (((Below.refl _ _).alloc (Nat.le_refl _) _).alloc (by simp) _).drew)
 have EC := LH (show Below w2.heap.size w2 ((w2.alloc on).alloc oe).drew from (((Below.refl _ _).alloc (Nat.le_refl _) _).alloc (by simp) _).drew)
 have ED := LH (show Below w2.heap.size w2 (w2.alloc on).drew from ((Below.refl _ _).alloc (Nat.le_refl _) _).drew)
 rw [hoe] at EA EB EC
 rw [hon] at EB EC ED
 clear hoe hon
 go_cut [6] from 51 to 58 (fun v x => ∃ (n3 : Nat) (A6 : Option Addr) (c6 : Nat), v = .pointer (some ⟨n3, 0, none⟩) ∧ Hid (Below w2.heap.size w2 x) ∧ Hid (Row x n3 34 #[.int .i64 4, .int .i64 a.pat.n, .slice A6 a.path.length c6, .string ⟨#[]⟩, .slice none 0 0]) ∧ Hid (Osl x (fun b => (w2.heap.size ≤ b ∧ b < x.heap.size) ∧ b ≠ n3) 1 A6 c6 (a.path.map (D.num .i64))) ∧ w2.heap.size ≤ n3)
 case first =>
  refine wp_region_T (fun x => ∀ i, x.cell? ⟨w.heap.size + 1, i, none⟩ = (#[.slice A1 a.path.length c1, .int .i64 a.pat.op, .int .i64 a.pat.n, .string a.pat.s, .string a.pat.t, .slice A2 a.pat.kids.length c2] : Array Value)[i]?) 9 (by kernel_rfl) ?_
  have hS1 := HF5.out _ ((Below.refl w2.heap.size w2).drew)
  refine wpAnyT_take (i := 0) (oi := _) (v := ?tv1) rfl (by kernel_rfl) (by kernel_rfl) (by kernel_rfl) (by kernel_rfl) (fun _ _ _ h => h) (Or.inl ⟨by rfl, ?th1⟩) hS1 ?_
  case th1 => (intro x hSx; (try dsimp only at hSx); go_simp; (try with_reducible rfl))
  try simp only [List.getElem_toArray, List.getElem_cons_succ, List.getElem_cons_zero, Act.put, List.setIfInBounds_toArray, List.set_cons_zero, List.set_cons_succ]
  refine wpAnyT_take (i := 1) (oi := _) (v := ?tv2) rfl (by kernel_rfl) (by kernel_rfl) (by kernel_rfl) (by kernel_rfl) (fun _ _ _ h => h) (Or.inl ⟨by rfl, ?th2⟩) hS1 ?_
  case th2 => (intro x hSx; (try dsimp only at hSx); go_simp; (try with_reducible rfl))
  try simp only [List.getElem_toArray, List.getElem_cons_succ, List.getElem_cons_zero, Act.put, List.setIfInBounds_toArray, List.set_cons_zero, List.set_cons_succ]
  refine wpAnyT_take (i := 2) (oi := _) (v := ?tv3) rfl (by kernel_rfl) (by kernel_rfl) (by kernel_rfl) (by kernel_rfl) (fun _ _ _ h => h) (Or.inl ⟨by rfl, ?th3⟩) hS1 ?_
  case th3 => (intro x hSx; (try dsimp only at hSx); go_simp; (try with_reducible rfl))
  try simp only [List.getElem_toArray, List.getElem_cons_succ, List.getElem_cons_zero, Act.put, List.setIfInBounds_toArray, List.set_cons_zero, List.set_cons_succ]
  refine wpAnyT_take (i := 4) (oi := _) (v := ?tv4) rfl (by kernel_rfl) (by kernel_rfl) (by kernel_rfl) (by kernel_rfl) (fun _ _ _ h => h) (Or.inl ⟨by rfl, ?th4⟩) hS1 ?_
  case th4 => (intro x hSx; (try dsimp only at hSx); go_simp; (try with_reducible rfl))
  try simp only [List.getElem_toArray, List.getElem_cons_succ, List.getElem_cons_zero, Act.put, List.setIfInBounds_toArray, List.set_cons_zero, List.set_cons_succ]
  refine wpAnyT_take (i := 5) (oi := _) (v := ?tv5) rfl (by kernel_rfl) (by kernel_rfl) (by kernel_rfl) (by kernel_rfl) (fun _ _ _ h => h) (Or.inl ⟨by rfl, ?th5⟩) hS1 ?_
  case th5 => (intro x hSx; (try dsimp only at hSx); go_simp; (try with_reducible rfl))
  try simp only [List.getElem_toArray, List.getElem_cons_succ, List.getElem_cons_zero, Act.put, List.setIfInBounds_toArray, List.set_cons_zero, List.set_cons_succ]
  refine wpAnyT_two (i := 3) (j := 8) (by kernel_rfl) rfl rfl (fun K hK => ?_) (fun K hK => ?_)
  ·
   try simp only [List.getElem_toArray, List.getElem_cons_succ, List.getElem_cons_zero]
   go_simp
   refine hK.out _ _ (HF5.out _ EA.out) (fun hS2 => ?_)
   clear hK K hS1
   try simp only [List.getElem_toArray, List.getElem_cons_succ, List.getElem_cons_zero, Act.put, List.setIfInBounds_toArray, List.set_cons_zero, List.set_cons_succ]
   refine wpAnyT_two (i := 6) (j := 8) (by kernel_rfl) rfl rfl (fun K hK => ?_) (fun K hK => ?_)
   ·
    skip
    refine step_append_X _ rfl (.tmp 54) (.tmp 56) 31 rfl 3 (.int .i64 0) 1 8 Tryz.underlying31 (by kernel_rfl) rfl (by omega) w2.heap.size (.slice (some ⟨w2.heap.size, 0, none⟩) 0 0) 0 [] GA5.out A1 c1 a.path.length _ (by simp) (HT5.out _ _ EA.out (by omega)) EA.out.size (by unfold maxLen; omega) (by omega) rfl rfl ?_
    intro A6 c6 w6 G6 hGr6
    have HG6 := LH (show Grx AnyB w6 w2.heap.size 3 1 (.slice A6 a.path.length c6) a.path.length (a.path.map (D.num .i64)) by simpa using G6)
    have HE6 := LH (show Value.slice A6 (0 + a.path.length) c6 = .slice A6 a.path.length c6 by rw [Nat.zero_add])
    have E6 := LH (EA.out.trans (hGr6.below EA.out.size (fun g hg => Nat.le_trans (by omega) (own_ge hg))))
    clear G6 hGr6
    rw [HE6.out]
    refine hK.out _ _ (HF5.out _ E6.out) (fun hS3 => ?_)
    clear hK K hS2
    try simp only [List.getElem_toArray, List.getElem_cons_succ, List.getElem_cons_zero, Act.put, List.setIfInBounds_toArray, List.set_cons_zero, List.set_cons_succ]
    refine wpAnyT_take (i := 7) (oi := _) (v := ?tv6) rfl (by kernel_rfl) (by kernel_rfl) (by kernel_rfl) (by kernel_rfl) (fun _ _ _ h => h) (Or.inl ⟨by rfl, ?th6⟩) hS3 ?_
    case th6 => (intro x hSx; (try dsimp only at hSx); go_simp; (try with_reducible rfl))
    try simp only [List.getElem_toArray, List.getElem_cons_succ, List.getElem_cons_zero, Act.put, List.setIfInBounds_toArray, List.set_cons_zero, List.set_cons_succ]
    refine wpAnyT_step (i := 8) (by kernel_rfl) rfl (fun K hK => ?_)
    try simp only [List.getElem_toArray, List.getElem_cons_succ, List.getElem_cons_zero]
    go_simp
    refine hK.out _ _ (HF5.out _ (E6.out.alloc E6.out.size _)) (fun hS4 => ?_)
    clear hK K hS3
    try simp only [List.getElem_toArray, List.getElem_cons_succ, List.getElem_cons_zero, Act.put, List.setIfInBounds_toArray, List.set_cons_zero, List.set_cons_succ]
    refine wpAnyT_last (by kernel_rfl) (by kernel_rfl) rfl (fun K hK => ?_)
    try simp only [List.getElem_toArray, List.getElem_cons_succ, List.getElem_cons_zero]
    go_simp
    refine hK.out _ _ ?_
    clear hK K
    try simp only [List.getElem_toArray, List.getElem_cons_succ, List.getElem_cons_zero, Act.put, List.setIfInBounds_toArray, List.set_cons_zero, List.set_cons_succ]
    obtain ⟨w7, e7⟩ : ∃ w7, w7 = w6.alloc (.cells #[.int .i64 4, .int .i64 a.pat.n, .slice A6 a.path.length c6, .string ⟨#[]⟩, .slice none 0 0] 34) := ⟨_, rfl⟩
    rw [← e7]
    have K7 := fun b (hb : (Value.slice A6 a.path.length c6).ownBlock = some b) => show ((w2.heap.size ≤ b ∧ b < w7.heap.size) ∧ b ≠ w6.heap.size) ∧ w7.heap[b]? = w6.heap[b]? from by
     have h1 := HG6.out.own b hb
     rw [e7]
     exact ⟨⟨⟨h1.1, by simp; omega⟩, by omega⟩, Below.heap_alloc _ _ _ h1.2⟩
    have O7 := LH (show Osl w7 (fun b => (w2.heap.size ≤ b ∧ b < w7.heap.size) ∧ b ≠ w6.heap.size) 1 A6 c6 (a.path.map (D.num .i64)) by
      obtain ⟨A5, c5, e5, h5⟩ := HG6.out.oslOwn
      obtain ⟨rfl, rfl⟩ : A6 = A5 ∧ c6 = c5 := by simpa using e5
      exact h5.keep fun b hb => K7 b hb)
    have E7 := LH (show Below w2.heap.size w2 w7 by rw [e7]; exact E6.out.alloc E6.out.size _)
    have R7 := LH (show Row w7 w6.heap.size 34 #[.int .i64 4, .int .i64 a.pat.n, .slice A6 a.path.length c6, .string ⟨#[]⟩, .slice none 0 0] by rw [e7]; exact Row.new w6 _ _)
    have hn7 := E6.out.size
    clear e7 K7
    go_wp2_with fail
    go_meet
    exact ⟨w6.heap.size, A6, c6, rfl, E7, R7, O7, hn7⟩
   ·
    try simp only [List.getElem_toArray, List.getElem_cons_succ, List.getElem_cons_zero]
    go_simp
    refine hK.out _ _ (HF5.out _ EB.out) (fun hS3 => ?_)
    clear hK K hS2
    try simp only [List.getElem_toArray, List.getElem_cons_succ, List.getElem_cons_zero, Act.put, List.setIfInBounds_toArray, List.set_cons_zero, List.set_cons_succ]
    refine wpAnyT_step (i := 6) (by kernel_rfl) rfl (fun K hK => ?_)
    refine step_append_X _ rfl (.tmp 54) (.tmp 56) 31 rfl 3 (.int .i64 0) 1 8 Tryz.underlying31 (by kernel_rfl) rfl (by omega) w2.heap.size (.slice (some ⟨w2.heap.size, 0, none⟩) 0 0) 0 [] GB5.out A1 c1 a.path.length _ (by simp) (HT5.out _ _ EB.out (by omega)) EB.out.size (by unfold maxLen; omega) (by omega) rfl rfl ?_
    intro A6 c6 w6 G6 hGr6
    have HG6 := LH (show Grx AnyB w6 w2.heap.size 3 1 (.slice A6 a.path.length c6) a.path.length (a.path.map (D.num .i64)) by simpa using G6)
    have HE6 := LH (show Value.slice A6 (0 + a.path.length) c6 = .slice A6 a.path.length c6 by rw [Nat.zero_add])
    have E6 := LH (EB.out.trans (hGr6.below EB.out.size (fun g hg => Nat.le_trans (by omega) (own_ge hg))))
    have RN6 := LH (hGr6.row RB5.out NB5.out)
    have NN6 := LH (show (Value.slice A6 a.path.length c6).ownBlock ≠ some (w2.heap.size + 1) by rw [← HE6.out]; exact hGr6.ne NB5.out RB5.out.lt)
    have hcn6 := fun i => RN6.out.cell i
    have hfn6 := fun i => RN6.out.frozen i
    clear G6 hGr6
    rw [HE6.out]
    refine hK.out _ _ (HF5.out _ E6.out) (fun hS4 => ?_)
    clear hK K hS3
    try simp only [List.getElem_toArray, List.getElem_cons_succ, List.getElem_cons_zero, Act.put, List.setIfInBounds_toArray, List.set_cons_zero, List.set_cons_succ]
    refine wpAnyT_take (i := 7) (oi := _) (v := ?tv7) rfl (by kernel_rfl) (by kernel_rfl) (by kernel_rfl) (by kernel_rfl) (fun _ _ _ h => h) (Or.inl ⟨by rfl, ?th7⟩) hS4 ?_
    case th7 => (intro x hSx; (try dsimp only at hSx); go_simp; (try with_reducible rfl))
    try simp only [List.getElem_toArray, List.getElem_cons_succ, List.getElem_cons_zero, Act.put, List.setIfInBounds_toArray, List.set_cons_zero, List.set_cons_succ]
    refine wpAnyT_last (by kernel_rfl) (by kernel_rfl) rfl (fun K hK => ?_)
    try simp only [List.getElem_toArray, List.getElem_cons_succ, List.getElem_cons_zero]
    go_simp
    refine hK.out _ _ ?_
    clear hK K
    try simp only [List.getElem_toArray, List.getElem_cons_succ, List.getElem_cons_zero, Act.put, List.setIfInBounds_toArray, List.set_cons_zero, List.set_cons_succ]
    obtain ⟨w7, e7⟩ : ∃ w7, w7 = ((((w6.setCell ⟨w2.heap.size + 1, 0, none⟩ (.int .i64 4)).setCell ⟨w2.heap.size + 1, 1, none⟩ (.int .i64 a.pat.n)).setCell ⟨w2.heap.size + 1, 2, none⟩ (.slice A6 a.path.length c6)).setCell ⟨w2.heap.size + 1, 3, none⟩ (.string ⟨#[]⟩)).setCell ⟨w2.heap.size + 1, 4, none⟩ (.slice none 0 0) := ⟨_, rfl⟩
    rw [← e7]
    have Q7 := LH (show ∀ b, b ≠ w2.heap.size + 1 → w7.heap[b]? = w6.heap[b]? from fun b hb => by rw [e7]; simp only [Below.heap_setCell _ _ _ b (show b ≠ (⟨w2.heap.size + 1, _, none⟩ : Addr).block from hb)])
    have hz7 : w7.heap.size = w6.heap.size := by rw [e7]; simp [World.setCell]
    have K7 := fun b (hb : (Value.slice A6 a.path.length c6).ownBlock = some b) => show ((w2.heap.size ≤ b ∧ b < w7.heap.size) ∧ b ≠ w2.heap.size + 1) ∧ w7.heap[b]? = w6.heap[b]? from by
     have h1 := HG6.out.own b hb
     have h2 : b ≠ w2.heap.size + 1 := fun e => NN6.out (by rw [← e]; exact hb)
     exact ⟨⟨⟨h1.1, by omega⟩, h2⟩, Q7.out b h2⟩
    have O7 := LH (show Osl w7 (fun b => (w2.heap.size ≤ b ∧ b < w7.heap.size) ∧ b ≠ w2.heap.size + 1) 1 A6 c6 (a.path.map (D.num .i64)) by
      obtain ⟨A5, c5, e5, h5⟩ := HG6.out.oslOwn
      obtain ⟨rfl, rfl⟩ : A6 = A5 ∧ c6 = c5 := by simpa using e5
      exact h5.keep fun b hb => K7 b hb)
    have E7 := LH (show Below w2.heap.size w2 w7 by rw [e7]; exact ((((E6.out.setCell (p := ⟨w2.heap.size + 1, 0, none⟩) (by simp) _).setCell (p := ⟨w2.heap.size + 1, 1, none⟩) (by simp) _).setCell (p := ⟨w2.heap.size + 1, 2, none⟩) (by simp) _).setCell (p := ⟨w2.heap.size + 1, 3, none⟩) (by simp) _).setCell (p := ⟨w2.heap.size + 1, 4, none⟩) (by simp) _)
    have R7 := LH (show Row w7 (w2.heap.size + 1) 34 #[.int .i64 4, .int .i64 a.pat.n, .slice A6 a.path.length c6, .string ⟨#[]⟩, .slice none 0 0] by rw [e7]; exact ((((RN6.out.set 0 _).set 1 _).set 2 _).set 3 _).set 4 _)
    clear e7 K7 Q7 hz7 hcn6 hfn6
    go_wp2_with fail
    go_meet
    exact ⟨w2.heap.size + 1, A6, c6, rfl, E7, R7, O7, by omega⟩
  ·
   try simp only [List.getElem_toArray, List.getElem_cons_succ, List.getElem_cons_zero]
   go_simp
   refine hK.out _ _ (HF5.out _ ED.out) (fun hS2 => ?_)
   clear hK K hS1
   try simp only [List.getElem_toArray, List.getElem_cons_succ, List.getElem_cons_zero, Act.put, List.setIfInBounds_toArray, List.set_cons_zero, List.set_cons_succ]
   refine wpAnyT_step (i := 3) (by kernel_rfl) rfl (fun K hK => ?_)
   try simp only [List.getElem_toArray, List.getElem_cons_succ, List.getElem_cons_zero]
   go_simp
   refine hK.out _ _ (HF5.out _ EC.out) (fun hS3 => ?_)
   clear hK K hS2
   try simp only [List.getElem_toArray, List.getElem_cons_succ, List.getElem_cons_zero, Act.put, List.setIfInBounds_toArray, List.set_cons_zero, List.set_cons_succ]
   refine wpAnyT_step (i := 6) (by kernel_rfl) rfl (fun K hK => ?_)
   refine step_append_X _ rfl (.tmp 54) (.tmp 56) 31 rfl 3 (.int .i64 0) 1 8 Tryz.underlying31 (by kernel_rfl) rfl (by omega) w2.heap.size (.slice (some ⟨w2.heap.size + 1, 0, none⟩) 0 0) 0 [] GC5.out A1 c1 a.path.length _ (by simp) (HT5.out _ _ EC.out (by omega)) EC.out.size (by unfold maxLen; omega) (by omega) rfl rfl ?_
   intro A6 c6 w6 G6 hGr6
   have HG6 := LH (show Grx AnyB w6 w2.heap.size 3 1 (.slice A6 a.path.length c6) a.path.length (a.path.map (D.num .i64)) by simpa using G6)
   have HE6 := LH (show Value.slice A6 (0 + a.path.length) c6 = .slice A6 a.path.length c6 by rw [Nat.zero_add])
   have E6 := LH (EC.out.trans (hGr6.below EC.out.size (fun g hg => Nat.le_trans (by omega) (own_ge hg))))
   have RN6 := LH (hGr6.row RC5.out NC5.out)
   have NN6 := LH (show (Value.slice A6 a.path.length c6).ownBlock ≠ some w2.heap.size by rw [← HE6.out]; exact hGr6.ne NC5.out RC5.out.lt)
   have hcn6 := fun i => RN6.out.cell i
   have hfn6 := fun i => RN6.out.frozen i
   clear G6 hGr6
   rw [HE6.out]
   refine hK.out _ _ (HF5.out _ E6.out) (fun hS4 => ?_)
   clear hK K hS3
   try simp only [List.getElem_toArray, List.getElem_cons_succ, List.getElem_cons_zero, Act.put, List.setIfInBounds_toArray, List.set_cons_zero, List.set_cons_succ]
   refine wpAnyT_take (i := 7) (oi := _) (v := ?tv8) rfl (by kernel_rfl) (by kernel_rfl) (by kernel_rfl) (by kernel_rfl) (fun _ _ _ h => h) (Or.inl ⟨by rfl, ?th8⟩) hS4 ?_
   case th8 => (intro x hSx; (try dsimp only at hSx); go_simp; (try with_reducible rfl))
   try simp only [List.getElem_toArray, List.getElem_cons_succ, List.getElem_cons_zero, Act.put, List.setIfInBounds_toArray, List.set_cons_zero, List.set_cons_succ]
   refine wpAnyT_last (by kernel_rfl) (by kernel_rfl) rfl (fun K hK => ?_)
   try simp only [List.getElem_toArray, List.getElem_cons_succ, List.getElem_cons_zero]
   go_simp
   refine hK.out _ _ ?_
   clear hK K
   try simp only [List.getElem_toArray, List.getElem_cons_succ, List.getElem_cons_zero, Act.put, List.setIfInBounds_toArray, List.set_cons_zero, List.set_cons_succ]
   obtain ⟨w7, e7⟩ : ∃ w7, w7 = ((((w6.setCell ⟨w2.heap.size, 0, none⟩ (.int .i64 4)).setCell ⟨w2.heap.size, 1, none⟩ (.int .i64 a.pat.n)).setCell ⟨w2.heap.size, 2, none⟩ (.slice A6 a.path.length c6)).setCell ⟨w2.heap.size, 3, none⟩ (.string ⟨#[]⟩)).setCell ⟨w2.heap.size, 4, none⟩ (.slice none 0 0) := ⟨_, rfl⟩
   rw [← e7]
   have Q7 := LH (show ∀ b, b ≠ w2.heap.size → w7.heap[b]? = w6.heap[b]? from fun b hb => by rw [e7]; simp only [Below.heap_setCell _ _ _ b (show b ≠ (⟨w2.heap.size, _, none⟩ : Addr).block from hb)])
   have hz7 : w7.heap.size = w6.heap.size := by rw [e7]; simp [World.setCell]
   have K7 := fun b (hb : (Value.slice A6 a.path.length c6).ownBlock = some b) => show ((w2.heap.size ≤ b ∧ b < w7.heap.size) ∧ b ≠ w2.heap.size) ∧ w7.heap[b]? = w6.heap[b]? from by
    have h1 := HG6.out.own b hb
    have h2 : b ≠ w2.heap.size := fun e => NN6.out (by rw [← e]; exact hb)
    exact ⟨⟨⟨h1.1, by omega⟩, h2⟩, Q7.out b h2⟩
   have O7 := LH (show Osl w7 (fun b => (w2.heap.size ≤ b ∧ b < w7.heap.size) ∧ b ≠ w2.heap.size) 1 A6 c6 (a.path.map (D.num .i64)) by
     obtain ⟨A5, c5, e5, h5⟩ := HG6.out.oslOwn
     obtain ⟨rfl, rfl⟩ : A6 = A5 ∧ c6 = c5 := by simpa using e5
     exact h5.keep fun b hb => K7 b hb)
   have E7 := LH (show Below w2.heap.size w2 w7 by rw [e7]; exact ((((E6.out.setCell (p := ⟨w2.heap.size, 0, none⟩) (by simp) _).setCell (p := ⟨w2.heap.size, 1, none⟩) (by simp) _).setCell (p := ⟨w2.heap.size, 2, none⟩) (by simp) _).setCell (p := ⟨w2.heap.size, 3, none⟩) (by simp) _).setCell (p := ⟨w2.heap.size, 4, none⟩) (by simp) _)
   have R7 := LH (show Row w7 (w2.heap.size) 34 #[.int .i64 4, .int .i64 a.pat.n, .slice A6 a.path.length c6, .string ⟨#[]⟩, .slice none 0 0] by rw [e7]; exact ((((RN6.out.set 0 _).set 1 _).set 2 _).set 3 _).set 4 _)
   clear e7 K7 Q7 hz7 hcn6 hfn6
   go_wp2_with fail
   go_meet
   exact ⟨w2.heap.size, A6, c6, rfl, E7, R7, O7, by omega⟩
 case rest =>
  clear GA5 GB5 GC5 RB5 RC5 NB5 NC5 EA EB EC ED oe on HT5 HF5
  obtain ⟨n3, A6, c6, rfl, C1, C2, C3, hn3⟩ := hcut
  have hcn3 := fun i => C2.out.cell i
  have hfn3 := fun i => C2.out.frozen i
  have RAc := LH (RA2.out.below C1.out RA2.out.lt)
  have hcac := fun i => RAc.out.cell i
  clear hca
  go_upto_if 62 with (fail)
  go_cut [6] from 59 to 68 (fun v x => v = .pointer (some ⟨n3, 0, none⟩) ∧ Hid (Below w2.heap.size w2 x) ∧ Hid (Row x n3 34 #[.int .i64 (askO a), .int .i64 (askN a), .slice A6 a.path.length c6, .string (askS a), .slice none 0 0]) ∧ Hid (Osl x (fun b => (w2.heap.size ≤ b ∧ b < x.heap.size) ∧ b ≠ n3) 1 A6 c6 (a.path.map (D.num .i64))) ∧ wc.heap.size ≤ x.heap.size)
  case first =>
   cases h20 : (a.pat.op == 20)
   case true =>
    have e20 : a.pat.op = 20 := by simpa using h20
    have HO := LH (show askO a = 3 ∧ askN a = 0 ∧ askS a = a.pat.s by unfold askO askN askS; simp [e20])
    clear e20
    go_wp2_with fail
    go_meet
    refine ⟨rfl, LH (((C1.out.setCell (p := ⟨n3, 0, none⟩) hn3 _).setCell (p := ⟨n3, 3, none⟩) hn3 _).setCell (p := ⟨n3, 1, none⟩) hn3 _), LH ?_, LH ?_, by simp [World.setCell]⟩
    · rw [HO.out.1, HO.out.2.1, HO.out.2.2]; exact ((C2.out.set 0 _).set 3 _).set 1 _
    · exact C3.out.keep fun b hb => ⟨⟨⟨hb.1.1, by simp [World.setCell]; exact hb.1.2⟩, hb.2⟩, (Below.heap_setCell _ ⟨n3, 1, none⟩ _ b hb.2).trans ((Below.heap_setCell _ ⟨n3, 3, none⟩ _ b hb.2).trans (Below.heap_setCell _ ⟨n3, 0, none⟩ _ b hb.2))⟩
   case false =>
    have e20 : ¬ a.pat.op = 20 := by simpa using h20
    have HO := LH (show askO a = 4 ∧ askN a = a.pat.n ∧ askS a = ⟨#[]⟩ by unfold askO askN askS; simp [e20])
    clear e20
    go_wp2_with fail
    go_meet
    exact ⟨rfl, C1, LH (by rw [HO.out.1, HO.out.2.1, HO.out.2.2]; exact C2.out), C3, Nat.le_refl _⟩
  case rest =>
   clear hcn3 hfn3 hcac RAc C2 C3
   obtain ⟨rfl, D1, D2, D3, hcd⟩ := hcut
   have hnd := D2.out.lt
   have hzd := D1.out.size
   have Xd := LH (X2.out.trans (Bx.of_below D1.out (Nat.le_refl _)))
   have RAd := LH (RA2.out.below D1.out RA2.out.lt)
   have hcad := fun i => RAd.out.cell i
   have RGd := LH (RG2.out.below D1.out RG2.out.lt)
   have RBd := LH (RB2.out.below D1.out RB2.out.lt)
   have hgw2 : g < w2.heap.size := by omega
   have HAd := LH (HA.out.keep (w' := wc) (S' := Lt wc.heap.size) fun x hx => ⟨Nat.lt_of_lt_of_le hx.1 Xd.out.size, Xd.out.block x hx.1 hx.2⟩)
   have hyy := specYes (fun b => b < w.heap.size ∧ b ≠ g) a rows (some ⟨b, off, none⟩) c A1 c1 A2 c2 wc hl2 many (by omega) hap HOK.out (fun x hx => Nat.lt_of_lt_of_le hx.1 Xd.out.size) (HS.out.keep fun x hx => ⟨hx, Xd.out.block x hx.1 hx.2⟩) HAd.out
   unfold askC at hyy
   have HYY := LH hyy
   clear hyy
   go_wp2_with fail
   refine HYY.out.mono ?_
   rintro e wy ⟨Ay, cy, rfl, hsy, hby⟩
   have EY := LH hby
   have Xy := LH (Xd.out.trans (Bx.of_below hby (Nat.le_refl _)))
   have hzy := hby.size
   have RGy := LH (RGd.out.below EY.out RGd.out.lt)
   have hia := HIH.out (many + 1) (yesR a rows) Ay cy wy (by omega) (by omega) (HOK.out.yes a hap) (Nat.le_trans (yesR_len a rows) hl2) (by rw [HF.out]; exact RGy.out) (hsy.keep fun x hx => ⟨⟨hx.2, by rcases hx.1 with h1 | h1; exact h1.2; omega⟩, rfl⟩)
   rw [HP.out] at hia
   have HIA := LH hia
   clear hia hsy hby HYY hcad
   go_wp2_with fail
   refine HIA.out.mono ?_
   rintro e wa ⟨P1, pc1, P2, pc2, rfl, hoa, hga, hxa⟩
   have OA := LH hoa
   have GA := LH hga
   have XA := LH hxa
   have hza := hxa.size
   clear hoa hga hxa HIA
   obtain ⟨wb, eb⟩ : ∃ wb, wb = wa.alloc (.cells #[.int .i64 p.1.op, .int .i64 p.1.n, .slice P1 p.1.path.length pc1, .string p.1.s, .slice P2 p.1.kids.length pc2] 34) := ⟨_, rfl⟩
   have Eb := LH (show Below wa.heap.size wa wb by rw [eb]; exact (Below.refl _ _).alloc (Nat.le_refl _) _)
   have hzb : wa.heap.size + 1 ≤ wb.heap.size := by rw [eb]; simp
   have Xb := LH ((Xy.out.trans XA.out).trans (Bx.of_below Eb.out (Nat.le_refl _)))
   have RPb := LH (show Row wb wa.heap.size 34 #[.int .i64 p.1.op, .int .i64 p.1.n, .slice P1 p.1.path.length pc1, .string p.1.s, .slice P2 p.1.kids.length pc2] by rw [eb]; exact Row.new _ _ _)
   have RAa := LH (XA.out.row (RAd.out.below EY.out RAd.out.lt) (by omega))
   have RAb := LH (RAa.out.below Eb.out RAa.out.lt)
   have RNa := LH (XA.out.row (D2.out.below EY.out D2.out.lt) (by omega))
   have RNb := LH (RNa.out.below Eb.out RNa.out.lt)
   have RBa := LH (XA.out.row (RBd.out.below EY.out RBd.out.lt) (by omega))
   have RBb := LH (RBa.out.below Eb.out RBa.out.lt)
   have RGb := LH (GA.out.below Eb.out GA.out.lt)
   have hcab := fun i => RAb.out.cell i
   have hp2 : many + 1 < p.2 ∧ p.2 ≤ max (many + 1 + 1) (301 + k) := by rw [← HP.out]; exact ⟨growV_less k _ _, growV_le k _ _⟩
   have HAb := LH (HA.out.keep (w' := wb) (S' := Lt wb.heap.size) fun x hx => ⟨Nat.lt_of_lt_of_le hx.1 Xb.out.size, Xb.out.block x hx.1 hx.2⟩)
   have hnn := specNo (fun b => b < w.heap.size ∧ b ≠ g) a rows (some ⟨b, off, none⟩) c A1 c1 A2 c2 wb hl2 (fun r hr => Nat.le_trans (asksM_len _) (HOK.out r hr).1) (fun x hx => Nat.lt_of_lt_of_le hx.1 Xb.out.size) (HS.out.keep fun x hx => ⟨hx, Xb.out.block x hx.1 hx.2⟩) HAb.out
   unfold askC at hnn
   have HNN := LH hnn
   clear hnn
   go_upto_region 17 with (fail)
   rw [← eb]
   clear eb
   go_wp2_with fail
   refine HNN.out.mono ?_
   rintro e wn ⟨An, cn, rfl, hsn, hbn⟩
   have EN := LH hbn
   have hzn := hbn.size
   have Xn' := LH (Xb.out.trans (Bx.of_below hbn (Nat.le_refl _)))
   have RGn := LH (RGb.out.below EN.out RGb.out.lt)
   have hzwb := Xb.out.size
   have hiq := HIH.out p.2 (noR a rows) An cn wn (by omega) (by omega) ((HOK.out.no a).mono (by omega)) (Nat.le_trans (noR_len a rows) hl2) RGn.out (hsn.keep fun x hx => ⟨⟨hx.2, by rcases hx.1 with h1 | h1; exact h1.2; omega⟩, rfl⟩)
   rw [HQ.out] at hiq
   have HIQ := LH hiq
   clear hiq hsn hbn HNN hcab
   go_wp2_with fail
   refine HIQ.out.mono ?_
   rintro e wq ⟨Q1, qc1, Q2, qc2, rfl, hoq, hgq, hxq⟩
   have OQ := LH hoq
   have GQ := LH hgq
   have XQ := LH hxq
   have hzq := hxq.size
   clear hoq hgq hxq HIQ
   obtain ⟨wz, ez⟩ : ∃ wz, wz = wq.alloc (.cells #[.int .i64 q.1.op, .int .i64 q.1.n, .slice Q1 q.1.path.length qc1, .string q.1.s, .slice Q2 q.1.kids.length qc2] 34) := ⟨_, rfl⟩
   have Ez := LH (show Below wq.heap.size wq wz by rw [ez]; exact (Below.refl _ _).alloc (Nat.le_refl _) _)
   have hzz : wq.heap.size + 1 = wz.heap.size := by rw [ez]; simp
   have Xz := LH ((Xn'.out.trans XQ.out).trans (Bx.of_below Ez.out (Nat.le_refl _)))
   have RQz := LH (show Row wz wq.heap.size 34 #[.int .i64 q.1.op, .int .i64 q.1.n, .slice Q1 q.1.path.length qc1, .string q.1.s, .slice Q2 q.1.kids.length qc2] by rw [ez]; exact Row.new _ _ _)
   have RPq := LH (XQ.out.row (RPb.out.below EN.out RPb.out.lt) (by omega))
   have RPz := LH (RPq.out.below Ez.out RPq.out.lt)
   have RNq := LH (XQ.out.row (RNb.out.below EN.out RNb.out.lt) (by omega))
   have RNz := LH (RNq.out.below Ez.out RNq.out.lt)
   have RBq := LH (XQ.out.row (RBb.out.below EN.out RBb.out.lt) (by omega))
   have RBz := LH (RBq.out.below Ez.out RBq.out.lt)
   have RGz := LH (GQ.out.below Ez.out GQ.out.lt)
   have hzc2 := Nat.le_trans hzd hzy
   have c1z := fun i => RQz.out.cell i
   have c2z := fun i => RPz.out.cell i
   have c3z := fun i => RNz.out.cell i
   have f3z := fun i => RNz.out.frozen i
   have c4z := fun i => RBz.out.cell i
   have f4z := fun i => RBz.out.frozen i
   have l1z := RQz.out.lt
   have l2z := RPz.out.lt
   have l3z := RNz.out.lt
   have l4z := RBz.out.lt
   have hne34 : n3 ≠ w.heap.size := by omega
   have hne43 : w.heap.size ≠ n3 := by omega
   go_upto_region 18 with (fail)
   rw [← ez]
   clear ez
   go_wp2_with fail
   obtain ⟨wm, em⟩ : ∃ wm, wm = (((((wz.setCell ⟨n3, 4, none⟩ (.slice (some ⟨wz.heap.size, 0, none⟩) 2 2)).setCell ⟨w.heap.size, 0, none⟩ (.int .i64 (askO a))).setCell ⟨w.heap.size, 1, none⟩ (.int .i64 (askN a))).setCell ⟨w.heap.size, 2, none⟩ (.slice A6 a.path.length c6)).setCell ⟨w.heap.size, 3, none⟩ (.string (askS a))).setCell ⟨w.heap.size, 4, none⟩ (.slice (some ⟨wz.heap.size, 0, none⟩) 2 2) := ⟨_, rfl⟩
   rw [← em]
   obtain ⟨wf, ef⟩ : ∃ wf, wf = wm.alloc (.cells #[.int .i64 p.1.op, .int .i64 p.1.n, .slice P1 p.1.path.length pc1, .string p.1.s, .slice P2 p.1.kids.length pc2, .int .i64 q.1.op, .int .i64 q.1.n, .slice Q1 q.1.path.length qc1, .string q.1.s, .slice Q2 q.1.kids.length qc2] 34) := ⟨_, rfl⟩
   rw [← ef]
   have hzm : wm.heap.size = wz.heap.size := by rw [em]; simp [World.setCell]
   have hwn3 : w.heap.size ≤ n3 := by omega
   have Qm := LH (fun b (h1 : b ≠ n3) (h2 : b ≠ w.heap.size) (h3 : b < wz.heap.size) => show wf.heap[b]? = wz.heap[b]? from by
     rw [ef, Below.heap_alloc wm _ b (by omega), em]
     rw [Below.heap_setCell _ ⟨w.heap.size, 4, none⟩ _ b h2, Below.heap_setCell _ ⟨w.heap.size, 3, none⟩ _ b h2, Below.heap_setCell _ ⟨w.heap.size, 2, none⟩ _ b h2, Below.heap_setCell _ ⟨w.heap.size, 1, none⟩ _ b h2, Below.heap_setCell _ ⟨w.heap.size, 0, none⟩ _ b h2, Below.heap_setCell _ ⟨n3, 4, none⟩ _ b h1])
   have hzf : wz.heap.size + 1 = wf.heap.size := by rw [ef]; simp [hzm]
   have RKf := LH (show Row wf wz.heap.size 34 #[.int .i64 p.1.op, .int .i64 p.1.n, .slice P1 p.1.path.length pc1, .string p.1.s, .slice P2 p.1.kids.length pc2, .int .i64 q.1.op, .int .i64 q.1.n, .slice Q1 q.1.path.length qc1, .string q.1.s, .slice Q2 q.1.kids.length qc2] by rw [ef]; exact Row.new' _ _ _ hzm.symm)
   have RBf := LH (show Row wf w.heap.size 34 #[.int .i64 (askO a), .int .i64 (askN a), .slice A6 a.path.length c6, .string (askS a), .slice (some ⟨wz.heap.size, 0, none⟩) 2 2] by
     rw [ef, em]
     exact ((((((RBz.out.far (p := ⟨n3, 4, none⟩) hne43 _).set 0 _).set 1 _).set 2 _).set 3 _).set 4 _).alloc _)
   have RGf := LH (show Row wf g 72 #[dv, .int .i64 q.2, .bool (decide (q.2 ≤ 300))] from (Qm.out g (by omega) (by omega) (by omega)).trans RGz.out)
   have XF := LH (show Bx g w wf by
     rw [ef, em]
     exact ((((((Xz.out.set (p := ⟨n3, 4, none⟩) (.inr hwn3) _).set (p := ⟨w.heap.size, 0, none⟩) (.inr (Nat.le_refl _)) _).set (p := ⟨w.heap.size, 1, none⟩) (.inr (Nat.le_refl _)) _).set (p := ⟨w.heap.size, 2, none⟩) (.inr (Nat.le_refl _)) _).set (p := ⟨w.heap.size, 3, none⟩) (.inr (Nat.le_refl _)) _).set (p := ⟨w.heap.size, 4, none⟩) (.inr (Nat.le_refl _)) _).alloc _)
   have QQ := LH (fun b (h1 : wn.heap.size ≤ b) (h2 : b < wq.heap.size) => show wf.heap[b]? = wq.heap[b]? from (Qm.out b (by omega) (by omega) (by omega)).trans (Ez.out.block b h2))
   have QA := LH (fun b (h1 : b ≠ n3) (h2 : b ≠ w.heap.size) (h3 : b ≠ g) (h4 : b < wa.heap.size) => show wf.heap[b]? = wa.heap[b]? from
     (Qm.out b h1 h2 (by omega)).trans ((Ez.out.block b (by omega)).trans ((XQ.out.block b (by omega) h3).trans ((EN.out.block b (by omega)).trans (Eb.out.block b h4)))))
   have OAf := LH (OA.out.keep (w' := wf) (S' := Btw wy.heap.size wa.heap.size) fun b hb => ⟨hb, QA.out b (by have := hb.1; omega) (by have := hb.1; omega) (by have := hb.1; omega) hb.2⟩)
   have OQf := LH (OQ.out.keep (w' := wf) (S' := Btw wn.heap.size wq.heap.size) fun b hb => ⟨hb, QQ.out b hb.1 hb.2⟩)
   have D3f := LH (D3.out.keep (w' := wf) (S' := fun b => (w2.heap.size ≤ b ∧ b < wc.heap.size) ∧ b ≠ n3) fun b hb => ⟨hb, (QA.out b hb.2 (by have := hb.1.1; omega) (by have := hb.1.1; omega) (by have := hb.1.2; omega)).trans ((XA.out.block b (by have := hb.1.2; omega) (by have := hb.1.1; omega)).trans (EY.out.block b hb.1.2))⟩)
   have OK := LH (oslTwoTree (S := fun b => wc.heap.size ≤ b ∧ b < wf.heap.size) (t1 := p.1) (t2 := q.1) RKf.out OAf.out OQf.out (fun x hx => ⟨⟨⟨by have := hx.1; omega, by have := hx.2; omega⟩, by have := hx.2; omega⟩, fun h2 => by have := hx.2; have := h2.1; omega⟩) (fun x hx => ⟨⟨by have := hx.1; omega, by have := hx.2; omega⟩, by have := hx.2; omega⟩) ⟨by omega, by omega⟩)
   have hwfs : (Lit.int .i64 (askO a)).wf = true ∧ (Lit.int .i64 (askN a)).wf = true ∧ (askS a).size ≤ maxLen := by
    unfold askO askN askS
    split
    · exact ⟨by decide, by decide, HA.out.2.2.2.1⟩
    · exact ⟨by decide, HA.out.2.2.1, by simp [ByteArray.size, maxLen]⟩
   have hczf := fun i => RBf.out.cell i
   have HVT := LH (show growV (k + 1) many rows = (.mk (askO a) (askN a) a.path (askS a) [p.1, q.1], q.2) by rw [HV.out, askT_eq])
   clear ef em c1z c2z c3z c4z f3z f4z
   show BP _ _
   rw [HBP.out, HVT.out]
   exact bodyPost_ret (v := .agg #[.int .i64 (askO a), .int .i64 (askN a), .slice A6 a.path.length c6, .string (askS a), .slice (some ⟨wz.heap.size, 0, none⟩) 2 2]) (by simp [results, Tryz.results23, go_sem, hczf]) rfl ⟨A6, c6, some ⟨wz.heap.size, 0, none⟩, 2, rfl, ⟨fun b => (w2.heap.size ≤ b ∧ b < wc.heap.size) ∧ b ≠ n3, fun b => wc.heap.size ≤ b ∧ b < wf.heap.size, fun x hx => ⟨by have := hx.1.1; omega, by have := hx.1.2; omega⟩, fun x hx => ⟨by have := hx.1; omega, hx.2⟩, fun x hx h2 => by have := hx.1.2; have := h2.1; omega, hwfs.1, hwfs.2.1, D3f.out, hwfs.2.2, OK.out⟩, RGf.out, XF.out⟩
theorem specMade (g : Nat) (dv : Value) : ∀ (k : Nat), k ≤ 1000 → MadeOk g dv k
 | 0, _, many, rows, A, c, w, h, hm, hok, hl, hrow, hs => specMadeOver g dv 0 many rows A c w (by omega) hm hrow
 | k + 1, hk, many, rows, A, c, w, h, hm, hok, hl, hrow, hs => by
  by_cases ho : 300 < many + 1
  · exact specMadeOver g dv (k + 1) many rows A c w ho hm hrow
  · by_cases h0 : 0 < rows.length
    · by_cases ha : 0 < rows[0].asks.length
      · exact specMadeAsk g dv k many rows A c w (specMade g dv k (by omega)) ho h (by omega) hok h0 hl ha hrow hs
      · exact specMadeDone g dv k many rows A c w ho h0 hl (by omega) hrow hs
    · exact specMadeNone g dv k many rows A c w ho (by omega) hrow
set_option maxHeartbeats 1000000
def RowsToS (S : Nat → Prop) (rows : List (List GNode)) (w : World) (e : Ending) (w' : World) : Prop := ∃ A c, e = .returned (.slice A rows.length c) ∧ Sl w' (fun b => Xs S w.heap.size b ∧ b < w'.heap.size) 1 A c (rows.map rowD) ∧ Below w.heap.size w w'
theorem specRowsS (S : Nat → Prop) (alts : List GNode) (A : Option Addr) (c : Nat) (w : World) (hl : alts.length ≤ 1048576) (hS : ∀ b, S b → b < w.heap.size) (hs : Sl w S 5 A c (alts.map GNode.toD)) :
 Calls Tryz.prog 20 #[.slice A alts.length c] w (RowsToS S (rowsOf patOf alts) w) := by
 have HS := LH hs
 have HSL := LH hS
 have hlm : alts.length ≤ 9223372036854775807 := by omega
 obtain ⟨w0, e0⟩ : ∃ w0, w0 = w.alloc (.cells #[] 25) := ⟨_, rfl⟩
 have E0 := LH (show Below w.heap.size w w0 by rw [e0]; exact (Below.refl _ _).alloc (Nat.le_refl _) _)
 have G0 := LH (show Grx (Xs S w.heap.size) w0 w.heap.size 25 1 (.slice (some ⟨w.heap.size, 0, none⟩) 0 0) 0 [] from Grx.made (by rw [e0]; exact Row.new' _ _ _ rfl) (Nat.le_refl _))
 clear hs hS
 go_enter Tryz.func20, Tryz.ntmps20
 go_wp2_with fail
 rw [← e0]
 clear e0
 go_loopw [3, 4] (fun v i wr => ∃ (j : Nat) (A : Option Addr) (c : Nat), j ≤ alts.length ∧ i = .int .i64 j ∧ v = .slice A j c ∧ Hid (Grx (Xs S w.heap.size) wr w.heap.size 25 1 (.slice A j c) j ((rowsOf patOf (alts.take j)).map rowD)) ∧ Hid (Below w.heap.size w wr)) (fun _ i _ => alts.length - (intOf i).toNat)
 case atStart => exact ⟨0, _, _, by omega, by go_num, rfl, G0, E0⟩
 case round =>
  clear G0 E0
  obtain ⟨j, A', c', hj, rfl, rfl, HG, HB⟩ := hrel
  have hsz := HB.out.size
  have HOW := LH (fun g (hg : (Value.slice A' j c').ownBlock = some g) => HG.out.own g hg)
  by_cases hlt : j < alts.length
  ·
   obtain ⟨b, off, A1, c1, rfl, hSb, q0, q1, q2, q3, q4, hat⟩ := GNode.elem (HS.out.keep (w' := wr) (S' := S) fun k hk => ⟨hk, HB.out.block k (HSL.out k hk)⟩) j hlt
   have HT := LH (rowsOf_take (f := patOf) hlt)
   have hkm : (alts[j]).kids.length ≤ 9223372036854775807 := by simpa using hat.2.2.2.2.len
   obtain ⟨wa, ea⟩ : ∃ wa, wa = wr.alloc (.cells #[.int .i64 17, .int .i64 0, .string ⟨#[]⟩, .string ⟨#[]⟩, .slice none 0 0] 39) := ⟨_, rfl⟩
   have EA := LH (show Below wr.heap.size wr wa by rw [ea]; exact (Below.refl _ _).alloc (Nat.le_refl _) _)
   have RA := LH (show Row wa wr.heap.size 39 #[.int .i64 17, .int .i64 0, .string ⟨#[]⟩, .string ⟨#[]⟩, .slice none 0 0] by rw [ea]; exact Row.new' _ _ _ rfl)
   have hsa := Nat.le_trans hsz EA.out.size
   have k4 := (EA.out.cell (p := ⟨b, off + j * 5 + 4, none⟩) (Nat.lt_of_lt_of_le (HSL.out _ hSb) hsz)).trans q4
   cases hks : (alts[j]).kids with
   | nil =>
    have HV := LH (show patOf alts[j] = anyN from patOf_nil hks)
    rw [hks] at k4
    rw [ea] at k4
    have hwa : wa.heap.size = wr.heap.size + 1 := by rw [ea]; simp
    obtain ⟨w3, e3⟩ : ∃ w3, w3 = wa.alloc (.cells #[.slice (some ⟨wr.heap.size, 0, none⟩) 1 1] 25) := ⟨_, rfl⟩
    have E3 := LH (show Below wa.heap.size wa w3 by rw [e3]; exact (Below.refl _ _).alloc (Nat.le_refl _) _)
    have T3 := LH (oneRow (X := Xs S w.heap.size) (r := [anyN]) (w' := w3) (T := 25) (Value.slice A' j c') (fun g hg => Nat.lt_of_lt_of_le (HOW.out g hg).2 EA.out.size) (.inr (by have := EA.out.size; omega)) e3
      (slOne RA.out (anyN_cells _ _) rfl ⟨RA.out.lt, fun e => by have := (HOW.out _ e).2; omega, .inr (by omega)⟩))
    have T3x := LH (show Sl w3 (fun b => b < w3.heap.size ∧ (Value.slice A' j c').ownBlock ≠ some b ∧ Xs S w.heap.size b) 1 (some ⟨wr.heap.size + 1, 0, none⟩) 1 ([[anyN]].map rowD) from by have h := T3.out; rw [hwa] at h; exact h)
    clear hwa
    have G3 := LH ((HG.out.below EA.out).below E3.out)
    have hs3 := Nat.le_trans hsa E3.out.size
    have B3 := LH ((HB.out.trans (EA.out.mono hsz)).trans (E3.out.mono hsa))
    clear hat hks q0 q1 q2 q3 q4
    go_wp2_with (first | (at_builtin; rw [← ea, ← e3]; refine wpList_append_X w3 rfl (.tmp 30) (.tmp 32) 62 rfl 25 zRow 1 24 Tryz.underlying62 (by kernel_rfl) rfl (by omega) w.heap.size (.slice A' j c') j _ G3.out (some ⟨wr.heap.size + 1, 0, none⟩) 1 1 _ rfl T3x.out hs3 (by unfold maxLen; omega) (by omega) rfl rfl ?_; intro A4 c4 w4 G4 hGr4; have G4h := LH G4; have B4 := LH (B3.out.trans (hGr4.below hs3 (fun g hg => (HOW.out g hg).1))); clear G4 hGr4))
    go_roundw
    case rel => exact ⟨j + 1, A4, c4, by omega, by go_num, rfl, LH (by rw [HT.out, HV.out, List.map_append]; exact G4h.out), B4⟩
    case measure => simp [intOf]; omega
   | cons k r =>
    have hl : (alts[j]).kids.length = r.length + 1 := by rw [hks]; rfl
    have HV := LH (show patOf alts[j] = k from patOf_cons hks)
    have hat2 := hat.2.2.2.2
    rw [hks] at hat2
    obtain ⟨bk, offk, A2, c2, rfl, hSk, p0, p1, p2, p3, p4, hk⟩ := GNode.elem hat2 0 (by simp)
    simp only [Nat.zero_mul, Nat.add_zero, List.getElem_cons_zero] at p0 p1 p2 p3 p4 hk
    rw [hl] at k4 hkm
    have m0 := (EA.out.cell (p := ⟨bk, offk, none⟩) (Nat.lt_of_lt_of_le (HSL.out _ hSk) hsz)).trans p0
    have m1 := (EA.out.cell (p := ⟨bk, offk + 1, none⟩) (Nat.lt_of_lt_of_le (HSL.out _ hSk) hsz)).trans p1
    have m2 := (EA.out.cell (p := ⟨bk, offk + 2, none⟩) (Nat.lt_of_lt_of_le (HSL.out _ hSk) hsz)).trans p2
    have m3 := (EA.out.cell (p := ⟨bk, offk + 3, none⟩) (Nat.lt_of_lt_of_le (HSL.out _ hSk) hsz)).trans p3
    have m4 := (EA.out.cell (p := ⟨bk, offk + 4, none⟩) (Nat.lt_of_lt_of_le (HSL.out _ hSk) hsz)).trans p4
    rw [ea] at k4 m0 m1 m2 m3 m4
    have hwa : wa.heap.size = wr.heap.size + 1 := by rw [ea]; simp
    obtain ⟨wb, eb⟩ : ∃ wb, wb = wa.alloc (.cells #[.int .i64 k.op, .int .i64 k.n, .string k.s, .string k.t, .slice A2 k.kids.length c2] 39) := ⟨_, rfl⟩
    have EB := LH (show Below wa.heap.size wa wb by rw [eb]; exact (Below.refl _ _).alloc (Nat.le_refl _) _)
    have RB := LH (show Row wb (wr.heap.size + 1) 39 #[.int .i64 k.op, .int .i64 k.n, .string k.s, .string k.t, .slice A2 k.kids.length c2] by rw [eb]; exact Row.new' _ _ _ hwa.symm)
    have hwb : wb.heap.size = wr.heap.size + 2 := by rw [eb]; simp; omega
    obtain ⟨w3, e3⟩ : ∃ w3, w3 = wb.alloc (.cells #[.slice (some ⟨wr.heap.size + 1, 0, none⟩) 1 1] 25) := ⟨_, rfl⟩
    have E3 := LH (show Below wb.heap.size wb w3 by rw [e3]; exact (Below.refl _ _).alloc (Nat.le_refl _) _)
    have T3 := LH (oneRow (X := Xs S w.heap.size) (r := [k]) (w' := w3) (T := 25) (Value.slice A' j c') (fun g hg => Nat.lt_of_lt_of_le (HOW.out g hg).2 (Nat.le_trans EA.out.size EB.out.size)) (.inr (by have := EA.out.size; omega)) e3
      (slOne RB.out (GNode.rd_mk (t := k) (hk.keep (w' := wb) (S' := fun b => b < wb.heap.size ∧ (Value.slice A' j c').ownBlock ≠ some b ∧ Xs S w.heap.size b) fun b hb => ⟨⟨by have := HSL.out b hb; omega, fun e => by have := (HOW.out _ e).1; have := HSL.out b hb; omega, .inl hb⟩, (EB.out.block b (by have := HSL.out b hb; omega)).trans (EA.out.block b (by have := HSL.out b hb; omega))⟩)) rfl ⟨RB.out.lt, fun e => by have := (HOW.out _ e).2; omega, .inr (by omega)⟩))
    have T3x := LH (show Sl w3 (fun b => b < w3.heap.size ∧ (Value.slice A' j c').ownBlock ≠ some b ∧ Xs S w.heap.size b) 1 (some ⟨wr.heap.size + 2, 0, none⟩) 1 ([[k]].map rowD) from by have h := T3.out; rw [hwb] at h; exact h)
    have G3 := LH (((HG.out.below EA.out).below EB.out).below E3.out)
    have hs3 : w.heap.size ≤ w3.heap.size := Nat.le_trans hsa (Nat.le_trans EB.out.size E3.out.size)
    have B3 := LH (((HB.out.trans (EA.out.mono hsz)).trans (EB.out.mono hsa)).trans (E3.out.mono (Nat.le_trans hsa EB.out.size)))
    rw [hl] at q4
    clear hat hat2 hks hk p0 p1 p2 p3 p4 hwa hwb hl q0 q1 q2 q3
    go_wp2_with (first | (at_builtin; rw [← ea, ← eb, ← e3]; refine wpList_append_X w3 rfl (.tmp 30) (.tmp 32) 62 rfl 25 zRow 1 24 Tryz.underlying62 (by kernel_rfl) rfl (by omega) w.heap.size (.slice A' j c') j _ G3.out (some ⟨wr.heap.size + 2, 0, none⟩) 1 1 _ rfl T3x.out hs3 (by unfold maxLen; omega) (by omega) rfl rfl ?_; intro A4 c4 w4 G4 hGr4; have G4h := LH G4; have B4 := LH (B3.out.trans (hGr4.below hs3 (fun g hg => (HOW.out g hg).1))); clear G4 hGr4))
    go_roundw
    case rel => exact ⟨j + 1, A4, c4, by omega, by go_num, rfl, LH (by rw [HT.out, HV.out, List.map_append]; exact G4h.out), B4⟩
    case measure => simp [intOf]; omega
  ·
   have hje : j = alts.length := by omega
   have HLE := LH (show alts.take j = alts by rw [hje, List.take_length])
   clear hje
   go_wp2_with fail
   go_ret
   have hG := HG.out
   rw [HLE.out] at hG
   obtain ⟨A5, c5, e5, hs5⟩ := hG.slY (Y := Xs S w.heap.size) (fun _ h => h) (fun b h => .inr h)
   have hl5 := hG.1
   obtain ⟨rfl, rfl⟩ : A' = A5 ∧ c' = c5 := by simpa using e5
   exact ⟨A', c', ret_sl (by rw [← hl5]; simp), hs5, HB.out⟩
end Go.Proofs.YtjjikciggbnjmaaGreat
