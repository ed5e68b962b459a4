/- Texts of the claim LExactTrees in one: TiI TiJ TrI Keyword Digits NumP Number Name NameOk FNode PatTidy TiK CoverS FRow CoverW CoverV. Conditions: none but bounds on sizes. -/
import Derived.Test.YtnpkmebnmklcfaaZLExactTrees4
import Derived.Deep.CutRange
import Derived.Test.YtnpkmebnmklcfaaZLExactTrees1
import Derived.Test.YtnpkmebnmklcfaaZLExactTrees0
import Derived.Test.YtnpkmebnmklcfaaZLExactTrees2
import Derived.BigQuiet
import Derived.Deep.RegionLaw
import Derived.Test.YtnpkmebnmklcfaaRows
import Derived.Lib.Hide
/- Trees of cases, in the program: the tree of rows. Conditions: the sizes are bounded. -/
namespace Go.Proofs.Ytnpkmebnmklcfaa
open Go.RowKit
set_option linter.unusedVariables false
set_option linter.unusedSimpArgs false
set_option maxHeartbeats 1000000

/-- a tree that is handed back, where the block g may have been turned -/
def ToGrown (g : Nat) (p : GTree × Nat) (w : World) (e : Ending) (w' : World) : Prop := ∃ A1 c1 A2 c2, e = .returned (.agg #[.int .i64 p.1.op, .int .i64 p.1.n, .slice A1 p.1.path.length c1, .string p.1.s, .slice A2 p.1.kids.length c2]) ∧ GTree.Ow w' (Btw w.heap.size w'.heap.size) A1 c1 A2 c2 p.1 ∧ Row w' g 81 #[.int .i64 p.2] ∧ Bx g w w'
def GrownOk (g : Nat) (k : Nat) : Prop := ∀ (many : Nat) (rows : List GTrow) (A : Option Addr) (c : Nat) (w : World), 300 < many + k → many ≤ 100000 → RowsOk many rows → rows.length ≤ 1048576 → Row w g 81 #[.int .i64 many] → Sl w (fun b => b < w.heap.size ∧ b ≠ g) 2 A c (rows.map GTrow.toD) →
    Calls Try.prog 28 #[.pointer (some ⟨g, 0, none⟩), .slice A rows.length c] w (ToGrown g (growV k many rows) w)
/-- the end of a call that hands back a leaf -/
theorem grownLeaf {g m : Nat} {op n : Int} {p : GTree × Nat} {w w' : World} (hp : p = (.mk op n [] ⟨#[]⟩ [], m)) (h1 : (Lit.int .i64 op).wf = true) (h2 : (Lit.int .i64 n).wf = true) (hr : Row w' g 81 #[.int .i64 m]) (hb : Bx g w w') :
    ToGrown g p w (.returned (.agg #[.int .i64 op, .int .i64 n, .slice none 0 0, .string ⟨#[]⟩, .slice none 0 0])) w' := by
  subst hp
  exact ⟨none, 0, none, 0, rfl, owLeaf h1 h2, hr, hb⟩

set_option maxRecDepth 20000 in
theorem growTrOver (g : Nat) (k many : Nat) (rows : List GTrow) (A : Option Addr) (c : Nat) (w : World) (h : 300 < many + 1) (hm : many ≤ 100000) (hrow : Row w g 81 #[.int .i64 many]) :
    Calls Try.prog 28 #[.pointer (some ⟨g, 0, none⟩), .slice A rows.length c] w (ToGrown g (growV k many rows) w) := by
  have HV := Lib.hid (growV_over (k := k) (rows := rows) h)
  have RW := Lib.hid hrow
  have hgl := hrow.lt
  have hcw := fun i => RW.out.cell i
  have hfw := fun i => RW.out.frozen i
  have hwr : IntKind.i64.wrap ((many : Int) + 1) = (many : Int) + 1 := (IntWalk.i64_left _).trans (IntWalk.wrap64_in ((many : Int) + 1) (by omega))
  have dm : decide ((300 : Int) < (many : Int) + 1) = true := decide_eq_true (by omega)
  clear hrow
  go_enter Try.func28, Try.ntmps28
  go_wp2_with fail
  obtain ⟨w9, e9⟩ : ∃ w9, w9 = (w.setCell ⟨g, 0, none⟩ (.int .i64 ((many : Int) + 1))).alloc (.cells #[.int .i64 0, .int .i64 0, .slice none 0 0, .string ⟨#[]⟩, .slice none 0 0] 29) := ⟨_, rfl⟩
  rw [← e9]
  have R9 := Lib.hid (show Row w9 g 81 #[.int .i64 ((many + 1 : Nat) : Int)] by rw [e9]; exact (RW.out.set 0 _).alloc _)
  have B9 := Lib.hid (show Bx g w w9 by rw [e9]; exact ((Bx.refl g w).set (p := ⟨g, 0, none⟩) (.inl rfl) _).alloc _)
  have RZ := Lib.hid (show Row w9 w.heap.size 29 #[.int .i64 0, .int .i64 0, .slice none 0 0, .string ⟨#[]⟩, .slice none 0 0] by rw [e9]; exact Row.new' _ _ _ (by simp [World.setCell]))
  have hcz := fun i => RZ.out.cell i
  clear hcw hfw e9
  exact bodyPost_ret (v := .agg #[.int .i64 0, .int .i64 0, .slice none 0 0, .string ⟨#[]⟩, .slice none 0 0]) (by simp [results, Try.results28, go_sem, hcz]) rfl (grownLeaf HV.out (by decide) (by decide) R9.out B9.out)

set_option maxRecDepth 20000 in
theorem growTrNone (g : Nat) (k many : Nat) (rows : List GTrow) (A : Option Addr) (c : Nat) (w : World) (h : ¬ 300 < many + 1) (hl : rows.length = 0) (hrow : Row w g 81 #[.int .i64 many]) :
    Calls Try.prog 28 #[.pointer (some ⟨g, 0, none⟩), .slice A rows.length c] w (ToGrown g (growV (k + 1) many rows) w) := by
  have HV := Lib.hid (growV_none (k := k) h hl)
  have RW := Lib.hid hrow
  have hgl := hrow.lt
  have hcw := fun i => RW.out.cell i
  have hfw := fun i => RW.out.frozen i
  have hwr : IntKind.i64.wrap ((many : Int) + 1) = (many : Int) + 1 := (IntWalk.i64_left _).trans (IntWalk.wrap64_in ((many : Int) + 1) (by omega))
  have dm : decide ((300 : Int) < (many : Int) + 1) = false := decide_eq_false (by omega)
  rw [hl]
  clear hrow hl
  go_enter Try.func28, Try.ntmps28
  go_wp2_with fail
  obtain ⟨w9, e9⟩ : ∃ w9, w9 = (w.setCell ⟨g, 0, none⟩ (.int .i64 ((many : Int) + 1))).alloc (.cells #[.int .i64 2, .int .i64 0, .slice none 0 0, .string ⟨#[]⟩, .slice none 0 0] 29) := ⟨_, rfl⟩
  rw [← e9]
  have R9 := Lib.hid (show Row w9 g 81 #[.int .i64 ((many + 1 : Nat) : Int)] by rw [e9]; exact (RW.out.set 0 _).alloc _)
  have B9 := Lib.hid (show Bx g w w9 by rw [e9]; exact ((Bx.refl g w).set (p := ⟨g, 0, none⟩) (.inl rfl) _).alloc _)
  have RZ := Lib.hid (show Row w9 w.heap.size 29 #[.int .i64 2, .int .i64 0, .slice none 0 0, .string ⟨#[]⟩, .slice none 0 0] by rw [e9]; exact Row.new' _ _ _ (by simp [World.setCell]))
  have hcz := fun i => RZ.out.cell i
  clear hcw hfw e9
  exact bodyPost_ret (v := .agg #[.int .i64 2, .int .i64 0, .slice none 0 0, .string ⟨#[]⟩, .slice none 0 0]) (by simp [results, Try.results28, go_sem, hcz]) rfl (grownLeaf HV.out (by decide) (by decide) R9.out B9.out)

set_option maxRecDepth 20000 in
theorem growTrDone (g : Nat) (k many : Nat) (rows : List GTrow) (A : Option Addr) (c : Nat) (w : World) (h : ¬ 300 < many + 1) (hl : 0 < rows.length) (hl2 : rows.length ≤ 1048576) (ha : rows[0].asks.length = 0) (hrow : Row w g 81 #[.int .i64 many]) (hs : Sl w (fun b => b < w.heap.size ∧ b ≠ g) 2 A c (rows.map GTrow.toD)) :
    Calls Try.prog 28 #[.pointer (some ⟨g, 0, none⟩), .slice A rows.length c] w (ToGrown g (growV (k + 1) many rows) w) := by
  have HV := Lib.hid (growV_done (k := k) h hl ha)
  have RW := Lib.hid hrow
  have hgl := hrow.lt
  have hcw := fun i => RW.out.cell i
  have hfw := fun i => RW.out.frozen i
  have hwr : IntKind.i64.wrap ((many : Int) + 1) = (many : Int) + 1 := (IntWalk.i64_left _).trans (IntWalk.wrap64_in ((many : Int) + 1) (by omega))
  have dm : decide ((300 : Int) < (many : Int) + 1) = false := decide_eq_false (by omega)
  obtain ⟨b, off, B1, d1, rfl, hSb, g0, g1, hat⟩ := GTrow.elem hs 0 hl
  have hbl := hSb.1
  have hbg := hSb.2
  obtain ⟨al, hal⟩ : ∃ al, rows[0].alt = al := ⟨_, rfl⟩
  rw [hal] at g0 HV
  have haw : Hid ((Lit.int .i64 al).wf = true) := Lib.hid (by rw [← hal]; exact hat.1)
  rw [ha] at g1
  simp only [Nat.zero_mul, Nat.add_zero] at g0 g1
  have dl : decide ((rows.length : Int) = 0) = false := decide_eq_false (by omega)
  have dl2 : ((rows.length : Int) == 0) = false := by rw [beq_eq_false_iff_ne]; omega
  clear hrow hs hal hat ha hSb
  go_enter Try.func28, Try.ntmps28
  go_wp2_with fail
  obtain ⟨w9, e9⟩ : ∃ w9, w9 = (w.setCell ⟨g, 0, none⟩ (.int .i64 ((many : Int) + 1))).alloc (.cells #[.int .i64 1, .int .i64 al, .slice none 0 0, .string ⟨#[]⟩, .slice none 0 0] 29) := ⟨_, rfl⟩
  rw [← e9]
  have R9 := Lib.hid (show Row w9 g 81 #[.int .i64 ((many + 1 : Nat) : Int)] by rw [e9]; exact (RW.out.set 0 _).alloc _)
  have B9 := Lib.hid (show Bx g w w9 by rw [e9]; exact ((Bx.refl g w).set (p := ⟨g, 0, none⟩) (.inl rfl) _).alloc _)
  have RZ := Lib.hid (show Row w9 w.heap.size 29 #[.int .i64 1, .int .i64 al, .slice none 0 0, .string ⟨#[]⟩, .slice none 0 0] by rw [e9]; exact Row.new' _ _ _ (by simp [World.setCell]))
  have hcz := fun i => RZ.out.cell i
  clear hcw hfw e9
  exact bodyPost_ret (v := .agg #[.int .i64 1, .int .i64 al, .slice none 0 0, .string ⟨#[]⟩, .slice none 0 0]) (by simp [results, Try.results28, go_sem, hcz]) rfl (grownLeaf HV.out (by decide) haw.out R9.out B9.out)
end Go.Proofs.Ytnpkmebnmklcfaa

/- Trees of cases, in the program: the tree of rows: an ask. Conditions: the sizes are bounded. -/
namespace Go.Proofs.Ytnpkmebnmklcfaa
open Go.RowKit
set_option linter.unusedVariables false
set_option linter.unusedSimpArgs false
set_option maxHeartbeats 2000000

set_option maxRecDepth 20000 in
theorem growTrAsk (g : Nat) (k many : Nat) (rows : List GTrow) (A : Option Addr) (c : Nat) (w : World) (hIH : GrownOk g k) (h : ¬ 300 < many + 1) (hk : 300 < many + (k + 1)) (hk2 : k ≤ 1000) (hok : RowsOk many rows) (hl : 0 < rows.length) (hl2 : rows.length ≤ 1048576) (ha : 0 < rows[0].asks.length) (hrow : Row w g 81 #[.int .i64 many]) (hs : Sl w (fun b => b < w.heap.size ∧ b ≠ g) 2 A c (rows.map GTrow.toD)) :
    Calls Try.prog 28 #[.pointer (some ⟨g, 0, none⟩), .slice A rows.length c] w (ToGrown g (growV (k + 1) many rows) w) := by
  have hv := growV_ask (k := k) h hl ha
  have RW := Lib.hid hrow
  have hgl := hrow.lt
  have hcw := fun i => RW.out.cell i
  have hfw := fun i => RW.out.frozen i
  have hwr : IntKind.i64.wrap ((many : Int) + 1) = (many : Int) + 1 := (IntWalk.i64_left _).trans (IntWalk.wrap64_in ((many : Int) + 1) (by omega))
  have dm : decide ((300 : Int) < (many : Int) + 1) = false := decide_eq_false (by omega)
  have HS := Lib.hid hs
  have HOK := Lib.hid hok
  have HIH := Lib.hid hIH
  obtain ⟨b, off, B1, d1, rfl, hSb, g0, g1, hat⟩ := GTrow.elem hs 0 hl
  obtain ⟨b2, off2, A1, c1, A2, c2, rfl, hSb2, q0, q1, q2, q3, q4, q5, hatk⟩ := GAsk.elem hat.2 0 ha
  have hbl := hSb.1
  have hbg := hSb.2
  have hbl2 := hSb2.1
  have hbg2 := hSb2.2
  have dl : ((rows.length : Int) == 0) = false := by rw [beq_eq_false_iff_ne]; omega
  have dl2 : ((rows[0].asks.length : Int) == 0) = false := by rw [beq_eq_false_iff_ne]; omega
  have hla2 : rows[0].asks.length ≤ 1048576 := Nat.le_trans (asksM_len _) (hok _ (List.getElem_mem hl)).1
  have hap := ((hok _ (List.getElem_mem hl)).2 _ (List.getElem_mem ha)).2
  obtain ⟨n1, hn1⟩ : ∃ n1, rows[0].asks.length = n1 := ⟨_, rfl⟩
  obtain ⟨a, hea⟩ : ∃ a, rows[0].asks[0] = a := ⟨_, rfl⟩
  rw [hea] at q0 q1 q2 q3 q4 q5 hatk hap hv
  rw [hn1] at g1 dl2 ha hla2
  obtain ⟨p, hp⟩ : ∃ p, growV k (many + 1) (yesR a rows) = p := ⟨_, rfl⟩
  rw [hp] at hv
  obtain ⟨q, hq⟩ : ∃ q, growV k p.2 (noR a rows) = q := ⟨_, rfl⟩
  rw [hq] at hv
  have HV := Lib.hid hv
  have HP := Lib.hid hp
  have HQ := Lib.hid hq
  have HA := Lib.hid hatk
  simp only [Nat.zero_mul, Nat.add_zero] at g0 g1 q0 q1 q2 q3 q4 q5
  clear hrow hs hat hatk hSb hSb2 hv hp hq hea hn1 hok hIH g0
  go_enter Try.func28, Try.ntmps28
  go_upto_region 9 with (fail)
  obtain ⟨w2, e2⟩ : ∃ w2, w2 = ((w.setCell ⟨g, 0, none⟩ (.int .i64 ((many : Int) + 1))).alloc (.cells #[.int .i64 0, .int .i64 0, .slice none 0 0, .string ⟨#[]⟩, .slice none 0 0] 29)).alloc (.cells #[.slice A1 a.path.length c1, .int .i64 a.pat.op, .int .i64 a.pat.n, .string a.pat.s, .string a.pat.t, .slice A2 a.pat.kids.length c2] 76) := ⟨_, rfl⟩
  rw [← e2]
  have X2 := Lib.hid (show Bx g w w2 by rw [e2]; exact (((Bx.refl g w).set (p := ⟨g, 0, none⟩) (.inl rfl) _).alloc _).alloc _)
  have RG2 := Lib.hid (show Row w2 g 81 #[.int .i64 ((many : Int) + 1)] by rw [e2]; exact ((RW.out.set 0 _).alloc _).alloc _)
  have RB2 := Lib.hid (show Row w2 w.heap.size 29 #[.int .i64 0, .int .i64 0, .slice none 0 0, .string ⟨#[]⟩, .slice none 0 0] by rw [e2]; exact (Row.new' _ _ _ (by simp [World.setCell])).alloc _)
  have RA2 := Lib.hid (show Row w2 (w.heap.size + 1) 76 #[.slice A1 a.path.length c1, .int .i64 a.pat.op, .int .i64 a.pat.n, .string a.pat.s, .string a.pat.t, .slice A2 a.pat.kids.length c2] by rw [e2]; exact Row.new' _ _ _ (by simp [World.setCell]))
  have hz2 : w.heap.size + 2 = w2.heap.size := by rw [e2]; simp [World.setCell]
  have HZ2 := Lib.hid hz2
  have hz2' : w.heap.size + 2 ≤ w2.heap.size := Nat.le_of_eq hz2
  have HA2 := Lib.hid (HA.out.keep (w' := w2) (S' := fun b => b < w2.heap.size ∧ b ≠ g) fun q hq => ⟨⟨Nat.lt_of_lt_of_le hq.1 X2.out.size, hq.2⟩, X2.out.block q hq.1 hq.2⟩)
  have hca := fun i => RA2.out.cell i
  have hla := RA2.out.lt
  have HF5 := Lib.hid (fun (x : World) (hx : Below w2.heap.size w2 x) => show ∀ i, x.cell? ⟨w.heap.size + 1, i, none⟩ = (#[.slice A1 a.path.length c1, .int .i64 a.pat.op, .int .i64 a.pat.n, .string a.pat.s, .string a.pat.t, .slice A2 a.pat.kids.length c2] : Array Value)[i]? from fun i => (RA2.out.below hx RA2.out.lt).cell i)
  have SP := Lib.hid (fun (x : World) (hx : Below w2.heap.size w2 x) => show Sl x (Lt x.heap.size) 1 A1 c1 (a.path.map (D.num .i64)) from HA2.out.1.keep fun q hq => ⟨Nat.lt_of_lt_of_le hq.1 hx.size, hx.block q hq.1⟩)
  clear hcw hfw e2 hz2
  have ED := Lib.hid (show Below w2.heap.size w2 w2.drew from (Below.refl _ _).drew)
  have EZ := Lib.hid (show Below w2.heap.size w2 (w2.alloc (.cells #[.int .i64 0, .int .i64 0, .slice none 0 0, .string ⟨#[]⟩, .slice none 0 0] 29)).drew from ((Below.refl _ _).alloc (Nat.le_refl _) _).drew)
  have RZ := Lib.hid (show Row (w2.alloc (.cells #[.int .i64 0, .int .i64 0, .slice none 0 0, .string ⟨#[]⟩, .slice none 0 0] 29)).drew w2.heap.size 29 #[.int .i64 0, .int .i64 0, .slice none 0 0, .string ⟨#[]⟩, .slice none 0 0] from (show Row (w2.alloc (.cells #[.int .i64 0, .int .i64 0, .slice none 0 0, .string ⟨#[]⟩, .slice none 0 0] 29)) w2.heap.size 29 #[.int .i64 0, .int .i64 0, .slice none 0 0, .string ⟨#[]⟩, .slice none 0 0] from Row.new _ _ _))
  have hzz0 : (w2.alloc (.cells #[.int .i64 0, .int .i64 0, .slice none 0 0, .string ⟨#[]⟩, .slice none 0 0] 29)).drew.heap.size = w2.heap.size + 1 := by show (w2.alloc (.cells #[.int .i64 0, .int .i64 0, .slice none 0 0, .string ⟨#[]⟩, .slice none 0 0] 29)).heap.size = _; simp
  have HZZ := Lib.hid hzz0
  clear hzz0
  go_cut [6] from 46 to 52 (fun v x => ∃ (n3 : Nat) (A6 : Option Addr) (c6 : Nat), v = .pointer (some ⟨n3, 0, none⟩) ∧ Hid (Below w2.heap.size w2 x) ∧ Hid (Row x n3 29 #[.int .i64 4, .int .i64 a.pat.n, .slice A6 a.path.length c6, .string ⟨#[]⟩, .slice none 0 0]) ∧ Hid (Osl x (fun b => (w2.heap.size ≤ b ∧ b < x.heap.size) ∧ b ≠ n3) 1 A6 c6 (a.path.map (D.num .i64))) ∧ w2.heap.size ≤ n3)
  case first =>
    refine wp_region_T (fun x => ∀ i, x.cell? ⟨w.heap.size + 1, i, none⟩ = (#[.slice A1 a.path.length c1, .int .i64 a.pat.op, .int .i64 a.pat.n, .string a.pat.s, .string a.pat.t, .slice A2 a.pat.kids.length c2] : Array Value)[i]?) 8 (by kernel_rfl) ?_
    have hS1 := HF5.out _ ED.out
    refine wpAnyT_take (i := 0) (oi := _) (v := ?tv1) rfl (by kernel_rfl) (by kernel_rfl) (by kernel_rfl) (by kernel_rfl) (fun _ _ _ h => h) (Or.inl ⟨by rfl, ?th1⟩) hS1 ?_
    case th1 => (intro x hSx; (try dsimp only at hSx); go_simp; (try with_reducible rfl))
    try simp only [List.getElem_toArray, List.getElem_cons_succ, List.getElem_cons_zero, Act.put, List.setIfInBounds_toArray, List.set_cons_zero, List.set_cons_succ]
    refine wpAnyT_take (i := 1) (oi := _) (v := ?tv2) rfl (by kernel_rfl) (by kernel_rfl) (by kernel_rfl) (by kernel_rfl) (fun _ _ _ h => h) (Or.inl ⟨by rfl, ?th2⟩) hS1 ?_
    case th2 => (intro x hSx; (try dsimp only at hSx); go_simp; (try with_reducible rfl))
    try simp only [List.getElem_toArray, List.getElem_cons_succ, List.getElem_cons_zero, Act.put, List.setIfInBounds_toArray, List.set_cons_zero, List.set_cons_succ]
    refine wpAnyT_take (i := 2) (oi := _) (v := ?tv3) rfl (by kernel_rfl) (by kernel_rfl) (by kernel_rfl) (by kernel_rfl) (fun _ _ _ h => h) (Or.inl ⟨by rfl, ?th3⟩) hS1 ?_
    case th3 => (intro x hSx; (try dsimp only at hSx); go_simp; (try with_reducible rfl))
    try simp only [List.getElem_toArray, List.getElem_cons_succ, List.getElem_cons_zero, Act.put, List.setIfInBounds_toArray, List.set_cons_zero, List.set_cons_succ]
    refine wpAnyT_take (i := 3) (oi := _) (v := ?tv4) rfl (by kernel_rfl) (by kernel_rfl) (by kernel_rfl) (by kernel_rfl) (fun _ _ _ h => h) (Or.inl ⟨by rfl, ?th4⟩) hS1 ?_
    case th4 => (intro x hSx; (try dsimp only at hSx); go_simp; (try with_reducible rfl))
    try simp only [List.getElem_toArray, List.getElem_cons_succ, List.getElem_cons_zero, Act.put, List.setIfInBounds_toArray, List.set_cons_zero, List.set_cons_succ]
    refine wpAnyT_take (i := 4) (oi := _) (v := ?tv5) rfl (by kernel_rfl) (by kernel_rfl) (by kernel_rfl) (by kernel_rfl) (fun _ _ _ h => h) (Or.inl ⟨by rfl, ?th5⟩) hS1 ?_
    case th5 => (intro x hSx; (try dsimp only at hSx); go_simp; (try with_reducible rfl))
    try simp only [List.getElem_toArray, List.getElem_cons_succ, List.getElem_cons_zero, Act.put, List.setIfInBounds_toArray, List.set_cons_zero, List.set_cons_succ]
    refine wpAnyT_two (i := 5) (j := 7) (by kernel_rfl) rfl rfl (fun K hK => ?_) (fun K hK => ?_)
    · try simp only [List.getElem_toArray, List.getElem_cons_succ, List.getElem_cons_zero]
      go_simp
      go_at_call 50
      refine (cloneInts a.path A1 c1 w2.drew (by omega) (SP.out _ ED.out)).mono ?_
      rintro e w6 ⟨A6, c6, rfl, gp, hb6⟩
      have E6 := Lib.hid (ED.out.trans hb6)
      have HG6 := Lib.hid (show Grx AnyB w6 w2.heap.size 3 1 (.slice A6 a.path.length c6) a.path.length (a.path.map (D.num .i64)) from gp)
      clear gp hb6
      refine hK.out _ _ (HF5.out _ E6.out) (fun hS3 => ?_)
      clear hK K hS1
      try simp only [List.getElem_toArray, List.getElem_cons_succ, List.getElem_cons_zero, Act.put, List.setIfInBounds_toArray, List.set_cons_zero, List.set_cons_succ]
      refine wpAnyT_take (i := 6) (oi := _) (v := ?tv6) rfl (by kernel_rfl) (by kernel_rfl) (by kernel_rfl) (by kernel_rfl) (fun _ _ _ h => h) (Or.inl ⟨by rfl, ?th6⟩) hS3 ?_
      case th6 => (intro x hSx; (try dsimp only at hSx); go_simp; (try with_reducible rfl))
      try simp only [List.getElem_toArray, List.getElem_cons_succ, List.getElem_cons_zero, Act.put, List.setIfInBounds_toArray, List.set_cons_zero, List.set_cons_succ]
      refine wpAnyT_step (i := 7) (by kernel_rfl) rfl (fun K hK => ?_)
      try simp only [List.getElem_toArray, List.getElem_cons_succ, List.getElem_cons_zero]
      go_simp
      refine hK.out _ _ (HF5.out _ (E6.out.alloc E6.out.size _)) (fun hS4 => ?_)
      clear hK K hS3
      try simp only [List.getElem_toArray, List.getElem_cons_succ, List.getElem_cons_zero, Act.put, List.setIfInBounds_toArray, List.set_cons_zero, List.set_cons_succ]
      refine wpAnyT_last (by kernel_rfl) (by kernel_rfl) rfl (fun K hK => ?_)
      try simp only [List.getElem_toArray, List.getElem_cons_succ, List.getElem_cons_zero]
      go_simp
      refine hK.out _ _ ?_
      clear hK K
      try simp only [List.getElem_toArray, List.getElem_cons_succ, List.getElem_cons_zero, Act.put, List.setIfInBounds_toArray, List.set_cons_zero, List.set_cons_succ]
      obtain ⟨w7, e7⟩ : ∃ w7, w7 = w6.alloc (.cells #[.int .i64 4, .int .i64 a.pat.n, .slice A6 a.path.length c6, .string ⟨#[]⟩, .slice none 0 0] 29) := ⟨_, rfl⟩
      rw [← e7]
      have K7 := fun b (hb : (Value.slice A6 a.path.length c6).ownBlock = some b) => show ((w2.heap.size ≤ b ∧ b < w7.heap.size) ∧ b ≠ w6.heap.size) ∧ w7.heap[b]? = w6.heap[b]? from by
        have h1 := HG6.out.own b hb
        rw [e7]
        exact ⟨⟨⟨h1.1, by simp; omega⟩, by omega⟩, Below.heap_alloc _ _ _ h1.2⟩
      have O7 := Lib.hid (show Osl w7 (fun b => (w2.heap.size ≤ b ∧ b < w7.heap.size) ∧ b ≠ w6.heap.size) 1 A6 c6 (a.path.map (D.num .i64)) by
        obtain ⟨A5, c5, e5, h5⟩ := HG6.out.oslOwn
        obtain ⟨rfl, rfl⟩ : A6 = A5 ∧ c6 = c5 := by simpa using e5
        exact h5.keep fun b hb => K7 b hb)
      have E7 := Lib.hid (show Below w2.heap.size w2 w7 by rw [e7]; exact E6.out.alloc E6.out.size _)
      have R7 := Lib.hid (show Row w7 w6.heap.size 29 #[.int .i64 4, .int .i64 a.pat.n, .slice A6 a.path.length c6, .string ⟨#[]⟩, .slice none 0 0] by rw [e7]; exact Row.new w6 _ _)
      have hn7 := E6.out.size
      clear e7 K7
      go_wp2_with fail
      go_meet
      exact ⟨w6.heap.size, A6, c6, rfl, E7, R7, O7, hn7⟩
    · try simp only [List.getElem_toArray, List.getElem_cons_succ, List.getElem_cons_zero]
      go_simp
      refine hK.out _ _ (HF5.out _ EZ.out) (fun hS3 => ?_)
      clear hK K hS1
      try simp only [List.getElem_toArray, List.getElem_cons_succ, List.getElem_cons_zero, Act.put, List.setIfInBounds_toArray, List.set_cons_zero, List.set_cons_succ]
      refine wpAnyT_step (i := 5) (by kernel_rfl) rfl (fun K hK => ?_)
      try simp only [List.getElem_toArray, List.getElem_cons_succ, List.getElem_cons_zero]
      go_simp
      go_at_call 50
      refine (cloneInts a.path A1 c1 _ (by omega) (SP.out _ EZ.out)).mono ?_
      rintro e w6 ⟨A6, c6, rfl, gp, hb6⟩
      have E6 := Lib.hid (EZ.out.trans (hb6.mono EZ.out.size))
      have HG6 := Lib.hid gp
      have RN6 := Lib.hid (RZ.out.below hb6 RZ.out.lt)
      have NN6 := Lib.hid (show (Value.slice A6 a.path.length c6).ownBlock ≠ some w2.heap.size from fun e => by have := (gp.own _ e).1; rw [HZZ.out] at this; omega)
      have HO6 := Lib.hid (fun g (hg : (Value.slice A6 a.path.length c6).ownBlock = some g) => show w2.heap.size ≤ g ∧ g < w6.heap.size from by have h := gp.own _ hg; rw [HZZ.out] at h; exact ⟨by omega, h.2⟩)
      have hcn6 := fun i => RN6.out.cell i
      have hfn6 := fun i => RN6.out.frozen i
      clear gp hb6
      refine hK.out _ _ (HF5.out _ E6.out) (fun hS4 => ?_)
      clear hK K hS3
      try simp only [List.getElem_toArray, List.getElem_cons_succ, List.getElem_cons_zero, Act.put, List.setIfInBounds_toArray, List.set_cons_zero, List.set_cons_succ]
      refine wpAnyT_take (i := 6) (oi := _) (v := ?tv7) rfl (by kernel_rfl) (by kernel_rfl) (by kernel_rfl) (by kernel_rfl) (fun _ _ _ h => h) (Or.inl ⟨by rfl, ?th7⟩) hS4 ?_
      case th7 => (intro x hSx; (try dsimp only at hSx); go_simp; (try with_reducible rfl))
      try simp only [List.getElem_toArray, List.getElem_cons_succ, List.getElem_cons_zero, Act.put, List.setIfInBounds_toArray, List.set_cons_zero, List.set_cons_succ]
      refine wpAnyT_last (by kernel_rfl) (by kernel_rfl) rfl (fun K hK => ?_)
      try simp only [List.getElem_toArray, List.getElem_cons_succ, List.getElem_cons_zero]
      go_simp
      refine hK.out _ _ ?_
      clear hK K
      try simp only [List.getElem_toArray, List.getElem_cons_succ, List.getElem_cons_zero, Act.put, List.setIfInBounds_toArray, List.set_cons_zero, List.set_cons_succ]
      obtain ⟨w7, e7⟩ : ∃ w7, w7 = ((((w6.setCell ⟨w2.heap.size, 0, none⟩ (.int .i64 4)).setCell ⟨w2.heap.size, 1, none⟩ (.int .i64 a.pat.n)).setCell ⟨w2.heap.size, 2, none⟩ (.slice A6 a.path.length c6)).setCell ⟨w2.heap.size, 3, none⟩ (.string ⟨#[]⟩)).setCell ⟨w2.heap.size, 4, none⟩ (.slice none 0 0) := ⟨_, rfl⟩
      rw [← e7]
      have Q7 := Lib.hid (show ∀ b, b ≠ w2.heap.size → w7.heap[b]? = w6.heap[b]? from fun b hb => by rw [e7]; simp only [Below.heap_setCell _ _ _ b (show b ≠ (⟨w2.heap.size, _, none⟩ : Addr).block from hb)])
      have hz7 : w7.heap.size = w6.heap.size := by rw [e7]; simp [World.setCell]
      have K7 := fun b (hb : (Value.slice A6 a.path.length c6).ownBlock = some b) => show ((w2.heap.size ≤ b ∧ b < w7.heap.size) ∧ b ≠ w2.heap.size) ∧ w7.heap[b]? = w6.heap[b]? from by
        have h1 := HO6.out b hb
        have h2 : b ≠ w2.heap.size := fun e => NN6.out (by rw [← e]; exact hb)
        exact ⟨⟨⟨h1.1, by omega⟩, h2⟩, Q7.out b h2⟩
      have O7 := Lib.hid (show Osl w7 (fun b => (w2.heap.size ≤ b ∧ b < w7.heap.size) ∧ b ≠ w2.heap.size) 1 A6 c6 (a.path.map (D.num .i64)) by
        obtain ⟨A5, c5, e5, h5⟩ := HG6.out.oslOwn
        obtain ⟨rfl, rfl⟩ : A6 = A5 ∧ c6 = c5 := by simpa using e5
        exact h5.keep fun b hb => K7 b hb)
      have E7 := Lib.hid (show Below w2.heap.size w2 w7 by rw [e7]; exact ((((E6.out.setCell (p := ⟨w2.heap.size, 0, none⟩) (by simp) _).setCell (p := ⟨w2.heap.size, 1, none⟩) (by simp) _).setCell (p := ⟨w2.heap.size, 2, none⟩) (by simp) _).setCell (p := ⟨w2.heap.size, 3, none⟩) (by simp) _).setCell (p := ⟨w2.heap.size, 4, none⟩) (by simp) _)
      have R7 := Lib.hid (show Row w7 (w2.heap.size) 29 #[.int .i64 4, .int .i64 a.pat.n, .slice A6 a.path.length c6, .string ⟨#[]⟩, .slice none 0 0] by rw [e7]; exact ((((RN6.out.set 0 _).set 1 _).set 2 _).set 3 _).set 4 _)
      clear e7 K7 Q7 hz7 hcn6 hfn6
      go_wp2_with fail
      go_meet
      exact ⟨w2.heap.size, A6, c6, rfl, E7, R7, O7, by omega⟩
  case rest =>
    clear RZ EZ ED HZZ SP HF5
    obtain ⟨n3, A6, c6, rfl, C1, C2, C3, hn3⟩ := hcut
    have RAc := Lib.hid (RA2.out.below C1.out RA2.out.lt)
    have hcac := fun i => RAc.out.cell i
    have hnc := C2.out.lt
    clear hca
    have SPc := Lib.hid (show Sl wc.drew (Lt wc.drew.heap.size) 1 A1 c1 (a.path.map (D.num .i64)) from HA2.out.1.keep fun q hq => ⟨Nat.lt_of_lt_of_le hq.1 C1.out.size, C1.out.block q hq.1⟩)
    have HFc := Lib.hid (fun (x : World) (hx : Below wc.heap.size wc x) => show ∀ i, x.cell? ⟨w.heap.size + 1, i, none⟩ = (#[.slice A1 a.path.length c1, .int .i64 a.pat.op, .int .i64 a.pat.n, .string a.pat.s, .string a.pat.t, .slice A2 a.pat.kids.length c2] : Array Value)[i]? from fun i => (RAc.out.below hx RAc.out.lt).cell i)
    have EDc := Lib.hid (show Below wc.heap.size wc wc.drew from (Below.refl _ _).drew)
    go_upto_if 56 with (fail)
    go_cut [6] from 53 to 63 (fun v x => ∃ (A7 : Option Addr) (c7 : Nat), v = .pointer (some ⟨n3, 0, none⟩) ∧ Hid (Below w2.heap.size w2 x) ∧ Hid (Row x n3 29 #[.int .i64 (askO a), .int .i64 (askN a), .slice A7 a.path.length c7, .string (askS a), .slice none 0 0]) ∧ Hid (Osl x (fun b => (w2.heap.size ≤ b ∧ b < x.heap.size) ∧ b ≠ n3) 1 A7 c7 (a.path.map (D.num .i64))) ∧ wc.heap.size ≤ x.heap.size)
    case first =>
      cases h20 : (a.pat.op == 20)
      case true =>
        have e20 : a.pat.op = 20 := by simpa using h20
        have HO := Lib.hid (show askO a = 3 ∧ askN a = 0 ∧ askS a = a.pat.s by unfold askO askN askS; simp [e20])
        clear e20
        go_wp2_with fail
        refine wp_region_T (fun x => ∀ i, x.cell? ⟨w.heap.size + 1, i, none⟩ = (#[.slice A1 a.path.length c1, .int .i64 a.pat.op, .int .i64 a.pat.n, .string a.pat.s, .string a.pat.t, .slice A2 a.pat.kids.length c2] : Array Value)[i]?) 7 (by kernel_rfl) ?_
        have hS1 := HFc.out _ EDc.out
        refine wpAnyT_take (i := 0) (oi := _) (v := ?tv8) rfl (by kernel_rfl) (by kernel_rfl) (by kernel_rfl) (by kernel_rfl) (fun _ _ _ h => h) (Or.inl ⟨by rfl, ?th8⟩) hS1 ?_
        case th8 => (intro x hSx; (try dsimp only at hSx); go_simp; (try with_reducible rfl))
        try simp only [List.getElem_toArray, List.getElem_cons_succ, List.getElem_cons_zero, Act.put, List.setIfInBounds_toArray, List.set_cons_zero, List.set_cons_succ]
        refine wpAnyT_take (i := 1) (oi := _) (v := ?tv9) rfl (by kernel_rfl) (by kernel_rfl) (by kernel_rfl) (by kernel_rfl) (fun _ _ _ h => h) (Or.inl ⟨by rfl, ?th9⟩) hS1 ?_
        case th9 => (intro x hSx; (try dsimp only at hSx); go_simp; (try with_reducible rfl))
        try simp only [List.getElem_toArray, List.getElem_cons_succ, List.getElem_cons_zero, Act.put, List.setIfInBounds_toArray, List.set_cons_zero, List.set_cons_succ]
        refine wpAnyT_take (i := 2) (oi := _) (v := ?tv10) rfl (by kernel_rfl) (by kernel_rfl) (by kernel_rfl) (by kernel_rfl) (fun _ _ _ h => h) (Or.inl ⟨by rfl, ?th10⟩) hS1 ?_
        case th10 => (intro x hSx; (try dsimp only at hSx); go_simp; (try with_reducible rfl))
        try simp only [List.getElem_toArray, List.getElem_cons_succ, List.getElem_cons_zero, Act.put, List.setIfInBounds_toArray, List.set_cons_zero, List.set_cons_succ]
        refine wpAnyT_take (i := 3) (oi := _) (v := ?tv11) rfl (by kernel_rfl) (by kernel_rfl) (by kernel_rfl) (by kernel_rfl) (fun _ _ _ h => h) (Or.inl ⟨by rfl, ?th11⟩) hS1 ?_
        case th11 => (intro x hSx; (try dsimp only at hSx); go_simp; (try with_reducible rfl))
        try simp only [List.getElem_toArray, List.getElem_cons_succ, List.getElem_cons_zero, Act.put, List.setIfInBounds_toArray, List.set_cons_zero, List.set_cons_succ]
        refine wpAnyT_take (i := 4) (oi := _) (v := ?tv12) rfl (by kernel_rfl) (by kernel_rfl) (by kernel_rfl) (by kernel_rfl) (fun _ _ _ h => h) (Or.inl ⟨by rfl, ?th12⟩) hS1 ?_
        case th12 => (intro x hSx; (try dsimp only at hSx); go_simp; (try with_reducible rfl))
        try simp only [List.getElem_toArray, List.getElem_cons_succ, List.getElem_cons_zero, Act.put, List.setIfInBounds_toArray, List.set_cons_zero, List.set_cons_succ]
        refine wpAnyT_step (i := 5) (by kernel_rfl) rfl (fun K hK => ?_)
        try simp only [List.getElem_toArray, List.getElem_cons_succ, List.getElem_cons_zero]
        go_simp
        go_at_call 50
        refine (cloneInts a.path A1 c1 wc.drew (by omega) SPc.out).mono ?_
        rintro e w6 ⟨A7, c7, rfl, gp, hb6⟩
        have E6 := Lib.hid (EDc.out.trans hb6)
        have hz6 := E6.out.size
        have HG6 := Lib.hid (show Grx AnyB w6 wc.heap.size 3 1 (.slice A7 a.path.length c7) a.path.length (a.path.map (D.num .i64)) from gp)
        have RN6 := Lib.hid (C2.out.below E6.out C2.out.lt)
        have hcn6 := fun i => RN6.out.cell i
        have hfn6 := fun i => RN6.out.frozen i
        clear gp hb6
        refine hK.out _ _ (HFc.out _ E6.out) (fun hS3 => ?_)
        clear hK K hS1
        try simp only [List.getElem_toArray, List.getElem_cons_succ, List.getElem_cons_zero, Act.put, List.setIfInBounds_toArray, List.set_cons_zero, List.set_cons_succ]
        refine wpAnyT_take (i := 6) (oi := _) (v := ?tv13) rfl (by kernel_rfl) (by kernel_rfl) (by kernel_rfl) (by kernel_rfl) (fun _ _ _ h => h) (Or.inl ⟨by rfl, ?th13⟩) hS3 ?_
        case th13 => (intro x hSx; (try dsimp only at hSx); go_simp; (try with_reducible rfl))
        try simp only [List.getElem_toArray, List.getElem_cons_succ, List.getElem_cons_zero, Act.put, List.setIfInBounds_toArray, List.set_cons_zero, List.set_cons_succ]
        refine wpAnyT_last (by kernel_rfl) (by kernel_rfl) rfl (fun K hK => ?_)
        try simp only [List.getElem_toArray, List.getElem_cons_succ, List.getElem_cons_zero]
        go_simp
        refine hK.out _ _ ?_
        clear hK K
        try simp only [List.getElem_toArray, List.getElem_cons_succ, List.getElem_cons_zero, Act.put, List.setIfInBounds_toArray, List.set_cons_zero, List.set_cons_succ]
        obtain ⟨w7, e7⟩ : ∃ w7, w7 = ((((w6.setCell ⟨n3, 0, none⟩ (.int .i64 3)).setCell ⟨n3, 1, none⟩ (.int .i64 0)).setCell ⟨n3, 2, none⟩ (.slice A7 a.path.length c7)).setCell ⟨n3, 3, none⟩ (.string a.pat.s)).setCell ⟨n3, 4, none⟩ (.slice none 0 0) := ⟨_, rfl⟩
        rw [← e7]
        have Q7 := Lib.hid (show ∀ b, b ≠ n3 → w7.heap[b]? = w6.heap[b]? from fun b hb => by rw [e7]; simp only [Below.heap_setCell _ _ _ b (show b ≠ (⟨n3, _, none⟩ : Addr).block from hb)])
        have hz7 : w7.heap.size = w6.heap.size := by rw [e7]; simp [World.setCell]
        have hzc1 := C1.out.size
        have O7 := Lib.hid (show Osl w7 (fun b => (w2.heap.size ≤ b ∧ b < w7.heap.size) ∧ b ≠ n3) 1 A7 c7 (a.path.map (D.num .i64)) by
          obtain ⟨A5, c5, e5, h5⟩ := HG6.out.oslOwn
          obtain ⟨rfl, rfl⟩ : A7 = A5 ∧ c7 = c5 := by simpa using e5
          exact h5.keep fun b hb => by
            have h1 := HG6.out.own b hb
            exact ⟨⟨⟨by omega, by omega⟩, by omega⟩, Q7.out b (by omega)⟩)
        have E7 := Lib.hid (show Below w2.heap.size w2 w7 by rw [e7]; exact (((((C1.out.trans (E6.out.mono hzc1)).setCell (p := ⟨n3, 0, none⟩) hn3 _).setCell (p := ⟨n3, 1, none⟩) hn3 _).setCell (p := ⟨n3, 2, none⟩) hn3 _).setCell (p := ⟨n3, 3, none⟩) hn3 _).setCell (p := ⟨n3, 4, none⟩) hn3 _)
        have R7 := Lib.hid (show Row w7 n3 29 #[.int .i64 (askO a), .int .i64 (askN a), .slice A7 a.path.length c7, .string (askS a), .slice none 0 0] by rw [HO.out.1, HO.out.2.1, HO.out.2.2, e7]; exact ((((RN6.out.set 0 _).set 1 _).set 2 _).set 3 _).set 4 _)
        clear e7 Q7 hcn6 hfn6
        go_wp2_with fail
        go_meet
        exact ⟨A7, c7, rfl, E7, R7, O7, by omega⟩
      case false =>
        have e20 : ¬ a.pat.op = 20 := by simpa using h20
        have HO := Lib.hid (show askO a = 4 ∧ askN a = a.pat.n ∧ askS a = ⟨#[]⟩ by unfold askO askN askS; simp [e20])
        clear e20
        go_wp2_with fail
        go_meet
        exact ⟨A6, c6, rfl, C1, Lib.hid (by rw [HO.out.1, HO.out.2.1, HO.out.2.2]; exact C2.out), C3, Nat.le_refl _⟩
    case rest =>
      clear hcac RAc C2 C3 SPc HFc EDc hnc
      obtain ⟨A7, c7, rfl, D1, D2, D3, hcd⟩ := hcut
      have hnd := D2.out.lt
      have hzd := D1.out.size
      have Xd := Lib.hid (X2.out.trans (Bx.of_below D1.out (Nat.le_refl _)))
      have RAd := Lib.hid (RA2.out.below D1.out RA2.out.lt)
      have hcad := fun i => RAd.out.cell i
      have RGd := Lib.hid (RG2.out.below D1.out RG2.out.lt)
      have RBd := Lib.hid (RB2.out.below D1.out RB2.out.lt)
      have hgw2 : g < w2.heap.size := by omega
      have HAd := Lib.hid (HA.out.keep (w' := wc) (S' := Lt wc.heap.size) fun x hx => ⟨Nat.lt_of_lt_of_le hx.1 Xd.out.size, Xd.out.block x hx.1 hx.2⟩)
      have hyy := implHolding (fun b => b < w.heap.size ∧ b ≠ g) a rows (some ⟨b, off, none⟩) c A1 c1 A2 c2 wc hl2 many (by omega) hap HOK.out (fun x hx => Nat.lt_of_lt_of_le hx.1 Xd.out.size) (HS.out.keep fun x hx => ⟨hx, Xd.out.block x hx.1 hx.2⟩) HAd.out
      have HYY := Lib.hid hyy
      clear hyy
      go_wp2_with fail
      refine HYY.out.mono ?_
      rintro e wy ⟨Ay, cy, rfl, hsy, hby⟩
      have EY := Lib.hid hby
      have Xy := Lib.hid (Xd.out.trans (Bx.of_below hby (Nat.le_refl _)))
      have hzy := hby.size
      have RGy := Lib.hid (RGd.out.below EY.out RGd.out.lt)
      have hia := HIH.out (many + 1) (yesR a rows) Ay cy wy (by omega) (by omega) (HOK.out.yes a hap) (Nat.le_trans (yesR_len a rows) hl2) RGy.out (hsy.keep fun x hx => ⟨⟨hx.2, by rcases hx.1 with h1 | h1; exact h1.2; omega⟩, rfl⟩)
      rw [HP.out] at hia
      have HIA := Lib.hid hia
      clear hia hsy hby HYY hcad
      go_wp2_with fail
      refine HIA.out.mono ?_
      rintro e wa ⟨P1, pc1, P2, pc2, rfl, hoa, hga, hxa⟩
      have OA := Lib.hid hoa
      have GA := Lib.hid hga
      have XA := Lib.hid hxa
      have hza := hxa.size
      clear hoa hga hxa HIA
      obtain ⟨wb, eb⟩ : ∃ wb, wb = wa.alloc (.cells #[.int .i64 p.1.op, .int .i64 p.1.n, .slice P1 p.1.path.length pc1, .string p.1.s, .slice P2 p.1.kids.length pc2] 29) := ⟨_, rfl⟩
      have Eb := Lib.hid (show Below wa.heap.size wa wb by rw [eb]; exact (Below.refl _ _).alloc (Nat.le_refl _) _)
      have hzb : wa.heap.size + 1 ≤ wb.heap.size := by rw [eb]; simp
      have Xb := Lib.hid ((Xy.out.trans XA.out).trans (Bx.of_below Eb.out (Nat.le_refl _)))
      have RPb := Lib.hid (show Row wb wa.heap.size 29 #[.int .i64 p.1.op, .int .i64 p.1.n, .slice P1 p.1.path.length pc1, .string p.1.s, .slice P2 p.1.kids.length pc2] by rw [eb]; exact Row.new _ _ _)
      have RAa := Lib.hid (XA.out.row (RAd.out.below EY.out RAd.out.lt) (by omega))
      have RAb := Lib.hid (RAa.out.below Eb.out RAa.out.lt)
      have RNa := Lib.hid (XA.out.row (D2.out.below EY.out D2.out.lt) (by omega))
      have RNb := Lib.hid (RNa.out.below Eb.out RNa.out.lt)
      have RBa := Lib.hid (XA.out.row (RBd.out.below EY.out RBd.out.lt) (by omega))
      have RBb := Lib.hid (RBa.out.below Eb.out RBa.out.lt)
      have RGb := Lib.hid (GA.out.below Eb.out GA.out.lt)
      have hcab := fun i => RAb.out.cell i
      have hp2 : many + 1 < p.2 ∧ p.2 ≤ max (many + 1 + 1) (301 + k) := by rw [← HP.out]; exact ⟨growV_less k _ _, growV_le k _ _⟩
      have HAb := Lib.hid (HA.out.keep (w' := wb) (S' := Lt wb.heap.size) fun x hx => ⟨Nat.lt_of_lt_of_le hx.1 Xb.out.size, Xb.out.block x hx.1 hx.2⟩)
      have hnn := implFailing (fun b => b < w.heap.size ∧ b ≠ g) a rows (some ⟨b, off, none⟩) c A1 c1 A2 c2 wb hl2 (fun r hr => Nat.le_trans (asksM_len _) (HOK.out r hr).1) (fun x hx => Nat.lt_of_lt_of_le hx.1 Xb.out.size) (HS.out.keep fun x hx => ⟨hx, Xb.out.block x hx.1 hx.2⟩) HAb.out
      have HNN := Lib.hid hnn
      clear hnn
      go_upto_region 13 with (fail)
      rw [← eb]
      clear eb
      go_wp2_with fail
      refine HNN.out.mono ?_
      rintro e wn ⟨An, cn, rfl, hsn, hbn⟩
      have EN := Lib.hid hbn
      have hzn := hbn.size
      have Xn' := Lib.hid (Xb.out.trans (Bx.of_below hbn (Nat.le_refl _)))
      have RGn := Lib.hid (RGb.out.below EN.out RGb.out.lt)
      have hzwb := Xb.out.size
      have hiq := HIH.out p.2 (noR a rows) An cn wn (by omega) (by omega) ((HOK.out.no a).mono (by omega)) (Nat.le_trans (noR_len a rows) hl2) RGn.out (hsn.keep fun x hx => ⟨⟨hx.2, by rcases hx.1 with h1 | h1; exact h1.2; omega⟩, rfl⟩)
      rw [HQ.out] at hiq
      have HIQ := Lib.hid hiq
      clear hiq hsn hbn HNN hcab
      go_wp2_with fail
      refine HIQ.out.mono ?_
      rintro e wq ⟨Q1, qc1, Q2, qc2, rfl, hoq, hgq, hxq⟩
      have OQ := Lib.hid hoq
      have GQ := Lib.hid hgq
      have XQ := Lib.hid hxq
      have hzq := hxq.size
      clear hoq hgq hxq HIQ
      obtain ⟨wz, ez⟩ : ∃ wz, wz = wq.alloc (.cells #[.int .i64 q.1.op, .int .i64 q.1.n, .slice Q1 q.1.path.length qc1, .string q.1.s, .slice Q2 q.1.kids.length qc2] 29) := ⟨_, rfl⟩
      have Ez := Lib.hid (show Below wq.heap.size wq wz by rw [ez]; exact (Below.refl _ _).alloc (Nat.le_refl _) _)
      have hzz : wq.heap.size + 1 = wz.heap.size := by rw [ez]; simp
      have Xz := Lib.hid ((Xn'.out.trans XQ.out).trans (Bx.of_below Ez.out (Nat.le_refl _)))
      have RQz := Lib.hid (show Row wz wq.heap.size 29 #[.int .i64 q.1.op, .int .i64 q.1.n, .slice Q1 q.1.path.length qc1, .string q.1.s, .slice Q2 q.1.kids.length qc2] by rw [ez]; exact Row.new _ _ _)
      have RPq := Lib.hid (XQ.out.row (RPb.out.below EN.out RPb.out.lt) (by omega))
      have RPz := Lib.hid (RPq.out.below Ez.out RPq.out.lt)
      have RNq := Lib.hid (XQ.out.row (RNb.out.below EN.out RNb.out.lt) (by omega))
      have RNz := Lib.hid (RNq.out.below Ez.out RNq.out.lt)
      have RBq := Lib.hid (XQ.out.row (RBb.out.below EN.out RBb.out.lt) (by omega))
      have RBz := Lib.hid (RBq.out.below Ez.out RBq.out.lt)
      have RGz := Lib.hid (GQ.out.below Ez.out GQ.out.lt)
      have hzc2 := Nat.le_trans hzd hzy
      have c1z := fun i => RQz.out.cell i
      have c2z := fun i => RPz.out.cell i
      have c3z := fun i => RNz.out.cell i
      have f3z := fun i => RNz.out.frozen i
      have c4z := fun i => RBz.out.cell i
      have f4z := fun i => RBz.out.frozen i
      have l1z := RQz.out.lt
      have l2z := RPz.out.lt
      have l3z := RNz.out.lt
      have l4z := RBz.out.lt
      have hne34 : n3 ≠ w.heap.size := by omega
      have hne43 : w.heap.size ≠ n3 := by omega
      go_upto_region 14 with (fail)
      rw [← ez]
      clear ez
      go_wp2_with fail
      obtain ⟨wm, em⟩ : ∃ wm, wm = (((((wz.setCell ⟨n3, 4, none⟩ (.slice (some ⟨wz.heap.size, 0, none⟩) 2 2)).setCell ⟨w.heap.size, 0, none⟩ (.int .i64 (askO a))).setCell ⟨w.heap.size, 1, none⟩ (.int .i64 (askN a))).setCell ⟨w.heap.size, 2, none⟩ (.slice A7 a.path.length c7)).setCell ⟨w.heap.size, 3, none⟩ (.string (askS a))).setCell ⟨w.heap.size, 4, none⟩ (.slice (some ⟨wz.heap.size, 0, none⟩) 2 2) := ⟨_, rfl⟩
      rw [← em]
      obtain ⟨wf, ef⟩ : ∃ wf, wf = wm.alloc (.cells #[.int .i64 p.1.op, .int .i64 p.1.n, .slice P1 p.1.path.length pc1, .string p.1.s, .slice P2 p.1.kids.length pc2, .int .i64 q.1.op, .int .i64 q.1.n, .slice Q1 q.1.path.length qc1, .string q.1.s, .slice Q2 q.1.kids.length qc2] 29) := ⟨_, rfl⟩
      rw [← ef]
      have hzm : wm.heap.size = wz.heap.size := by rw [em]; simp [World.setCell]
      have hwn3 : w.heap.size ≤ n3 := by omega
      have Qm := Lib.hid (fun b (h1 : b ≠ n3) (h2 : b ≠ w.heap.size) (h3 : b < wz.heap.size) => show wf.heap[b]? = wz.heap[b]? from by
        rw [ef, Below.heap_alloc wm _ b (by omega), em]
        rw [Below.heap_setCell _ ⟨w.heap.size, 4, none⟩ _ b h2, Below.heap_setCell _ ⟨w.heap.size, 3, none⟩ _ b h2, Below.heap_setCell _ ⟨w.heap.size, 2, none⟩ _ b h2, Below.heap_setCell _ ⟨w.heap.size, 1, none⟩ _ b h2, Below.heap_setCell _ ⟨w.heap.size, 0, none⟩ _ b h2, Below.heap_setCell _ ⟨n3, 4, none⟩ _ b h1])
      have hzf : wz.heap.size + 1 = wf.heap.size := by rw [ef]; simp [hzm]
      have RKf := Lib.hid (show Row wf wz.heap.size 29 #[.int .i64 p.1.op, .int .i64 p.1.n, .slice P1 p.1.path.length pc1, .string p.1.s, .slice P2 p.1.kids.length pc2, .int .i64 q.1.op, .int .i64 q.1.n, .slice Q1 q.1.path.length qc1, .string q.1.s, .slice Q2 q.1.kids.length qc2] by rw [ef]; exact Row.new' _ _ _ hzm.symm)
      have RBf := Lib.hid (show Row wf w.heap.size 29 #[.int .i64 (askO a), .int .i64 (askN a), .slice A7 a.path.length c7, .string (askS a), .slice (some ⟨wz.heap.size, 0, none⟩) 2 2] by
        rw [ef, em]
        exact ((((((RBz.out.far (p := ⟨n3, 4, none⟩) hne43 _).set 0 _).set 1 _).set 2 _).set 3 _).set 4 _).alloc _)
      have RGf := Lib.hid (show Row wf g 81 #[.int .i64 q.2] from (Qm.out g (by omega) (by omega) (by omega)).trans RGz.out)
      have XF := Lib.hid (show Bx g w wf by
        rw [ef, em]
        exact ((((((Xz.out.set (p := ⟨n3, 4, none⟩) (.inr hwn3) _).set (p := ⟨w.heap.size, 0, none⟩) (.inr (Nat.le_refl _)) _).set (p := ⟨w.heap.size, 1, none⟩) (.inr (Nat.le_refl _)) _).set (p := ⟨w.heap.size, 2, none⟩) (.inr (Nat.le_refl _)) _).set (p := ⟨w.heap.size, 3, none⟩) (.inr (Nat.le_refl _)) _).set (p := ⟨w.heap.size, 4, none⟩) (.inr (Nat.le_refl _)) _).alloc _)
      have QQ := Lib.hid (fun b (h1 : wn.heap.size ≤ b) (h2 : b < wq.heap.size) => show wf.heap[b]? = wq.heap[b]? from (Qm.out b (by omega) (by omega) (by omega)).trans (Ez.out.block b h2))
      have QA := Lib.hid (fun b (h1 : b ≠ n3) (h2 : b ≠ w.heap.size) (h3 : b ≠ g) (h4 : b < wa.heap.size) => show wf.heap[b]? = wa.heap[b]? from
        (Qm.out b h1 h2 (by omega)).trans ((Ez.out.block b (by omega)).trans ((XQ.out.block b (by omega) h3).trans ((EN.out.block b (by omega)).trans (Eb.out.block b h4)))))
      have OAf := Lib.hid (OA.out.keep (w' := wf) (S' := Btw wy.heap.size wa.heap.size) fun b hb => ⟨hb, QA.out b (by have := hb.1; omega) (by have := hb.1; omega) (by have := hb.1; omega) hb.2⟩)
      have OQf := Lib.hid (OQ.out.keep (w' := wf) (S' := Btw wn.heap.size wq.heap.size) fun b hb => ⟨hb, QQ.out b hb.1 hb.2⟩)
      have D3f := Lib.hid (D3.out.keep (w' := wf) (S' := fun b => (w2.heap.size ≤ b ∧ b < wc.heap.size) ∧ b ≠ n3) fun b hb => ⟨hb, (QA.out b hb.2 (by have := hb.1.1; omega) (by have := hb.1.1; omega) (by have := hb.1.2; omega)).trans ((XA.out.block b (by have := hb.1.2; omega) (by have := hb.1.1; omega)).trans (EY.out.block b hb.1.2))⟩)
      have OK := Lib.hid (oslTwoTree (S := fun b => wc.heap.size ≤ b ∧ b < wf.heap.size) (t1 := p.1) (t2 := q.1) RKf.out OAf.out OQf.out (fun x hx => ⟨⟨⟨by have := hx.1; omega, by have := hx.2; omega⟩, by have := hx.2; omega⟩, fun h2 => by have := hx.2; have := h2.1; omega⟩) (fun x hx => ⟨⟨by have := hx.1; omega, by have := hx.2; omega⟩, by have := hx.2; omega⟩) ⟨by omega, by omega⟩)
      have hwfs : (Lit.int .i64 (askO a)).wf = true ∧ (Lit.int .i64 (askN a)).wf = true ∧ (askS a).size ≤ maxLen := by
        unfold askO askN askS
        split
        · exact ⟨by decide, by decide, HA.out.2.2.2.1⟩
        · exact ⟨by decide, HA.out.2.2.1, by simp [ByteArray.size, maxLen]⟩
      have hczf := fun i => RBf.out.cell i
      have HVT := Lib.hid (show growV (k + 1) many rows = (.mk (askO a) (askN a) a.path (askS a) [p.1, q.1], q.2) by rw [HV.out, askT_eq])
      rw [HVT.out]
      clear ef em c1z c2z c3z c4z f3z f4z
      exact bodyPost_ret (v := .agg #[.int .i64 (askO a), .int .i64 (askN a), .slice A7 a.path.length c7, .string (askS a), .slice (some ⟨wz.heap.size, 0, none⟩) 2 2]) (by simp [results, Try.results28, go_sem, hczf]) rfl ⟨A7, c7, some ⟨wz.heap.size, 0, none⟩, 2, rfl, ⟨fun b => (w2.heap.size ≤ b ∧ b < wc.heap.size) ∧ b ≠ n3, fun b => wc.heap.size ≤ b ∧ b < wf.heap.size, fun x hx => ⟨by have := hx.1.1; omega, by have := hx.1.2; omega⟩, fun x hx => ⟨by have := hx.1; omega, hx.2⟩, fun x hx h2 => by have := hx.1.2; have := h2.1; omega, hwfs.1, hwfs.2.1, D3f.out, hwfs.2.2, OK.out⟩, RGf.out, XF.out⟩
theorem growTr (g : Nat) : ∀ (k : Nat), k ≤ 1000 → GrownOk g k
  | 0, _, many, rows, A, c, w, h, hm, hok, hl, hrow, hs => growTrOver g 0 many rows A c w (by omega) hm hrow
  | k + 1, hk, many, rows, A, c, w, h, hm, hok, hl, hrow, hs => by
    by_cases ho : 300 < many + 1
    · exact growTrOver g (k + 1) many rows A c w ho hm hrow
    · by_cases h0 : 0 < rows.length
      · by_cases ha : 0 < rows[0].asks.length
        · exact growTrAsk g k many rows A c w (growTr g k (by omega)) ho h (by omega) hok h0 hl ha hrow hs
        · exact growTrDone g k many rows A c w ho h0 hl (by omega) hrow hs
      · exact growTrNone g k many rows A c w ho (by omega) hrow
end Go.Proofs.Ytnpkmebnmklcfaa

/- Trees of cases: are all cons of a pattern some, with their kids? The reference. Conditions: none. -/
namespace Go.Proofs.Ytnpkmebnmklcfaa
open Go.RowKit
set_option linter.unusedVariables false
set_option linter.unusedSimpArgs false
set_option maxHeartbeats 1000000

def conConV (ds : List GData) (s : ByteArray) : Option GCon := match conOf s ds 0 with
  | some (j, k) => match ds[j]? with
    | some d => d.cons[k]?
    | none => none
  | none => none
def argsOk (ds : List GData) (s : ByteArray) (n : Nat) : Bool := match conConV ds s with
  | some x => x.args.length == n
  | none => false
mutual
def conOk (ds : List GData) : GNode → Bool | .mk op n s t kids => (op != 20 || argsOk ds s kids.length) && conOkL ds kids
def conOkL (ds : List GData) : List GNode → Bool | [] => true | k :: r => conOk ds k && conOkL ds r
end
theorem conOk_eq (ds : List GData) (t : GNode) : conOk ds t = ((t.op != 20 || argsOk ds t.s t.kids.length) && conOkL ds t.kids) := by
  cases t; simp only [conOk, GNode.op, GNode.s, GNode.kids]
theorem conOkL_all (ds : List GData) : ∀ l : List GNode, conOkL ds l = l.all (conOk ds)
  | [] => rfl
  | k :: r => by simp only [conOkL, List.all_cons, conOkL_all ds r]
theorem tagIn_lt2 {s : ByteArray} : ∀ (l : List GCon) (n k : Nat), tagIn s l n = some k → n ≤ k ∧ k < n + l.length
  | [], n, k, h => by simp [tagIn] at h
  | c :: r, n, k, h => by
    unfold tagIn at h
    split at h
    · cases h; simp
    · have := tagIn_lt2 r (n + 1) k h
      simp only [List.length_cons]; omega
theorem conOf_lt2 {s : ByteArray} : ∀ (l : List GData) (n j k : Nat), conOf s l n = some (j, k) → n ≤ j ∧ ∃ h : j - n < l.length, k < l[j - n].cons.length
  | [], n, j, k, h => by simp [conOf] at h
  | d :: r, n, j, k, h => by
    unfold conOf at h
    split at h
    · rename_i m hm
      have e : n = j ∧ m = k := by simpa using h
      obtain ⟨rfl, rfl⟩ := e
      have := tagIn_lt2 d.cons 0 m hm
      exact ⟨Nat.le_refl _, by simp, by simp; omega⟩
    · obtain ⟨h1, h2, h3⟩ := conOf_lt2 r (n + 1) j k h
      have e : j - n = (j - (n + 1)) + 1 := by omega
      refine ⟨by omega, by simp only [List.length_cons]; omega, ?_⟩
      simp only [e, List.getElem_cons_succ]; exact h3
theorem conConV_some {ds : List GData} {s : ByteArray} {j k : Nat} (h : conOf s ds 0 = some (j, k)) : ∃ (hj : j < ds.length) (hk : k < ds[j].cons.length), conConV ds s = some ds[j].cons[k] := by
  obtain ⟨-, h1, h2⟩ := conOf_lt2 ds 0 j k h
  simp only [Nat.sub_zero] at h1 h2
  refine ⟨h1, h2, ?_⟩
  unfold conConV
  simp [h, h1, h2]
theorem conOkL_take {ds : List GData} {l : List GNode} {j : Nat} (h : j < l.length) : conOkL ds (l.take (j + 1)) = (conOkL ds (l.take j) && conOk ds l[j]) := by
  rw [conOkL_all, conOkL_all, take_snoc' l j h, List.all_append]; simp

set_option maxRecDepth 20000 in
theorem specCons (ds : List GData) (A : Option Addr) (c : Nat) : ∀ (kk : Nat) (p : GNode) (A1 : Option Addr) (c1 : Nat) (w : World), p.bulk < kk → Sl w (Lt w.heap.size) 3 A c (ds.map GData.toD) → GNode.At w (Lt w.heap.size) A1 c1 p →
    Calls Try.prog 20 #[.slice A ds.length c, .agg #[.int .i64 p.op, .int .i64 p.n, .string p.s, .string p.t, .slice A1 p.kids.length c1]] w fun e w' => e = .returned (.bool (conOk ds p)) ∧ Below w.heap.size w w'
  | 0, p, A1, c1, w, h, _, _ => absurd h (by omega)
  | kk + 1, p, A1, c1, w, h, hs, hat => by
    have HD := Lib.hid hs
    have HA := Lib.hid hat
    have HIH := Lib.hid (specCons ds A c kk)
    have hkl : p.kids.length ≤ 9223372036854775807 := by simpa using hat.2.2.2.2.len
    have hdl : ds.length ≤ 9223372036854775807 := by simpa using hs.len
    have hbk : bulkL GNode.bulk p.kids ≤ kk := by have := GNode.bulk_eq p; omega
    obtain ⟨w0, e0⟩ : ∃ w0, w0 = w.alloc (.cells #[.int .i64 p.op, .int .i64 p.n, .string p.s, .string p.t, .slice A1 p.kids.length c1] 55) := ⟨_, rfl⟩
    have E0 := Lib.hid (show Below w.heap.size w w0 by rw [e0]; exact (Below.refl _ _).alloc (Nat.le_refl _) _)
    have R0 := Lib.hid (show Row w0 w.heap.size 55 #[.int .i64 p.op, .int .i64 p.n, .string p.s, .string p.t, .slice A1 p.kids.length c1] by rw [e0]; exact Row.new _ _ _)
    have HE := Lib.hid (conOk_eq ds p)
    clear hs hat
    go_enter Try.func20, Try.ntmps20
    go_wp2_with fail
    rw [← e0]
    clear e0
    go_loopw [5] (fun i wr => ∃ (j : Nat), j ≤ p.kids.length ∧ i = .int .i64 j ∧ Hid (conOkL ds (p.kids.take j) = true) ∧ Hid (Row wr w.heap.size 55 #[.int .i64 p.op, .int .i64 p.n, .string p.s, .string p.t, .slice A1 p.kids.length c1]) ∧ Hid (Below w.heap.size w wr)) (fun i _ => p.kids.length - (intOf i).toNat)
    case atStart => exact ⟨0, by omega, by go_num, Lib.hid rfl, R0, E0⟩
    case round =>
      clear R0 E0
      obtain ⟨j, hj, rfl, HL, HR, HB⟩ := hrel
      have hsz := HB.out.size
      have hca := fun i => HR.out.cell i
      by_cases hlt : j < p.kids.length
      · obtain ⟨b, off, A2, c2, rfl, hSb, g0, g1, g2, g3, g4, hk⟩ := GNode.elem (HA.out.2.2.2.2.keep (w' := wr) (S' := Lt w.heap.size) fun q hq => ⟨hq, HB.out.block q hq⟩) j hlt
        have dl : decide ((j : Int) < (p.kids.length : Int)) = true := decide_eq_true (by omega)
        have HT := Lib.hid (conOkL_take (ds := ds) hlt)
        have hbj : p.kids[j].bulk < kk := by have := bulkL_mem GNode.bulk p.kids p.kids[j] (List.getElem_mem hlt); omega
        have HC := Lib.hid (HIH.out p.kids[j] A2 c2 wr hbj (HD.out.below HB.out hsz) (hk.keep fun q hq => ⟨Nat.lt_of_lt_of_le hq hsz, rfl⟩))
        clear hk
        go_wp2_with fail
        refine HC.out.mono ?_
        rintro e w2 ⟨rfl, hb2⟩
        have B2 := Lib.hid (HB.out.trans (hb2.mono hsz))
        have R2 := Lib.hid (HR.out.below hb2 HR.out.lt)
        clear hb2
        cases hc : conOk ds p.kids[j]
        · have HF := Lib.hid (show conOk ds p = false by
            rw [HE.out]
            have h1 : conOkL ds p.kids = false := by
              rw [conOkL_all, List.all_eq_false]
              exact ⟨_, List.getElem_mem hlt, by simp [hc]⟩
            rw [h1, Bool.and_false])
          clear hc
          go_wp2_with fail
          go_ret
          exact ⟨congrArg (fun b => Ending.returned (Value.bool b)) HF.out.symm, B2.out⟩
        · have HL2 := Lib.hid (show conOkL ds (p.kids.take (j + 1)) = true by rw [HT.out, HL.out, hc]; rfl)
          clear hc
          go_wp2_with fail
          go_roundw
          case rel => exact ⟨j + 1, by omega, by go_num, HL2, R2, B2⟩
          case measure => simp [intOf]; omega
      · have dl : decide ((j : Int) < (p.kids.length : Int)) = false := decide_eq_false (by omega)
        have HLA := Lib.hid (show conOkL ds p.kids = true by have := HL.out; rwa [List.take_of_length_le (by omega)] at this)
        cases h20 : (p.op == 20)
        · have HV := Lib.hid (show conOk ds p = true by rw [HE.out, HLA.out, bne, h20]; rfl)
          have hne : (p.op != 20) = true := by rw [bne, h20]; rfl
          go_wp2_with fail
          go_ret
          exact ⟨congrArg (fun b => Ending.returned (Value.bool b)) HV.out.symm, HB.out⟩
        · have HV := Lib.hid (show conOk ds p = argsOk ds p.s p.kids.length by rw [HE.out, HLA.out, bne, h20]; simp)
          have hne : (p.op != 20) = false := by rw [bne, h20]; rfl
          have HC := Lib.hid (specConOf ds A c p.s wr (HD.out.below HB.out hsz))
          go_wp2_with fail
          refine HC.out.mono ?_
          rintro e w2 ⟨rfl, hb2⟩
          have B2 := Lib.hid (HB.out.trans (hb2.mono hsz))
          have R2 := Lib.hid (HR.out.below hb2 HR.out.lt)
          have hca2 := fun i => R2.out.cell i
          clear hb2 hca
          cases hco : conOf p.s ds 0 with
          | none =>
            have HF := Lib.hid (show conOk ds p = false by rw [HV.out]; unfold argsOk conConV; simp [hco])
            have d1 : decide ((0 : Int) ≤ -1) = false := by decide
            simp only [conI]
            clear hco
            go_wp2_with fail
            go_simp
            go_big_quiet (fail)
            go_wp2_with fail
            go_ret
            exact ⟨congrArg (fun b => Ending.returned (Value.bool b)) HF.out.symm, B2.out.trans ⟨rfl, rfl, rfl, Nat.le_refl _, fun _ _ => rfl⟩⟩
          | some jk =>
            obtain ⟨j2, k2⟩ := jk
            obtain ⟨hj2, hk2, hcc⟩ := conConV_some hco
            obtain ⟨b3, off3, B3, c3, rfl, hSb3, x0, x1, x2, hx⟩ := GData.elem (HD.out.keep (w' := w2) (S' := Lt w.heap.size) fun q hq => ⟨hq, B2.out.block q hq⟩) j2 hj2
            obtain ⟨b4, off4, B4, c4, rfl, hSb4, y0, y1, hy⟩ := GCon.elem hx.2.2 k2 hk2
            have hcl : ds[j2].cons.length ≤ 9223372036854775807 := by simpa using hx.2.2.len
            have HV2 := Lib.hid (show ((ds[j2].cons[k2].args.length : Int) == (p.kids.length : Int)) = conOk ds p by
              rw [HV.out]; unfold argsOk; rw [hcc]
              show _ = (ds[j2].cons[k2].args.length == p.kids.length)
              by_cases h : ds[j2].cons[k2].args.length = p.kids.length
              · rw [h]; simp
              · rw [show (ds[j2].cons[k2].args.length == p.kids.length) = false from by rw [beq_eq_false_iff_ne]; exact h, beq_eq_false_iff_ne]; omega)
            have d1 : decide ((0 : Int) ≤ (j2 : Int)) = true := decide_eq_true (by omega)
            simp only [conI]
            have hl2 := Nat.lt_of_lt_of_le hSb3 hsz
            clear hco hcc hx hy x0 x1 y0 h
            go_wp2_with fail
            go_simp
            go_big_quiet (fail)
            go_wp2_with fail
            go_ret
            exact ⟨congrArg (fun b => Ending.returned (Value.bool b)) HV2.out, B2.out.trans ⟨rfl, rfl, rfl, Nat.le_refl _, fun _ _ => rfl⟩⟩
end Go.Proofs.Ytnpkmebnmklcfaa

/- What Keyword gives, in the program and in the reference. Conditions: none. -/
namespace Go.Proofs.Ytnpkmebnmklcfaa
open Go.RowKit
set_option linter.unusedVariables false
set_option linter.unusedSimpArgs false
set_option maxHeartbeats 400000

/-- is a string one of a list? -/
def inStrs (l : List ByteArray) (s : ByteArray) : Bool := l.any fun k => k.toList == s.toList

theorem inStrs_take (l : List ByteArray) (s : ByteArray) (j : Nat) (h : j < l.length) : inStrs (l.take (j + 1)) s = (inStrs (l.take j) s || (l[j].toList == s.toList)) := by
  unfold inStrs; rw [take_snoc' l j h]; simp only [List.any_append, List.any_cons, List.any_nil, Bool.or_false]

theorem inStrs_mem {l : List ByteArray} {s : ByteArray} {j : Nat} (h : j < l.length) (he : (l[j].toList == s.toList) = true) : inStrs l s = true := by
  unfold inStrs; rw [List.any_eq_true]; exact ⟨l[j], List.getElem_mem h, he⟩

theorem Sl.strAt {w : World} {S : Nat → Prop} {A : Option Addr} {c : Nat} {l : List ByteArray} (h : Sl w S 1 A c (l.map D.str)) (i : Nat) (hi : i < l.length) :
    ∃ b off, A = some ⟨b, off, none⟩ ∧ S b ∧ w.cell? ⟨b, off + i, none⟩ = some (.string l[i]) ∧ l[i].size ≤ maxLen := by
  obtain ⟨b, off, cs, e, hb, hl, hc, hr⟩ := Sl.get h i (by simpa using hi)
  rw [List.getElem_map] at hr
  obtain ⟨rfl, h1⟩ := D.rd_str.1 hr
  have := hc 0 _ rfl
  exact ⟨b, off, e, hb, by simpa using this, h1⟩

/-- what slices.Index of strings gives back -/
def IdxStr (l : List ByteArray) (s : ByteArray) (w : World) (e : Ending) (w' : World) : Prop := ∃ i : Int, e = .returned (.int .i64 i) ∧ (inStrs l s = true → 0 ≤ i) ∧ (inStrs l s = false → i = -1) ∧ w = w'

/-- the keywords -/
def kws : List ByteArray := [⟨#[100, 97, 116, 97]⟩, ⟨#[108, 101, 116]⟩, ⟨#[114, 101, 99]⟩, ⟨#[105, 110]⟩, ⟨#[102, 117, 110]⟩, ⟨#[99, 97, 115, 101]⟩, ⟨#[111, 102]⟩, ⟨#[105, 102]⟩, ⟨#[116, 104, 101, 110]⟩, ⟨#[101, 108, 115, 101]⟩, ⟨#[112, 117, 116]⟩]

theorem kws_sl (w : World) (t : TypeId) : Sl (w.alloc (.cells (kws.map Value.string).toArray t)) (Lt (w.heap.size + 1)) 1 (some ⟨w.heap.size, 0, none⟩) 11 (kws.map D.str) := by
  have hr := Row.new w t (kws.map Value.string).toArray
  refine ⟨by decide, by unfold maxLen; omega, .inr ⟨w.heap.size, 0, rfl, by unfold Lt; omega, D.rdR_mk fun i hi => ?_⟩⟩
  have hi' : i < kws.length := by simpa using hi
  refine ⟨[.string kws[i]], rfl, fun j v hj => ?_, ?_⟩
  · match j with
    | 0 =>
      have hv : Value.string kws[i] = v := by simpa using hj
      subst hv
      rw [hr.cell]
      simp [hi']
    | j + 1 => simp at hj
  · rw [List.getElem_map]
    refine D.rd_str.2 ⟨rfl, ?_⟩
    have hall : ∀ k ∈ kws, k.size ≤ maxLen := by
      intro k hk
      have : ∀ k ∈ kws, k.size ≤ 5 := by decide
      have := this k hk
      unfold maxLen; omega
    exact hall _ (List.getElem_mem hi')

end Go.Proofs.Ytnpkmebnmklcfaa

/- What Digits computes, in the program and in the reference. Conditions: the argument fits an int. -/
namespace Go.Proofs.Ytnpkmebnmklcfaa
open Go.RowKit
set_option linter.unusedVariables false
set_option linter.unusedSimpArgs false

theorem digI_size (n : Int) (h1 : -9223372036854775808 ≤ n) (h2 : n ≤ 9223372036854775807) : (digI n).size ≤ 20 := by
  unfold digI
  split
  · rw [ByteArray.size_append']
    have := digU_size19 (-n).toNat (by omega)
    have h1 : (ByteArray.mk #[45]).size = 1 := rfl
    omega
  · have := digU_size19 n.toNat (by omega); omega

theorem digI_neg1 {n : Int} (h1 : n < 0) : digI n = ⟨#[45]⟩ ++ digI (-n) := by
  unfold digI; rw [if_pos h1, if_neg (by omega)]

theorem digI_lt {n : Int} (h1 : 0 ≤ n) (h : n < 10) : digI n = one (48 + n) := by
  unfold digI; rw [if_neg (by omega), digU_lt (by omega)]
  congr 1; omega

theorem digI_ge {n : Int} (h : 10 ≤ n) : digI n = digI (n / 10) ++ one (48 + n % 10) := by
  unfold digI; rw [if_neg (by omega), if_neg (by omega), digU_ge (by omega)]
  congr 2
  · omega
  · omega

theorem digI_neg10 {n : Int} (h : n ≤ -10) : digI n = digI (n.tdiv 10) ++ digI (-(n.tmod 10)) := by
  have h3 := tdiv10 n
  have h4 := tmod10 n
  have e1 : n.tdiv 10 = -((-n) / 10) := h3.2 (by omega)
  have e2 : n.tmod 10 = -((-n) % 10) := h4.2 (by omega)
  rw [e1, e2, digI_neg1 (n := n) (by omega), digI_neg1 (n := -((-n) / 10)) (by omega), digI_ge (n := -n) (by omega), digI_lt (n := - -(-n % 10)) (by omega) (by omega), ba_assoc]
  simp

end Go.Proofs.Ytnpkmebnmklcfaa

/- Plain facts on digits that are read (no program in sight). Conditions: none. -/
namespace Go.Proofs.Ytnpkmebnmklcfaa
open Go.RowKit
set_option linter.unusedVariables false

/-- what digits come to -/
def nval (l : List UInt8) : Nat := l.foldl (fun n c => 10 * n + (c.toNat - 48)) 0
def isDig (c : UInt8) : Bool := decide (48 ≤ c.toNat ∧ c.toNat ≤ 57)

theorem nval_snoc (l : List UInt8) (c : UInt8) : nval (l ++ [c]) = 10 * nval l + (c.toNat - 48) := by simp [nval]

theorem nval_lt (n : Nat) : ∀ l : List UInt8, l.length = n → l.all isDig = true → nval l < 10 ^ n := by
  induction n with
  | zero => intro l h _; rw [List.eq_nil_of_length_eq_zero h]; simp [nval]
  | succ n ih =>
    intro l h hd
    have hne : l ≠ [] := by intro e; rw [e] at h; simp at h
    have e := List.dropLast_concat_getLast hne
    rw [← e] at hd ⊢
    rw [List.all_append, Bool.and_eq_true] at hd
    have h1 := ih l.dropLast (by simp [h]) hd.1
    have h2 : isDig (l.getLast hne) = true := by simpa using hd.2
    unfold isDig at h2
    have h3 := of_decide_eq_true h2
    rw [nval_snoc, Nat.pow_succ]
    omega

theorem one_dig (c : UInt8) (h : isDig c = true) : one (48 + ((c.toNat - 48 : Nat) : Int)) = ⟨#[c]⟩ := by
  have h3 := of_decide_eq_true h
  unfold one
  have e : (48 + ((c.toNat - 48 : Nat) : Int)).toNat = c.toNat := by omega
  rw [e]
  simp

theorem ba_toList_one (c : UInt8) : (ByteArray.mk #[c]).data.toList = [c] := rfl

/-- the digits of what digits come to are those digits, unless there is a zero too many ahead -/
theorem digU_nval (n : Nat) : ∀ l : List UInt8, l.length = n + 1 → l.all isDig = true → (l.head? ≠ some 48 ∨ n = 0) → digU (nval l) = ⟨l.toArray⟩ ∧ (l.head? ≠ some 48 → 0 < nval l) := by
  induction n with
  | zero =>
    intro l h hd _
    match l, h with
    | [c], _ =>
      have hc : isDig c = true := by simpa using hd
      have h3 := of_decide_eq_true hc
      have e : nval [c] = c.toNat - 48 := by simp [nval]
      refine ⟨?_, fun hh => ?_⟩
      · rw [e, digU_lt (by omega), one_dig c hc]
      · rw [e]
        rcases Nat.lt_or_ge 48 c.toNat with h4 | h4
        · omega
        · have : c.toNat = 48 := by omega
          exact absurd (by simp; exact UInt8.toNat_inj.1 this) hh
  | succ n ih =>
    intro l h hd hz
    have hne : l ≠ [] := by intro e; rw [e] at h; simp at h
    have e := List.dropLast_concat_getLast hne
    have hhead : l.dropLast.head? = l.head? := by
      match l, h with
      | a :: b :: r, _ => simp [List.dropLast]
    have hz' : l.head? ≠ some 48 := by rcases hz with hz | hz; exact hz; omega
    rw [← e] at hd
    rw [List.all_append, Bool.and_eq_true] at hd
    obtain ⟨h1, h2⟩ := ih l.dropLast (by simp [h]) hd.1 (.inl (by rw [hhead]; exact hz'))
    have h2 := h2 (by rw [hhead]; exact hz')
    have h4 : isDig (l.getLast hne) = true := by simpa using hd.2
    have h3 := of_decide_eq_true h4
    have ev : nval l = 10 * nval l.dropLast + ((l.getLast hne).toNat - 48) := by rw [← nval_snoc, e]
    refine ⟨?_, fun _ => by omega⟩
    rw [ev, digU_ge (by omega)]
    have e1 : (10 * nval l.dropLast + ((l.getLast hne).toNat - 48)) / 10 = nval l.dropLast := by omega
    have e2 : (10 * nval l.dropLast + ((l.getLast hne).toNat - 48)) % 10 = (l.getLast hne).toNat - 48 := by omega
    rw [e1, e2, h1, one_dig _ h4]
    apply ByteArray.ext
    simp only [ByteArray.data_append]
    conv => rhs; rw [← e]
    simp

/-- the first digit is none too many -/
theorem digU_head (k : Nat) : ∀ n : Nat, n < k → 0 < n → (digU n).data.toList.head? ≠ some 48 ∧ (digU n).data.toList ≠ [] := by
  induction k with
  | zero => intro n h; omega
  | succ k ih =>
    intro n h h0
    by_cases h10 : n < 10
    · rw [digU_lt h10]
      have e : (one (48 + (n : Int))).data.toList = [UInt8.ofNat (48 + n)] := by
        unfold one
        have : (48 + (n : Int)).toNat = 48 + n := by omega
        rw [this]
      rw [e]
      refine ⟨fun hh => ?_, by simp⟩
      simp only [List.head?_cons, Option.some.injEq] at hh
      have := congrArg UInt8.toNat hh
      simp at this
      omega
    · rw [digU_ge (by omega)]
      obtain ⟨h1, h2⟩ := ih (n / 10) (by omega) (by omega)
      simp only [ByteArray.data_append, Array.toList_append]
      refine ⟨?_, by simp [h2]⟩
      obtain ⟨c, r, e⟩ := List.exists_cons_of_ne_nil h2
      rw [e] at h1 ⊢
      simpa using h1

theorem digU_nval_iff (l : List UInt8) (hl : l ≠ []) (hd : l.all isDig = true) : digU (nval l) = ⟨l.toArray⟩ ↔ ¬ (l.head? = some 48 ∧ 1 < l.length) := by
  have hlen : 0 < l.length := List.length_pos_iff.2 hl
  constructor
  · intro h ⟨h1, h2⟩
    have hdata : (digU (nval l)).data.toList = l := by rw [h]
    rcases Nat.eq_zero_or_pos (nval l) with h0 | h0
    · rw [h0, digU_lt (by omega)] at hdata
      have : (one (48 + ((0 : Nat) : Int))).data.toList.length = l.length := by rw [hdata]
      have e1 : (one (48 + ((0 : Nat) : Int))).data.toList.length = 1 := rfl
      omega
    · have := (digU_head (nval l + 1) (nval l) (by omega) h0).1
      rw [hdata] at this
      exact this h1
  · intro h
    refine (digU_nval (l.length - 1) l (by omega) hd ?_).1
    by_cases h1 : l.head? = some 48
    · right
      rcases Nat.lt_or_ge 1 l.length with h2 | h2
      · exact absurd ⟨h1, h2⟩ h
      · omega
    · exact .inl h1

/-- what Number gives -/
def numOk (l : List UInt8) : Bool := decide (1 ≤ l.length ∧ l.length ≤ 10) && (!(l.head? == some 48 && decide (1 < l.length)) && (l.all isDig && decide (nval l ≤ 1073741823)))
def numI (s : ByteArray) : Int × Bool := if numOk s.data.toList then (((nval s.data.toList : Nat) : Int), true) else (0, false)

theorem nval_lt10 (l : List UInt8) (h : l.length ≤ 10) (hd : l.all isDig = true) : nval l < 10000000000 := by
  have h1 := nval_lt l.length l rfl hd
  have h2 : 10 ^ l.length ≤ 10 ^ 10 := Nat.pow_le_pow_right (by omega) h
  omega

theorem take_snoc_b (s : ByteArray) (k : Nat) (h : k < s.size) : s.data.toList.take (k + 1) = s.data.toList.take k ++ [s[k]] := by
  rw [List.take_succ_eq_append_getElem (by simpa using h)]; rfl

theorem all_take_false {l : List UInt8} {k : Nat} (h : k < l.length) (hd : isDig l[k] = false) : l.all isDig = false := by
  rw [← Bool.not_eq_true]; intro hh
  have := List.all_eq_true.1 hh _ (List.getElem_mem h)
  rw [hd] at this; cases this

end Go.Proofs.Ytnpkmebnmklcfaa

/- Number, in the program and in the reference. Conditions: none. -/
namespace Go.Proofs.Ytnpkmebnmklcfaa
open Go.RowKit
set_option linter.unusedVariables false
set_option linter.unusedSimpArgs false
set_option maxHeartbeats 1000000

theorem ret_ib {a b : Int} {c d : Bool} (h : a = b) (h2 : c = d) : Ending.returned (.tuple #[.int .i64 a, .bool c]) = .returned (.tuple #[.int .i64 b, .bool d]) := by rw [h, h2]

theorem numI_false {s : ByteArray} (h : numOk s.data.toList = false) : numI s = (0, false) := by unfold numI; rw [h]; rfl
theorem numI_true {s : ByteArray} (h : numOk s.data.toList = true) : numI s = (((nval s.data.toList : Nat) : Int), true) := by unfold numI; rw [h]; rfl

theorem ba_len (s : ByteArray) : s.data.toList.length = s.size := by cases s; rfl
theorem ba_head (s : ByteArray) (h : 0 < s.size) : s.data.toList.head? = some s[0] := by
  rw [List.head?_eq_getElem?, List.getElem?_eq_getElem (by rw [ba_len]; exact h)]; rfl

end Go.Proofs.Ytnpkmebnmklcfaa

/- Names: letters, names and cons, in the program and in the reference. Conditions: none. -/
namespace Go.Proofs.Ytnpkmebnmklcfaa
open Go.RowKit
set_option linter.unusedVariables false
set_option linter.unusedSimpArgs false
set_option maxHeartbeats 1000000

def smB (c : UInt8) : Bool := decide (97 ≤ c.toNat ∧ c.toNat ≤ 122)
def lgB (c : UInt8) : Bool := decide (65 ≤ c.toNat ∧ c.toNat ≤ 90)
def ltB (c : UInt8) : Bool := smB c || lgB c
def firstB (f : UInt8 → Bool) (s : ByteArray) : Bool := match s.data.toList with | [] => false | c :: _ => f c
def lettersB (f : UInt8 → Bool) (s : ByteArray) : Bool := decide (1 ≤ s.size ∧ s.size ≤ 8) && firstB f s && s.data.toList.all ltB
def nameB (s : ByteArray) : Bool := lettersB smB s && !inStrs kws s
def intS : ByteArray := ⟨#[73, 110, 116]⟩
def conB (s : ByteArray) : Bool := lettersB lgB s && !(s.toList == intS.toList)
theorem firstB_at {f : UInt8 → Bool} {s : ByteArray} (h : 0 < s.size) : firstB f s = f s[0] := by
  have h1 := ba_head s h
  unfold firstB
  cases hl : s.data.toList with
  | nil => rw [hl] at h1; simp at h1
  | cons a r => rw [hl] at h1; simp at h1; simp [h1]


/-- how many bytes from the first on are of a kind -/
def runN (p : UInt8 → Bool) : List UInt8 → Nat
  | [] => 0
  | c :: r => if p c = true then runN p r + 1 else 0
theorem runN_at {p : UInt8 → Bool} : ∀ {l : List UInt8} {k : Nat}, (l.take k).all p = true → (h : k < l.length) → p l[k] = false → runN p l = k
  | [], k, _, h, _ => by simp at h
  | c :: r, 0, _, _, hp => by simp only [List.getElem_cons_zero] at hp; rw [runN, if_neg (by rw [hp]; simp)]
  | c :: r, k + 1, ha, h, hp => by
    simp only [List.take_succ_cons, List.all_cons, Bool.and_eq_true] at ha
    rw [runN, if_pos ha.1, runN_at ha.2 (by simpa using h) (by simpa using hp)]
theorem runN_all {p : UInt8 → Bool} : ∀ {l : List UInt8}, l.all p = true → runN p l = l.length
  | [], _ => rfl
  | c :: r, h => by
    simp only [List.all_cons, Bool.and_eq_true] at h
    rw [runN, if_pos h.1, runN_all h.2]; rfl
theorem runN_le (p : UInt8 → Bool) : ∀ l : List UInt8, runN p l ≤ l.length
  | [] => Nat.le_refl _
  | c :: r => by
    rw [runN]
    split
    · have := runN_le p r; simp; omega
    · omega
theorem runN_iff {p : UInt8 → Bool} : ∀ {l : List UInt8}, runN p l = l.length ↔ l.all p = true
  | [] => by simp [runN]
  | c :: r => by
    rw [runN, List.all_cons, List.length_cons]
    by_cases h : p c = true
    · rw [if_pos h, h, Bool.true_and, ← runN_iff]; omega
    · rw [if_neg h]
      have : p c = false := by simpa using h
      rw [this]; simp
theorem drop_get (s : ByteArray) (a k : Nat) (h : a + k < s.size) : (s.data.toList.drop a)[k]'(by rw [List.length_drop, ba_len]; omega) = s[a + k] := by
  rw [List.getElem_drop]; rfl
theorem drop_snoc (s : ByteArray) (a k : Nat) (h : a + k < s.size) : (s.data.toList.drop a).take (k + 1) = (s.data.toList.drop a).take k ++ [s[a + k]] := by
  rw [List.take_succ_eq_append_getElem (by rw [List.length_drop, ba_len]; omega), drop_get s a k h]

end Go.Proofs.Ytnpkmebnmklcfaa

/- Names: is a text a name, a con, in the program and in the reference. Conditions: none. -/
namespace Go.Proofs.Ytnpkmebnmklcfaa
open Go.RowKit
set_option linter.unusedVariables false
set_option linter.unusedSimpArgs false
set_option maxHeartbeats 1000000

theorem intS_list : intS.toList = [73, 110, 116] := by rw [ByteArray.toList_eq]; rfl
theorem all_no {p : UInt8 → Bool} {l : List UInt8} {k : Nat} (h : k < l.length) (hd : p l[k] = false) : l.all p = false := by
  rw [← Bool.not_eq_true]; intro hh
  have := List.all_eq_true.1 hh _ (List.getElem_mem h)
  rw [hd] at this; cases this
theorem lettersB_size {f : UInt8 → Bool} {s : ByteArray} (h : inB (s.size : Int) 1 8 = false) : lettersB f s = false := by
  unfold lettersB inB at *
  have : decide (1 ≤ s.size ∧ s.size ≤ 8) = false := by
    simp only [decide_eq_false_iff_not] at h ⊢; omega
  rw [this]; rfl
theorem inB_size {s : ByteArray} (h : inB (s.size : Int) 1 8 = true) : 0 < s.size ∧ s.size ≤ 8 ∧ decide (1 ≤ s.size ∧ s.size ≤ 8) = true := by
  unfold inB at h
  simp only [decide_eq_true_eq] at h
  exact ⟨by omega, by omega, by simp; omega⟩

end Go.Proofs.Ytnpkmebnmklcfaa

/- slices.IndexFunc and slices.ContainsFunc at Node, with whatever predicate that only makes memory of its own. Conditions: none. -/
namespace Go.Proofs.Ytnpkmebnmklcfaa
open Go.RowKit
set_option linter.unusedVariables false
set_option linter.unusedSimpArgs false
set_option maxHeartbeats 400000

theorem indexFuncNode (K : Nat) (hK : ∀ (args : Array Value) (w : World), (callFunc K args).run Try.prog w = .ok (.enter K args) w) (caps : Array Value) (p : GNode → Bool) (l : List GNode) (A : Option Addr) (c : Nat) (w : World) (hs : Sl w (Lt w.heap.size) 5 A c (l.map GNode.toD))
    (H : ∀ x, x ∈ l → ∀ (A1 : Option Addr) (c1 : Nat) (w2 : World), Below w.heap.size w w2 → GNode.At w2 (Lt w2.heap.size) A1 c1 x →
      Calls Try.prog K (#[.agg #[.int .i64 x.op, .int .i64 x.n, .string x.s, .string x.t, .slice A1 x.kids.length c1]] ++ caps) w2 fun e w' => e = .returned (.bool (p x)) ∧ Below w2.heap.size w2 w') :
    Calls Try.prog 75 #[.slice A l.length c, .func (.func K) #[] caps] w fun e w' => e = .returned (.int .i64 (idxI p l)) ∧ Below w.heap.size w w' := by
  have hlen : l.length ≤ 9223372036854775807 := by simpa using hs.len
  have HH := Lib.hid H
  clear H
  go_enter Try.func75, Try.ntmps75
  go_wp2_with fail
  go_loopw [8] (fun i wr => ∃ j : Nat, j ≤ l.length ∧ i = .int .i64 j ∧ noneTo p l j ∧ Below w.heap.size w wr) (fun i _ => l.length - (intOf i).toNat)
  case atStart => exact ⟨0, by omega, by go_num, noneTo_zero p l, Below.refl _ _⟩
  case round =>
    obtain ⟨j, hj, rfl, hno, hbl⟩ := hrel
    have Hno := Lib.hid hno
    clear hno
    have hsz := hbl.size
    by_cases hlt : j < l.length
    · have htr := GNode.elem (hs.below hbl (Nat.le_refl _)) j hlt
      obtain ⟨b, off, A1, c1, rfl, hSb, g0, g1, g2, g3, g4, hat⟩ := htr
      have hmem : l[j] ∈ l := List.getElem_mem hlt
      go_wp2_with fail
      refine (HH.out _ hmem _ _ _ hbl (hat.below (Below.refl _ _) hsz)).mono ?_
      rintro e w1 ⟨rfl, hb1⟩
      cases he : p l[j]
      · have hn := Lib.hid (noneTo_succ Hno.out hlt he)
        go_wp2_with fail
        go_roundw
        case rel => exact ⟨j + 1, by omega, by go_num, hn.out, hbl.trans (hb1.mono hsz)⟩
        case measure => simp [intOf]; omega
      · have hn := Lib.hid (idxI_at Hno.out hlt he)
        go_wp2_with fail
        go_ret
        exact ⟨ret_int hn.out.symm, hbl.trans (hb1.mono hsz)⟩
    · have hjl : j = l.length := by omega
      have Hj := Lib.hid hjl
      clear hjl
      go_wp2_with fail
      go_ret
      exact ⟨ret_int (idxI_none (by have := Hno.out; rw [Hj.out] at this; exact this)).symm, hbl⟩

theorem containsFuncNode (K : Nat) (hK : ∀ (args : Array Value) (w : World), (callFunc K args).run Try.prog w = .ok (.enter K args) w) (caps : Array Value) (p : GNode → Bool) (l : List GNode) (A : Option Addr) (c : Nat) (w : World) (hs : Sl w (Lt w.heap.size) 5 A c (l.map GNode.toD))
    (H : ∀ x, x ∈ l → ∀ (A1 : Option Addr) (c1 : Nat) (w2 : World), Below w.heap.size w w2 → GNode.At w2 (Lt w2.heap.size) A1 c1 x →
      Calls Try.prog K (#[.agg #[.int .i64 x.op, .int .i64 x.n, .string x.s, .string x.t, .slice A1 x.kids.length c1]] ++ caps) w2 fun e w' => e = .returned (.bool (p x)) ∧ Below w2.heap.size w2 w') :
    Calls Try.prog 62 #[.slice A l.length c, .func (.func K) #[] caps] w fun e w' => e = .returned (.bool (l.any p)) ∧ Below w.heap.size w w' := by
  have HH := Lib.hid H
  clear H
  go_enter Try.func62, Try.ntmps62
  go_wp2_with fail
  refine (indexFuncNode K hK caps p l A c w hs HH.out).mono ?_
  rintro e w1 ⟨rfl, hb1⟩
  cases ha : l.any p
  · have hi := idxI_any_false ha
    rw [hi]
    have Ha := Lib.hid ha
    clear ha hi
    go_wp2_with fail
    go_ret
    exact ⟨ret_bool Ha.out.symm, hb1⟩
  · have hi := idxI_any_true ha
    have Ha := Lib.hid ha
    clear ha
    generalize idxI p l = x at *
    go_wp2_with fail
    go_ret
    exact ⟨ret_bool Ha.out.symm, hb1⟩

end Go.Proofs.Ytnpkmebnmklcfaa

/- Patterns that are tidy. Conditions: none. -/
namespace Go.Proofs.Ytnpkmebnmklcfaa
open Go.RowKit
set_option linter.unusedVariables false
set_option linter.unusedSimpArgs false
set_option maxHeartbeats 1000000

/-- is one pattern tidy by itself, with so many kids? -/
def pat1 (op n : Int) (s t : ByteArray) (k : Nat) : Bool :=
  t.toList.isEmpty && (if op = 17 then k == 0 && (n == 0 && s.toList.isEmpty)
  else if op = 18 then k == 0 && (n == 0 && nameB s)
  else if op = 19 then k == 0 && (inB n 0 1073741823 && s.toList.isEmpty)
  else if op = 20 then n == 0 && conB s else false)
mutual
def GNode.pat : GNode → Bool | .mk op n s t kids => pat1 op n s t kids.length && GNode.patL kids
def GNode.patL : List GNode → Bool | [] => true | t :: r => t.pat && GNode.patL r
end
theorem GNode.pat_eq (t : GNode) : t.pat = (pat1 t.op t.n t.s t.t t.kids.length && GNode.patL t.kids) := by
  cases t; simp only [GNode.pat, GNode.op, GNode.n, GNode.s, GNode.t, GNode.kids]
theorem GNode.patL_all : ∀ l : List GNode, GNode.patL l = l.all GNode.pat
  | [] => rfl
  | t :: r => by simp only [GNode.patL, List.all_cons, GNode.patL_all r]
theorem all_not_any {α : Type} (p : α → Bool) : ∀ l : List α, (!l.any fun x => !p x) = l.all p
  | [] => rfl
  | x :: r => by simp only [List.any_cons, List.all_cons, Bool.not_or, Bool.not_not, all_not_any p r]

set_option maxRecDepth 20000 in
/-- are all of some nodes as a function tells? -/
theorem implAllNodes (K : Nat) (hK : ∀ (args : Array Value) (w : World), (callFunc K args).run Try.prog w = .ok (.enter K args) w) (caps : Array Value) (p : GNode → Bool) (l : List GNode) (A : Option Addr) (c : Nat) (w : World) (hs : Sl w (Lt w.heap.size) 5 A c (l.map GNode.toD))
    (H : ∀ x, x ∈ l → ∀ (A1 : Option Addr) (c1 : Nat) (w2 : World), Below w.heap.size w w2 → GNode.At w2 (Lt w2.heap.size) A1 c1 x →
      Calls Try.prog K (#[.agg #[.int .i64 x.op, .int .i64 x.n, .string x.s, .string x.t, .slice A1 x.kids.length c1]] ++ caps) w2 fun e w' => e = .returned (.bool (p x)) ∧ Below w2.heap.size w2 w') :
    Calls Try.prog 45 #[.slice A l.length c, .func (.func K) #[] caps] w fun e w' => e = .returned (.bool (l.all p)) ∧ Below w.heap.size w w' := by
  have HH := Lib.hid H
  have HS := Lib.hid hs
  obtain ⟨w0, e0⟩ : ∃ w0, w0 = w.alloc (.cells #[.func (.func K) #[] caps] 100) := ⟨_, rfl⟩
  have E0 := Lib.hid (show Below w.heap.size w w0 by rw [e0]; exact (Below.refl _ _).alloc (Nat.le_refl _) _)
  have R0 := Lib.hid (show Row w0 w.heap.size 100 #[.func (.func K) #[] caps] by rw [e0]; exact Row.new' _ _ _ rfl)
  have HC : ∀ x, x ∈ l → ∀ (A1 : Option Addr) (c1 : Nat) (w2 : World), Below w0.heap.size w0 w2 → GNode.At w2 (Lt w2.heap.size) A1 c1 x →
      Calls Try.prog 63 (#[.agg #[.int .i64 x.op, .int .i64 x.n, .string x.s, .string x.t, .slice A1 x.kids.length c1]] ++ #[.pointer (some ⟨w.heap.size, 0, none⟩)]) w2 fun e w' => e = .returned (.bool (!p x)) ∧ Below w2.heap.size w2 w' := by
    intro x hx A1 c1 w2 hbw hx2
    obtain ⟨w3, e3⟩ : ∃ w3, w3 = w2.alloc (.cells #[.int .i64 x.op, .int .i64 x.n, .string x.s, .string x.t, .slice A1 x.kids.length c1] 55) := ⟨_, rfl⟩
    have E3 := Lib.hid (show Below w2.heap.size w2 w3 by rw [e3]; exact (Below.refl _ _).alloc (Nat.le_refl _) _)
    have R2 := R0.out.below hbw R0.out.lt
    have R3 := Lib.hid (R2.below E3.out R2.lt)
    have hc3 := fun i => R3.out.cell i
    have HX := Lib.hid (HH.out x hx A1 c1 w3 ((E0.out.trans (hbw.mono E0.out.size)).trans (E3.out.mono (Nat.le_trans E0.out.size hbw.size))) (hx2.below E3.out E3.out.size))
    rw [e3] at hc3
    have EQ := Lib.hid e3
    clear hx2 hbw e3 R2 e0 hs H
    go_enter Try.func63, Try.ntmps63
    go_wp2_with fail
    rw [← EQ.out]
    refine HX.out.mono ?_
    rintro e w4 ⟨rfl, hb4⟩
    go_wp2_with fail
    go_ret
    exact ⟨rfl, E3.out.trans (hb4.mono E3.out.size)⟩
  have HC2 := Lib.hid HC
  have HA := Lib.hid (all_not_any p l)
  have EQ := Lib.hid e0
  clear HC e0 hs H
  go_enter Try.func45, Try.ntmps45
  go_wp2_with fail
  rw [← EQ.out]
  refine (containsFuncNode 63 (enters Try.func63 (by kernel_rfl) (by kernel_rfl)) #[.pointer (some ⟨w.heap.size, 0, none⟩)] (fun x => !p x) l A c w0 (HS.out.below E0.out E0.out.size) (fun x hx A2 c2 w2 hb2 hx2 => HC2.out x hx A2 c2 w2 hb2 hx2)).mono ?_
  rintro e w1 ⟨rfl, hb1⟩
  go_wp2_with fail
  go_ret
  exact ⟨ret_bool HA.out, E0.out.trans (hb1.mono E0.out.size)⟩

end Go.Proofs.Ytnpkmebnmklcfaa

/- Trees of cases, in the program: are all cons of a pattern some, with their kids? Conditions: none. -/
namespace Go.Proofs.Ytnpkmebnmklcfaa
open Go.RowKit
set_option linter.unusedVariables false
set_option linter.unusedSimpArgs false
set_option maxHeartbeats 1000000

set_option maxRecDepth 20000 in
theorem implConsOk (ds : List GData) (A : Option Addr) (c : Nat) : ∀ (kk : Nat) (p : GNode) (A1 : Option Addr) (c1 : Nat) (w : World), p.bulk < kk → Sl w (Lt w.heap.size) 3 A c (ds.map GData.toD) → GNode.At w (Lt w.heap.size) A1 c1 p →
    Calls Try.prog 26 #[.slice A ds.length c, .agg #[.int .i64 p.op, .int .i64 p.n, .string p.s, .string p.t, .slice A1 p.kids.length c1]] w fun e w' => e = .returned (.bool (conOk ds p)) ∧ Below w.heap.size w w'
  | 0, p, A1, c1, w, h, _, _ => absurd h (by omega)
  | kk + 1, p, A1, c1, w, h, hs, hat => by
    have HD := Lib.hid hs
    have HA := Lib.hid hat
    have HIH := Lib.hid (implConsOk ds A c kk)
    have hdl : ds.length ≤ 9223372036854775807 := by simpa using hs.len
    have hkl : p.kids.length ≤ 9223372036854775807 := by simpa using hat.2.2.2.2.len
    have hbk : bulkL GNode.bulk p.kids ≤ kk := by have := GNode.bulk_eq p; omega
    obtain ⟨w0, e0⟩ : ∃ w0, w0 = (w.alloc (.cells #[.slice A ds.length c] 32)).alloc (.cells #[.int .i64 p.op, .int .i64 p.n, .string p.s, .string p.t, .slice A1 p.kids.length c1] 55) := ⟨_, rfl⟩
    have E0 := Lib.hid (show Below w.heap.size w w0 by rw [e0]; exact ((Below.refl _ _).alloc (Nat.le_refl _) _).alloc (by simp) _)
    have RL0 := Lib.hid (show Row w0 w.heap.size 32 #[.slice A ds.length c] by rw [e0]; exact (Row.new' _ _ _ rfl).alloc _)
    have RP0 := Lib.hid (show Row w0 (w.heap.size + 1) 55 #[.int .i64 p.op, .int .i64 p.n, .string p.s, .string p.t, .slice A1 p.kids.length c1] by rw [e0]; exact Row.new' _ _ _ (by simp))
    have HE := Lib.hid (conOk_eq ds p)
    have HKID : Hid (∀ x, x ∈ p.kids → ∀ (A2 : Option Addr) (c2 : Nat) (w2 : World), Below w0.heap.size w0 w2 → GNode.At w2 (Lt w2.heap.size) A2 c2 x →
      Calls Try.prog 46 (#[.agg #[.int .i64 x.op, .int .i64 x.n, .string x.s, .string x.t, .slice A2 x.kids.length c2]] ++ #[.pointer (some ⟨w.heap.size, 0, none⟩)]) w2 fun e w' => e = .returned (.bool (conOk ds x)) ∧ Below w2.heap.size w2 w') := Lib.hid (by
      intro x hx A2 c2 w2 hb hatx
      have hbx : x.bulk < kk := by have := bulkL_mem GNode.bulk p.kids x hx; omega
      obtain ⟨w3, e3⟩ : ∃ w3, w3 = w2.alloc (.cells #[.int .i64 x.op, .int .i64 x.n, .string x.s, .string x.t, .slice A2 x.kids.length c2] 55) := ⟨_, rfl⟩
      have E3 := Lib.hid (show Below w2.heap.size w2 w3 by rw [e3]; exact (Below.refl _ _).alloc (Nat.le_refl _) _)
      have R2 := Lib.hid (RL0.out.below hb RL0.out.lt)
      have hgl := R2.out.lt
      have hca := fun i => R2.out.cell i
      have BW := E0.out.trans (hb.mono E0.out.size)
      have HC := Lib.hid (HIH.out x A2 c2 w3 hbx ((HD.out.below BW BW.size).below E3.out E3.out.size) (hatx.below E3.out E3.out.size))
      clear hatx hb BW e0 hs hat HE hx
      go_enter Try.func46, Try.ntmps46
      go_wp2_with fail
      rw [← e3]
      refine HC.out.mono ?_
      rintro e w4 ⟨rfl, hb4⟩
      go_wp2_with fail
      go_ret
      exact ⟨rfl, E3.out.trans (hb4.mono E3.out.size)⟩)
    have hz0 : w.heap.size + 2 = w0.heap.size := by rw [e0]; simp
    have HAL := Lib.hid (fun (w2 : World) (hb : Below w0.heap.size w0 w2) => implAllNodes 46 (enters Try.func46 (by kernel_rfl) (by kernel_rfl)) #[.pointer (some ⟨w.heap.size, 0, none⟩)] (conOk ds) p.kids A1 c1 w2 (HA.out.2.2.2.2.keep fun q hq => ⟨by have h1 : q < w.heap.size := hq; have := hb.size; show q < w2.heap.size; omega, (hb.block q (by have h1 : q < w.heap.size := hq; omega)).trans (E0.out.block q hq)⟩) (fun x hx A2 c2 w3 hb3 hatx => HKID.out x hx A2 c2 w3 (hb.trans (hb3.mono hb.size)) hatx))
    clear hs hat
    go_enter Try.func26, Try.ntmps26
    cases h20 : (p.op == 20)
    · have HV := Lib.hid (show conOk ds p = p.kids.all (conOk ds) by rw [HE.out, conOkL_all, bne, h20]; rfl)
      have HAL0 := Lib.hid (HAL.out w0 (Below.refl _ _))
      go_wp2_with fail
      rw [← e0]
      clear e0
      refine HAL0.out.mono ?_
      rintro e w1 ⟨rfl, hb1⟩
      go_wp2_with fail
      go_ret
      exact ⟨congrArg (fun b => Ending.returned (Value.bool b)) HV.out.symm, E0.out.trans (hb1.mono E0.out.size)⟩
    · have HV := Lib.hid (show conOk ds p = (argsOk ds p.s p.kids.length && p.kids.all (conOk ds)) by rw [HE.out, conOkL_all, bne, h20]; simp)
      have HC := Lib.hid (implConOf ds A c p.s w0 (HD.out.below E0.out E0.out.size))
      go_wp2_with fail
      rw [← e0]
      clear e0
      refine HC.out.mono ?_
      rintro e w2 ⟨rfl, hb2⟩
      have E2 := Lib.hid hb2
      have B2 := Lib.hid (E0.out.trans (hb2.mono E0.out.size))
      have RL2 := Lib.hid (RL0.out.below hb2 RL0.out.lt)
      have RP2 := Lib.hid (RP0.out.below hb2 RP0.out.lt)
      have hcl := fun i => RL2.out.cell i
      have hcp := fun i => RP2.out.cell i
      have hz2 := hb2.size
      clear hb2 HC
      cases hco : conOf p.s ds 0 with
      | none =>
        have HF := Lib.hid (show conOk ds p = false by rw [HV.out]; unfold argsOk conConV; simp [hco])
        simp only [conI]
        clear hco
        go_wp2_with fail
        go_simp
        go_big_quiet (fail)
        go_wp2_with fail
        go_ret
        exact ⟨congrArg (fun b => Ending.returned (Value.bool b)) HF.out.symm, B2.out.trans ⟨rfl, rfl, rfl, Nat.le_refl _, fun _ _ => rfl⟩⟩
      | some jk =>
        obtain ⟨j2, k2⟩ := jk
        obtain ⟨hj2, hk2, hcc⟩ := conConV_some hco
        obtain ⟨b3, off3, B3, c3, rfl, hSb3, x0, x1, x2, hx⟩ := GData.elem (HD.out.keep (w' := w2) (S' := Lt w.heap.size) fun q hq => ⟨hq, B2.out.block q hq⟩) j2 hj2
        obtain ⟨b4, off4, B4, c4, rfl, hSb4, y0, y1, hy⟩ := GCon.elem hx.2.2 k2 hk2
        have hcln : ds[j2].cons.length ≤ 9223372036854775807 := by simpa using hx.2.2.len
        have HAK := Lib.hid (show argsOk ds p.s p.kids.length = (ds[j2].cons[k2].args.length == p.kids.length) by unfold argsOk; rw [hcc])
        have d1 : decide ((j2 : Int) < 0) = false := decide_eq_false (by omega)
        simp only [conI]
        have hl2 : b3 < w2.heap.size := Nat.lt_of_lt_of_le hSb3 B2.out.size
        have hl4 : b4 < w2.heap.size := Nat.lt_of_lt_of_le hSb4 B2.out.size
        clear hco hcc hx hy x0 x1 y0 h
        by_cases hq : ds[j2].cons[k2].args.length = p.kids.length
        · have hne : ((ds[j2].cons[k2].args.length : Int) != (p.kids.length : Int)) = false := by rw [bne, hq]; simp
          have HV2 := Lib.hid (show conOk ds p = p.kids.all (conOk ds) by rw [HV.out, HAK.out, hq]; simp)
          clear hq
          go_wp2_with fail
          go_simp
          go_big_quiet (fail)
          obtain ⟨w4, e4⟩ : ∃ w4, w4 = w2.drewN nq := ⟨_, rfl⟩
          rw [← e4]
          have E4 := Lib.hid (show Below w0.heap.size w0 w4 by rw [e4]; exact E2.out.trans ⟨rfl, rfl, rfl, by show w2.heap.size ≤ w2.heap.size; exact Nat.le_refl _, fun _ _ => rfl⟩)
          have RP4 := Lib.hid (show Row w4 (w.heap.size + 1) 55 #[.int .i64 p.op, .int .i64 p.n, .string p.s, .string p.t, .slice A1 p.kids.length c1] by rw [e4]; exact RP2.out)
          have hcp4 := fun i => RP4.out.cell i
          have HA4 := Lib.hid (HAL.out w4 E4.out)
          clear e4 hcl hcp x2 y1
          go_wp2_with fail
          refine HA4.out.mono ?_
          rintro e w5 ⟨rfl, hb5⟩
          go_wp2_with fail
          go_ret
          exact ⟨congrArg (fun b => Ending.returned (Value.bool b)) HV2.out.symm, (E0.out.trans (E4.out.mono E0.out.size)).trans (hb5.mono (E0.out.trans (E4.out.mono E0.out.size)).size)⟩
        · have hne : ((ds[j2].cons[k2].args.length : Int) != (p.kids.length : Int)) = true := by rw [bne, show ((ds[j2].cons[k2].args.length : Int) == (p.kids.length : Int)) = false from by rw [beq_eq_false_iff_ne]; omega]; rfl
          have HF := Lib.hid (show conOk ds p = false by rw [HV.out, HAK.out, show (ds[j2].cons[k2].args.length == p.kids.length) = false from by rw [beq_eq_false_iff_ne]; exact hq]; rfl)
          clear hq
          go_wp2_with fail
          go_simp
          go_big_quiet (fail)
          go_wp2_with fail
          go_ret
          exact ⟨congrArg (fun b => Ending.returned (Value.bool b)) HF.out.symm, B2.out.trans ⟨rfl, rfl, rfl, Nat.le_refl _, fun _ _ => rfl⟩⟩
end Go.Proofs.Ytnpkmebnmklcfaa

/- Coverage: the rows that fit, and the rest of rows, in the reference. Conditions: the sizes are bounded. -/
namespace Go.Proofs.Ytnpkmebnmklcfaa
open Go.RowKit
set_option linter.unusedVariables false
set_option linter.unusedSimpArgs false
set_option maxHeartbeats 1000000


end Go.Proofs.Ytnpkmebnmklcfaa

/- slices.IndexFunc and slices.ContainsFunc at rows of patterns, with whatever predicate that only makes memory of its own. Conditions: none. -/
namespace Go.Proofs.Ytnpkmebnmklcfaa
open Go.RowKit
set_option linter.unusedVariables false
set_option linter.unusedSimpArgs false
set_option maxHeartbeats 400000

end Go.Proofs.Ytnpkmebnmklcfaa

/- Coverage: all cons of a data, where rows begin with all of them, in the program. Conditions: the sizes are bounded. -/
namespace Go.Proofs.Ytnpkmebnmklcfaa
open Go.RowKit
set_option linter.unusedVariables false
set_option linter.unusedSimpArgs false
set_option maxHeartbeats 1000000

theorem conOf_lt {s : ByteArray} : ∀ {l : List GData} {n j k : Nat}, conOf s l n = some (j, k) → n ≤ j ∧ j < n + l.length
  | [], _, _, _, h => by simp [conOf] at h
  | d :: r, n, j, k, h => by
    rw [conOf] at h
    split at h
    · simp only [Option.some.injEq, Prod.mk.injEq] at h; simp; omega
    · have := conOf_lt h; simp; omega
theorem conI_range (s : ByteArray) (ds : List GData) : (conI (conOf s ds 0)).1 = -1 ∨ ∃ j : Nat, j < ds.length ∧ (conI (conOf s ds 0)).1 = j := by
  cases h : conOf s ds 0 with
  | none => exact .inl rfl
  | some x => obtain ⟨j, k⟩ := x; exact .inr ⟨j, by have := conOf_lt h; omega, rfl⟩
theorem dataStep_range {ds : List GData} {a : Int} (r : List GNode) (h : a = -1 ∨ ∃ j : Nat, j < ds.length ∧ a = j) : dataStep ds a r = -1 ∨ ∃ j : Nat, j < ds.length ∧ dataStep ds a r = j := by
  unfold dataStep
  split
  · exact conI_range _ ds
  · exact h
theorem dataFold_range {ds : List GData} : ∀ (rows : List (List GNode)) {a : Int}, (a = -1 ∨ ∃ j : Nat, j < ds.length ∧ a = j) → rows.foldl (dataStep ds) a = -1 ∨ ∃ j : Nat, j < ds.length ∧ rows.foldl (dataStep ds) a = j
  | [], _, h => h
  | r :: t, _, h => dataFold_range t (dataStep_range r h)
theorem dataAt_range (ds : List GData) (rows : List (List GNode)) : dataAt ds rows = -1 ∨ ∃ j : Nat, j < ds.length ∧ dataAt ds rows = j := dataFold_range rows (.inl rfl)
theorem allR_neg {ds : List GData} {rows : List (List GNode)} (h : dataAt ds rows < 0) : allR ds rows = none := by unfold allR; rw [if_pos h]
theorem allR_at {ds : List GData} {rows : List (List GNode)} {j : Nat} (h : dataAt ds rows = j) (hj : j < ds.length) : allR ds rows = if allIn rows ds[j].cons = true then some (ds[j].cons.map conN) else none := by
  unfold allR; rw [if_neg (by omega), h, Int.toNat_natCast, List.getElem?_eq_getElem hj]
theorem allIn_snoc {rows : List (List GNode)} {cs : List GCon} {k : Nat} (h : k < cs.length) : allIn rows (cs.take (k + 1)) = (allIn rows (cs.take k) && rows.any (headIs cs[k].name)) := by
  unfold allIn; rw [take_snoc' cs k h, List.all_append]; simp
theorem allIn_no {rows : List (List GNode)} {cs : List GCon} {k : Nat} (h : k < cs.length) (hno : rows.any (headIs cs[k].name) = false) : allIn rows cs = false := by
  unfold allIn; rw [List.all_eq_false]; exact ⟨cs[k], List.getElem_mem h, by simpa using hno⟩

theorem ret_sb {A : Option Addr} {n m c : Nat} {b : Bool} (h : n = m) : Ending.returned (.tuple #[.slice A n c, .bool b]) = .returned (.tuple #[.slice A m c, .bool b]) := by rw [h]
theorem conRowSl {X : Nat → Prop} {w w' : World} {T : TypeId} {v : Value} {con : GCon} {A5 : Option Addr} {c5 : Nat} (hv : ∀ g, v.ownBlock = some g → g < w.heap.size) (hX : X w.heap.size) (hn : con.name.size ≤ maxLen)
    (e : w' = w.alloc (.cells #[.int .i64 20, .int .i64 0, .string con.name, .string ⟨#[]⟩, .slice A5 con.args.length c5] T)) (hs : Sl w (Lx (Xo v X) w) 5 A5 c5 ((List.replicate con.args.length anyN).map GNode.toD)) :
    Sl w' (fun b => b < w'.heap.size ∧ v.ownBlock ≠ some b ∧ X b) 5 (some ⟨w.heap.size, 0, none⟩) 1 ([conN con].map GNode.toD) := by
  subst e
  have hB : Below w.heap.size w (w.alloc (.cells #[.int .i64 20, .int .i64 0, .string con.name, .string ⟨#[]⟩, .slice A5 con.args.length c5] T)) := (Below.refl _ _).alloc (Nat.le_refl _) _
  have hk : (conN con).kids = List.replicate con.args.length anyN := rfl
  have hl : (conN con).kids.length = con.args.length := by rw [hk]; simp
  refine slOne (d := (conN con).toD) (T := T) (cs := [.int .i64 20, .int .i64 0, .string con.name, .string ⟨#[]⟩, .slice A5 con.args.length c5]) (Row.new w T _) ?_ rfl ⟨by simp, fun h => by have := hv _ h; omega, hX⟩
  have h := GNode.rd_mk (t := conN con) (A1 := A5) (c1 := c5) (w := w.alloc (.cells #[.int .i64 20, .int .i64 0, .string con.name, .string ⟨#[]⟩, .slice A5 con.args.length c5] T)) (S := fun b => b < (w.alloc (.cells #[.int .i64 20, .int .i64 0, .string con.name, .string ⟨#[]⟩, .slice A5 con.args.length c5] T)).heap.size ∧ v.ownBlock ≠ some b ∧ X b) ⟨(show (Lit.int IntKind.i64 20).wf = true by decide), (show (Lit.int IntKind.i64 0).wf = true by decide), hn, (show ByteArray.empty.size ≤ maxLen by unfold maxLen; simp), by rw [hk]; exact hs.lx hB⟩
  rw [hl] at h
  exact h
/-- all cons, or none -/
def AllTo (X : Nat → Prop) (r : Option (List GNode)) (w : World) (e : Ending) (w' : World) : Prop :=
  Below w.heap.size w w' ∧ match r with
    | none => ∃ A n c, e = .returned (.tuple #[.slice A n c, .bool false])
    | some l => ∃ A c, e = .returned (.tuple #[.slice A l.length c, .bool true]) ∧ Sl w' (Lx X w') 5 A c (l.map GNode.toD)

end Go.Proofs.Ytnpkmebnmklcfaa

/- Coverage: all cons of a data, where rows begin with all of them, in the reference. Conditions: the sizes are bounded. -/
namespace Go.Proofs.Ytnpkmebnmklcfaa
open Go.RowKit
set_option linter.unusedVariables false
set_option linter.unusedSimpArgs false
set_option maxHeartbeats 1000000

theorem any_snoc' {α : Type} (p : α → Bool) (l : List α) {j : Nat} (h : j < l.length) : (l.take (j + 1)).any p = ((l.take j).any p || p l[j]) := by
  rw [take_snoc' l j h, List.any_append]; simp

end Go.Proofs.Ytnpkmebnmklcfaa
