/- Texts of the claim LMostGeneral in one: UniK. Conditions: none but bounds on sizes. -/
import Derived.Test.YtghldoiblbcacaaZLMostGeneral7
/- Two boxes that are made at any time of a drawn region, and filled at its end (no program in sight). Conditions: none. -/
namespace Go.Proofs.Ytghldoiblbcacaa
open Go.RowKit
set_option linter.unusedVariables false
set_option linter.unusedSimpArgs false

theorem lo_ad2 (w0 : World) (o o' : Obj) : ((w0.alloc o).alloc o').drew.heap.size = w0.heap.size + 2 := by show ((w0.alloc o).alloc o').heap.size = _; simp
theorem lo_ad1 (w0 : World) (o : Obj) : (w0.alloc o).drew.heap.size = w0.heap.size + 1 := by show (w0.alloc o).heap.size = _; simp
theorem lo_al2 (w0 : World) (o o' : Obj) : ((w0.alloc o).alloc o').heap.size = w0.heap.size + 2 := by simp
theorem size_alloc' (w : World) (o : Obj) : (w.alloc o).heap.size = w.heap.size + 1 := by simp
theorem fin_set {w w4 W : World} {T : TypeId} {x y : GTy} {A3 A4 : Option Addr} {c3 c4 lo hi lo2 hi2 : Nat} {gp gq : Nat} {a0 a1 a2 a3 b0 b1 b2 b3 : Value} (hp : Row w4 gp T #[a0, a1, a2, a3]) (hq : Row w4 gq T #[b0, b1, b2, b3]) (hne : gp ≠ gq) (B : Below w.heap.size w w4) (X : GTy.At w4 (Btw lo hi) A3 c3 x) (Y : GTy.At w4 (Btw lo2 hi2) A4 c4 y) (k1 : hi ≤ w4.heap.size) (k2 : hi2 ≤ w4.heap.size) (kp : w.heap.size ≤ gp) (kq : w.heap.size ≤ gq) (x1 : gp < lo ∨ hi ≤ gp) (x2 : gq < lo ∨ hi ≤ gq) (y1 : gp < lo2 ∨ hi2 ≤ gp) (y2 : gq < lo2 ∨ hi2 ≤ gq)
    (e : W = ((((((((w4.setCell ⟨gp, 0, none⟩ (.int .i64 x.op)).setCell ⟨gp, 1, none⟩ (.int .i64 x.n)).setCell ⟨gp, 2, none⟩ (.string x.s)).setCell ⟨gp, 3, none⟩ (.slice A3 x.kids.length c3)).setCell ⟨gq, 0, none⟩ (.int .i64 y.op)).setCell ⟨gq, 1, none⟩ (.int .i64 y.n)).setCell ⟨gq, 2, none⟩ (.string y.s)).setCell ⟨gq, 3, none⟩ (.slice A4 y.kids.length c4))) : Row W gp T #[.int .i64 x.op, .int .i64 x.n, .string x.s, .slice A3 x.kids.length c3] ∧ Row W gq T #[.int .i64 y.op, .int .i64 y.n, .string y.s, .slice A4 y.kids.length c4] ∧ Below w.heap.size w W ∧ GTy.At W (Lt W.heap.size) A3 c3 x ∧ GTy.At W (Lt W.heap.size) A4 c4 y := by
  subst e
  have hs : ((((((((w4.setCell ⟨gp, 0, none⟩ (.int .i64 x.op)).setCell ⟨gp, 1, none⟩ (.int .i64 x.n)).setCell ⟨gp, 2, none⟩ (.string x.s)).setCell ⟨gp, 3, none⟩ (.slice A3 x.kids.length c3)).setCell ⟨gq, 0, none⟩ (.int .i64 y.op)).setCell ⟨gq, 1, none⟩ (.int .i64 y.n)).setCell ⟨gq, 2, none⟩ (.string y.s)).setCell ⟨gq, 3, none⟩ (.slice A4 y.kids.length c4)).heap.size = w4.heap.size := by rw [size4, size4]
  refine ⟨(hp.all4 _ _ _ _).far4 hne _ _ _ _, (hq.far4 (Ne.symm hne) _ _ _ _).all4 _ _ _ _, below4 (below4 B kp _ _ _ _) kq _ _ _ _, X.keep fun b hb => ⟨?_, ?_⟩, Y.keep fun b hb => ⟨?_, ?_⟩⟩
  all_goals
    have h1 := hb.1
    have h2 := hb.2
  · show b < (World.heap _).size; rw [hs]; omega
  · rw [block4 _ _ _ _ _ _ _ (by omega), block4 _ _ _ _ _ _ _ (by omega)]
  · show b < (World.heap _).size; rw [hs]; omega
  · rw [block4 _ _ _ _ _ _ _ (by omega), block4 _ _ _ _ _ _ _ (by omega)]
theorem fin_mix1 {w w4 W : World} {T : TypeId} {x y : GTy} {A3 A4 : Option Addr} {c3 c4 lo hi lo2 hi2 : Nat} {gp gq : Nat} {a0 a1 a2 a3 : Value} (hp : Row w4 gp T #[a0, a1, a2, a3]) (B : Below w.heap.size w w4) (X : GTy.At w4 (Btw lo hi) A3 c3 x) (Y : GTy.At w4 (Btw lo2 hi2) A4 c4 y) (k1 : hi ≤ w4.heap.size) (k2 : hi2 ≤ w4.heap.size) (kp : w.heap.size ≤ gp) (x1 : gp < lo ∨ hi ≤ gp) (y1 : gp < lo2 ∨ hi2 ≤ gp) (eg : gq = w4.heap.size)
    (e : W = ((((w4.setCell ⟨gp, 0, none⟩ (.int .i64 x.op)).setCell ⟨gp, 1, none⟩ (.int .i64 x.n)).setCell ⟨gp, 2, none⟩ (.string x.s)).setCell ⟨gp, 3, none⟩ (.slice A3 x.kids.length c3)).alloc (.cells #[.int .i64 y.op, .int .i64 y.n, .string y.s, .slice A4 y.kids.length c4] T)) : Row W gp T #[.int .i64 x.op, .int .i64 x.n, .string x.s, .slice A3 x.kids.length c3] ∧ Row W gq T #[.int .i64 y.op, .int .i64 y.n, .string y.s, .slice A4 y.kids.length c4] ∧ Below w.heap.size w W ∧ GTy.At W (Lt W.heap.size) A3 c3 x ∧ GTy.At W (Lt W.heap.size) A4 c4 y := by
  subst e
  have hs := size4 w4 gp (.int .i64 x.op) (.int .i64 x.n) (.string x.s) (.slice A3 x.kids.length c3)
  refine ⟨(hp.all4 _ _ _ _).alloc _, Row.new' _ _ _ (eg.trans hs.symm), (below4 B kp _ _ _ _).alloc (by rw [hs]; exact B.size) _, X.keep fun b hb => ⟨?_, ?_⟩, Y.keep fun b hb => ⟨?_, ?_⟩⟩
  all_goals
    have h1 := hb.1
    have h2 := hb.2
  · show b < (World.heap _).size; simp only [size_alloc', hs]; omega
  · rw [Below.heap_alloc _ _ _ (by rw [hs]; omega), block4 _ _ _ _ _ _ _ (by omega)]
  · show b < (World.heap _).size; simp only [size_alloc', hs]; omega
  · rw [Below.heap_alloc _ _ _ (by rw [hs]; omega), block4 _ _ _ _ _ _ _ (by omega)]
theorem fin_mix2 {w w4 W : World} {T : TypeId} {x y : GTy} {A3 A4 : Option Addr} {c3 c4 lo hi lo2 hi2 : Nat} {gp gq : Nat} {a0 a1 a2 a3 : Value} (hq : Row w4 gq T #[a0, a1, a2, a3]) (B : Below w.heap.size w w4) (X : GTy.At w4 (Btw lo hi) A3 c3 x) (Y : GTy.At w4 (Btw lo2 hi2) A4 c4 y) (k1 : hi ≤ w4.heap.size) (k2 : hi2 ≤ w4.heap.size) (kq : w.heap.size ≤ gq) (x2 : gq < lo ∨ hi ≤ gq) (y2 : gq < lo2 ∨ hi2 ≤ gq) (eg : gp = w4.heap.size)
    (e : W = ((((w4.setCell ⟨gq, 0, none⟩ (.int .i64 y.op)).setCell ⟨gq, 1, none⟩ (.int .i64 y.n)).setCell ⟨gq, 2, none⟩ (.string y.s)).setCell ⟨gq, 3, none⟩ (.slice A4 y.kids.length c4)).alloc (.cells #[.int .i64 x.op, .int .i64 x.n, .string x.s, .slice A3 x.kids.length c3] T)) : Row W gp T #[.int .i64 x.op, .int .i64 x.n, .string x.s, .slice A3 x.kids.length c3] ∧ Row W gq T #[.int .i64 y.op, .int .i64 y.n, .string y.s, .slice A4 y.kids.length c4] ∧ Below w.heap.size w W ∧ GTy.At W (Lt W.heap.size) A3 c3 x ∧ GTy.At W (Lt W.heap.size) A4 c4 y := by
  subst e
  have hs := size4 w4 gq (.int .i64 y.op) (.int .i64 y.n) (.string y.s) (.slice A4 y.kids.length c4)
  refine ⟨Row.new' _ _ _ (eg.trans hs.symm), (hq.all4 _ _ _ _).alloc _, (below4 B kq _ _ _ _).alloc (by rw [hs]; exact B.size) _, X.keep fun b hb => ⟨?_, ?_⟩, Y.keep fun b hb => ⟨?_, ?_⟩⟩
  all_goals
    have h1 := hb.1
    have h2 := hb.2
  · show b < (World.heap _).size; simp only [size_alloc', hs]; omega
  · rw [Below.heap_alloc _ _ _ (by rw [hs]; omega), block4 _ _ _ _ _ _ _ (by omega)]
  · show b < (World.heap _).size; simp only [size_alloc', hs]; omega
  · rw [Below.heap_alloc _ _ _ (by rw [hs]; omega), block4 _ _ _ _ _ _ _ (by omega)]
theorem fin_al1 {w w4 W : World} {T : TypeId} {x y : GTy} {A3 A4 : Option Addr} {c3 c4 lo hi lo2 hi2 : Nat} {gp gq : Nat} (B : Below w.heap.size w w4) (X : GTy.At w4 (Btw lo hi) A3 c3 x) (Y : GTy.At w4 (Btw lo2 hi2) A4 c4 y) (k1 : hi ≤ w4.heap.size) (k2 : hi2 ≤ w4.heap.size) (eg : gp = w4.heap.size) (eh : gq = w4.heap.size + 1)
    (e : W = (w4.alloc (.cells #[.int .i64 x.op, .int .i64 x.n, .string x.s, .slice A3 x.kids.length c3] T)).alloc (.cells #[.int .i64 y.op, .int .i64 y.n, .string y.s, .slice A4 y.kids.length c4] T)) : Row W gp T #[.int .i64 x.op, .int .i64 x.n, .string x.s, .slice A3 x.kids.length c3] ∧ Row W gq T #[.int .i64 y.op, .int .i64 y.n, .string y.s, .slice A4 y.kids.length c4] ∧ Below w.heap.size w W ∧ GTy.At W (Lt W.heap.size) A3 c3 x ∧ GTy.At W (Lt W.heap.size) A4 c4 y := by
  subst e
  refine ⟨(Row.new' _ _ _ eg).alloc _, Row.new' _ _ _ (by rw [size_alloc']; exact eh), (B.alloc B.size _).alloc (B.alloc B.size _).size _, X.keep fun b hb => ⟨?_, ?_⟩, Y.keep fun b hb => ⟨?_, ?_⟩⟩
  all_goals
    have h1 := hb.1
    have h2 := hb.2
  · show b < (World.heap _).size; simp only [size_alloc']; omega
  · rw [Below.heap_alloc _ _ _ (by rw [size_alloc']; omega), Below.heap_alloc _ _ _ (by omega)]
  · show b < (World.heap _).size; simp only [size_alloc']; omega
  · rw [Below.heap_alloc _ _ _ (by rw [size_alloc']; omega), Below.heap_alloc _ _ _ (by omega)]
theorem fin_al2 {w w4 W : World} {T : TypeId} {x y : GTy} {A3 A4 : Option Addr} {c3 c4 lo hi lo2 hi2 : Nat} {gp gq : Nat} (B : Below w.heap.size w w4) (X : GTy.At w4 (Btw lo hi) A3 c3 x) (Y : GTy.At w4 (Btw lo2 hi2) A4 c4 y) (k1 : hi ≤ w4.heap.size) (k2 : hi2 ≤ w4.heap.size) (eg : gp = w4.heap.size + 1) (eh : gq = w4.heap.size)
    (e : W = (w4.alloc (.cells #[.int .i64 y.op, .int .i64 y.n, .string y.s, .slice A4 y.kids.length c4] T)).alloc (.cells #[.int .i64 x.op, .int .i64 x.n, .string x.s, .slice A3 x.kids.length c3] T)) : Row W gp T #[.int .i64 x.op, .int .i64 x.n, .string x.s, .slice A3 x.kids.length c3] ∧ Row W gq T #[.int .i64 y.op, .int .i64 y.n, .string y.s, .slice A4 y.kids.length c4] ∧ Below w.heap.size w W ∧ GTy.At W (Lt W.heap.size) A3 c3 x ∧ GTy.At W (Lt W.heap.size) A4 c4 y := by
  subst e
  refine ⟨Row.new' _ _ _ (by rw [size_alloc']; exact eg), (Row.new' _ _ _ eh).alloc _, (B.alloc B.size _).alloc (B.alloc B.size _).size _, X.keep fun b hb => ⟨?_, ?_⟩, Y.keep fun b hb => ⟨?_, ?_⟩⟩
  all_goals
    have h1 := hb.1
    have h2 := hb.2
  · show b < (World.heap _).size; simp only [size_alloc']; omega
  · rw [Below.heap_alloc _ _ _ (by rw [size_alloc']; omega), Below.heap_alloc _ _ _ (by omega)]
  · show b < (World.heap _).size; simp only [size_alloc']; omega
  · rw [Below.heap_alloc _ _ _ (by rw [size_alloc']; omega), Below.heap_alloc _ _ _ (by omega)]
end Go.Proofs.Ytghldoiblbcacaa
