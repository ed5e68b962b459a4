/- RunTree: what a tree leads to, in the program and in the reference. Conditions: none but a bound on the size. -/
import Derived.Test.YtnjindgpmacjmaaAt
import Derived.Test.YtnjindgpmacjmaaGTree
import Derived.Deep.LoopGhost
namespace Go.Proofs.Ytnjindgpmacjmaa
open Go.RowKit
set_option linter.unusedVariables false
set_option linter.unusedSimpArgs false
set_option maxHeartbeats 1000000

/-- does a node of a tree hold of a value -/
def hitB (t : GTree) (y : GValue) : Bool := if (t.op == 3) = true then (y.kind == 2) && (y.s.toList == t.s.toList) else (y.kind == 1) && (y.n == t.n)
/-- what a tree leads to, in so many steps -/
def runF (v : GValue) : Nat → GTree → Int
  | 0, _ => -1
  | k + 1, t => if (t.op == 3) = true ∨ (t.op == 4) = true then (match valAt v t.path with
      | none => -1
      | some y => if t.kids.length = 2 then (match t.kids[if hitB t y = true then 0 else 1]? with | some u => runF v k u | none => -1) else -1)
    else if (t.op == 1) = true then t.n else -1
theorem runF_none {v : GValue} {k : Nat} {t : GTree} (h : (t.op == 3) = true ∨ (t.op == 4) = true) (e : valAt v t.path = none) : runF v (k + 1) t = -1 := by
  simp only [runF]; rw [if_pos h, e]
theorem runF_kids {v y : GValue} {k : Nat} {t : GTree} (h : (t.op == 3) = true ∨ (t.op == 4) = true) (e : valAt v t.path = some y) (hk : ¬ t.kids.length = 2) : runF v (k + 1) t = -1 := by
  simp only [runF]; rw [if_pos h, e]; simp only []; rw [if_neg hk]
theorem runF_step {v y : GValue} {k q : Nat} {t : GTree} (h : (t.op == 3) = true ∨ (t.op == 4) = true) (e : valAt v t.path = some y) (hk : t.kids.length = 2) (hq : (if hitB t y = true then 0 else 1) = q) (hql : q < t.kids.length) : runF v (k + 1) t = runF v k t.kids[q] := by
  simp only [runF]; rw [if_pos h, e]; simp only []; rw [if_pos hk, hq, List.getElem?_eq_getElem hql]
theorem runF_done {v : GValue} {k : Nat} {t : GTree} (h3 : (t.op == 3) = false) (h4 : (t.op == 4) = false) : runF v (k + 1) t = if (t.op == 1) = true then t.n else -1 := by
  simp only [runF]; rw [if_neg (by simp [h3, h4])]
/-- the five cells of a tree written anew: its block, another block, and what lies below -/
theorem Row.five {w : World} {b : Nat} {T : TypeId} {c0 c1 c2 c3 c4 v0 v1 v2 v3 v4 : Value} (h : Row w b T #[c0, c1, c2, c3, c4]) : Row (((((w.setCell ⟨b, 0, none⟩ v0).setCell ⟨b, 1, none⟩ v1).setCell ⟨b, 2, none⟩ v2).setCell ⟨b, 3, none⟩ v3).setCell ⟨b, 4, none⟩ v4) b T #[v0, v1, v2, v3, v4] :=
  ((((h.set 0 v0).set 1 v1).set 2 v2).set 3 v3).set 4 v4
theorem Row.fiveFar {w : World} {b g : Nat} {T : TypeId} {cs : Array Value} {v0 v1 v2 v3 v4 : Value} (h : Row w g T cs) (hg : g ≠ b) : Row (((((w.setCell ⟨b, 0, none⟩ v0).setCell ⟨b, 1, none⟩ v1).setCell ⟨b, 2, none⟩ v2).setCell ⟨b, 3, none⟩ v3).setCell ⟨b, 4, none⟩ v4) g T cs :=
  ((((h.far hg v0).far hg v1).far hg v2).far hg v3).far hg v4
theorem below_five {B : Nat} {w w' : World} {b : Nat} {v0 v1 v2 v3 v4 : Value} (h : Below B w w') (hb : B ≤ b) : Below B w (((((w'.setCell ⟨b, 0, none⟩ v0).setCell ⟨b, 1, none⟩ v1).setCell ⟨b, 2, none⟩ v2).setCell ⟨b, 3, none⟩ v3).setCell ⟨b, 4, none⟩ v4) :=
  setCells_below h b 0 hb [v0, v1, v2, v3, v4]

set_option maxRecDepth 20000 in
theorem specRunTree (t : GTree) (T1 : Option Addr) (p1 : Nat) (T2 : Option Addr) (p2 : Nat) (v : GValue) (A1 : Option Addr) (c1 : Nat) (w : World) (hvb : v.bulk ≤ 1048576) (ht : GTree.At w (Lt w.heap.size) T1 p1 T2 p2 t) (hv : GValue.At w (Lt w.heap.size) A1 c1 v) :
    Calls Try.prog 45 #[.agg #[.int .i64 t.op, .int .i64 t.n, .slice T1 t.path.length p1, .string t.s, .slice T2 t.kids.length p2], .agg #[.int .i64 v.kind, .int .i64 v.n, .string v.s, .slice A1 v.kids.length c1]] w fun e w' => e = .returned (.int .i64 (runF v (t.bulk + 1) t)) ∧ Below w.heap.size w w' := by
  have T0 := Lib.hid ht
  have V0 := Lib.hid hv
  clear ht hv
  obtain ⟨w0, e0⟩ : ∃ w0, w0 = (w.alloc (.cells #[.int .i64 t.op, .int .i64 t.n, .slice T1 t.path.length p1, .string t.s, .slice T2 t.kids.length p2] 75)).alloc (.cells #[.int .i64 v.kind, .int .i64 v.n, .string v.s, .slice A1 v.kids.length c1] 29) := ⟨_, rfl⟩
  have B0 := Lib.hid (show Below w.heap.size w w0 by rw [e0]; exact ((Below.refl _ _).alloc (Nat.le_refl _) _).alloc (by simp) _)
  have S0 : w.heap.size + 2 ≤ w0.heap.size := by rw [e0]; simp
  have Ra0 := Lib.hid (show Row w0 w.heap.size 75 #[.int .i64 t.op, .int .i64 t.n, .slice T1 t.path.length p1, .string t.s, .slice T2 t.kids.length p2] by rw [e0]; exact (Row.new' _ _ _ rfl).alloc _)
  have Rv0 := Lib.hid (show Row w0 (w.heap.size + 1) 29 #[.int .i64 v.kind, .int .i64 v.n, .string v.s, .slice A1 v.kids.length c1] by rw [e0]; exact Row.new' _ _ _ (by simp))
  go_enter Try.func45, Try.ntmps45
  go_wp2_with fail
  rw [← e0]
  clear e0
  go_loopg [] (t.bulk + 1) (fun k wr => ∃ (x : GTree) (X1 : Option Addr) (x1 : Nat) (X2 : Option Addr) (x2 : Nat), Hid (runF v (t.bulk + 1) t = runF v k x) ∧ x.bulk < k ∧ Hid (GTree.At w (Lt w.heap.size) X1 x1 X2 x2 x) ∧ Hid (Row wr w.heap.size 75 #[.int .i64 x.op, .int .i64 x.n, .slice X1 x.path.length x1, .string x.s, .slice X2 x.kids.length x2]) ∧ Hid (Row wr (w.heap.size + 1) 29 #[.int .i64 v.kind, .int .i64 v.n, .string v.s, .slice A1 v.kids.length c1]) ∧ w.heap.size + 2 ≤ wr.heap.size ∧ Below w.heap.size w wr)
  case atStart => exact ⟨t, T1, p1, T2, p2, Lib.hid rfl, by omega, T0, Ra0, Rv0, S0, B0.out⟩
  case round =>
    clear Ra0 Rv0 S0 B0
    obtain ⟨x, X1, x1, X2, x2, HT, hxk, HX, HRa, HRv, hs2, hbl⟩ := hrel
    obtain ⟨k', rfl⟩ : ∃ k', gk = k' + 1 := ⟨gk - 1, by omega⟩
    have hsz := hbl.size
    have hca := fun i => HRa.out.cell i
    have hcv := fun i => HRv.out.cell i
    cases o3 : (x.op == 3)
    · cases o4 : (x.op == 4)
      · cases o1 : (x.op == 1)
        · have HN := Lib.hid (HT.out.trans ((runF_done o3 o4).trans (by rw [o1]; rfl : _ = -1)))
          go_wp2_with fail
          go_ret
          exact ⟨ret_int HN.out.symm, hbl⟩
        · have HN := Lib.hid (HT.out.trans ((runF_done o3 o4).trans (by rw [o1]; rfl : _ = x.n)))
          go_wp2_with fail
          go_ret
          exact ⟨ret_int HN.out.symm, hbl⟩
      · skip
        have HO := Lib.hid (show (x.op == 3) = true ∨ (x.op == 4) = true from .inr o4)
        have hxl : x.kids.length ≤ 9223372036854775807 := by simpa using HX.out.2.2.2.2.len
        go_wp2_with fail
        refine (specAt v A1 c1 x.path X1 x1 _ hvb (V0.out.below hbl hsz) ((HX.out.2.2.1).below hbl hsz)).mono ?_
        rintro e w2 ⟨Y1, y1, rfl, how, hb2⟩
        have B2 := Lib.hid (hbl.trans (hb2.mono hsz))
        have Ra2 := Lib.hid (HRa.out.below hb2 HRa.out.lt)
        have Rv2 := Lib.hid (HRv.out.below hb2 HRv.out.lt)
        clear hca hcv how hb2
        have hca := fun i => Ra2.out.cell i
        have hfa := fun i => Ra2.out.frozen i
        have hla := Ra2.out.lt
        cases hva : valAt v x.path with
        | none =>
          have HN := Lib.hid (HT.out.trans (runF_none HO.out hva))
          have es : (none : Option GValue).isSome = false := rfl
          clear hva
          go_wp2_with fail
          go_ret
          exact ⟨ret_int HN.out.symm, B2.out.alloc B2.out.size _⟩
        | some y =>
          have ey : atV (some y) = y := rfl
          have es : (some y).isSome = true := rfl
          rw [ey, es]
          clear ey es
          by_cases hk : x.kids.length = 2
          rotate_left
          · have HN := Lib.hid (HT.out.trans (runF_kids HO.out hva hk))
            have hk2 : ((x.kids.length : Int) != 2) = true := by rw [bne_iff_ne]; omega
            clear hva hk
            go_wp2_with fail
            go_ret
            exact ⟨ret_int HN.out.symm, B2.out.alloc B2.out.size _⟩
          have hk2 : ((x.kids.length : Int) != 2) = false := by rw [bne_eq_false_iff_eq]; omega
          cases a : (y.kind == 1)
          · have hh : (if hitB x y = true then 0 else 1) = 1 := by unfold hitB; simp [o3, a]
            have hql : 1 < x.kids.length := by omega
            have HN := Lib.hid (HT.out.trans (runF_step (k := k') HO.out hva hk hh hql))
            have hql2 : (1 : Int) < (x.kids.length : Int) := by omega
            have hkb : (x.kids[1]).bulk < k' := by have := bulkL_mem GTree.bulk x.kids _ (List.getElem_mem hql); have := x.bulk_eq; omega
            obtain ⟨b3, off3, Z1, z1, Z2, z2, eZ, hSb3, q0, q1, q2, q3, q4, hat⟩ := GTree.elem ((HX.out.2.2.2.2).below B2.out (Nat.le_refl _)) 1 hql
            have HA := Lib.hid (show GTree.At w (Lt w.heap.size) Z1 z1 Z2 z2 x.kids[1] from hat.keep fun q hq => ⟨hq, (B2.out.block q hq).symm⟩)
            have hb3 : b3 < w2.heap.size := Nat.lt_of_lt_of_le hSb3 B2.out.size
            clear hat hva hk hh
            subst eZ
            have r0 : w2.cell? ⟨b3, off3 + 5, none⟩ = some (.int .i64 (x.kids[1]).op) := q0
            have r1 : w2.cell? ⟨b3, off3 + 6, none⟩ = some (.int .i64 (x.kids[1]).n) := q1
            have r2 : w2.cell? ⟨b3, off3 + 7, none⟩ = some (.slice Z1 (x.kids[1]).path.length z1) := q2
            have r3 : w2.cell? ⟨b3, off3 + 8, none⟩ = some (.string (x.kids[1]).s) := q3
            have r4 : w2.cell? ⟨b3, off3 + 9, none⟩ = some (.slice Z2 (x.kids[1]).kids.length z2) := q4
            go_wp2_with fail
            go_roundg k'
            case measure => omega
            case rel =>
              exact ⟨x.kids[1], Z1, z1, Z2, z2, HN, hkb, HA, Lib.hid ((Row.five Ra2.out).alloc _), Lib.hid ((Row.fiveFar Rv2.out (by simp)).alloc _), by have := Rv2.out.lt; simp [World.setCell]; omega, (below_five B2.out (Nat.le_refl _)).alloc (below_five B2.out (Nat.le_refl _)).size _⟩
          · cases b : (y.n == x.n)
            · have hh : (if hitB x y = true then 0 else 1) = 1 := by unfold hitB; simp [o3, a, b]
              have hql : 1 < x.kids.length := by omega
              have HN := Lib.hid (HT.out.trans (runF_step (k := k') HO.out hva hk hh hql))
              have hql2 : (1 : Int) < (x.kids.length : Int) := by omega
              have hkb : (x.kids[1]).bulk < k' := by have := bulkL_mem GTree.bulk x.kids _ (List.getElem_mem hql); have := x.bulk_eq; omega
              obtain ⟨b3, off3, Z1, z1, Z2, z2, eZ, hSb3, q0, q1, q2, q3, q4, hat⟩ := GTree.elem ((HX.out.2.2.2.2).below B2.out (Nat.le_refl _)) 1 hql
              have HA := Lib.hid (show GTree.At w (Lt w.heap.size) Z1 z1 Z2 z2 x.kids[1] from hat.keep fun q hq => ⟨hq, (B2.out.block q hq).symm⟩)
              have hb3 : b3 < w2.heap.size := Nat.lt_of_lt_of_le hSb3 B2.out.size
              clear hat hva hk hh
              subst eZ
              have r0 : w2.cell? ⟨b3, off3 + 5, none⟩ = some (.int .i64 (x.kids[1]).op) := q0
              have r1 : w2.cell? ⟨b3, off3 + 6, none⟩ = some (.int .i64 (x.kids[1]).n) := q1
              have r2 : w2.cell? ⟨b3, off3 + 7, none⟩ = some (.slice Z1 (x.kids[1]).path.length z1) := q2
              have r3 : w2.cell? ⟨b3, off3 + 8, none⟩ = some (.string (x.kids[1]).s) := q3
              have r4 : w2.cell? ⟨b3, off3 + 9, none⟩ = some (.slice Z2 (x.kids[1]).kids.length z2) := q4
              go_wp2_with fail
              go_roundg k'
              case measure => omega
              case rel =>
                exact ⟨x.kids[1], Z1, z1, Z2, z2, HN, hkb, HA, Lib.hid ((Row.five Ra2.out).alloc _), Lib.hid ((Row.fiveFar Rv2.out (by simp)).alloc _), by have := Rv2.out.lt; simp [World.setCell]; omega, (below_five B2.out (Nat.le_refl _)).alloc (below_five B2.out (Nat.le_refl _)).size _⟩
            · have hh : (if hitB x y = true then 0 else 1) = 0 := by unfold hitB; simp [o3, a, b]
              have hql : 0 < x.kids.length := by omega
              have HN := Lib.hid (HT.out.trans (runF_step (k := k') HO.out hva hk hh hql))
              have hql2 : (0 : Int) < (x.kids.length : Int) := by omega
              have hkb : (x.kids[0]).bulk < k' := by have := bulkL_mem GTree.bulk x.kids _ (List.getElem_mem hql); have := x.bulk_eq; omega
              obtain ⟨b3, off3, Z1, z1, Z2, z2, eZ, hSb3, q0, q1, q2, q3, q4, hat⟩ := GTree.elem ((HX.out.2.2.2.2).below B2.out (Nat.le_refl _)) 0 hql
              have HA := Lib.hid (show GTree.At w (Lt w.heap.size) Z1 z1 Z2 z2 x.kids[0] from hat.keep fun q hq => ⟨hq, (B2.out.block q hq).symm⟩)
              have hb3 : b3 < w2.heap.size := Nat.lt_of_lt_of_le hSb3 B2.out.size
              clear hat hva hk hh
              subst eZ
              have r0 : w2.cell? ⟨b3, off3, none⟩ = some (.int .i64 (x.kids[0]).op) := q0
              have r1 : w2.cell? ⟨b3, off3 + 1, none⟩ = some (.int .i64 (x.kids[0]).n) := q1
              have r2 : w2.cell? ⟨b3, off3 + 2, none⟩ = some (.slice Z1 (x.kids[0]).path.length z1) := q2
              have r3 : w2.cell? ⟨b3, off3 + 3, none⟩ = some (.string (x.kids[0]).s) := q3
              have r4 : w2.cell? ⟨b3, off3 + 4, none⟩ = some (.slice Z2 (x.kids[0]).kids.length z2) := q4
              go_wp2_with fail
              go_roundg k'
              case measure => omega
              case rel =>
                exact ⟨x.kids[0], Z1, z1, Z2, z2, HN, hkb, HA, Lib.hid ((Row.five Ra2.out).alloc _), Lib.hid ((Row.fiveFar Rv2.out (by simp)).alloc _), by have := Rv2.out.lt; simp [World.setCell]; omega, (below_five B2.out (Nat.le_refl _)).alloc (below_five B2.out (Nat.le_refl _)).size _⟩
    · have o4 : (x.op == 4) = false := by rw [beq_eq_false_iff_ne]; have := eq_of_beq o3; omega
      have HO := Lib.hid (show (x.op == 3) = true ∨ (x.op == 4) = true from .inl o3)
      have hxl : x.kids.length ≤ 9223372036854775807 := by simpa using HX.out.2.2.2.2.len
      go_wp2_with fail
      refine (specAt v A1 c1 x.path X1 x1 _ hvb (V0.out.below hbl hsz) ((HX.out.2.2.1).below hbl hsz)).mono ?_
      rintro e w2 ⟨Y1, y1, rfl, how, hb2⟩
      have B2 := Lib.hid (hbl.trans (hb2.mono hsz))
      have Ra2 := Lib.hid (HRa.out.below hb2 HRa.out.lt)
      have Rv2 := Lib.hid (HRv.out.below hb2 HRv.out.lt)
      clear hca hcv how hb2
      have hca := fun i => Ra2.out.cell i
      have hfa := fun i => Ra2.out.frozen i
      have hla := Ra2.out.lt
      cases hva : valAt v x.path with
      | none =>
        have HN := Lib.hid (HT.out.trans (runF_none HO.out hva))
        have es : (none : Option GValue).isSome = false := rfl
        clear hva
        go_wp2_with fail
        go_ret
        exact ⟨ret_int HN.out.symm, B2.out.alloc B2.out.size _⟩
      | some y =>
        have ey : atV (some y) = y := rfl
        have es : (some y).isSome = true := rfl
        rw [ey, es]
        clear ey es
        by_cases hk : x.kids.length = 2
        rotate_left
        · have HN := Lib.hid (HT.out.trans (runF_kids HO.out hva hk))
          have hk2 : ((x.kids.length : Int) != 2) = true := by rw [bne_iff_ne]; omega
          clear hva hk
          go_wp2_with fail
          go_ret
          exact ⟨ret_int HN.out.symm, B2.out.alloc B2.out.size _⟩
        have hk2 : ((x.kids.length : Int) != 2) = false := by rw [bne_eq_false_iff_eq]; omega
        cases a : (y.kind == 2)
        · have hh : (if hitB x y = true then 0 else 1) = 1 := by unfold hitB; simp [o3, a]
          have hql : 1 < x.kids.length := by omega
          have HN := Lib.hid (HT.out.trans (runF_step (k := k') HO.out hva hk hh hql))
          have hql2 : (1 : Int) < (x.kids.length : Int) := by omega
          have hkb : (x.kids[1]).bulk < k' := by have := bulkL_mem GTree.bulk x.kids _ (List.getElem_mem hql); have := x.bulk_eq; omega
          obtain ⟨b3, off3, Z1, z1, Z2, z2, eZ, hSb3, q0, q1, q2, q3, q4, hat⟩ := GTree.elem ((HX.out.2.2.2.2).below B2.out (Nat.le_refl _)) 1 hql
          have HA := Lib.hid (show GTree.At w (Lt w.heap.size) Z1 z1 Z2 z2 x.kids[1] from hat.keep fun q hq => ⟨hq, (B2.out.block q hq).symm⟩)
          have hb3 : b3 < w2.heap.size := Nat.lt_of_lt_of_le hSb3 B2.out.size
          clear hat hva hk hh
          subst eZ
          have r0 : w2.cell? ⟨b3, off3 + 5, none⟩ = some (.int .i64 (x.kids[1]).op) := q0
          have r1 : w2.cell? ⟨b3, off3 + 6, none⟩ = some (.int .i64 (x.kids[1]).n) := q1
          have r2 : w2.cell? ⟨b3, off3 + 7, none⟩ = some (.slice Z1 (x.kids[1]).path.length z1) := q2
          have r3 : w2.cell? ⟨b3, off3 + 8, none⟩ = some (.string (x.kids[1]).s) := q3
          have r4 : w2.cell? ⟨b3, off3 + 9, none⟩ = some (.slice Z2 (x.kids[1]).kids.length z2) := q4
          go_wp2_with fail
          go_roundg k'
          case measure => omega
          case rel =>
            exact ⟨x.kids[1], Z1, z1, Z2, z2, HN, hkb, HA, Lib.hid ((Row.five Ra2.out).alloc _), Lib.hid ((Row.fiveFar Rv2.out (by simp)).alloc _), by have := Rv2.out.lt; simp [World.setCell]; omega, (below_five B2.out (Nat.le_refl _)).alloc (below_five B2.out (Nat.le_refl _)).size _⟩
        · cases b : (y.s.toList == x.s.toList)
          · have hh : (if hitB x y = true then 0 else 1) = 1 := by unfold hitB; simp [o3, a, b]
            have hql : 1 < x.kids.length := by omega
            have HN := Lib.hid (HT.out.trans (runF_step (k := k') HO.out hva hk hh hql))
            have hql2 : (1 : Int) < (x.kids.length : Int) := by omega
            have hkb : (x.kids[1]).bulk < k' := by have := bulkL_mem GTree.bulk x.kids _ (List.getElem_mem hql); have := x.bulk_eq; omega
            obtain ⟨b3, off3, Z1, z1, Z2, z2, eZ, hSb3, q0, q1, q2, q3, q4, hat⟩ := GTree.elem ((HX.out.2.2.2.2).below B2.out (Nat.le_refl _)) 1 hql
            have HA := Lib.hid (show GTree.At w (Lt w.heap.size) Z1 z1 Z2 z2 x.kids[1] from hat.keep fun q hq => ⟨hq, (B2.out.block q hq).symm⟩)
            have hb3 : b3 < w2.heap.size := Nat.lt_of_lt_of_le hSb3 B2.out.size
            clear hat hva hk hh
            subst eZ
            have r0 : w2.cell? ⟨b3, off3 + 5, none⟩ = some (.int .i64 (x.kids[1]).op) := q0
            have r1 : w2.cell? ⟨b3, off3 + 6, none⟩ = some (.int .i64 (x.kids[1]).n) := q1
            have r2 : w2.cell? ⟨b3, off3 + 7, none⟩ = some (.slice Z1 (x.kids[1]).path.length z1) := q2
            have r3 : w2.cell? ⟨b3, off3 + 8, none⟩ = some (.string (x.kids[1]).s) := q3
            have r4 : w2.cell? ⟨b3, off3 + 9, none⟩ = some (.slice Z2 (x.kids[1]).kids.length z2) := q4
            go_wp2_with fail
            go_roundg k'
            case measure => omega
            case rel =>
              exact ⟨x.kids[1], Z1, z1, Z2, z2, HN, hkb, HA, Lib.hid ((Row.five Ra2.out).alloc _), Lib.hid ((Row.fiveFar Rv2.out (by simp)).alloc _), by have := Rv2.out.lt; simp [World.setCell]; omega, (below_five B2.out (Nat.le_refl _)).alloc (below_five B2.out (Nat.le_refl _)).size _⟩
          · have hh : (if hitB x y = true then 0 else 1) = 0 := by unfold hitB; simp [o3, a, b]
            have hql : 0 < x.kids.length := by omega
            have HN := Lib.hid (HT.out.trans (runF_step (k := k') HO.out hva hk hh hql))
            have hql2 : (0 : Int) < (x.kids.length : Int) := by omega
            have hkb : (x.kids[0]).bulk < k' := by have := bulkL_mem GTree.bulk x.kids _ (List.getElem_mem hql); have := x.bulk_eq; omega
            obtain ⟨b3, off3, Z1, z1, Z2, z2, eZ, hSb3, q0, q1, q2, q3, q4, hat⟩ := GTree.elem ((HX.out.2.2.2.2).below B2.out (Nat.le_refl _)) 0 hql
            have HA := Lib.hid (show GTree.At w (Lt w.heap.size) Z1 z1 Z2 z2 x.kids[0] from hat.keep fun q hq => ⟨hq, (B2.out.block q hq).symm⟩)
            have hb3 : b3 < w2.heap.size := Nat.lt_of_lt_of_le hSb3 B2.out.size
            clear hat hva hk hh
            subst eZ
            have r0 : w2.cell? ⟨b3, off3, none⟩ = some (.int .i64 (x.kids[0]).op) := q0
            have r1 : w2.cell? ⟨b3, off3 + 1, none⟩ = some (.int .i64 (x.kids[0]).n) := q1
            have r2 : w2.cell? ⟨b3, off3 + 2, none⟩ = some (.slice Z1 (x.kids[0]).path.length z1) := q2
            have r3 : w2.cell? ⟨b3, off3 + 3, none⟩ = some (.string (x.kids[0]).s) := q3
            have r4 : w2.cell? ⟨b3, off3 + 4, none⟩ = some (.slice Z2 (x.kids[0]).kids.length z2) := q4
            go_wp2_with fail
            go_roundg k'
            case measure => omega
            case rel =>
              exact ⟨x.kids[0], Z1, z1, Z2, z2, HN, hkb, HA, Lib.hid ((Row.five Ra2.out).alloc _), Lib.hid ((Row.fiveFar Rv2.out (by simp)).alloc _), by have := Rv2.out.lt; simp [World.setCell]; omega, (below_five B2.out (Nat.le_refl _)).alloc (below_five B2.out (Nat.le_refl _)).size _⟩

set_option maxRecDepth 20000 in
theorem implRunTree (t : GTree) (T1 : Option Addr) (p1 : Nat) (T2 : Option Addr) (p2 : Nat) (v : GValue) (A1 : Option Addr) (c1 : Nat) (w : World) (hvb : v.bulk ≤ 1048576) (ht : GTree.At w (Lt w.heap.size) T1 p1 T2 p2 t) (hv : GValue.At w (Lt w.heap.size) A1 c1 v) :
    Calls Try.prog 47 #[.agg #[.int .i64 t.op, .int .i64 t.n, .slice T1 t.path.length p1, .string t.s, .slice T2 t.kids.length p2], .agg #[.int .i64 v.kind, .int .i64 v.n, .string v.s, .slice A1 v.kids.length c1]] w fun e w' => e = .returned (.int .i64 (runF v (t.bulk + 1) t)) ∧ Below w.heap.size w w' := by
  have T0 := Lib.hid ht
  have V0 := Lib.hid hv
  clear ht hv
  obtain ⟨w0, e0⟩ : ∃ w0, w0 = (w.alloc (.cells #[.int .i64 t.op, .int .i64 t.n, .slice T1 t.path.length p1, .string t.s, .slice T2 t.kids.length p2] 75)).alloc (.cells #[.int .i64 v.kind, .int .i64 v.n, .string v.s, .slice A1 v.kids.length c1] 29) := ⟨_, rfl⟩
  have B0 := Lib.hid (show Below w.heap.size w w0 by rw [e0]; exact ((Below.refl _ _).alloc (Nat.le_refl _) _).alloc (by simp) _)
  have S0 : w.heap.size + 2 ≤ w0.heap.size := by rw [e0]; simp
  have Ra0 := Lib.hid (show Row w0 w.heap.size 75 #[.int .i64 t.op, .int .i64 t.n, .slice T1 t.path.length p1, .string t.s, .slice T2 t.kids.length p2] by rw [e0]; exact (Row.new' _ _ _ rfl).alloc _)
  have Rv0 := Lib.hid (show Row w0 (w.heap.size + 1) 29 #[.int .i64 v.kind, .int .i64 v.n, .string v.s, .slice A1 v.kids.length c1] by rw [e0]; exact Row.new' _ _ _ (by simp))
  go_enter Try.func47, Try.ntmps47
  go_wp2_with fail
  rw [← e0]
  clear e0
  go_loopg [] (t.bulk + 1) (fun k wr => ∃ (x : GTree) (X1 : Option Addr) (x1 : Nat) (X2 : Option Addr) (x2 : Nat), Hid (runF v (t.bulk + 1) t = runF v k x) ∧ x.bulk < k ∧ Hid (GTree.At w (Lt w.heap.size) X1 x1 X2 x2 x) ∧ Hid (Row wr w.heap.size 75 #[.int .i64 x.op, .int .i64 x.n, .slice X1 x.path.length x1, .string x.s, .slice X2 x.kids.length x2]) ∧ Hid (Row wr (w.heap.size + 1) 29 #[.int .i64 v.kind, .int .i64 v.n, .string v.s, .slice A1 v.kids.length c1]) ∧ w.heap.size + 2 ≤ wr.heap.size ∧ Below w.heap.size w wr)
  case atStart => exact ⟨t, T1, p1, T2, p2, Lib.hid rfl, by omega, T0, Ra0, Rv0, S0, B0.out⟩
  case round =>
    clear Ra0 Rv0 S0 B0
    obtain ⟨x, X1, x1, X2, x2, HT, hxk, HX, HRa, HRv, hs2, hbl⟩ := hrel
    obtain ⟨k', rfl⟩ : ∃ k', gk = k' + 1 := ⟨gk - 1, by omega⟩
    have hsz := hbl.size
    have hca := fun i => HRa.out.cell i
    have hcv := fun i => HRv.out.cell i
    cases o3 : (x.op == 3)
    · cases o4 : (x.op == 4)
      · cases o1 : (x.op == 1)
        · have HN := Lib.hid (HT.out.trans ((runF_done o3 o4).trans (by rw [o1]; rfl : _ = -1)))
          go_wp2_with fail
          go_ret
          exact ⟨ret_int HN.out.symm, hbl⟩
        · have HN := Lib.hid (HT.out.trans ((runF_done o3 o4).trans (by rw [o1]; rfl : _ = x.n)))
          go_wp2_with fail
          go_ret
          exact ⟨ret_int HN.out.symm, hbl⟩
      · skip
        have HO := Lib.hid (show (x.op == 3) = true ∨ (x.op == 4) = true from .inr o4)
        have hxl : x.kids.length ≤ 9223372036854775807 := by simpa using HX.out.2.2.2.2.len
        go_wp2_with fail
        refine (implAt v A1 c1 x.path X1 x1 _ hvb (V0.out.below hbl hsz) ((HX.out.2.2.1).below hbl hsz)).mono ?_
        rintro e w2 ⟨Y1, y1, rfl, how, hb2⟩
        have B2 := Lib.hid (hbl.trans (hb2.mono hsz))
        have Ra2 := Lib.hid (HRa.out.below hb2 HRa.out.lt)
        have Rv2 := Lib.hid (HRv.out.below hb2 HRv.out.lt)
        clear hca hcv how hb2
        have hca := fun i => Ra2.out.cell i
        have hfa := fun i => Ra2.out.frozen i
        have hla := Ra2.out.lt
        cases hva : valAt v x.path with
        | none =>
          have HN := Lib.hid (HT.out.trans (runF_none HO.out hva))
          have es : (none : Option GValue).isSome = false := rfl
          clear hva
          go_wp2_with fail
          go_ret
          exact ⟨ret_int HN.out.symm, B2.out.alloc B2.out.size _⟩
        | some y =>
          have ey : atV (some y) = y := rfl
          have es : (some y).isSome = true := rfl
          rw [ey, es]
          clear ey es
          by_cases hk : x.kids.length = 2
          rotate_left
          · have HN := Lib.hid (HT.out.trans (runF_kids HO.out hva hk))
            have hk2 : ((x.kids.length : Int) != 2) = true := by rw [bne_iff_ne]; omega
            clear hva hk
            go_wp2_with fail
            go_ret
            exact ⟨ret_int HN.out.symm, B2.out.alloc B2.out.size _⟩
          have hk2 : ((x.kids.length : Int) != 2) = false := by rw [bne_eq_false_iff_eq]; omega
          cases a : (y.kind == 1)
          · have hh : (if hitB x y = true then 0 else 1) = 1 := by unfold hitB; simp [o3, a]
            have hql : 1 < x.kids.length := by omega
            have HN := Lib.hid (HT.out.trans (runF_step (k := k') HO.out hva hk hh hql))
            have hql2 : (1 : Int) < (x.kids.length : Int) := by omega
            have hkb : (x.kids[1]).bulk < k' := by have := bulkL_mem GTree.bulk x.kids _ (List.getElem_mem hql); have := x.bulk_eq; omega
            obtain ⟨b3, off3, Z1, z1, Z2, z2, eZ, hSb3, q0, q1, q2, q3, q4, hat⟩ := GTree.elem ((HX.out.2.2.2.2).below B2.out (Nat.le_refl _)) 1 hql
            have HA := Lib.hid (show GTree.At w (Lt w.heap.size) Z1 z1 Z2 z2 x.kids[1] from hat.keep fun q hq => ⟨hq, (B2.out.block q hq).symm⟩)
            have hb3 : b3 < w2.heap.size := Nat.lt_of_lt_of_le hSb3 B2.out.size
            clear hat hva hk hh
            subst eZ
            have r0 : w2.cell? ⟨b3, off3 + 5, none⟩ = some (.int .i64 (x.kids[1]).op) := q0
            have r1 : w2.cell? ⟨b3, off3 + 6, none⟩ = some (.int .i64 (x.kids[1]).n) := q1
            have r2 : w2.cell? ⟨b3, off3 + 7, none⟩ = some (.slice Z1 (x.kids[1]).path.length z1) := q2
            have r3 : w2.cell? ⟨b3, off3 + 8, none⟩ = some (.string (x.kids[1]).s) := q3
            have r4 : w2.cell? ⟨b3, off3 + 9, none⟩ = some (.slice Z2 (x.kids[1]).kids.length z2) := q4
            go_wp2_with fail
            go_roundg k'
            case measure => omega
            case rel =>
              exact ⟨x.kids[1], Z1, z1, Z2, z2, HN, hkb, HA, Lib.hid ((Row.five Ra2.out).alloc _), Lib.hid ((Row.fiveFar Rv2.out (by simp)).alloc _), by have := Rv2.out.lt; simp [World.setCell]; omega, (below_five B2.out (Nat.le_refl _)).alloc (below_five B2.out (Nat.le_refl _)).size _⟩
          · cases b : (y.n == x.n)
            · have hh : (if hitB x y = true then 0 else 1) = 1 := by unfold hitB; simp [o3, a, b]
              have hql : 1 < x.kids.length := by omega
              have HN := Lib.hid (HT.out.trans (runF_step (k := k') HO.out hva hk hh hql))
              have hql2 : (1 : Int) < (x.kids.length : Int) := by omega
              have hkb : (x.kids[1]).bulk < k' := by have := bulkL_mem GTree.bulk x.kids _ (List.getElem_mem hql); have := x.bulk_eq; omega
              obtain ⟨b3, off3, Z1, z1, Z2, z2, eZ, hSb3, q0, q1, q2, q3, q4, hat⟩ := GTree.elem ((HX.out.2.2.2.2).below B2.out (Nat.le_refl _)) 1 hql
              have HA := Lib.hid (show GTree.At w (Lt w.heap.size) Z1 z1 Z2 z2 x.kids[1] from hat.keep fun q hq => ⟨hq, (B2.out.block q hq).symm⟩)
              have hb3 : b3 < w2.heap.size := Nat.lt_of_lt_of_le hSb3 B2.out.size
              clear hat hva hk hh
              subst eZ
              have r0 : w2.cell? ⟨b3, off3 + 5, none⟩ = some (.int .i64 (x.kids[1]).op) := q0
              have r1 : w2.cell? ⟨b3, off3 + 6, none⟩ = some (.int .i64 (x.kids[1]).n) := q1
              have r2 : w2.cell? ⟨b3, off3 + 7, none⟩ = some (.slice Z1 (x.kids[1]).path.length z1) := q2
              have r3 : w2.cell? ⟨b3, off3 + 8, none⟩ = some (.string (x.kids[1]).s) := q3
              have r4 : w2.cell? ⟨b3, off3 + 9, none⟩ = some (.slice Z2 (x.kids[1]).kids.length z2) := q4
              go_wp2_with fail
              go_roundg k'
              case measure => omega
              case rel =>
                exact ⟨x.kids[1], Z1, z1, Z2, z2, HN, hkb, HA, Lib.hid ((Row.five Ra2.out).alloc _), Lib.hid ((Row.fiveFar Rv2.out (by simp)).alloc _), by have := Rv2.out.lt; simp [World.setCell]; omega, (below_five B2.out (Nat.le_refl _)).alloc (below_five B2.out (Nat.le_refl _)).size _⟩
            · have hh : (if hitB x y = true then 0 else 1) = 0 := by unfold hitB; simp [o3, a, b]
              have hql : 0 < x.kids.length := by omega
              have HN := Lib.hid (HT.out.trans (runF_step (k := k') HO.out hva hk hh hql))
              have hql2 : (0 : Int) < (x.kids.length : Int) := by omega
              have hkb : (x.kids[0]).bulk < k' := by have := bulkL_mem GTree.bulk x.kids _ (List.getElem_mem hql); have := x.bulk_eq; omega
              obtain ⟨b3, off3, Z1, z1, Z2, z2, eZ, hSb3, q0, q1, q2, q3, q4, hat⟩ := GTree.elem ((HX.out.2.2.2.2).below B2.out (Nat.le_refl _)) 0 hql
              have HA := Lib.hid (show GTree.At w (Lt w.heap.size) Z1 z1 Z2 z2 x.kids[0] from hat.keep fun q hq => ⟨hq, (B2.out.block q hq).symm⟩)
              have hb3 : b3 < w2.heap.size := Nat.lt_of_lt_of_le hSb3 B2.out.size
              clear hat hva hk hh
              subst eZ
              have r0 : w2.cell? ⟨b3, off3, none⟩ = some (.int .i64 (x.kids[0]).op) := q0
              have r1 : w2.cell? ⟨b3, off3 + 1, none⟩ = some (.int .i64 (x.kids[0]).n) := q1
              have r2 : w2.cell? ⟨b3, off3 + 2, none⟩ = some (.slice Z1 (x.kids[0]).path.length z1) := q2
              have r3 : w2.cell? ⟨b3, off3 + 3, none⟩ = some (.string (x.kids[0]).s) := q3
              have r4 : w2.cell? ⟨b3, off3 + 4, none⟩ = some (.slice Z2 (x.kids[0]).kids.length z2) := q4
              go_wp2_with fail
              go_roundg k'
              case measure => omega
              case rel =>
                exact ⟨x.kids[0], Z1, z1, Z2, z2, HN, hkb, HA, Lib.hid ((Row.five Ra2.out).alloc _), Lib.hid ((Row.fiveFar Rv2.out (by simp)).alloc _), by have := Rv2.out.lt; simp [World.setCell]; omega, (below_five B2.out (Nat.le_refl _)).alloc (below_five B2.out (Nat.le_refl _)).size _⟩
    · have o4 : (x.op == 4) = false := by rw [beq_eq_false_iff_ne]; have := eq_of_beq o3; omega
      have HO := Lib.hid (show (x.op == 3) = true ∨ (x.op == 4) = true from .inl o3)
      have hxl : x.kids.length ≤ 9223372036854775807 := by simpa using HX.out.2.2.2.2.len
      go_wp2_with fail
      refine (implAt v A1 c1 x.path X1 x1 _ hvb (V0.out.below hbl hsz) ((HX.out.2.2.1).below hbl hsz)).mono ?_
      rintro e w2 ⟨Y1, y1, rfl, how, hb2⟩
      have B2 := Lib.hid (hbl.trans (hb2.mono hsz))
      have Ra2 := Lib.hid (HRa.out.below hb2 HRa.out.lt)
      have Rv2 := Lib.hid (HRv.out.below hb2 HRv.out.lt)
      clear hca hcv how hb2
      have hca := fun i => Ra2.out.cell i
      have hfa := fun i => Ra2.out.frozen i
      have hla := Ra2.out.lt
      cases hva : valAt v x.path with
      | none =>
        have HN := Lib.hid (HT.out.trans (runF_none HO.out hva))
        have es : (none : Option GValue).isSome = false := rfl
        clear hva
        go_wp2_with fail
        go_ret
        exact ⟨ret_int HN.out.symm, B2.out.alloc B2.out.size _⟩
      | some y =>
        have ey : atV (some y) = y := rfl
        have es : (some y).isSome = true := rfl
        rw [ey, es]
        clear ey es
        by_cases hk : x.kids.length = 2
        rotate_left
        · have HN := Lib.hid (HT.out.trans (runF_kids HO.out hva hk))
          have hk2 : ((x.kids.length : Int) != 2) = true := by rw [bne_iff_ne]; omega
          clear hva hk
          go_wp2_with fail
          go_ret
          exact ⟨ret_int HN.out.symm, B2.out.alloc B2.out.size _⟩
        have hk2 : ((x.kids.length : Int) != 2) = false := by rw [bne_eq_false_iff_eq]; omega
        cases p1 : (y.kind == 1)
        · skip
          cases a : (y.kind == 2)
          · have hh : (if hitB x y = true then 0 else 1) = 1 := by unfold hitB; simp [o3, a]
            have hql : 1 < x.kids.length := by omega
            have HN := Lib.hid (HT.out.trans (runF_step (k := k') HO.out hva hk hh hql))
            have hql2 : (1 : Int) < (x.kids.length : Int) := by omega
            have hkb : (x.kids[1]).bulk < k' := by have := bulkL_mem GTree.bulk x.kids _ (List.getElem_mem hql); have := x.bulk_eq; omega
            obtain ⟨b3, off3, Z1, z1, Z2, z2, eZ, hSb3, q0, q1, q2, q3, q4, hat⟩ := GTree.elem ((HX.out.2.2.2.2).below B2.out (Nat.le_refl _)) 1 hql
            have HA := Lib.hid (show GTree.At w (Lt w.heap.size) Z1 z1 Z2 z2 x.kids[1] from hat.keep fun q hq => ⟨hq, (B2.out.block q hq).symm⟩)
            have hb3 : b3 < w2.heap.size := Nat.lt_of_lt_of_le hSb3 B2.out.size
            clear hat hva hk hh
            subst eZ
            have r0 : w2.cell? ⟨b3, off3 + 5, none⟩ = some (.int .i64 (x.kids[1]).op) := q0
            have r1 : w2.cell? ⟨b3, off3 + 6, none⟩ = some (.int .i64 (x.kids[1]).n) := q1
            have r2 : w2.cell? ⟨b3, off3 + 7, none⟩ = some (.slice Z1 (x.kids[1]).path.length z1) := q2
            have r3 : w2.cell? ⟨b3, off3 + 8, none⟩ = some (.string (x.kids[1]).s) := q3
            have r4 : w2.cell? ⟨b3, off3 + 9, none⟩ = some (.slice Z2 (x.kids[1]).kids.length z2) := q4
            go_wp2_with fail
            go_roundg k'
            case measure => omega
            case rel =>
              exact ⟨x.kids[1], Z1, z1, Z2, z2, HN, hkb, HA, Lib.hid ((Row.five Ra2.out).alloc _), Lib.hid ((Row.fiveFar Rv2.out (by simp)).alloc _), by have := Rv2.out.lt; simp [World.setCell]; omega, (below_five B2.out (Nat.le_refl _)).alloc (below_five B2.out (Nat.le_refl _)).size _⟩
          · cases b : (y.s.toList == x.s.toList)
            · have hh : (if hitB x y = true then 0 else 1) = 1 := by unfold hitB; simp [o3, a, b]
              have hql : 1 < x.kids.length := by omega
              have HN := Lib.hid (HT.out.trans (runF_step (k := k') HO.out hva hk hh hql))
              have hql2 : (1 : Int) < (x.kids.length : Int) := by omega
              have hkb : (x.kids[1]).bulk < k' := by have := bulkL_mem GTree.bulk x.kids _ (List.getElem_mem hql); have := x.bulk_eq; omega
              obtain ⟨b3, off3, Z1, z1, Z2, z2, eZ, hSb3, q0, q1, q2, q3, q4, hat⟩ := GTree.elem ((HX.out.2.2.2.2).below B2.out (Nat.le_refl _)) 1 hql
              have HA := Lib.hid (show GTree.At w (Lt w.heap.size) Z1 z1 Z2 z2 x.kids[1] from hat.keep fun q hq => ⟨hq, (B2.out.block q hq).symm⟩)
              have hb3 : b3 < w2.heap.size := Nat.lt_of_lt_of_le hSb3 B2.out.size
              clear hat hva hk hh
              subst eZ
              have r0 : w2.cell? ⟨b3, off3 + 5, none⟩ = some (.int .i64 (x.kids[1]).op) := q0
              have r1 : w2.cell? ⟨b3, off3 + 6, none⟩ = some (.int .i64 (x.kids[1]).n) := q1
              have r2 : w2.cell? ⟨b3, off3 + 7, none⟩ = some (.slice Z1 (x.kids[1]).path.length z1) := q2
              have r3 : w2.cell? ⟨b3, off3 + 8, none⟩ = some (.string (x.kids[1]).s) := q3
              have r4 : w2.cell? ⟨b3, off3 + 9, none⟩ = some (.slice Z2 (x.kids[1]).kids.length z2) := q4
              go_wp2_with fail
              go_roundg k'
              case measure => omega
              case rel =>
                exact ⟨x.kids[1], Z1, z1, Z2, z2, HN, hkb, HA, Lib.hid ((Row.five Ra2.out).alloc _), Lib.hid ((Row.fiveFar Rv2.out (by simp)).alloc _), by have := Rv2.out.lt; simp [World.setCell]; omega, (below_five B2.out (Nat.le_refl _)).alloc (below_five B2.out (Nat.le_refl _)).size _⟩
            · have hh : (if hitB x y = true then 0 else 1) = 0 := by unfold hitB; simp [o3, a, b]
              have hql : 0 < x.kids.length := by omega
              have HN := Lib.hid (HT.out.trans (runF_step (k := k') HO.out hva hk hh hql))
              have hql2 : (0 : Int) < (x.kids.length : Int) := by omega
              have hkb : (x.kids[0]).bulk < k' := by have := bulkL_mem GTree.bulk x.kids _ (List.getElem_mem hql); have := x.bulk_eq; omega
              obtain ⟨b3, off3, Z1, z1, Z2, z2, eZ, hSb3, q0, q1, q2, q3, q4, hat⟩ := GTree.elem ((HX.out.2.2.2.2).below B2.out (Nat.le_refl _)) 0 hql
              have HA := Lib.hid (show GTree.At w (Lt w.heap.size) Z1 z1 Z2 z2 x.kids[0] from hat.keep fun q hq => ⟨hq, (B2.out.block q hq).symm⟩)
              have hb3 : b3 < w2.heap.size := Nat.lt_of_lt_of_le hSb3 B2.out.size
              clear hat hva hk hh
              subst eZ
              have r0 : w2.cell? ⟨b3, off3, none⟩ = some (.int .i64 (x.kids[0]).op) := q0
              have r1 : w2.cell? ⟨b3, off3 + 1, none⟩ = some (.int .i64 (x.kids[0]).n) := q1
              have r2 : w2.cell? ⟨b3, off3 + 2, none⟩ = some (.slice Z1 (x.kids[0]).path.length z1) := q2
              have r3 : w2.cell? ⟨b3, off3 + 3, none⟩ = some (.string (x.kids[0]).s) := q3
              have r4 : w2.cell? ⟨b3, off3 + 4, none⟩ = some (.slice Z2 (x.kids[0]).kids.length z2) := q4
              go_wp2_with fail
              go_roundg k'
              case measure => omega
              case rel =>
                exact ⟨x.kids[0], Z1, z1, Z2, z2, HN, hkb, HA, Lib.hid ((Row.five Ra2.out).alloc _), Lib.hid ((Row.fiveFar Rv2.out (by simp)).alloc _), by have := Rv2.out.lt; simp [World.setCell]; omega, (below_five B2.out (Nat.le_refl _)).alloc (below_five B2.out (Nat.le_refl _)).size _⟩
        · cases p2 : (y.n == x.n)
          · skip
            cases a : (y.kind == 2)
            · have hh : (if hitB x y = true then 0 else 1) = 1 := by unfold hitB; simp [o3, a]
              have hql : 1 < x.kids.length := by omega
              have HN := Lib.hid (HT.out.trans (runF_step (k := k') HO.out hva hk hh hql))
              have hql2 : (1 : Int) < (x.kids.length : Int) := by omega
              have hkb : (x.kids[1]).bulk < k' := by have := bulkL_mem GTree.bulk x.kids _ (List.getElem_mem hql); have := x.bulk_eq; omega
              obtain ⟨b3, off3, Z1, z1, Z2, z2, eZ, hSb3, q0, q1, q2, q3, q4, hat⟩ := GTree.elem ((HX.out.2.2.2.2).below B2.out (Nat.le_refl _)) 1 hql
              have HA := Lib.hid (show GTree.At w (Lt w.heap.size) Z1 z1 Z2 z2 x.kids[1] from hat.keep fun q hq => ⟨hq, (B2.out.block q hq).symm⟩)
              have hb3 : b3 < w2.heap.size := Nat.lt_of_lt_of_le hSb3 B2.out.size
              clear hat hva hk hh
              subst eZ
              have r0 : w2.cell? ⟨b3, off3 + 5, none⟩ = some (.int .i64 (x.kids[1]).op) := q0
              have r1 : w2.cell? ⟨b3, off3 + 6, none⟩ = some (.int .i64 (x.kids[1]).n) := q1
              have r2 : w2.cell? ⟨b3, off3 + 7, none⟩ = some (.slice Z1 (x.kids[1]).path.length z1) := q2
              have r3 : w2.cell? ⟨b3, off3 + 8, none⟩ = some (.string (x.kids[1]).s) := q3
              have r4 : w2.cell? ⟨b3, off3 + 9, none⟩ = some (.slice Z2 (x.kids[1]).kids.length z2) := q4
              go_wp2_with fail
              go_roundg k'
              case measure => omega
              case rel =>
                exact ⟨x.kids[1], Z1, z1, Z2, z2, HN, hkb, HA, Lib.hid ((Row.five Ra2.out).alloc _), Lib.hid ((Row.fiveFar Rv2.out (by simp)).alloc _), by have := Rv2.out.lt; simp [World.setCell]; omega, (below_five B2.out (Nat.le_refl _)).alloc (below_five B2.out (Nat.le_refl _)).size _⟩
            · cases b : (y.s.toList == x.s.toList)
              · have hh : (if hitB x y = true then 0 else 1) = 1 := by unfold hitB; simp [o3, a, b]
                have hql : 1 < x.kids.length := by omega
                have HN := Lib.hid (HT.out.trans (runF_step (k := k') HO.out hva hk hh hql))
                have hql2 : (1 : Int) < (x.kids.length : Int) := by omega
                have hkb : (x.kids[1]).bulk < k' := by have := bulkL_mem GTree.bulk x.kids _ (List.getElem_mem hql); have := x.bulk_eq; omega
                obtain ⟨b3, off3, Z1, z1, Z2, z2, eZ, hSb3, q0, q1, q2, q3, q4, hat⟩ := GTree.elem ((HX.out.2.2.2.2).below B2.out (Nat.le_refl _)) 1 hql
                have HA := Lib.hid (show GTree.At w (Lt w.heap.size) Z1 z1 Z2 z2 x.kids[1] from hat.keep fun q hq => ⟨hq, (B2.out.block q hq).symm⟩)
                have hb3 : b3 < w2.heap.size := Nat.lt_of_lt_of_le hSb3 B2.out.size
                clear hat hva hk hh
                subst eZ
                have r0 : w2.cell? ⟨b3, off3 + 5, none⟩ = some (.int .i64 (x.kids[1]).op) := q0
                have r1 : w2.cell? ⟨b3, off3 + 6, none⟩ = some (.int .i64 (x.kids[1]).n) := q1
                have r2 : w2.cell? ⟨b3, off3 + 7, none⟩ = some (.slice Z1 (x.kids[1]).path.length z1) := q2
                have r3 : w2.cell? ⟨b3, off3 + 8, none⟩ = some (.string (x.kids[1]).s) := q3
                have r4 : w2.cell? ⟨b3, off3 + 9, none⟩ = some (.slice Z2 (x.kids[1]).kids.length z2) := q4
                go_wp2_with fail
                go_roundg k'
                case measure => omega
                case rel =>
                  exact ⟨x.kids[1], Z1, z1, Z2, z2, HN, hkb, HA, Lib.hid ((Row.five Ra2.out).alloc _), Lib.hid ((Row.fiveFar Rv2.out (by simp)).alloc _), by have := Rv2.out.lt; simp [World.setCell]; omega, (below_five B2.out (Nat.le_refl _)).alloc (below_five B2.out (Nat.le_refl _)).size _⟩
              · have hh : (if hitB x y = true then 0 else 1) = 0 := by unfold hitB; simp [o3, a, b]
                have hql : 0 < x.kids.length := by omega
                have HN := Lib.hid (HT.out.trans (runF_step (k := k') HO.out hva hk hh hql))
                have hql2 : (0 : Int) < (x.kids.length : Int) := by omega
                have hkb : (x.kids[0]).bulk < k' := by have := bulkL_mem GTree.bulk x.kids _ (List.getElem_mem hql); have := x.bulk_eq; omega
                obtain ⟨b3, off3, Z1, z1, Z2, z2, eZ, hSb3, q0, q1, q2, q3, q4, hat⟩ := GTree.elem ((HX.out.2.2.2.2).below B2.out (Nat.le_refl _)) 0 hql
                have HA := Lib.hid (show GTree.At w (Lt w.heap.size) Z1 z1 Z2 z2 x.kids[0] from hat.keep fun q hq => ⟨hq, (B2.out.block q hq).symm⟩)
                have hb3 : b3 < w2.heap.size := Nat.lt_of_lt_of_le hSb3 B2.out.size
                clear hat hva hk hh
                subst eZ
                have r0 : w2.cell? ⟨b3, off3, none⟩ = some (.int .i64 (x.kids[0]).op) := q0
                have r1 : w2.cell? ⟨b3, off3 + 1, none⟩ = some (.int .i64 (x.kids[0]).n) := q1
                have r2 : w2.cell? ⟨b3, off3 + 2, none⟩ = some (.slice Z1 (x.kids[0]).path.length z1) := q2
                have r3 : w2.cell? ⟨b3, off3 + 3, none⟩ = some (.string (x.kids[0]).s) := q3
                have r4 : w2.cell? ⟨b3, off3 + 4, none⟩ = some (.slice Z2 (x.kids[0]).kids.length z2) := q4
                go_wp2_with fail
                go_roundg k'
                case measure => omega
                case rel =>
                  exact ⟨x.kids[0], Z1, z1, Z2, z2, HN, hkb, HA, Lib.hid ((Row.five Ra2.out).alloc _), Lib.hid ((Row.fiveFar Rv2.out (by simp)).alloc _), by have := Rv2.out.lt; simp [World.setCell]; omega, (below_five B2.out (Nat.le_refl _)).alloc (below_five B2.out (Nat.le_refl _)).size _⟩
          · skip
            cases a : (y.kind == 2)
            · have hh : (if hitB x y = true then 0 else 1) = 1 := by unfold hitB; simp [o3, a]
              have hql : 1 < x.kids.length := by omega
              have HN := Lib.hid (HT.out.trans (runF_step (k := k') HO.out hva hk hh hql))
              have hql2 : (1 : Int) < (x.kids.length : Int) := by omega
              have hkb : (x.kids[1]).bulk < k' := by have := bulkL_mem GTree.bulk x.kids _ (List.getElem_mem hql); have := x.bulk_eq; omega
              obtain ⟨b3, off3, Z1, z1, Z2, z2, eZ, hSb3, q0, q1, q2, q3, q4, hat⟩ := GTree.elem ((HX.out.2.2.2.2).below B2.out (Nat.le_refl _)) 1 hql
              have HA := Lib.hid (show GTree.At w (Lt w.heap.size) Z1 z1 Z2 z2 x.kids[1] from hat.keep fun q hq => ⟨hq, (B2.out.block q hq).symm⟩)
              have hb3 : b3 < w2.heap.size := Nat.lt_of_lt_of_le hSb3 B2.out.size
              clear hat hva hk hh
              subst eZ
              have r0 : w2.cell? ⟨b3, off3 + 5, none⟩ = some (.int .i64 (x.kids[1]).op) := q0
              have r1 : w2.cell? ⟨b3, off3 + 6, none⟩ = some (.int .i64 (x.kids[1]).n) := q1
              have r2 : w2.cell? ⟨b3, off3 + 7, none⟩ = some (.slice Z1 (x.kids[1]).path.length z1) := q2
              have r3 : w2.cell? ⟨b3, off3 + 8, none⟩ = some (.string (x.kids[1]).s) := q3
              have r4 : w2.cell? ⟨b3, off3 + 9, none⟩ = some (.slice Z2 (x.kids[1]).kids.length z2) := q4
              go_wp2_with fail
              go_roundg k'
              case measure => omega
              case rel =>
                exact ⟨x.kids[1], Z1, z1, Z2, z2, HN, hkb, HA, Lib.hid ((Row.five Ra2.out).alloc _), Lib.hid ((Row.fiveFar Rv2.out (by simp)).alloc _), by have := Rv2.out.lt; simp [World.setCell]; omega, (below_five B2.out (Nat.le_refl _)).alloc (below_five B2.out (Nat.le_refl _)).size _⟩
            · cases b : (y.s.toList == x.s.toList)
              · have hh : (if hitB x y = true then 0 else 1) = 1 := by unfold hitB; simp [o3, a, b]
                have hql : 1 < x.kids.length := by omega
                have HN := Lib.hid (HT.out.trans (runF_step (k := k') HO.out hva hk hh hql))
                have hql2 : (1 : Int) < (x.kids.length : Int) := by omega
                have hkb : (x.kids[1]).bulk < k' := by have := bulkL_mem GTree.bulk x.kids _ (List.getElem_mem hql); have := x.bulk_eq; omega
                obtain ⟨b3, off3, Z1, z1, Z2, z2, eZ, hSb3, q0, q1, q2, q3, q4, hat⟩ := GTree.elem ((HX.out.2.2.2.2).below B2.out (Nat.le_refl _)) 1 hql
                have HA := Lib.hid (show GTree.At w (Lt w.heap.size) Z1 z1 Z2 z2 x.kids[1] from hat.keep fun q hq => ⟨hq, (B2.out.block q hq).symm⟩)
                have hb3 : b3 < w2.heap.size := Nat.lt_of_lt_of_le hSb3 B2.out.size
                clear hat hva hk hh
                subst eZ
                have r0 : w2.cell? ⟨b3, off3 + 5, none⟩ = some (.int .i64 (x.kids[1]).op) := q0
                have r1 : w2.cell? ⟨b3, off3 + 6, none⟩ = some (.int .i64 (x.kids[1]).n) := q1
                have r2 : w2.cell? ⟨b3, off3 + 7, none⟩ = some (.slice Z1 (x.kids[1]).path.length z1) := q2
                have r3 : w2.cell? ⟨b3, off3 + 8, none⟩ = some (.string (x.kids[1]).s) := q3
                have r4 : w2.cell? ⟨b3, off3 + 9, none⟩ = some (.slice Z2 (x.kids[1]).kids.length z2) := q4
                go_wp2_with fail
                go_roundg k'
                case measure => omega
                case rel =>
                  exact ⟨x.kids[1], Z1, z1, Z2, z2, HN, hkb, HA, Lib.hid ((Row.five Ra2.out).alloc _), Lib.hid ((Row.fiveFar Rv2.out (by simp)).alloc _), by have := Rv2.out.lt; simp [World.setCell]; omega, (below_five B2.out (Nat.le_refl _)).alloc (below_five B2.out (Nat.le_refl _)).size _⟩
              · have hh : (if hitB x y = true then 0 else 1) = 0 := by unfold hitB; simp [o3, a, b]
                have hql : 0 < x.kids.length := by omega
                have HN := Lib.hid (HT.out.trans (runF_step (k := k') HO.out hva hk hh hql))
                have hql2 : (0 : Int) < (x.kids.length : Int) := by omega
                have hkb : (x.kids[0]).bulk < k' := by have := bulkL_mem GTree.bulk x.kids _ (List.getElem_mem hql); have := x.bulk_eq; omega
                obtain ⟨b3, off3, Z1, z1, Z2, z2, eZ, hSb3, q0, q1, q2, q3, q4, hat⟩ := GTree.elem ((HX.out.2.2.2.2).below B2.out (Nat.le_refl _)) 0 hql
                have HA := Lib.hid (show GTree.At w (Lt w.heap.size) Z1 z1 Z2 z2 x.kids[0] from hat.keep fun q hq => ⟨hq, (B2.out.block q hq).symm⟩)
                have hb3 : b3 < w2.heap.size := Nat.lt_of_lt_of_le hSb3 B2.out.size
                clear hat hva hk hh
                subst eZ
                have r0 : w2.cell? ⟨b3, off3, none⟩ = some (.int .i64 (x.kids[0]).op) := q0
                have r1 : w2.cell? ⟨b3, off3 + 1, none⟩ = some (.int .i64 (x.kids[0]).n) := q1
                have r2 : w2.cell? ⟨b3, off3 + 2, none⟩ = some (.slice Z1 (x.kids[0]).path.length z1) := q2
                have r3 : w2.cell? ⟨b3, off3 + 3, none⟩ = some (.string (x.kids[0]).s) := q3
                have r4 : w2.cell? ⟨b3, off3 + 4, none⟩ = some (.slice Z2 (x.kids[0]).kids.length z2) := q4
                go_wp2_with fail
                go_roundg k'
                case measure => omega
                case rel =>
                  exact ⟨x.kids[0], Z1, z1, Z2, z2, HN, hkb, HA, Lib.hid ((Row.five Ra2.out).alloc _), Lib.hid ((Row.fiveFar Rv2.out (by simp)).alloc _), by have := Rv2.out.lt; simp [World.setCell]; omega, (below_five B2.out (Nat.le_refl _)).alloc (below_five B2.out (Nat.le_refl _)).size _⟩

end Go.Proofs.Ytnjindgpmacjmaa
