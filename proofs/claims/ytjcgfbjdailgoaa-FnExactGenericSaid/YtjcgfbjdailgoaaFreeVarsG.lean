/- FreeVars of the program, its list told as one that may be turned. Conditions: none. -/
import Derived.Test.YtjcgfbjdailgoaaFreeVars
namespace Go.Proofs.Ytjcgfbjdailgoaa
open Go.RowKit Go.Sort
set_option linter.unusedVariables false
set_option linter.unusedSimpArgs false

set_option maxRecDepth 20000 in
theorem implFreeVarsG (t : GTy) (A1 : Option Addr) (c1 : Nat) (w : World) (hb : t.bulk ≤ 1048576) (hat : GTy.At w (Lt w.heap.size) A1 c1 t) :
    Calls Try.prog 46 #[.agg #[.int .i64 t.op, .int .i64 t.n, .string t.s, .slice A1 t.kids.length c1]] w (VTo w.heap.size (t.vs []) w) := by
  have HL := Lib.hid (t.vi_len [])
  have HB := Lib.hid hb
  have HS := Lib.hid ((GTy.same t [] [] ⟨List.Pairwise.nil, List.nodup_nil, fun _ => Iff.rfl⟩).sorted)
  obtain ⟨w0, e0⟩ : ∃ w0, w0 = w.alloc (.cells #[.int .i64 t.op, .int .i64 t.n, .string t.s, .slice A1 t.kids.length c1] 36) := ⟨_, rfl⟩
  have E0 := Lib.hid (show Below w.heap.size w w0 by rw [e0]; exact (Below.refl _ _).alloc (Nat.le_refl _) _)
  have Ra0 := Lib.hid (show Row w0 w.heap.size 36 #[.int .i64 t.op, .int .i64 t.n, .string t.s, .slice A1 t.kids.length c1] by rw [e0]; exact Row.new' _ _ _ rfl)
  have S0 : w0.heap.size = w.heap.size + 1 := by rw [e0]; simp
  have T0 := Lib.hid (hat.below E0.out (Nat.le_refl _))
  have hca0 := fun i => Ra0.out.cell i
  clear hat hb
  go_enter Try.func46, Try.ntmps46
  go_wp2_with fail
  rw [← e0]
  clear e0
  refine (implVars w.heap.size (t.bulk + 1) t A1 c1 [] none 0 w0 (by omega) (by have := HB.out; simp; omega) (by omega) (Gre.nil _ _ _ _) T0.out).mono ?_
  rintro e w1 ⟨A, c, rfl, hG, hGr⟩
  have HG := Lib.hid hG
  have B1 := Lib.hid (E0.out.trans (hGr.below (by omega) (fun g h => by cases h)))
  clear hG hGr hca0
  go_wp2_with fail
  refine (implSort w.heap.size (t.vi []) A c w1 (by have h1 := HL.out; have h2 := HB.out; simp at h1; omega) HG.out).mono ?_
  rintro e w2 ⟨rfl, hG2, hGr2⟩
  rw [HS.out] at hG2
  have HG2 := Lib.hid hG2
  have B2 := Lib.hid (B1.out.trans (hGr2.below (by have := B1.out.size; omega) (fun g h => (HG.out.own g h).1)))
  have HLE := Lib.hid (show (t.vi []).length = (t.vs []).length from by rw [← HS.out]; exact (List.mergeSort_perm _ _).length_eq.symm)
  clear hG2 hGr2
  go_wp2_with fail
  go_ret
  have h := HG2.out
  rw [HLE.out] at h ⊢
  exact ⟨A, c, rfl, h, B2.out⟩
end Go.Proofs.Ytjcgfbjdailgoaa
