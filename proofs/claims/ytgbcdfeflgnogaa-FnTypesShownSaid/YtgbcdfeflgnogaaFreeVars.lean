/- FreeVars of both: the library's sort of a list of one's own, and both roads. Conditions: none. -/
import Derived.Test.YtgbcdfeflgnogaaVars
import Derived.Test.YtgbcdfeflgnogaaSortL
import Derived.Test.YtgbcdfeflgnogaaDepthsS
import Derived.Sort.OwnSortedInts
namespace Go.Proofs.Ytgbcdfeflgnogaa
open Go.RowKit Go.Sort
set_option linter.unusedVariables false
set_option linter.unusedSimpArgs false

theorem rdC_wf {w : World} {S : Nat → Prop} : ∀ (l : List Int) (cs : List Value), rdC w 1 S (l.map (D.num .i64)) cs → ∀ x ∈ l, (Lit.int .i64 x).wf = true
  | [], _, _, _, h => by cases h
  | x :: r, cs, h, y, hy => by
    simp only [List.map_cons, rdC] at h
    obtain ⟨c1, c2, rfl, hl, h1, h2⟩ := h
    rcases List.mem_cons.1 hy with rfl | hy
    · exact (D.rd_num.1 h1).2
    · exact rdC_wf r c2 h2 y hy
theorem GI.wf {w : World} {B : Nat} {e : TypeId} {v : Value} {n : Nat} {l : List Int} (h : Gre w B e 1 v n (l.map (D.num .i64))) : ∀ x ∈ l, (Lit.int .i64 x).wf = true := by
  obtain ⟨_, cs, _, h4⟩ := h
  exact rdC_wf l cs h4

theorem implSort (B : Nat) (xs : List Int) (A : Option Addr) (c : Nat) (w : World) (hl : xs.length ≤ 1048577) (hG : Gre w B 3 1 (.slice A xs.length c) xs.length (xs.map (D.num .i64))) :
    Calls Try.prog 121 #[.slice A xs.length c] w (fun e w' => e = .returned (.tuple #[]) ∧ Gre w' B 3 1 (.slice A xs.length c) xs.length ((xs.mergeSort fun x y => decide (x ≤ y)).map (D.num .i64)) ∧ Gr w w' (.slice A xs.length c) (.slice A xs.length c)) := by
  by_cases hn : xs.length = 0
  · have hx : xs = [] := List.eq_nil_of_length_eq_zero hn
    subst hx
    refine (AnyM.slices_Sort_int_none sortLays A c w).mono ?_
    rintro e w' ⟨rfl, rfl⟩
    exact ⟨rfl, by simpa using hG, Gr.refl _ _⟩
  · obtain ⟨h1, cs, h2, h4⟩ := hG
    have hcs := rdC_intC xs cs h4
    subst hcs
    have hwf := rdC_wf xs _ h4
    rcases h2.2 with ⟨_, h⟩ | ⟨g, cap, cur, hv, a1, a2, a3, a4, a5, a6⟩
    · exact absurd h hn
    · simp only [Value.slice.injEq] at hv
      obtain ⟨rfl, _, rfl⟩ := hv
      have hg : g < w.heap.size := (Array.getElem?_eq_some_iff.1 a2).1
      have hlen : xs.length < 4611686018427387904 := by omega
      refine (AnyM.slices_Sort_int sortLays g 0 c xs w (holds_of_blockI a2 (by simpa using a6)) hg hlen).mono ?_
      rintro e w' ⟨rfl, n, os, rfl⟩
      have hp := List.mergeSort_perm xs (fun x y => decide (x ≤ y))
      refine ⟨rfl, ⟨by simp [hp.length_eq], _, ownsRow_sortedI hp.length_eq a1 a2 a3 a4 a5, ?_⟩, ⟨grownBy_sortedI _, .inl rfl⟩⟩
      exact rdC_int _ fun x hx => hwf x (hp.mem_iff.1 hx)

/-- the list of a type's own variables that both hand back -/
def FVTo (t : GTy) (w : World) (e : Ending) (w' : World) : Prop := ∃ A c, e = .returned (.slice A (t.vs []).length c) ∧ Osl w' (Btw w.heap.size w'.heap.size) 1 A c ((t.vs []).map (D.num .i64)) ∧ Below w.heap.size w w'

set_option maxRecDepth 20000 in
theorem specFreeVars (t : GTy) (A1 : Option Addr) (c1 : Nat) (w : World) (hb : t.bulk ≤ 1048576) (hat : GTy.At w (Lt w.heap.size) A1 c1 t) :
    Calls Try.prog 48 #[.agg #[.int .i64 t.op, .int .i64 t.n, .string t.s, .slice A1 t.kids.length c1]] w (FVTo t w) := by
  have T0 := Lib.hid hat
  obtain ⟨w0, e0⟩ : ∃ w0, w0 = w.alloc (.cells #[.int .i64 t.op, .int .i64 t.n, .string t.s, .slice A1 t.kids.length c1] 59) := ⟨_, rfl⟩
  have E0 := Lib.hid (show Below w.heap.size w w0 by rw [e0]; exact (Below.refl _ _).alloc (Nat.le_refl _) _)
  have Ra0 := Lib.hid (show Row w0 w.heap.size 59 #[.int .i64 t.op, .int .i64 t.n, .string t.s, .slice A1 t.kids.length c1] by rw [e0]; exact Row.new' _ _ _ rfl)
  have S0 : w0.heap.size = w.heap.size + 1 := by rw [e0]; simp
  have hca0 := fun i => Ra0.out.cell i
  obtain ⟨w1, e1⟩ : ∃ w1, w1 = w0.alloc (.cells #[] 3) := ⟨_, rfl⟩
  have E1 := Lib.hid (show Below w.heap.size w w1 by rw [e1]; exact E0.out.alloc (by omega) _)
  have R1 := Lib.hid (show Row w1 w0.heap.size 3 #[] by rw [e1]; exact Row.new' _ _ _ rfl)
  have S1 : w1.heap.size = w.heap.size + 2 := by rw [e1]; simp [S0]
  clear hat
  go_enter Try.func48, Try.ntmps48
  go_wp2_with fail
  rw [← e0]
  rw [← e1]
  clear e0 e1 hca0
  have HG := Lib.hid (show Gre w1 w.heap.size 3 1 (.slice (some ⟨w.heap.size + 1, 0, none⟩) 0 0) 0 (([] : List Int).map (D.num .i64)) from Gre.made (by rw [← S0]; exact R1.out) (by omega))
  have HC := specVars w.heap.size (t.bulk + 1) t A1 c1 [] (some ⟨w.heap.size + 1, 0, none⟩) 0 w1 (by omega) (by simp; omega) (by omega) HG.out (T0.out.below E1.out (by omega))
  simp only [List.length_nil] at HC
  refine HC.mono ?_
  clear HC
  rintro e w2 ⟨A, c, rfl, hG, hb2⟩
  have B2 := Lib.hid (E1.out.trans (hb2.mono (by omega)))
  have HG2 := Lib.hid hG
  clear hG hb2
  go_wp2_with fail
  go_ret
  exact ⟨A, c, rfl, GI.osl HG2.out (GI.wf HG2.out), B2.out⟩

set_option maxRecDepth 20000 in
theorem implFreeVars (t : GTy) (A1 : Option Addr) (c1 : Nat) (w : World) (hb : t.bulk ≤ 1048576) (hat : GTy.At w (Lt w.heap.size) A1 c1 t) :
    Calls Try.prog 42 #[.agg #[.int .i64 t.op, .int .i64 t.n, .string t.s, .slice A1 t.kids.length c1]] w (FVTo t w) := by
  have HL := Lib.hid (t.vi_len [])
  have HB := Lib.hid hb
  have HS := Lib.hid ((GTy.same t [] [] ⟨List.Pairwise.nil, List.nodup_nil, fun _ => Iff.rfl⟩).sorted)
  obtain ⟨w0, e0⟩ : ∃ w0, w0 = w.alloc (.cells #[.int .i64 t.op, .int .i64 t.n, .string t.s, .slice A1 t.kids.length c1] 59) := ⟨_, rfl⟩
  have E0 := Lib.hid (show Below w.heap.size w w0 by rw [e0]; exact (Below.refl _ _).alloc (Nat.le_refl _) _)
  have Ra0 := Lib.hid (show Row w0 w.heap.size 59 #[.int .i64 t.op, .int .i64 t.n, .string t.s, .slice A1 t.kids.length c1] by rw [e0]; exact Row.new' _ _ _ rfl)
  have S0 : w0.heap.size = w.heap.size + 1 := by rw [e0]; simp
  have T0 := Lib.hid (hat.below E0.out (Nat.le_refl _))
  have hca0 := fun i => Ra0.out.cell i
  clear hat hb
  go_enter Try.func42, Try.ntmps42
  go_wp2_with fail
  rw [← e0]
  clear e0
  refine (implVars w.heap.size (t.bulk + 1) t A1 c1 [] none 0 w0 (by omega) (by have := HB.out; simp; omega) (by omega) (Gre.nil _ _ _ _) T0.out).mono ?_
  rintro e w1 ⟨A, c, rfl, hG, hGr⟩
  have HG := Lib.hid hG
  have B1 := Lib.hid (E0.out.trans (hGr.below (by omega) (fun g h => by cases h)))
  clear hG hGr hca0
  go_wp2_with fail
  refine (implSort w.heap.size (t.vi []) A c w1 (by have h1 := HL.out; have h2 := HB.out; simp at h1; omega) HG.out).mono ?_
  rintro e w2 ⟨rfl, hG2, hGr2⟩
  rw [HS.out] at hG2
  have HG2 := Lib.hid hG2
  have B2 := Lib.hid (B1.out.trans (hGr2.below (by have := B1.out.size; omega) (fun g h => (HG.out.own g h).1)))
  have HLE := Lib.hid (show (t.vi []).length = (t.vs []).length from by rw [← HS.out]; exact (List.mergeSort_perm _ _).length_eq.symm)
  clear hG2 hGr2
  go_wp2_with fail
  go_ret
  have h := HG2.out
  rw [HLE.out] at h ⊢
  exact ⟨A, c, rfl, GI.osl h (GI.wf h), B2.out⟩
end Go.Proofs.Ytgbcdfeflgnogaa
