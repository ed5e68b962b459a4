/- The rest of a slice, behind its first element (no program in sight). Conditions: none. -/
import Derived.Test.YtgbcdfeflgnogaaAppM
namespace Go.Proofs.Ytgbcdfeflgnogaa
open Go.RowKit
set_option linter.unusedVariables false
set_option linter.unusedSimpArgs false
/-- where the rest of a slice lies -/
def tailAt (b off size c : Nat) : Option Addr := if c = 1 then some ⟨b, off, none⟩ else some ⟨b, off + size, none⟩
theorem run_tailAt {P : Program} (T e : TypeId) (size : Nat) (ht : P.underlying T = some (.slice e)) (hi : (P.info? e).map (fun i => i.size) = some size) (b off n c : Nat) (hn : n < c) (w : World) :
    (Instr.slice T (.slice (some ⟨b, off, none⟩) (n + 1) c) (some (.int .i64 1)) none none).run P w = .ok (.slice (tailAt b off size c) n (c - 1)) w := by
  have he : P.elem T = e := by simp [Program.elem, ht]
  obtain ⟨i, h1, h2⟩ := Option.map_eq_some_iff.1 hi
  subst h2
  rw [run_slice_l w T (some ⟨b, off, none⟩) (n + 1) c (by rw [he]; exact ht) .i64 1 (by omega) (by omega)]
  rw [he]
  simp only [sizeOf, typeInfo, Sem.run_bind, h1, Result.andThen_ok, Sem.run_pure, sliced, tailAt]
  by_cases hc : c = 1
  · subst hc
    simp [h1, Result.andThen]
  · simp [h1, Result.andThen, hc, Addr.add]
theorem Sl.tailAt {w : World} {S : Nat → Prop} {size b off c : Nat} {q : D} {t : List D} (h : Sl w S size (some ⟨b, off, none⟩) c (q :: t)) : Sl w S size (tailAt b off size c) (c - 1) t := by
  have hl := h.1
  simp only [List.length_cons] at hl
  unfold Go.Proofs.Ytgbcdfeflgnogaa.tailAt
  split
  · rename_i hc
    have : t = [] := List.eq_nil_of_length_eq_zero (by omega)
    subst this
    exact Sl.nil (by omega)
  · have hd := Sl.drop h 1 (by simp)
    simpa using hd
end Go.Proofs.Ytgbcdfeflgnogaa
