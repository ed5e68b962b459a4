/- The laws' sz, to and eq functions at Op. Conditions: what is counted is at most 1048576. -/
import Derived.Test.YtaekegdbkeibmaaRows
import Derived.Test.YtaekegdbkeibmaaPw
import Derived.Test.YtaekegdbkeibmaaGOp
import Derived.Lib.Hide
import Derived.StillTailTactics
namespace Go.Proofs.Ytaekegdbkeibmaa
open Go.RowKit
set_option linter.unusedVariables false
set_option linter.unusedSimpArgs false
set_option maxHeartbeats 400000


/-- what a to function gives back: a struct of the call's own -/
def ToOp (t : GOp) (w : World) (e : Ending) (w' : World) : Prop := e = .returned (.agg #[.int .i64 t.code, .int .i64 t.n, .int .i64 t.m]) ∧ GOp.Ow w' (Btw w.heap.size w'.heap.size)  t ∧ Below w.heap.size w w'
def ToOpS (l : List GOp) (w : World) (e : Ending) (w' : World) : Prop := ∃ A1 c1, e = .returned (.slice A1 l.length c1) ∧ Osl w' (Btw w.heap.size w'.heap.size) 3 A1 c1 (l.map GOp.toD) ∧ Below w.heap.size w w'



theorem toOp (t : GOp)  (w : World) (h1 : t.bulk ≤ 1048576) (hat : GOp.At w (Lt w.heap.size)  t) :
      Calls Try.prog 18 #[.agg #[.int .i64 t.code, .int .i64 t.n, .int .i64 t.m]] w (ToOp t w) := by
  have hbe := t.bulk_eq
  have hat' := Lib.hid hat
  clear hbe hat
  go_enter Try.func18, Try.ntmps18
  go_wp2_with fail
  have qs := hat'.out
  obtain ⟨p0, p1, p2⟩ := qs
  exact bodyPost_ret (v := .agg #[.int .i64 t.code, .int .i64 t.n, .int .i64 t.m]) (by simp [results, Try.results18, go_sem]) rfl ⟨rfl, ⟨p0, p1, p2⟩, by repeat (first | exact Below.refl _ _ | refine Below.alloc ?_ (by simp; try omega) _ | exact Below.refl _ _)⟩

theorem toOp' (t : GOp)  (w : World) (h1 : t.bulk ≤ 1048576) (hat : GOp.At w (Lt w.heap.size)  t) :
      Calls Try.prog 18 #[.agg #[.int .i64 t.code, .int .i64 t.n, .int .i64 t.m]] w (ToOp t w) :=
  toOp t  w h1 hat






end Go.Proofs.Ytaekegdbkeibmaa
