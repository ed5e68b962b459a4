/- Texts of the claim LValues in one: LValues. Conditions: none but bounds on sizes. -/
import Derived.Test.YtamfolaicncblaaZLValues20
import Derived.Test.YtamfolaicncblaaZLValues1
import Derived.WalkKit
import Derived.ProofKit
import Derived.OpenShut
/- The law FnValues returns true for every input. Conditions: none. -/
namespace Go.Proofs.Ytamfolaicncblaa.fnValues
open Go.ChangeShapes Go.WideShapes Go.ChangeAt Go.RowKit
open Go.ChangeMaps (open_string)
set_option linter.unusedVariables false

theorem own : ownKnob Try.prog.godebug = none := by kernel_rfl

set_option maxRecDepth 100000 in
theorem lifted (os : Os) (started : os.Started) (H : Type) (enc : TypeId × Value → H) :
    ReturnsInHanded {} Try.checked os 3 .any (Rows.fnValuesSpec.pre6 enc Try.prog Try.f3 Rows.fnValuesRow.domain false) (Rows.fnValuesSpec.post enc Try.prog Try.f3 false true false false) := by
  refine returnsInHanded_of_change (C := Try.checked) own started (by kernel_rfl) Try.func3
    (ChangeSpec.witness6 (enc := enc) (C := Try.checked) false ⟨#[], #[.slice none 0 0], []⟩ 8 (by kernel_rfl) (by kernel_rfl) (by kernel_rfl) (by kernel_rfl)) ?_
  intro W base args ds gs before hval0 hW hcnd _
  have hval : ∀ (j : Nat) t v, Try.f3.params[j]? = some t → args[j]? = some v → Value.okWide Try.prog W .any base t v := hval0
  have hW' := hW
  have hlt := fun p hp => hW'.lt p hp
  obtain ⟨p, q, hA0, hV, rfl, hfz, hnd⟩ := hW
  have hA : DataW.TrodAll enc Try.prog W 0 (fun _ => true) true Try.f3.params.toList args.toList ds p := hA0
  have hA1 := hA
  rw [Try.params3] at hA hval
  obtain ⟨v0, vs0, d0, ds0, p0, q0, hargs, rfl, rfl, h0, r0⟩ := trodAll_cons hA
  obtain ⟨rfl, rfl, rfl⟩ := trodAll_nil r0
  obtain rfl : args = #[v0] := by cases args; simp_all
  obtain ⟨rfl, rfl⟩ := trodVars_none hV
  obtain ⟨t0, A0, c0, rfl, w0⟩ := argBytes (hval 0 22 v0 rfl rfl) h0
  clear hA hA0 hval0 hval
  refine (walkValues t0 A0 c0 W w0).mono fun e W' ⟨he, hb⟩ => ?_
  subst he
  exact ⟨_, rfl, post_of_below (pv := []) hW' (fun _ _ _ => (trodAll_cons_mk (shut_bool Try.underlying4 _) trodAll_mk0)) (fun sp hsp => trodAll_stays (by kernel_rfl) (by kernel_rfl) hA1 hb (fun x hx => hlt x (by simpa using hx)) (fun x hx => hsp x (by simpa using hx))) (fun _ _ => rfl) (by simp) hb
    (ok_one (by kernel_rfl) rfl (okWide_bool_mk Try.underlying4 _))⟩

theorem j0 : (Rows.fnValuesRow.wf (OpenSpec.ofChange Rows.fnValuesSpec)) = true := by kernel_rfl
theorem j1 : (laidOutB Try.pinned.checked.prog) = true := by kernel_rfl
theorem j2 : (mapsRowed Try.pinned.checked.prog) = true := by kernel_rfl
theorem j3 : (Try.f3.params.all (Try.pinned.checked.prog.readableRec ·)) = true := by kernel_rfl
theorem j4 : (namedTie Try.pinned.checked.prog Rows.fnValuesRow.named Rows.fnValuesSpec.vars) = true := by kernel_rfl
theorem j5 : (Rows.fnValuesRow.stops == []) = true := by kernel_rfl
theorem j6 : (Try.pinned.checked.prog.stops == []) = true := by kernel_rfl
theorem j7 : (Rows.fnValuesRow.knobs == []) = true := by kernel_rfl
theorem j8 : (Try.pinned.checked.prog.stopKnobs == []) = true := by kernel_rfl
theorem j9 : (Rows.fnValuesRow.inPlace == Try.pinned.checked.prog.inPlace 3) = true := by kernel_rfl
theorem j10 : (Rows.fnValuesRow.unfollowed == Try.pinned.checked.prog.unfollowed 3) = true := by kernel_rfl
theorem j11 : (Rows.fnValuesRow.recurses == Try.pinned.checked.prog.recurses 3) = true := by kernel_rfl
theorem j12 : (Rows.fnValuesRow.named == Try.pinned.checked.prog.varsNamed 3) = true := by kernel_rfl
theorem j13 : (Rows.fnValuesRow.maps == (Try.f3.params.toList ++ Rows.fnValuesSpec.plain.varTypes Try.pinned.checked.prog).any (Try.pinned.checked.prog.mapsRec ·)) = true := by kernel_rfl
theorem j14 : (Rows.fnValuesRow.ifaces == (Try.f3.params.toList ++ Rows.fnValuesSpec.plain.varTypes Try.pinned.checked.prog).any (Try.pinned.checked.prog.ifacesRec ·)) = true := by kernel_rfl
theorem j15 : (Rows.fnValuesRow.mapsOut == Try.pinned.checked.prog.mapsAmong Try.f3.resultTypes.toList) = true := by kernel_rfl
theorem j16 : (Rows.fnValuesRow.loops == (Try.f3.params.toList ++ Rows.fnValuesSpec.plain.varTypes Try.pinned.checked.prog).any (Try.pinned.checked.prog.loopsFrom ·)) = true := by kernel_rfl
theorem j17 : (Rows.fnValuesRow.wideKeys == (Try.f3.params.toList ++ Rows.fnValuesSpec.plain.varTypes Try.pinned.checked.prog ++ Try.f3.resultTypes.toList).any (Try.pinned.checked.prog.wideKeysFrom ·)) = true := by kernel_rfl
theorem j18 : (Rows.fnValuesSpec.vars.all (Try.pinned.checked.prog.varReadable ·)) = true := by kernel_rfl
theorem j19 : (Try.f3.resultTypes.all (fun t => Try.pinned.checked.prog.readableRec t && decide (t < Try.pinned.checked.prog.types.size))) = true := by kernel_rfl
theorem j20 : (Rows.fnValuesRow.ifacesOut == Try.f3.resultTypes.toList.any (Try.pinned.checked.prog.ifacesRec ·)) = true := by kernel_rfl
theorem j21 : (Rows.fnValuesRow.loopsOut == Try.f3.resultTypes.toList.any (Try.pinned.checked.prog.loopsFrom ·)) = true := by kernel_rfl
theorem j22 : (Rows.fnValuesRow.plainKeys == Try.pinned.checked.prog.plainKeys) = true := by kernel_rfl
theorem j23 : (Rows.fnValuesRow.shortTexts.isNone) = true := by kernel_rfl
theorem j24 : (Try.pinned.checked.prog.stopsHeard) = true := by kernel_rfl
theorem j25 : (Try.pinned.checked.prog.mayEnter) = true := by kernel_rfl
theorem j26 : (Rows.fnValuesRow.lifted == Try.pinned.checked.prog.liftsFinal) = true := by kernel_rfl
theorem j27 : (Try.pinned.checked.prog.make == some Rows.fnValuesRow.make) = true := by kernel_rfl
theorem j28 : (Rows.fnValuesRow.kinds == kindsOf Try.pinned.checked.prog Try.f3 Rows.fnValuesRow) = true := by kernel_rfl
theorem j29 : (Rows.fnValuesRow.pinned == Rows.fnValuesRow.pinnedBy) = true := by kernel_rfl
theorem j30 : (Rows.fnValuesRow.veiled == (Try.f3.params.toList ++ Rows.fnValuesSpec.plain.varTypes Try.pinned.checked.prog ++ Try.f3.resultTypes.toList).any (Try.pinned.checked.prog.veiledRec ·)) = true := by kernel_rfl
theorem j31 : (Rows.fnValuesRow.veiledFits Try.pinned.checked.prog Try.f3.params.toList (Try.f3.params.toList ++ Rows.fnValuesSpec.plain.varTypes Try.pinned.checked.prog ++ Try.f3.resultTypes.toList)) = true := by kernel_rfl
theorem joined : joinedFacts Try.pinned.checked.prog 3 Try.f3 Rows.fnValuesSpec Rows.fnValuesRow = true := joinedOf j0 j1 j2 j3 j4 j5 j6 j7 j8 j9 j10 j11 j12 j13 j14 j15 j16 j17 j18 j19 j20 j21 j22 j23 j24 j25 j26 j27 j28 j29 j30 j31
theorem named : Try.pinned.checked.prog.funcNamed Rows.fnValuesRow.func = some 3 := by kernel_rfl
theorem over : Rows.fnValuesRow.holds Try.pinned (OpenSpec.ofChange Rows.fnValuesSpec) :=
  OpenClaim.holds_of_wide 3 Try.f3 rfl rfl rfl rfl rfl rfl rfl ⟨rfl, rfl, rfl, rfl, rfl⟩ rfl rfl rfl rfl rfl named Try.func3 joined
    (of_decide_eq_true (by kernel_rfl)) (by unfold Func.isWrapper; first | (rw [if_pos (by decide +kernel)]; kernel_rfl) | (rw [if_neg (by decide +kernel)]; exact ⟨rfl, rfl⟩))
    (fun os started H enc _ => lifted os started H enc)

/-- the statement -/
theorem proved : Rows.FnValuesSaid :=
  over
end Go.Proofs.Ytamfolaicncblaa.fnValues
