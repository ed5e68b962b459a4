/- Texts of the claim LExactTrees in one: LExactTrees. Conditions: none but bounds on sizes. -/
import Derived.Test.YtnpkmebnmklcfaaZLExactTrees10
import Derived.Test.YtnpkmebnmklcfaaZLExactTrees6
import Derived.WalkKit
import Derived.ProofKit
import Derived.OpenShut
/- The law FnExactTrees returns true for every input. Conditions: none. -/
namespace Go.Proofs.Ytnpkmebnmklcfaa.fnExactTrees
open Go.ChangeShapes Go.WideShapes Go.ChangeAt Go.RowKit
open Go.ChangeMaps (open_string)
set_option linter.unusedVariables false

theorem own : ownKnob Try.prog.godebug = none := by kernel_rfl

set_option maxRecDepth 100000 in
theorem lifted (os : Os) (started : os.Started) (H : Type) (enc : TypeId × Value → H) :
    ReturnsInHanded {} Try.checked os 3 .any (Rows.fnExactTreesSpec.pre6 enc Try.prog Try.f3 Rows.fnExactTreesRow.domain false) (Rows.fnExactTreesSpec.post enc Try.prog Try.f3 false true false false) := by
  refine returnsInHanded_of_change (C := Try.checked) own started (by kernel_rfl) Try.func3
    (ChangeSpec.witness6 (enc := enc) (C := Try.checked) false ⟨#[], #[.slice none 0 0, .slice none 0 0], []⟩ 8 (by kernel_rfl) (by kernel_rfl) (by kernel_rfl) (by kernel_rfl)) ?_
  intro W base args ds gs before hval0 hW hcnd _
  have hval : ∀ (j : Nat) t v, Try.f3.params[j]? = some t → args[j]? = some v → Value.okWide Try.prog W .any base t v := hval0
  have hW' := hW
  have hlt := fun p hp => hW'.lt p hp
  obtain ⟨p, q, hA0, hV, rfl, hfz, hnd⟩ := hW
  have hA : DataW.TrodAll enc Try.prog W 0 (fun _ => true) true Try.f3.params.toList args.toList ds p := hA0
  have hA1 := hA
  rw [Try.params3] at hA hval
  obtain ⟨v0, vs0, d0, ds0, p0, q0, hargs, rfl, rfl, h0, r0⟩ := trodAll_cons hA
  obtain ⟨v1, vs1, d1, ds1, p1, q1, rfl, rfl, rfl, h1, r1⟩ := trodAll_cons r0
  obtain ⟨rfl, rfl, rfl⟩ := trodAll_nil r1
  obtain rfl : args = #[v0, v1] := by cases args; simp_all
  obtain ⟨rfl, rfl⟩ := trodVars_none hV
  obtain ⟨t0, A0, c0, rfl, w0⟩ := argDataS (hval 0 22 v0 rfl rfl) h0
  obtain ⟨t1, A1, c1, rfl, w1⟩ := argNodeS (hval 1 23 v1 rfl rfl) h1
  clear hA hA0 hval0 hval
  refine (walkExactTrees t0 A0 c0 t1 A1 c1 W w0 w1).mono fun e W' ⟨he, hb⟩ => ?_
  subst he
  exact ⟨_, rfl, post_of_below (pv := []) hW' (fun _ _ _ => (trodAll_cons_mk (shut_bool Try.underlying4 _) trodAll_mk0)) (fun sp hsp => trodAll_stays (by kernel_rfl) (by kernel_rfl) hA1 hb (fun x hx => hlt x (by simpa using hx)) (fun x hx => hsp x (by simpa using hx))) (fun _ _ => rfl) (by simp) hb
    (ok_one (by kernel_rfl) rfl (okWide_bool_mk Try.underlying4 _))⟩

theorem j0 : (Rows.fnExactTreesRow.wf (OpenSpec.ofChange Rows.fnExactTreesSpec)) = true := by kernel_rfl
theorem j1 : (laidOutB Try.pinned.checked.prog) = true := by kernel_rfl
theorem j2 : (mapsRowed Try.pinned.checked.prog) = true := by kernel_rfl
theorem j3 : (Try.f3.params.all (Try.pinned.checked.prog.readableRec ·)) = true := by kernel_rfl
theorem j4 : (namedTie Try.pinned.checked.prog Rows.fnExactTreesRow.named Rows.fnExactTreesSpec.vars) = true := by kernel_rfl
theorem j5 : (Rows.fnExactTreesRow.stops == []) = true := by kernel_rfl
theorem j6 : (Try.pinned.checked.prog.stops == []) = true := by kernel_rfl
theorem j7 : (Rows.fnExactTreesRow.knobs == []) = true := by kernel_rfl
theorem j8 : (Try.pinned.checked.prog.stopKnobs == []) = true := by kernel_rfl
theorem j9 : (Rows.fnExactTreesRow.inPlace == Try.pinned.checked.prog.inPlace 3) = true := by kernel_rfl
theorem j10 : (Rows.fnExactTreesRow.unfollowed == Try.pinned.checked.prog.unfollowed 3) = true := by kernel_rfl
theorem j11 : (Rows.fnExactTreesRow.recurses == Try.pinned.checked.prog.recurses 3) = true := by kernel_rfl
theorem j12 : (Rows.fnExactTreesRow.named == Try.pinned.checked.prog.varsNamed 3) = true := by kernel_rfl
theorem j13 : (Rows.fnExactTreesRow.maps == (Try.f3.params.toList ++ Rows.fnExactTreesSpec.plain.varTypes Try.pinned.checked.prog).any (Try.pinned.checked.prog.mapsRec ·)) = true := by kernel_rfl
theorem j14 : (Rows.fnExactTreesRow.ifaces == (Try.f3.params.toList ++ Rows.fnExactTreesSpec.plain.varTypes Try.pinned.checked.prog).any (Try.pinned.checked.prog.ifacesRec ·)) = true := by kernel_rfl
theorem j15 : (Rows.fnExactTreesRow.mapsOut == Try.pinned.checked.prog.mapsAmong Try.f3.resultTypes.toList) = true := by kernel_rfl
theorem j16 : (Rows.fnExactTreesRow.loops == (Try.f3.params.toList ++ Rows.fnExactTreesSpec.plain.varTypes Try.pinned.checked.prog).any (Try.pinned.checked.prog.loopsFrom ·)) = true := by kernel_rfl
theorem j17 : (Rows.fnExactTreesRow.wideKeys == (Try.f3.params.toList ++ Rows.fnExactTreesSpec.plain.varTypes Try.pinned.checked.prog ++ Try.f3.resultTypes.toList).any (Try.pinned.checked.prog.wideKeysFrom ·)) = true := by kernel_rfl
theorem j18 : (Rows.fnExactTreesSpec.vars.all (Try.pinned.checked.prog.varReadable ·)) = true := by kernel_rfl
theorem j19 : (Try.f3.resultTypes.all (fun t => Try.pinned.checked.prog.readableRec t && decide (t < Try.pinned.checked.prog.types.size))) = true := by kernel_rfl
theorem j20 : (Rows.fnExactTreesRow.ifacesOut == Try.f3.resultTypes.toList.any (Try.pinned.checked.prog.ifacesRec ·)) = true := by kernel_rfl
theorem j21 : (Rows.fnExactTreesRow.loopsOut == Try.f3.resultTypes.toList.any (Try.pinned.checked.prog.loopsFrom ·)) = true := by kernel_rfl
theorem j22 : (Rows.fnExactTreesRow.plainKeys == Try.pinned.checked.prog.plainKeys) = true := by kernel_rfl
theorem j23 : (Rows.fnExactTreesRow.shortTexts.isNone) = true := by kernel_rfl
theorem j24 : (Try.pinned.checked.prog.stopsHeard) = true := by kernel_rfl
theorem j25 : (Try.pinned.checked.prog.mayEnter) = true := by kernel_rfl
theorem j26 : (Rows.fnExactTreesRow.lifted == Try.pinned.checked.prog.liftsFinal) = true := by kernel_rfl
theorem j27 : (Try.pinned.checked.prog.make == some Rows.fnExactTreesRow.make) = true := by kernel_rfl
theorem j28 : (Rows.fnExactTreesRow.kinds == kindsOf Try.pinned.checked.prog Try.f3 Rows.fnExactTreesRow) = true := by kernel_rfl
theorem j29 : (Rows.fnExactTreesRow.pinned == Rows.fnExactTreesRow.pinnedBy) = true := by kernel_rfl
theorem j30 : (Rows.fnExactTreesRow.veiled == (Try.f3.params.toList ++ Rows.fnExactTreesSpec.plain.varTypes Try.pinned.checked.prog ++ Try.f3.resultTypes.toList).any (Try.pinned.checked.prog.veiledRec ·)) = true := by kernel_rfl
theorem j31 : (Rows.fnExactTreesRow.veiledFits Try.pinned.checked.prog Try.f3.params.toList (Try.f3.params.toList ++ Rows.fnExactTreesSpec.plain.varTypes Try.pinned.checked.prog ++ Try.f3.resultTypes.toList)) = true := by kernel_rfl
theorem joined : joinedFacts Try.pinned.checked.prog 3 Try.f3 Rows.fnExactTreesSpec Rows.fnExactTreesRow = true := joinedOf j0 j1 j2 j3 j4 j5 j6 j7 j8 j9 j10 j11 j12 j13 j14 j15 j16 j17 j18 j19 j20 j21 j22 j23 j24 j25 j26 j27 j28 j29 j30 j31
theorem named : Try.pinned.checked.prog.funcNamed Rows.fnExactTreesRow.func = some 3 := by kernel_rfl
theorem over : Rows.fnExactTreesRow.holds Try.pinned (OpenSpec.ofChange Rows.fnExactTreesSpec) :=
  OpenClaim.holds_of_wide 3 Try.f3 rfl rfl rfl rfl rfl rfl rfl ⟨rfl, rfl, rfl, rfl, rfl⟩ rfl rfl rfl rfl rfl named Try.func3 joined
    (of_decide_eq_true (by kernel_rfl)) (by unfold Func.isWrapper; first | (rw [if_pos (by decide +kernel)]; kernel_rfl) | (rw [if_neg (by decide +kernel)]; exact ⟨rfl, rfl⟩))
    (fun os started H enc _ => lifted os started H enc)

/-- the statement -/
theorem proved : Rows.FnExactTreesSaid :=
  over
end Go.Proofs.Ytnpkmebnmklcfaa.fnExactTrees
