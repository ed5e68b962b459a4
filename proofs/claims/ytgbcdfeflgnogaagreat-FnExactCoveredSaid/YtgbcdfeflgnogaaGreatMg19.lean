/- Several texts of this claim in one: WExactCovered Joined OTy OCon. Conditions: none but bounds on sizes. -/
import Derived.Test.YtgbcdfeflgnogaaGreatCovered
import Derived.Test.YtgbcdfeflgnogaaGreatMg18
import Derived.Deep.RegionHeld3
import Derived.WalkKit
import Derived.ProofKit
import Derived.OpenShut
import Derived.Test.YtgbcdfeflgnogaaGreatRows
import Derived.Test.YtgbcdfeflgnogaaGreatMg10
import Derived.Test.YtgbcdfeflgnogaaGreatMg4
import Derived.Test.YtgbcdfeflgnogaaGreatMg5
/- The walk of the law FnExactCovered. Conditions: none. -/
namespace Go.Proofs.YtgbcdfeflgnogaaGreat
open Go.RowKit
set_option linter.unusedVariables false
set_option linter.unusedSimpArgs false
set_option maxHeartbeats 2000000

set_option maxRecDepth 20000 in
theorem walkExactCovered (t0 : GProg) (A01 : Option Addr) (c01 : Nat) (A02 : Option Addr) (c02 : Nat) (w : World) (hat0 : GProg.At w (Lt w.heap.size) A01 c01 A02 c02 t0) :
    Calls Tryz.prog 3 #[.agg #[.slice A01 t0.datas.length c01, .int .i64 t0.main.op, .int .i64 t0.main.n, .string t0.main.s, .string t0.main.t, .slice A02 t0.main.kids.length c02]] w fun e w' => e = .returned (.bool true) ∧ Below w.heap.size w w' := by
  have B0 : Below w.heap.size w w := Below.refl _ _
  have at00 := Lib.hid hat0
  clear hat0
  have E1 : Below (w).heap.size (w) (w.alloc (.cells #[.slice A01 t0.datas.length c01, .int .i64 t0.main.op, .int .i64 t0.main.n, .string t0.main.s, .string t0.main.t, .slice A02 t0.main.kids.length c02] 27)) := (Below.refl _ _).alloc (Nat.le_refl _) _
  have B1 : Below w.heap.size w (w.alloc (.cells #[.slice A01 t0.datas.length c01, .int .i64 t0.main.op, .int .i64 t0.main.n, .string t0.main.s, .string t0.main.t, .slice A02 t0.main.kids.length c02] 27)) := B0.alloc B0.size _
  have ba01 := Lib.hid (Row.new' (w) 27 #[.slice A01 t0.datas.length c01, .int .i64 t0.main.op, .int .i64 t0.main.n, .string t0.main.s, .string t0.main.t, .slice A02 t0.main.kids.length c02] (g := w.heap.size) rfl)
  have at01 := Lib.hid (at00.out.below E1 E1.size)
  go_enter Tryz.func3, Tryz.ntmps3
  go_wp2_with fail
  refine (szProg' t0 A01 c01 A02 c02 (1048576) _ (by omega) (by omega) at01.out).mono ?_
  rintro e w1 ⟨rfl, hb1⟩
  have B2 := B1.trans (hb1.mono B1.size)
  have ba02 := Lib.hid (ba01.out.below hb1 ba01.out.lt)
  have at02 := Lib.hid (at01.out.below hb1 hb1.size)
  have hcba02 := fun i => ba02.out.cell i
  by_cases hk0 : ((t0.bulk : Nat) : Int) ≤ 1048576
  rotate_left
  · have hv := szv_gt (b := t0.bulk) (left := 1048576) (by omega)
    go_wp2_with fail
    go_ret
    exact ⟨rfl, B2⟩
  have hv0 := szv_le hk0
  have hge0 : 0 ≤ 1048576 - ((t0.bulk : Nat) : Int) := by omega
  have hm0 : t0.bulk ≤ 1048576 := by omega
  go_wp2_with fail
  refine (toProg' t0 A01 c01 A02 c02 _ hm0 at02.out).mono ?_
  rintro e w2 ⟨D01, d01, D02, d02, rfl, owd0, hb2⟩
  have B3 := B2.trans (hb2.mono B2.size)
  have ba03 := Lib.hid (ba02.out.below hb2 ba02.out.lt)
  have at03 := Lib.hid (at02.out.below hb2 hb2.size)
  have hcba03 := fun i => ba03.out.cell i
  have df03 := Lib.hid (owd0.at.keep fun b hb => ⟨hb.2, rfl⟩)
  go_wp2_with fail
  refine (specCovered t0 D01 d01 D02 d02 _ hm0 df03.out).mono ?_
  rintro e w3 ⟨rfl, hb3⟩
  have B4 := B3.trans (hb3.mono B3.size)
  have ba04 := Lib.hid (ba03.out.below hb3 ba03.out.lt)
  have at04 := Lib.hid (at03.out.below hb3 hb3.size)
  have df04 := Lib.hid (df03.out.below hb3 hb3.size)
  have hcba04 := fun i => ba04.out.cell i
  go_wp2_with fail
  refine (toProg' t0 A01 c01 A02 c02 _ hm0 at04.out).mono ?_
  rintro e w4 ⟨X01, x01, X02, x02, rfl, owx0, hb4⟩
  have B5 := B4.trans (hb4.mono B4.size)
  have ba05 := Lib.hid (ba04.out.below hb4 ba04.out.lt)
  have at05 := Lib.hid (at04.out.below hb4 hb4.size)
  have hcba05 := fun i => ba05.out.cell i
  have xf05 := Lib.hid (owx0.at.keep fun b hb => ⟨hb.2, rfl⟩)
  have E6 : Below (w4).heap.size (w4) (w4.alloc (.cells #[.slice X01 t0.datas.length x01, .int .i64 t0.main.op, .int .i64 t0.main.n, .string t0.main.s, .string t0.main.t, .slice X02 t0.main.kids.length x02] 35)) := (Below.refl _ _).alloc (Nat.le_refl _) _
  have B6 : Below w.heap.size w (w4.alloc (.cells #[.slice X01 t0.datas.length x01, .int .i64 t0.main.op, .int .i64 t0.main.n, .string t0.main.s, .string t0.main.t, .slice X02 t0.main.kids.length x02] 35)) := B5.alloc B5.size _
  have ba06 := Lib.hid (Row.alloc ba05.out (.cells #[.slice X01 t0.datas.length x01, .int .i64 t0.main.op, .int .i64 t0.main.n, .string t0.main.s, .string t0.main.t, .slice X02 t0.main.kids.length x02] 35))
  have bx06 := Lib.hid (Row.new' (w4) 35 #[.slice X01 t0.datas.length x01, .int .i64 t0.main.op, .int .i64 t0.main.n, .string t0.main.s, .string t0.main.t, .slice X02 t0.main.kids.length x02] (g := w4.heap.size) rfl)
  have at06 := Lib.hid (at05.out.below E6 E6.size)
  have xf06 := Lib.hid (xf05.out.below E6 E6.size)
  have hcba06 := fun i => ba06.out.cell i
  have hcbx06 := fun i => bx06.out.cell i
  go_wp2_with fail
  refine (implCovered t0 X01 x01 X02 x02 _ hm0 xf06.out).mono ?_
  rintro e w5 ⟨rfl, hb5⟩
  have B7 := B6.trans (hb5.mono B6.size)
  have ba07 := Lib.hid (ba06.out.below hb5 ba06.out.lt)
  have bx07 := Lib.hid (bx06.out.below hb5 bx06.out.lt)
  have at07 := Lib.hid (at06.out.below hb5 hb5.size)
  have xf07 := Lib.hid (xf06.out.below hb5 hb5.size)
  have hcba07 := fun i => ba07.out.cell i
  have hcbx07 := fun i => bx07.out.cell i
  go_wp2_with fail
  have B8 : Below w.heap.size w (w5).drew := B7.drew
  have ba08 : Hid (Row (w5).drew (w.heap.size) 27 #[.slice A01 t0.datas.length c01, .int .i64 t0.main.op, .int .i64 t0.main.n, .string t0.main.s, .string t0.main.t, .slice A02 t0.main.kids.length c02]) := ba07
  have bx08 : Hid (Row (w5).drew (w4.heap.size) 35 #[.slice X01 t0.datas.length x01, .int .i64 t0.main.op, .int .i64 t0.main.n, .string t0.main.s, .string t0.main.t, .slice X02 t0.main.kids.length x02]) := bx07
  have at08 := Lib.hid (at07.out.keep (w' := (w5).drew) (S' := Lt (w5).drew.heap.size) fun b hb => ⟨hb, rfl⟩)
  have xf08 := Lib.hid (xf07.out.keep (w' := (w5).drew) (S' := Lt (w5).drew.heap.size) fun b hb => ⟨hb, rfl⟩)
  have hcba08 := fun i => ba08.out.cell i
  have hcbx08 := fun i => bx08.out.cell i
  go_region_held3 (fun w' => (∀ i, w'.cell? ⟨w.heap.size, i, none⟩ = (#[.slice A01 t0.datas.length c01, .int .i64 t0.main.op, .int .i64 t0.main.n, .string t0.main.s, .string t0.main.t, .slice A02 t0.main.kids.length c02] : Array Value)[i]?) ∧ (∀ i, w'.cell? ⟨w4.heap.size, i, none⟩ = (#[.slice X01 t0.datas.length x01, .int .i64 t0.main.op, .int .i64 t0.main.n, .string t0.main.s, .string t0.main.t, .slice X02 t0.main.kids.length x02] : Array Value)[i]?)) (first | exact ⟨hcba08, hcbx08⟩ | exact ⟨hcba09, hcbx09⟩ | exact ⟨hcba010, hcbx010⟩) (first
    | (go_at_call 6
       refine (toProg' t0 A01 c01 A02 c02 _ hm0 at08.out).mono ?_
       rintro e w6 ⟨Y01, y01, Y02, y02, rfl, owy0, hb6⟩
       have B9 := B8.trans (hb6.mono B8.size)
       have ba09 := Lib.hid (ba08.out.below hb6 ba08.out.lt)
       have bx09 := Lib.hid (bx08.out.below hb6 bx08.out.lt)
       have at09 := Lib.hid (at08.out.below hb6 hb6.size)
       have xf09 := Lib.hid (xf08.out.below hb6 hb6.size)
       have hcba09 := fun i => ba09.out.cell i
       have hcbx09 := fun i => bx09.out.cell i
       have yf09 := Lib.hid (owy0.at.keep fun b hb => ⟨hb.2, rfl⟩))
    | (go_at_call 8
       refine (eqProg' t0 X01 x01 X02 x02 Y01 y01 Y02 y02 _ xf09.out yf09.out).mono ?_
       rintro e w7 ⟨rfl, hb7⟩
       have B10 := B9.trans (hb7.mono B9.size)
       have ba010 := Lib.hid (ba09.out.below hb7 ba09.out.lt)
       have bx010 := Lib.hid (bx09.out.below hb7 bx09.out.lt)
       have at010 := Lib.hid (at09.out.below hb7 hb7.size)
       have xf010 := Lib.hid (xf09.out.below hb7 hb7.size)
       have yf010 := Lib.hid (yf09.out.below hb7 hb7.size)
       have hcba010 := fun i => ba010.out.cell i
       have hcbx010 := fun i => bx010.out.cell i))
  go_wp2_with fail
  go_ret
  exact ⟨rfl, B10⟩
end Go.Proofs.YtgbcdfeflgnogaaGreat

/- The closed facts of a row, one by one (no program in sight). Conditions: none. -/
namespace Go.Proofs.YtgbcdfeflgnogaaGreat
open Go.ChangeShapes Go.WideShapes Go.ChangeAt Go.RowKit
set_option linter.unusedVariables false

/-- the number kinds of the parameters of a row with a domain -/
def kindsOf (P : Program) (fn : Func) (c : OpenClaim) : List (Option IntKind) := if c.domain.isEmpty then [] else fn.params.toList.map fun t => match P.underlying t with | some (.int k) => some k | _ => none
theorem joinedAnd {a b : Bool} (h : a = true) (h2 : b = true) : (a && b) = true := by rw [h, h2]; rfl
set_option maxRecDepth 10000 in
theorem joinedOf {P : Program} {f : FuncId} {fn : Func} {s : ChangeSpec} {c : OpenClaim} (h0 : (c.wf (OpenSpec.ofChange s)) = true) (h1 : (laidOutB P) = true) (h2 : (mapsRowed P) = true) (h3 : (fn.params.all (P.readableRec ·)) = true) (h4 : (namedTie P c.named s.vars) = true) (h5 : (c.stops == []) = true) (h6 : (P.stops == []) = true) (h7 : (c.knobs == []) = true) (h8 : (P.stopKnobs == []) = true) (h9 : (c.inPlace == P.inPlace f) = true) (h10 : (c.unfollowed == P.unfollowed f) = true) (h11 : (c.recurses == P.recurses f) = true) (h12 : (c.named == P.varsNamed f) = true) (h13 : (c.maps == (fn.params.toList ++ s.plain.varTypes P).any (P.mapsRec ·)) = true) (h14 : (c.ifaces == (fn.params.toList ++ s.plain.varTypes P).any (P.ifacesRec ·)) = true) (h15 : (c.mapsOut == P.mapsAmong fn.resultTypes.toList) = true) (h16 : (c.loops == (fn.params.toList ++ s.plain.varTypes P).any (P.loopsFrom ·)) = true) (h17 : (c.wideKeys == (fn.params.toList ++ s.plain.varTypes P ++ fn.resultTypes.toList).any (P.wideKeysFrom ·)) = true) (h18 : (s.vars.all (P.varReadable ·)) = true) (h19 : (fn.resultTypes.all (fun t => P.readableRec t && decide (t < P.types.size))) = true) (h20 : (c.ifacesOut == fn.resultTypes.toList.any (P.ifacesRec ·)) = true) (h21 : (c.loopsOut == fn.resultTypes.toList.any (P.loopsFrom ·)) = true) (h22 : (c.plainKeys == P.plainKeys) = true) (h23 : (c.shortTexts.isNone) = true) (h24 : (P.stopsHeard) = true) (h25 : (P.mayEnter) = true) (h26 : (c.lifted == P.liftsFinal) = true) (h27 : (P.make == some c.make) = true) (h28 : (c.kinds == kindsOf P fn c) = true) (h29 : (c.pinned == c.pinnedBy) = true) (h30 : (c.veiled == (fn.params.toList ++ s.plain.varTypes P ++ fn.resultTypes.toList).any (P.veiledRec ·)) = true) (h31 : (c.veiledFits P fn.params.toList (fn.params.toList ++ s.plain.varTypes P ++ fn.resultTypes.toList)) = true) : joinedFacts P f fn s c = true := by
  unfold joinedFacts
  exact (joinedAnd (joinedAnd (joinedAnd (joinedAnd (joinedAnd (joinedAnd (joinedAnd (joinedAnd (joinedAnd (joinedAnd (joinedAnd (joinedAnd (joinedAnd (joinedAnd (joinedAnd (joinedAnd (joinedAnd (joinedAnd (joinedAnd (joinedAnd (joinedAnd (joinedAnd (joinedAnd (joinedAnd (joinedAnd (joinedAnd (joinedAnd (joinedAnd (joinedAnd (joinedAnd (joinedAnd h0 h1) h2) h3) h4) h5) h6) h7) h8) h9) h10) h11) h12) h13) h14) h15) h16) h17) h18) h19) h20) h21) h22) h23) h24) h25) h26) h27) h28) h29) h30) h31)
end Go.Proofs.YtgbcdfeflgnogaaGreat

/- An argument of type Ty, as the statement reads it, is data in memory. Conditions: none. -/
namespace Go.Proofs.YtgbcdfeflgnogaaGreat
open Go.ChangeShapes Go.WideShapes Go.ChangeAt Go.RowKit Go.Deep
set_option linter.unusedVariables false
set_option linter.unusedSimpArgs false

set_option maxRecDepth 20000 in
theorem openTy {H : Type} {enc : TypeId × Value → H} {w : World} {sp : Nat → Bool} {held : Bool} (fuel : Nat) : ∀ (cs : List Value) (x : DataW H × List MemPlace), DataW.trod enc Tryz.prog w 0 sp held fuel 122 cs = some x → ∃ t : GTy, t.toD.rd w (Lt w.heap.size) cs := by
  induction fuel using Nat.strongRecOn with
  | _ fuel ih =>
  intro cs x h
  obtain ⟨xs, n, rfl, _, hl, hxl, hf⟩ := DataW.trod_struct Tryz.underlying122 h
  have hl2 : cs.length = 4 := hl.trans (by kernel_rfl)
  match cs, hl2 with
  | [v0, v1, v2, v3], _ =>
  obtain ⟨z0, e0⟩ := fld hf hxl 0 3 0 1 rfl (by kernel_rfl)
  replace e0 : DataW.trod enc Tryz.prog w 0 sp held n 3 [v0] = some z0 := e0
  obtain ⟨z1, e1⟩ := fld hf hxl 1 3 1 1 rfl (by kernel_rfl)
  replace e1 : DataW.trod enc Tryz.prog w 0 sp held n 3 [v1] = some z1 := e1
  obtain ⟨z2, e2⟩ := fld hf hxl 2 9 2 1 rfl (by kernel_rfl)
  replace e2 : DataW.trod enc Tryz.prog w 0 sp held n 9 [v2] = some z2 := e2
  obtain ⟨z3, e3⟩ := fld hf hxl 3 86 3 1 rfl (by kernel_rfl)
  replace e3 : DataW.trod enc Tryz.prog w 0 sp held n 86 [v3] = some z3 := e3
  obtain ⟨y0, a0, _, b0⟩ := DataW.trod_int Tryz.underlying3 e0
  obtain ⟨y1, a1, _, b1⟩ := DataW.trod_int Tryz.underlying3 e1
  obtain ⟨y2, a2, _, b2⟩ := DataW.trod_string Tryz.underlying9 e2
  obtain ⟨y3, a3⟩ := open_sl 4 (by decide) Tryz.underlying86 (by kernel_rfl) GTy.toD (fun n2 cs x hn h => ih n2 (by omega) cs x h) e3
  refine ⟨GTy.mk y0 y1 y2 y3, ?_⟩
  simp only [GTy.toD, GTy.toDs_map]
  rw [D.rd_agg]
  exact D.rdF_cons.2 ⟨[v0], [v1, v2, v3], rfl, D.rd_num.2 ⟨a0, b0⟩, D.rdF_cons.2 ⟨[v1], [v2, v3], rfl, D.rd_num.2 ⟨a1, b1⟩, D.rdF_cons.2 ⟨[v2], [v3], rfl, D.rd_str.2 ⟨a2, b2⟩, D.rdF_cons.2 ⟨[v3], [], rfl, a3, D.rdF_nil.2 rfl⟩⟩⟩⟩

set_option maxRecDepth 20000 in
/-- the argument itself -/
theorem argTy {H : Type} {enc : TypeId × Value → H} {w : World} {r : Reach} {base : Nat} {sp : Nat → Bool} {held : Bool} {v : Value} {d : DataW H} {p : List MemPlace} (hv : Value.okWide Tryz.prog w r base 122 v) (h : DataW.Trod enc Tryz.prog w 0 sp held 122 v d p) :
    ∃ (t : GTy) (A1 : Option Addr) (c1 : Nat), v = .agg #[.int .i64 t.op, .int .i64 t.n, .string t.s, .slice A1 t.kids.length c1] ∧ GTy.At w (Lt w.heap.size) A1 c1 t := by
  obtain ⟨cs, rfl, _⟩ := okWide_struct Tryz.underlying122 hv
  obtain ⟨fuel, hf⟩ := h
  obtain ⟨t, ht⟩ := openTy fuel _ _ hf
  obtain ⟨A1, c1, e, hat⟩ := GTy.rd ht
  have e2 : cs.toList = _ := e
  refine ⟨t, A1, c1, ?_, hat⟩
  congr 1
  apply Array.toList_inj.1
  rw [e2]

set_option maxRecDepth 20000 in
/-- an argument that is a slice of them -/
theorem argTyS {H : Type} {enc : TypeId × Value → H} {w : World} {r : Reach} {base : Nat} {sp : Nat → Bool} {held : Bool} {v : Value} {d : DataW H} {p : List MemPlace} (hv : Value.okWide Tryz.prog w r base 86 v) (h : DataW.Trod enc Tryz.prog w 0 sp held 86 v d p) :
    ∃ (l : List GTy) (A : Option Addr) (c : Nat), v = .slice A l.length c ∧ Sl w (Lt w.heap.size) 4 A c (l.map GTy.toD) := by
  obtain ⟨a, len, cap, rfl⟩ := okWide_slice Tryz.underlying86 hv
  obtain ⟨fuel, hf⟩ := h
  obtain ⟨l, hl⟩ := open_sl 4 (by decide) Tryz.underlying86 (by kernel_rfl) GTy.toD (fun n2 cs x hn h => openTy n2 cs x h) hf
  obtain ⟨A, c, e, hs⟩ := D.rd_sl.1 hl
  simp only [Value.cells, List.cons.injEq, List.length_map, and_true] at e
  exact ⟨l, A, c, e, hs⟩
end Go.Proofs.YtgbcdfeflgnogaaGreat

/- An argument of type Con, as the statement reads it, is data in memory. Conditions: none. -/
namespace Go.Proofs.YtgbcdfeflgnogaaGreat
open Go.ChangeShapes Go.WideShapes Go.ChangeAt Go.RowKit Go.Deep
set_option linter.unusedVariables false
set_option linter.unusedSimpArgs false

set_option maxRecDepth 20000 in
theorem openCon {H : Type} {enc : TypeId × Value → H} {w : World} {sp : Nat → Bool} {held : Bool} (fuel : Nat) : ∀ (cs : List Value) (x : DataW H × List MemPlace), DataW.trod enc Tryz.prog w 0 sp held fuel 88 cs = some x → ∃ t : GCon, t.toD.rd w (Lt w.heap.size) cs := by
  induction fuel using Nat.strongRecOn with
  | _ fuel ih =>
  intro cs x h
  obtain ⟨xs, n, rfl, _, hl, hxl, hf⟩ := DataW.trod_struct Tryz.underlying88 h
  have hl2 : cs.length = 2 := hl.trans (by kernel_rfl)
  match cs, hl2 with
  | [v0, v1], _ =>
  obtain ⟨z0, e0⟩ := fld hf hxl 0 9 0 1 rfl (by kernel_rfl)
  replace e0 : DataW.trod enc Tryz.prog w 0 sp held n 9 [v0] = some z0 := e0
  obtain ⟨z1, e1⟩ := fld hf hxl 1 86 1 1 rfl (by kernel_rfl)
  replace e1 : DataW.trod enc Tryz.prog w 0 sp held n 86 [v1] = some z1 := e1
  obtain ⟨y0, a0, _, b0⟩ := DataW.trod_string Tryz.underlying9 e0
  obtain ⟨y1, a1⟩ := open_sl 4 (by decide) Tryz.underlying86 (by kernel_rfl) GTy.toD (fun n2 cs x hn h => openTy n2 cs x h) e1
  refine ⟨⟨y0, y1⟩, ?_⟩
  unfold GCon.toD
  rw [D.rd_agg]
  exact D.rdF_cons.2 ⟨[v0], [v1], rfl, D.rd_str.2 ⟨a0, b0⟩, D.rdF_cons.2 ⟨[v1], [], rfl, a1, D.rdF_nil.2 rfl⟩⟩

set_option maxRecDepth 20000 in
/-- the argument itself -/
theorem argCon {H : Type} {enc : TypeId × Value → H} {w : World} {r : Reach} {base : Nat} {sp : Nat → Bool} {held : Bool} {v : Value} {d : DataW H} {p : List MemPlace} (hv : Value.okWide Tryz.prog w r base 88 v) (h : DataW.Trod enc Tryz.prog w 0 sp held 88 v d p) :
    ∃ (t : GCon) (A1 : Option Addr) (c1 : Nat), v = .agg #[.string t.name, .slice A1 t.args.length c1] ∧ GCon.At w (Lt w.heap.size) A1 c1 t := by
  obtain ⟨cs, rfl, _⟩ := okWide_struct Tryz.underlying88 hv
  obtain ⟨fuel, hf⟩ := h
  obtain ⟨t, ht⟩ := openCon fuel _ _ hf
  obtain ⟨A1, c1, e, hat⟩ := GCon.rd ht
  have e2 : cs.toList = _ := e
  refine ⟨t, A1, c1, ?_, hat⟩
  congr 1
  apply Array.toList_inj.1
  rw [e2]

set_option maxRecDepth 20000 in
/-- an argument that is a slice of them -/
theorem argConS {H : Type} {enc : TypeId × Value → H} {w : World} {r : Reach} {base : Nat} {sp : Nat → Bool} {held : Bool} {v : Value} {d : DataW H} {p : List MemPlace} (hv : Value.okWide Tryz.prog w r base 47 v) (h : DataW.Trod enc Tryz.prog w 0 sp held 47 v d p) :
    ∃ (l : List GCon) (A : Option Addr) (c : Nat), v = .slice A l.length c ∧ Sl w (Lt w.heap.size) 2 A c (l.map GCon.toD) := by
  obtain ⟨a, len, cap, rfl⟩ := okWide_slice Tryz.underlying47 hv
  obtain ⟨fuel, hf⟩ := h
  obtain ⟨l, hl⟩ := open_sl 2 (by decide) Tryz.underlying47 (by kernel_rfl) GCon.toD (fun n2 cs x hn h => openCon n2 cs x h) hf
  obtain ⟨A, c, e, hs⟩ := D.rd_sl.1 hl
  simp only [Value.cells, List.cons.injEq, List.length_map, and_true] at e
  exact ⟨l, A, c, e, hs⟩
end Go.Proofs.YtgbcdfeflgnogaaGreat
