/- Texts of the claim LVerifies in one: DepthsS Verify VerP OpText OpTextS FuncP LawInts WVerifies Joined. Conditions: none but bounds on sizes. -/
import Derived.Test.YtehpobojopmilaaGreatZLVerifies11
import Derived.Test.YtehpobojopmilaaGreatZLVerifies10
import Derived.BigQuiet
import Derived.IntWalk
import Derived.OwnWalk
import Derived.Deep.RegionLaw
import Derived.Test.YtehpobojopmilaaGreatZLVerifies0
import Derived.Deep.RegionHeld3
import Derived.WalkKit
import Derived.ProofKit
import Derived.OpenShut
namespace Go.Proofs.YtehpobojopmilaaGreat
set_option maxRecDepth 20000
set_option linter.unusedVariables false
set_option linter.unusedSimpArgs false
open Go.RowKit
set_option maxHeartbeats 2000000
theorem GI.keep {w w' : World} {B : Nat} {e : TypeId} {v : Value} {n : Nat} {l : List Int} (h : Gre w B e 1 v n (l.map (D.num .i64))) (hk : ∀ b, v.ownBlock = some b → w'.heap[b]? = w.heap[b]?) : Gre w' B e 1 v n (l.map (D.num .i64)) := by
 obtain ⟨h1, cs, h2, h4⟩ := h
 refine ⟨h1, cs, ⟨h2.1, ?_⟩, rdC_num l cs h4⟩
 rcases h2.2 with h | ⟨g, cap, cur, rfl, a1, a2, a3⟩
 · exact .inl h
 · exact .inr ⟨g, cap, cur, rfl, a1, (hk g rfl).trans a2, a3⟩
theorem GI.setNe {w : World} {B : Nat} {e : TypeId} {v : Value} {n : Nat} {l : List Int} (h : Gre w B e 1 v n (l.map (D.num .i64))) {p : Addr} (hp : v.ownBlock ≠ some p.block) (u : Value) : Gre (w.setCell p u) B e 1 v n (l.map (D.num .i64)) :=
 GI.keep h fun b hb => Below.heap_setCell w p u b fun e => hp (by rw [hb, e])
theorem GI.grow {w w' : World} {B : Nat} {e : TypeId} {v v2 v2' : Value} {n : Nat} {l : List Int} (h : Gre w B e 1 v n (l.map (D.num .i64))) (hg : Gr w w' v2 v2') (hne : ∀ b, v.ownBlock = some b → v2.ownBlock ≠ some b) : Gre w' B e 1 v n (l.map (D.num .i64)) :=
 GI.keep h fun b hb => hg.grow.block b (h.own b hb).2 fun e => hne b hb e.symm
theorem rdC_intC {w : World} {S : Nat → Prop} : ∀ (l : List Int) (cs : List Value), rdC w 1 S (l.map (D.num .i64)) cs → cs = l.map (Value.int .i64)
 | [], cs, h => h
 | x :: r, cs, h => by
  simp only [List.map_cons, rdC] at h
  obtain ⟨c1, c2, rfl, hl, h1, h2⟩ := h
  rw [(D.rd_num.1 h1).1, rdC_intC r c2 h2]; rfl
theorem GI.form {w : World} {B : Nat} {e : TypeId} {A : Option Addr} {c n : Nat} {l : List Int} (h : Gre w B e 1 (.slice A n c) n (l.map (D.num .i64))) (k : Nat) (hk : k < l.length) :
 ∃ g, A = some ⟨g, 0, none⟩ ∧ w.cell? ⟨g, k, none⟩ = some (.int .i64 l[k]) ∧ (∀ q, w.frozen? ⟨g, q, none⟩ = false) ∧ n ≤ c ∧ c ≤ maxLen := by
 obtain ⟨h1, cs, h2, h4⟩ := h
 have hcs := rdC_intC l cs h4
 simp only [List.length_map] at h1
 rcases h2.2 with ⟨_, h⟩ | ⟨g, cap, cur, hv, a1, a2, a3, a4, a5, a6⟩
 · omega
 ·
  simp only [Value.slice.injEq] at hv
  obtain ⟨rfl, _, rfl⟩ := hv
  refine ⟨g, rfl, ?_, fun q => Row.frozen (t := e) (cs := cur) a2 q, a3, a4⟩
  rw [Row.cell (t := e) (cs := cur) a2, ← Array.getElem?_toList]
  have : (cur.toList.take (n * 1))[k]? = some (.int .i64 l[k]) := by rw [a6, hcs]; simp [hk]
  rwa [List.getElem?_take_of_lt (by omega)] at this
theorem GI.set {w : World} {B : Nat} {e : TypeId} {g c n : Nat} {l : List Int} (h : Gre w B e 1 (.slice (some ⟨g, 0, none⟩) n c) n (l.map (D.num .i64))) (k : Nat) (hk : k < l.length) (d : Int) (hd : (Lit.int .i64 d).wf = true) :
 Gre (w.setCell ⟨g, k, none⟩ (.int .i64 d)) B e 1 (.slice (some ⟨g, 0, none⟩) n c) n ((l.set k d).map (D.num .i64)) := by
 obtain ⟨h1, cs, h2, h4⟩ := h
 have hcs := rdC_intC l cs h4
 simp only [List.length_map] at h1
 have hw : ∀ x ∈ l, (Lit.int .i64 x).wf = true := by
  clear hk h1 h2
  revert cs
  induction l with
  | nil => intro _ _ _ x hx; cases hx
  | cons y r ih =>
   intro cs h4 hcs x hx
   simp only [List.map_cons, rdC] at h4
   obtain ⟨c1, c2, e1, hl, k1, k2⟩ := h4
   rcases List.mem_cons.1 hx with rfl | hx
   · exact (D.rd_num.1 k1).2
   · exact ih c2 k2 (rdC_intC r c2 k2) x hx
 refine ⟨by simpa using h1, (l.set k d).map (Value.int .i64), ⟨by simp [h1], ?_⟩, rdC_int _ fun x hx => ?_⟩
 ·
  rcases h2.2 with ⟨h, _⟩ | ⟨g', cap, cur, hv, a1, a2, a3, a4, a5, a6⟩
  · cases h
  · simp only [Value.slice.injEq, Option.some.injEq, Addr.mk.injEq, and_true, true_and] at hv
    obtain ⟨rfl, rfl⟩ := hv
    refine .inr ⟨g, c, cur.setIfInBounds k (.int .i64 d), rfl, a1, Row.set (t := e) (cs := cur) a2 k _, a3, a4, by simp [a5], ?_⟩
    rw [Array.toList_setIfInBounds, List.take_set, a6, hcs, List.map_set]
 · rcases List.mem_or_eq_of_mem_set hx with h | rfl
   · exact hw x h
   · exact hd
theorem GI.pop {w : World} {B : Nat} {e : TypeId} {A : Option Addr} {c n : Nat} {d : Int} {l : List Int} (h : Gre w B e 1 (.slice A (n + 1) c) (n + 1) ((l ++ [d]).map (D.num .i64))) (hB : B ≤ w.heap.size) : Gre w B e 1 (.slice A n c) n (l.map (D.num .i64)) := by
 obtain ⟨h1, cs, h2, h4⟩ := h
 have h5 := rdC_num (w' := w) (S' := Lt B) (l ++ [d]) cs h4
 rw [List.map_append] at h5
 have hg : Gsh w B e 1 (.slice A (n + 1) c) (n + 1) (l.map (D.num .i64) ++ [D.num .i64 d]) := ⟨by simpa using h1, cs, h2, h5⟩
 exact Gre.of_gsh (Gsh.pop hg) hB
def WSt (w : World) (gw : Nat) (out : List Int) (todo : List Nat) (ok : Bool) : Prop :=
 ∃ A c A2 c2, Row w gw 52 #[.slice A out.length c, .slice A2 todo.length c2, .bool ok] ∧ Gre w (gw + 1) 3 1 (.slice A out.length c) out.length (out.map (D.num .i64)) ∧ Gre w (gw + 1) 3 1 (.slice A2 todo.length c2) todo.length ((tdI todo).map (D.num .i64)) ∧
  (∀ b, (Value.slice A out.length c).ownBlock = some b → (Value.slice A2 todo.length c2).ownBlock ≠ some b) ∧ gw + 1 ≤ w.heap.size
theorem WSt.below {w w' : World} {gw : Nat} {out : List Int} {todo : List Nat} {ok : Bool} (h : WSt w gw out todo ok) (hb : Below w.heap.size w w') : WSt w' gw out todo ok := by
 obtain ⟨A, c, A2, c2, h1, h2, h3, h4, h5⟩ := h
 exact ⟨A, c, A2, c2, h1.below hb h1.lt, h2.below hb, h3.below hb, h4, Nat.le_trans h5 hb.size⟩
def goS (out : List Int) (todo : List Nat) (ok : Bool) (q : Nat) (d : Int) : List Int × List Nat × Bool :=
 if out.length ≤ q ∨ 60 < d then (out, todo, false) else if out.getD q 0 < 0 then (out.set q d, todo ++ [q], ok) else if out.getD q 0 = d then (out, todo, ok) else (out, todo, false)
def WGo (w : World) (gw : Nat) (r : List Int × List Nat × Bool) (e : Ending) (w' : World) : Prop := e = .returned (.tuple #[]) ∧ WSt w' gw r.1 r.2.1 r.2.2 ∧ Below gw w w'
theorem specGo (gw : Nat) (out : List Int) (todo : List Nat) (ok : Bool) (q : Nat) (d : Int) (w : World) (hq : q ≤ 1048576) (hd : 1 ≤ d ∧ d ≤ 1048576) (ht : todo.length ≤ 1048576) (hs : WSt w gw out todo ok) :
 Calls Tryz.prog 28 #[.pointer (some ⟨gw, 0, none⟩), .int .i64 (q : Int), .int .i64 d] w (WGo w gw (goS out todo ok q d)) := by
 obtain ⟨A, c, A2, c2, hr, ho, ht2, hne, hgs⟩ := hs
 have hol : out.length ≤ 9223372036854775807 := by
  obtain ⟨A', c', e', h⟩ := ho.sl
  simpa using h.len
 have R0 := LH hr
 have HO := LH ho
 have HT := LH ht2
 have HN := LH hne
 have hR := fun i => R0.out.cell i
 have hF := fun i => R0.out.frozen i
 clear hr ho ht2 hne
 -- a store of false into the state
 have HBAD := LH (show ∀ (h : goS out todo ok q d = (out, todo, false)), WGo w gw (goS out todo ok q d) (.returned (.tuple #[])) (w.setCell ⟨gw, 2, none⟩ (.bool false)) from fun h => by
   rw [h]
   refine ⟨rfl, ⟨A, c, A2, c2, ?_, GI.setNe HO.out (fun e => ?_) _, GI.setNe HT.out (fun e => ?_) _, HN.out, by simpa [World.setCell] using hgs⟩, (Below.refl _ _).setCell (p := ⟨gw, 2, none⟩) (Nat.le_refl _) _⟩
   · have := R0.out.set 2 (.bool false)
     simpa using this
   · have h2 := (HO.out.own _ e).1; change gw + 1 ≤ gw at h2; omega
   · have h2 := (HT.out.own _ e).1; change gw + 1 ≤ gw at h2; omega)
 by_cases g1 : out.length ≤ q
 ·
  have HV := LH (HBAD.out (by unfold goS; rw [if_pos (.inl g1)]))
  have e1 : decide ((out.length : Int) ≤ (q : Int)) = true := decide_eq_true (by omega)
  go_enter Tryz.func28, Tryz.ntmps28
  go_wp2_with fail
  (try simp only [Exit.inBlock, Exit.then])
  first | refine bodyPost_ret (results_none rfl _ _ _) rfl ?_ | refine bodyPost_end (results_none rfl _ _ _) rfl ?_
  exact HV.out
 have e1 : decide ((out.length : Int) ≤ (q : Int)) = false := decide_eq_false (by omega)
 by_cases g2 : 60 < d
 ·
  have HV := LH (HBAD.out (by unfold goS; rw [if_pos (.inr g2)]))
  have e2 : decide (60 < d) = true := decide_eq_true g2
  go_enter Tryz.func28, Tryz.ntmps28
  go_wp2_with fail
  (try simp only [Exit.inBlock, Exit.then])
  first | refine bodyPost_ret (results_none rfl _ _ _) rfl ?_ | refine bodyPost_end (results_none rfl _ _ _) rfl ?_
  exact HV.out
 have e2 : decide (60 < d) = false := decide_eq_false g2
 have hql : q < out.length := by omega
 obtain ⟨gd, rfl, xq, xf, hnc, hcm⟩ := GI.form HO.out q hql
 have hcm2 : c ≤ 9223372036854775807 := by unfold maxLen at hcm; omega
 have egd : out.getD q 0 = out[q] := by simp [List.getD, List.getElem?_eq_getElem hql]
 have HGS := LH (show goS out todo ok q d = if out[q] < 0 then (out.set q d, todo ++ [q], ok) else if out[q] = d then (out, todo, ok) else (out, todo, false) by unfold goS; rw [if_neg (by omega), egd])
 clear egd
 by_cases g3 : out[q] < 0
 ·
  have e3 : decide (out[q] < 0) = true := decide_eq_true g3
  have HV := LH (HGS.out.trans (if_pos g3))
  have ess : (w.setCell ⟨gd, q, none⟩ (.int .i64 d)).heap.size = w.heap.size := by simp [World.setCell]
  have hgd := HO.out.own gd rfl
  have HO1 := LH (GI.set HO.out q hql d (wf_i64 (by omega) (by omega)))
  have HT1 := LH (GI.setNe (p := ⟨gd, q, none⟩) HT.out (HN.out gd rfl) (.int .i64 d))
  have R1 := LH (R0.out.far (p := ⟨gd, q, none⟩) (by simp; omega) (.int .i64 d))
  have hR1 := fun i => R1.out.cell i
  have hF1 := fun i => R1.out.frozen i
  obtain ⟨w1, hw1⟩ : ∃ w1, w1 = w.setCell ⟨gd, q, none⟩ (.int .i64 d) := ⟨_, rfl⟩
  have BW := LH (show Below gw w w1 by rw [hw1]; exact (Below.refl _ _).setCell (p := ⟨gd, q, none⟩) (by simp; omega) _)
  rw [← hw1] at HO1 HT1 R1 hR1 hF1 ess
  have E2 := LH (show Below w1.heap.size w1 (w1.alloc (.cells #[.int .i64 (q : Int)] 3)) from (Below.refl _ _).alloc (Nat.le_refl _) _)
  have HT2 := LH (HT1.out.below E2.out)
  have HO2 := LH (HO1.out.below E2.out)
  have R2 := LH (R1.out.below E2.out R1.out.lt)
  have HSL := LH (show Sl (w1.alloc (.cells #[.int .i64 (q : Int)] 3)) (fun b => b < (w1.alloc (.cells #[.int .i64 (q : Int)] 3)).heap.size ∧ (Value.slice A2 todo.length c2).ownBlock ≠ some b) 1 (some ⟨w1.heap.size, 0, none⟩) 1 ([(q : Int)].map (D.num .i64)) from
    (rowI_osl (B := w1.heap.size) (Row.new' (w1) 3 (rowI [(q : Int)]) rfl) (Nat.le_refl _) (by simp [maxLen]) (by intro x hx; simp at hx; rw [hx]; exact wf_i64 (by omega) (by omega))).sl.keep fun b hb => ⟨⟨hb.2, fun e => by have := (HT1.out.own b e).2; have := hb.1; omega⟩, rfl⟩)
  clear g3
  subst hw1
  rw [ess] at HSL
  go_enter Tryz.func28, Tryz.ntmps28
  go_wp2_with (first | (at_builtin; refine wpList_append_M ((w.setCell ⟨gd, q, none⟩ (.int .i64 d)).alloc (.cells #[.int .i64 (q : Int)] 3)) rfl (.tmp 39) (.tmp 41) 27 rfl 3 (.int .i64 0) 1 8 Tryz.underlying27 (by kernel_rfl) rfl (by omega) (gw + 1) (.slice A2 todo.length c2) todo.length _ HT2.out (some ⟨w.heap.size, 0, none⟩) 1 1 _ rfl HSL.out (by simp; omega) (by unfold maxLen; omega) (by omega) rfl rfl ?_; intro A3 c3 w3 G3 hGr3; have R3 := LH (hGr3.row R2.out (fun e => by have := (HT2.out.own _ e).1; omega)); have hR3 := fun i => R3.out.cell i; have hF3 := fun i => R3.out.frozen i; have G3h := LH G3; have GR3 := LH hGr3; clear G3 hGr3))
  (try simp only [Exit.inBlock, Exit.then])
  first | refine bodyPost_ret (results_none rfl _ _ _) rfl ?_ | refine bodyPost_end (results_none rfl _ _ _) rfl ?_
  rw [HV.out]
  refine ⟨rfl, ⟨some ⟨gd, 0, none⟩, c, A3, c3, ?_, ?_, ?_, ?_, ?_⟩, ?_⟩
  · have h := R3.out.set 1 (.slice A3 (todo.length + 1) c3)
    simpa using h
  · have h := GI.setNe (p := ⟨gw, 1, none⟩) (GI.grow HO2.out GR3.out HN.out) (fun e => by have h2 := (HO2.out.own _ e).1; change gw + 1 ≤ gw at h2; omega) (.slice A3 (todo.length + 1) c3)
    simpa using h
  · have h := GI.setNe (p := ⟨gw, 1, none⟩) (l := tdI (todo ++ [q])) (by rw [tdI_snoc]; exact G3h.out) (fun e => by have h2 := (G3h.out.own _ e).1; change gw + 1 ≤ gw at h2; omega) (.slice A3 (todo.length + 1) c3)
    simpa using h
  · intro b hb
    have h := GR3.out.ne (HN.out b hb) ((HO2.out.own b hb).2)
    simpa using h
  · have := GR3.out.size
    have h2 := E2.out.size
    simp only [World.setCell, Array.size_modify] at *
    omega
  · refine (BW.out.trans ((E2.out.mono ?_).trans (GR3.out.below ?_ (fun gg hg => by have := (HT2.out.own gg hg).1; omega)))).setCell (p := ⟨gw, 1, none⟩) (Nat.le_refl _) _
    · rw [ess]; omega
    · have := E2.out.size; rw [ess] at this; omega
 ·
  have e3 : decide (out[q] < 0) = false := decide_eq_false g3
  by_cases g4 : out[q] = d
  ·
   have e4 : (out[q] != d) = false := by rw [bne_eq_false_iff_eq]; exact g4
   have HV := LH (HGS.out.trans ((if_neg g3).trans (if_pos g4)))
   clear g3 g4
   go_enter Tryz.func28, Tryz.ntmps28
   go_wp2_with fail
   (try simp only [Exit.inBlock, Exit.then])
   first | refine bodyPost_ret (results_none rfl _ _ _) rfl ?_ | refine bodyPost_end (results_none rfl _ _ _) rfl ?_
   rw [HV.out]
   exact ⟨rfl, ⟨_, c, A2, c2, R0.out, HO.out, HT.out, HN.out, hgs⟩, Below.refl _ _⟩
  ·
   have e4 : (out[q] != d) = true := by rw [bne_iff_ne]; exact g4
   have HV := LH (HBAD.out (HGS.out.trans ((if_neg g3).trans (if_neg g4))))
   clear g3 g4
   go_enter Tryz.func28, Tryz.ntmps28
   go_wp2_with fail
   (try simp only [Exit.inBlock, Exit.then])
   first | refine bodyPost_ret (results_none rfl _ _ _) rfl ?_ | refine bodyPost_end (results_none rfl _ _ _) rfl ?_
   exact HV.out
theorem goS_len (out : List Int) (todo : List Nat) (ok : Bool) (q : Nat) (d : Int) : (goS out todo ok q d).1.length = out.length ∧ (goS out todo ok q d).2.1.length ≤ todo.length + 1 := by
 unfold goS; split
 · simp
 · split
   · simp
   · split <;> simp
theorem goS_false (out : List Int) (todo : List Nat) (q : Nat) (d : Int) : (goS out todo false q d).2.2 = false := by
 unfold goS; split
 · rfl
 · split
   · rfl
   · split <;> rfl
theorem goS_big {out : List Int} {todo : List Nat} {ok : Bool} {q : Nat} {d : Int} (h : 60 < d) : goS out todo ok q d = (out, todo, false) := by unfold goS; rw [if_pos (.inr h)]
theorem goS_step {ops : List GOp} {out : List Int} {todo : List Nat} {q : Nat} {d' : Int} {don : Int → Prop} (h : PInv ops out todo q d' don) {p : Nat} (hp : (p : Int) ∈ nextI (ops[q]'h.hq) q) (hl : p < out.length) :
 ((goS out todo true p d').2.2 = true → PInv ops (goS out todo true p d').1 (goS out todo true p d').2.1 q d' (fun x => don x ∨ x = p) ∧ 2 * negs (goS out todo true p d').1 + (goS out todo true p d').2.1.length ≤ 2 * negs out + todo.length) ∧
 ((goS out todo true p d').2.2 = false → Bad ops) := by
 have hr := h.rng
 have eg : out.getD p 0 = out[p] := by simp [List.getD, List.getElem?_eq_getElem hl]
 have e : goS out todo true p d' = if out[p] < 0 then (out.set p d', todo ++ [p], true) else if out[p] = d' then (out, todo, true) else (out, todo, false) := by
  unfold goS; rw [if_neg (by omega), eg]
 by_cases h1 : out[p] < 0
 · rw [e, if_pos h1]
   have h2 : out[p] = -1 := by rcases h.base.val p hl with h2 | ⟨h2, _, _⟩; exact h2; omega
   have h3 := negs_set (d := d') hl h2 (by omega)
   exact ⟨fun _ => ⟨h.set hp hl h2, by simp only [List.length_append, List.length_singleton]; omega⟩, fun h => by cases h⟩
 ·
  have h4 : ¬ out[p] = -1 := by omega
  by_cases h2 : out[p] = d'
  · rw [e, if_neg h1, if_pos h2]
    exact ⟨fun _ => ⟨h.same hl h2, Nat.le_refl _⟩, fun h => by cases h⟩
  · rw [e, if_neg h1, if_neg h2]
    exact ⟨fun h => (by cases h), fun _ => h.bad hp hl h4 h2⟩
def OneR (ops : List GOp) (M : Nat) (r : List Int × List Nat × Bool) : Prop := (r.2.2 = true → SInv ops r.1 r.2.1 (fun _ => False) ∧ 2 * negs r.1 + r.2.1.length < M) ∧ (r.2.2 = false → Bad ops) ∧ r.1.length = ops.length
theorem one0 {ops : List GOp} {out : List Int} {ts : List Nat} {q : Nat} {d' : Int} (h : SInv ops out (ts ++ [q]) (fun _ => False)) (hq : q < ops.length) (h' : q < out.length) (hn : nextI ops[q] q = []) (ha : afterI ops[q] out[q] = some d') : OneR ops (2 * negs out + ts.length + 1) (out, ts, true) :=
 ⟨fun _ => ⟨(h.pop h' hq ha).end (by rw [hn]; simp), Nat.lt_succ_self _⟩, fun h => by simp at h, h.len⟩
theorem oneBad {ops : List GOp} {out : List Int} {ts : List Nat} {q : Nat} {M : Nat} (h : SInv ops out (ts ++ [q]) (fun _ => False)) (hq : q < ops.length) (h' : q < out.length) (ha : afterI ops[q] out[q] = none) : OneR ops M (out, ts, false) :=
 ⟨fun h => by simp at h, fun _ => h.bad h' hq ha, h.len⟩
theorem one1 {ops : List GOp} {out : List Int} {ts : List Nat} {q : Nat} {nx : Int} (h : SInv ops out (ts ++ [q]) (fun _ => False)) (hJ : JumpsIn ops) (hq : q < ops.length) (h' : q < out.length) (p : Nat) (hn : nextI ops[q] q = [(p : Int)]) (ha : afterI ops[q] out[q] = if 60 < nx then none else some nx) :
 OneR ops (2 * negs out + ts.length + 1) (goS out ts true p nx) := by
 by_cases hb : 60 < nx
 · rw [goS_big hb]; rw [if_pos hb] at ha; exact oneBad h hq h' ha
 ·
  rw [if_neg hb] at ha
  have hp := h.pop h' hq ha
  have hm : (p : Int) ∈ nextI ops[q] q := by rw [hn]; simp
  have hpl := hJ.2 q hq _ hm
  have hs := goS_step hp hm (by have := h.len; omega)
  refine ⟨fun e => ?_, hs.2, by rw [(goS_len _ _ _ _ _).1]; exact h.len⟩
  obtain ⟨a, b⟩ := hs.1 e
  exact ⟨a.end (by rw [hn]; simp), by omega⟩
theorem one2 {ops : List GOp} {out : List Int} {ts : List Nat} {q : Nat} {nx : Int} (h : SInv ops out (ts ++ [q]) (fun _ => False)) (hJ : JumpsIn ops) (hq : q < ops.length) (h' : q < out.length) (p : Nat) (hn : nextI ops[q] q = [((q + 1 : Nat) : Int), (p : Int)]) (ha : afterI ops[q] out[q] = if 60 < nx then none else some nx) :
 OneR ops (2 * negs out + ts.length + 1) (goS (goS out ts true p nx).1 (goS out ts true p nx).2.1 (goS out ts true p nx).2.2 (q + 1) nx) := by
 by_cases hb : 60 < nx
 · rw [goS_big hb, goS_big hb]; rw [if_pos hb] at ha; exact oneBad h hq h' ha
 ·
  rw [if_neg hb] at ha
  have hp := h.pop h' hq ha
  have hm : (p : Int) ∈ nextI ops[q] q := by rw [hn]; simp
  have hm1 : ((q + 1 : Nat) : Int) ∈ nextI ops[q] q := by rw [hn]; simp
  have hpl := hJ.2 q hq _ hm
  have hpl1 := hJ.2 q hq _ hm1
  have hs := goS_step hp hm (by have := h.len; omega)
  have hl1 := (goS_len out ts true p nx).1
  cases he : (goS out ts true p nx).2.2 with
  | false =>
   refine ⟨fun e => ?_, fun _ => hs.2 he, by rw [(goS_len _ _ _ _ _).1, hl1]; exact h.len⟩
   rw [goS_false] at e; cases e
  | true =>
   obtain ⟨a, b⟩ := hs.1 he
   have hs2 := goS_step a hm1 (by have := h.len; omega)
   refine ⟨fun e => ?_, hs2.2, by rw [(goS_len _ _ _ _ _).1, hl1]; exact h.len⟩
   obtain ⟨a2, b2⟩ := hs2.1 e
   exact ⟨a2.end (by rw [hn]; simp), by omega⟩
def WOne (ops : List GOp) (M : Nat) (w : World) (gw : Nat) (e : Ending) (w' : World) : Prop := e = .returned (.tuple #[]) ∧ ∃ r : List Int × List Nat × Bool, WSt w' gw r.1 r.2.1 r.2.2 ∧ OneR ops M r ∧ Below gw w w'
theorem specOne (gw : Nat) (ops : List GOp) (A1 : Option Addr) (c1 : Nat) (out : List Int) (ts : List Nat) (q : Nat) (w : World) (hJ : JumpsIn ops) (hE : EffIn ops) (hol : ops.length ≤ 3000) (hts : ts.length ≤ 6002) (hI : SInv ops out (ts ++ [q]) (fun _ => False)) (hl : Sl w (Lt gw) 3 A1 c1 (ops.map GOp.toD)) (hs : WSt w gw out ts true) :
 Calls Tryz.prog 29 #[.pointer (some ⟨gw, 0, none⟩), .slice A1 ops.length c1, .int .i64 (q : Int)] w (WOne ops (2 * negs out + ts.length + 1) w gw) := by
 obtain ⟨hq', hne⟩ := hI.stk q (by simp)
 have hq : q < ops.length := by have := hI.len; omega
 have hrg := hI.rng hq' hne
 have HI := LH hI
 have HS := LH hs
 obtain ⟨A, c, A2, c2, hr, ho, ht2, hnn, hgs⟩ := hs
 obtain ⟨bo, oo, rfl, hSb, k0, k1, k2, kat⟩ := GOp.elem hl q hq
 obtain ⟨gd, rfl, xq, xf, hnc, hcm⟩ := GI.form ho q hq'
 have hcm2 : c ≤ 9223372036854775807 := by unfold maxLen at hcm; omega
 have hbo : bo < w.heap.size := Nat.lt_of_lt_of_le hSb (by omega)
 obtain ⟨o, ho'⟩ : ∃ o, o = ops[q] := ⟨_, rfl⟩
 obtain ⟨d, hd'⟩ : ∃ d, d = out[q] := ⟨_, rfl⟩
 have HB := LH (show afterI ops[q] out[q] = none → OneR ops (2 * negs out + ts.length + 1) (out, ts, false) from oneBad hI hq hq')
 have HZ := LH (fun (x : Int) => one0 (d' := x) hI hq hq')
 have H1 := LH (fun (x : Int) => one1 (nx := x) hI hJ hq hq')
 have H2 := LH (fun (x : Int) => one2 (nx := x) hI hJ hq hq')
 have HJ := LH (hJ.2 q hq)
 have heff := hE q hq
 rw [← ho', ← hd'] at HB
 rw [← ho', ← hd'] at HZ H1 H2
 rw [← ho'] at HJ heff k0 k1 k2 kat
 rw [← hd'] at xq hrg
 have HA := LH (show afterI o d = if d - 1 < (effI o.code o.m).1 ∨ (o.code = 2 ∧ d ≤ o.n) ∨ 60 < d - (effI o.code o.m).1 + (effI o.code o.m).2 ∨ (o.code = 7 ∧ ¬ d = 2) then none else some (d - (effI o.code o.m).1 + (effI o.code o.m).2) from rfl)
 have HN := LH (show nextI o q = if o.code = 7 ∨ o.code = 21 then [] else if o.code = 19 then [o.n] else if o.code = 10 ∨ o.code = 11 then [((q + 1 : Nat) : Int), o.m] else if o.code = 18 then [((q + 1 : Nat) : Int), o.n] else [((q + 1 : Nat) : Int)] from rfl)
 have hol2 : out.length ≤ 3000 := by have := hI.len; omega
 have E0 := LH (show Below w.heap.size w (w.alloc (.cells #[.int .i64 o.code, .int .i64 o.n, .int .i64 o.m] 32)) from (Below.refl _ _).alloc (Nat.le_refl _) _)
 have RB0 := LH (Row.new w 32 #[.int .i64 o.code, .int .i64 o.n, .int .i64 o.m])
 have RG0 := LH (hr.alloc (.cells #[.int .i64 o.code, .int .i64 o.n, .int .i64 o.m] 32))
 have hRG := fun i => RG0.out.cell i
 have xq2 := (E0.out.cell (p := ⟨gd, q, none⟩) (ho.own gd rfl).2).trans xq
 have HS1 := LH (HS.out.below E0.out)
 have HW := LH kat
 clear hr ho ht2 hnn hl kat HS hI hJ hE xq xf ho' hd' hne
 go_enter Tryz.func29, Tryz.ntmps29
 go_wp2_with fail
 refine (specEffect o.code o.n o.m _).mono ?_
 rintro e w1 ⟨rfl, hb1⟩
 have B1 := LH (E0.out.trans (hb1.mono E0.out.size))
 have R1 := LH (RB0.out.below hb1 RB0.out.lt)
 have RG1 := LH (RG0.out.below hb1 RG0.out.lt)
 have HS2 := LH (HS1.out.below hb1)
 have hR := fun i => R1.out.cell i
 have hG := fun i => RG1.out.cell i
 have hGf := fun i => RG1.out.frozen i
 have HBAD := LH (show OneR ops (2 * negs out + ts.length + 1) (out, ts, false) → WOne ops (2 * negs out + ts.length + 1) w gw (.returned (.tuple #[])) (w1.setCell ⟨gw, 2, none⟩ (.bool false)) from fun h => by
   obtain ⟨A, c, A2, c2, h1, h2, h3, h4, h5⟩ := HS2.out
   refine ⟨rfl, (out, ts, false), ⟨A, c, A2, c2, ?_, GI.setNe h2 (fun e => ?_) _, GI.setNe h3 (fun e => ?_) _, h4, by simpa [World.setCell] using h5⟩, h, (show Below gw w w1 from B1.out.mono (by omega)).setCell (p := ⟨gw, 2, none⟩) (Nat.le_refl _) _⟩
   · have := h1.set 2 (.bool false)
     simpa using this
   · have h6 := (h2.own _ e).1; change gw + 1 ≤ gw at h6; omega
   · have h6 := (h3.own _ e).1; change gw + 1 ≤ gw at h6; omega)
 have HSM := LH (show o.code = 7 ∨ o.code = 21 → ¬ 60 < d - (effI o.code o.m).1 + (effI o.code o.m).2 from fun h => by rcases h with h | h <;> (rw [h]; simp [effI]; omega))
 generalize (effI o.code o.m).1 = T at *
 generalize (effI o.code o.m).2 = U at *
 clear hb1 hRG xq2 k0 k1 k2
 by_cases g1 : d - 1 < T
 ·
  have e1 := decide_eq_true g1
  have HV := LH (HBAD.out (HB.out (HA.out.trans (if_pos (by omega)))))
  try clear g1
  try clear g2
  try clear g3
  try clear g4
  try clear g5
  try clear g6
  go_wp2_with fail
  (try simp only [Exit.inBlock, Exit.then])
  first | refine bodyPost_ret (results_none rfl _ _ _) rfl ?_ | refine bodyPost_end (results_none rfl _ _ _) rfl ?_
  exact HV.out
 ·
  have e1 := decide_eq_false g1
  by_cases g2 : o.code = 2
  ·
   have e2 : (o.code == 2) = true := by rw [beq_iff_eq]; exact g2
   by_cases g3 : d ≤ o.n
   ·
    have e3 := decide_eq_true g3
    have HV := LH (HBAD.out (HB.out (HA.out.trans (if_pos (by omega)))))
    try clear g1
    try clear g2
    try clear g3
    try clear g4
    try clear g5
    try clear g6
    go_wp2_with fail
    (try simp only [Exit.inBlock, Exit.then])
    first | refine bodyPost_ret (results_none rfl _ _ _) rfl ?_ | refine bodyPost_end (results_none rfl _ _ _) rfl ?_
    exact HV.out
   ·
    have e3 := decide_eq_false g3
    have g5 : ¬ o.code = 7 := by omega
    have e5 : (o.code == 7) = false := by rw [beq_eq_false_iff_ne]; exact g5
    have HX := LH (show afterI o d = if 60 < d - T + U then none else some (d - T + U) by rw [HA.out]; by_cases h6 : 60 < d - T + U; rw [if_pos (by omega), if_pos h6]; rw [if_neg (by omega), if_neg h6])
    have hnx : 1 ≤ d - T + U ∧ d - T + U ≤ 1048576 := by omega
    have q7 : ¬ o.code = 7 := by omega
    have f7 : (o.code == 7) = false := by rw [beq_eq_false_iff_ne]; exact q7
    have q21 : ¬ o.code = 21 := by omega
    have f21 : (o.code == 21) = false := by rw [beq_eq_false_iff_ne]; exact q21
    have q19 : ¬ o.code = 19 := by omega
    have f19 : (o.code == 19) = false := by rw [beq_eq_false_iff_ne]; exact q19
    have q18 : ¬ o.code = 18 := by omega
    have f18 : (o.code == 18) = false := by rw [beq_eq_false_iff_ne]; exact q18
    have q10 : ¬ o.code = 10 := by omega
    have f10 : (o.code == 10) = false := by rw [beq_eq_false_iff_ne]; exact q10
    have q11 : ¬ o.code = 11 := by omega
    have f11 : (o.code == 11) = false := by rw [beq_eq_false_iff_ne]; exact q11
    have HNX := LH (show nextI o q = [((q + 1 : Nat) : Int)] by rw [HN.out]; simp [q7, q21, q19, q18, q10, q11])
    have HF := LH (H1.out (d - T + U) (q + 1) HNX.out HX.out)
    try clear g1
    try clear g2
    try clear g3
    try clear g4
    try clear g5
    try clear g6
    try clear q7
    try clear q21
    try clear q19
    try clear q18
    try clear q10
    try clear q11
    go_wp2_with fail
    refine (specGo gw out ts true (q + 1) (d - T + U) w1 (by omega) hnx (by omega) HS2.out).mono ?_
    rintro e w2 ⟨rfl, hS3, hb2⟩
    go_wp2_with fail
    (try simp only [Exit.inBlock, Exit.then])
    first | refine bodyPost_ret (results_none rfl _ _ _) rfl ?_ | refine bodyPost_end (results_none rfl _ _ _) rfl ?_
    exact ⟨rfl, _, hS3, HF.out, (B1.out.mono (by omega)).trans hb2⟩
  ·
   have e2 : (o.code == 2) = false := by rw [beq_eq_false_iff_ne]; exact g2
   by_cases g5 : o.code = 7
   ·
    have e5 : (o.code == 7) = true := by rw [beq_iff_eq]; exact g5
    by_cases g6 : d = 2
    ·
     have e6 : (d != 2) = false := by rw [bne_eq_false_iff_eq]; exact g6
     have HX := LH (show afterI o d = if 60 < d - T + U then none else some (d - T + U) by rw [HA.out]; by_cases h6 : 60 < d - T + U; rw [if_pos (by omega), if_pos h6]; rw [if_neg (by omega), if_neg h6])
     have hnx : 1 ≤ d - T + U ∧ d - T + U ≤ 1048576 := by omega
     have q7 := g5
     have f7 := e5
     have HF := LH (HZ.out (d - T + U) (by rw [HN.out]; simp [q7]) (by rw [HX.out, if_neg (HSM.out (.inl q7))]))
     try clear g1
     try clear g2
     try clear g3
     try clear g4
     try clear g5
     try clear g6
     try clear q7
     try clear q21
     try clear q19
     try clear q18
     try clear q10
     try clear q11
     go_wp2_with fail
     (try simp only [Exit.inBlock, Exit.then])
     first | refine bodyPost_ret (results_none rfl _ _ _) rfl ?_ | refine bodyPost_end (results_none rfl _ _ _) rfl ?_
     exact ⟨rfl, (out, ts, true), HS2.out, HF.out, B1.out.mono (by omega)⟩
    ·
     have e6 : (d != 2) = true := by rw [bne_iff_ne]; exact g6
     have HV := LH (HBAD.out (HB.out (HA.out.trans (if_pos (by omega)))))
     try clear g1
     try clear g2
     try clear g3
     try clear g4
     try clear g5
     try clear g6
     go_wp2_with fail
     (try simp only [Exit.inBlock, Exit.then])
     first | refine bodyPost_ret (results_none rfl _ _ _) rfl ?_ | refine bodyPost_end (results_none rfl _ _ _) rfl ?_
     exact HV.out
   ·
    have e5 : (o.code == 7) = false := by rw [beq_eq_false_iff_ne]; exact g5
    have HX := LH (show afterI o d = if 60 < d - T + U then none else some (d - T + U) by rw [HA.out]; by_cases h6 : 60 < d - T + U; rw [if_pos (by omega), if_pos h6]; rw [if_neg (by omega), if_neg h6])
    have hnx : 1 ≤ d - T + U ∧ d - T + U ≤ 1048576 := by omega
    have q7 := g5
    have f7 := e5
    by_cases q21 : o.code = 21
    ·
     have f21 : (o.code == 21) = true := by rw [beq_iff_eq]; exact q21
     have HF := LH (HZ.out (d - T + U) (by rw [HN.out]; simp [q7, q21]) (by rw [HX.out, if_neg (HSM.out (.inr q21))]))
     try clear g1
     try clear g2
     try clear g3
     try clear g4
     try clear g5
     try clear g6
     try clear q7
     try clear q21
     try clear q19
     try clear q18
     try clear q10
     try clear q11
     go_wp2_with fail
     (try simp only [Exit.inBlock, Exit.then])
     first | refine bodyPost_ret (results_none rfl _ _ _) rfl ?_ | refine bodyPost_end (results_none rfl _ _ _) rfl ?_
     exact ⟨rfl, (out, ts, true), HS2.out, HF.out, B1.out.mono (by omega)⟩
    have f21 : (o.code == 21) = false := by rw [beq_eq_false_iff_ne]; exact q21
    by_cases q19 : o.code = 19
    ·
     have f19 : (o.code == 19) = true := by rw [beq_iff_eq]; exact q19
     have HNX := LH (show nextI o q = [o.n] by rw [HN.out]; simp [q7, q21, q19])
     obtain ⟨p, hp⟩ : ∃ p : Nat, o.n = (p : Int) := ⟨o.n.toNat, by have := HJ.out o.n (by rw [HNX.out]; simp); omega⟩
     have hpl : p ≤ 1048576 := by have := HJ.out o.n (by rw [HNX.out]; simp); omega
     rw [hp] at HNX
     have HF := LH (H1.out (d - T + U) p HNX.out HX.out)
     try clear g1
     try clear g2
     try clear g3
     try clear g4
     try clear g5
     try clear g6
     try clear q7
     try clear q21
     try clear q19
     try clear q18
     try clear q10
     try clear q11
     rw [hp] at hR
     clear hp
     go_wp2_with fail
     refine (specGo gw out ts true p (d - T + U) w1 hpl hnx (by omega) HS2.out).mono ?_
     rintro e w2 ⟨rfl, hS3, hb2⟩
     have HS3 := LH hS3
     have B2 := LH ((B1.out.mono (by omega)).trans hb2)
     clear hS3 hb2
     go_wp2_with fail
     (try simp only [Exit.inBlock, Exit.then])
     first | refine bodyPost_ret (results_none rfl _ _ _) rfl ?_ | refine bodyPost_end (results_none rfl _ _ _) rfl ?_
     exact ⟨rfl, _, HS3.out, HF.out, B2.out⟩
    have f19 : (o.code == 19) = false := by rw [beq_eq_false_iff_ne]; exact q19
    by_cases q18 : o.code = 18
    ·
     have f18 : (o.code == 18) = true := by rw [beq_iff_eq]; exact q18
     have HNX := LH (show nextI o q = [((q + 1 : Nat) : Int), o.n] by rw [HN.out]; simp [q7, q21, q19, q18])
     obtain ⟨p, hp⟩ : ∃ p : Nat, o.n = (p : Int) := ⟨o.n.toNat, by have := HJ.out o.n (by rw [HNX.out]; simp); omega⟩
     have hpl : p ≤ 1048576 := by have := HJ.out o.n (by rw [HNX.out]; simp); omega
     rw [hp] at HNX
     have HF := LH (H2.out (d - T + U) p HNX.out HX.out)
     try clear g1
     try clear g2
     try clear g3
     try clear g4
     try clear g5
     try clear g6
     try clear q7
     try clear q21
     try clear q19
     try clear q18
     try clear q10
     try clear q11
     rw [hp] at hR
     clear hp
     go_wp2_with fail
     refine (specGo gw out ts true p (d - T + U) w1 hpl hnx (by omega) HS2.out).mono ?_
     rintro e w2 ⟨rfl, hS3, hb2⟩
     have HS3 := LH hS3
     have B2 := LH ((B1.out.mono (by omega)).trans hb2)
     clear hS3 hb2
     go_wp2_with fail
     have hlt2 := (goS_len out ts true p (d - T + U)).2
     refine (specGo gw _ _ _ (q + 1) (d - T + U) w2 (by omega) hnx (by omega) HS3.out).mono ?_
     rintro e w3 ⟨rfl, hS4, hb3⟩
     go_wp2_with fail
     (try simp only [Exit.inBlock, Exit.then])
     first | refine bodyPost_ret (results_none rfl _ _ _) rfl ?_ | refine bodyPost_end (results_none rfl _ _ _) rfl ?_
     exact ⟨rfl, _, hS4, HF.out, B2.out.trans hb3⟩
    have f18 : (o.code == 18) = false := by rw [beq_eq_false_iff_ne]; exact q18
    by_cases q10 : o.code = 10
    ·
     have f10 : (o.code == 10) = true := by rw [beq_iff_eq]; exact q10
     have HNX := LH (show nextI o q = [((q + 1 : Nat) : Int), o.m] by rw [HN.out]; simp [q7, q21, q19, q18, q10])
     obtain ⟨p, hp⟩ : ∃ p : Nat, o.m = (p : Int) := ⟨o.m.toNat, by have := HJ.out o.m (by rw [HNX.out]; simp); omega⟩
     have hpl : p ≤ 1048576 := by have := HJ.out o.m (by rw [HNX.out]; simp); omega
     rw [hp] at HNX
     have HF := LH (H2.out (d - T + U) p HNX.out HX.out)
     try clear g1
     try clear g2
     try clear g3
     try clear g4
     try clear g5
     try clear g6
     try clear q7
     try clear q21
     try clear q19
     try clear q18
     try clear q10
     try clear q11
     rw [hp] at hR
     clear hp
     go_wp2_with fail
     refine (specGo gw out ts true p (d - T + U) w1 hpl hnx (by omega) HS2.out).mono ?_
     rintro e w2 ⟨rfl, hS3, hb2⟩
     have HS3 := LH hS3
     have B2 := LH ((B1.out.mono (by omega)).trans hb2)
     clear hS3 hb2
     go_wp2_with fail
     have hlt2 := (goS_len out ts true p (d - T + U)).2
     refine (specGo gw _ _ _ (q + 1) (d - T + U) w2 (by omega) hnx (by omega) HS3.out).mono ?_
     rintro e w3 ⟨rfl, hS4, hb3⟩
     go_wp2_with fail
     (try simp only [Exit.inBlock, Exit.then])
     first | refine bodyPost_ret (results_none rfl _ _ _) rfl ?_ | refine bodyPost_end (results_none rfl _ _ _) rfl ?_
     exact ⟨rfl, _, hS4, HF.out, B2.out.trans hb3⟩
    have f10 : (o.code == 10) = false := by rw [beq_eq_false_iff_ne]; exact q10
    by_cases q11 : o.code = 11
    ·
     have f11 : (o.code == 11) = true := by rw [beq_iff_eq]; exact q11
     have HNX := LH (show nextI o q = [((q + 1 : Nat) : Int), o.m] by rw [HN.out]; simp [q7, q21, q19, q18, q10, q11])
     obtain ⟨p, hp⟩ : ∃ p : Nat, o.m = (p : Int) := ⟨o.m.toNat, by have := HJ.out o.m (by rw [HNX.out]; simp); omega⟩
     have hpl : p ≤ 1048576 := by have := HJ.out o.m (by rw [HNX.out]; simp); omega
     rw [hp] at HNX
     have HF := LH (H2.out (d - T + U) p HNX.out HX.out)
     try clear g1
     try clear g2
     try clear g3
     try clear g4
     try clear g5
     try clear g6
     try clear q7
     try clear q21
     try clear q19
     try clear q18
     try clear q10
     try clear q11
     rw [hp] at hR
     clear hp
     go_wp2_with fail
     refine (specGo gw out ts true p (d - T + U) w1 hpl hnx (by omega) HS2.out).mono ?_
     rintro e w2 ⟨rfl, hS3, hb2⟩
     have HS3 := LH hS3
     have B2 := LH ((B1.out.mono (by omega)).trans hb2)
     clear hS3 hb2
     go_wp2_with fail
     have hlt2 := (goS_len out ts true p (d - T + U)).2
     refine (specGo gw _ _ _ (q + 1) (d - T + U) w2 (by omega) hnx (by omega) HS3.out).mono ?_
     rintro e w3 ⟨rfl, hS4, hb3⟩
     go_wp2_with fail
     (try simp only [Exit.inBlock, Exit.then])
     first | refine bodyPost_ret (results_none rfl _ _ _) rfl ?_ | refine bodyPost_end (results_none rfl _ _ _) rfl ?_
     exact ⟨rfl, _, hS4, HF.out, B2.out.trans hb3⟩
    have f11 : (o.code == 11) = false := by rw [beq_eq_false_iff_ne]; exact q11
    have HNX := LH (show nextI o q = [((q + 1 : Nat) : Int)] by rw [HN.out]; simp [q7, q21, q19, q18, q10, q11])
    have HF := LH (H1.out (d - T + U) (q + 1) HNX.out HX.out)
    try clear g1
    try clear g2
    try clear g3
    try clear g4
    try clear g5
    try clear g6
    try clear q7
    try clear q21
    try clear q19
    try clear q18
    try clear q10
    try clear q11
    go_wp2_with fail
    refine (specGo gw out ts true (q + 1) (d - T + U) w1 (by omega) hnx (by omega) HS2.out).mono ?_
    rintro e w2 ⟨rfl, hS3, hb2⟩
    go_wp2_with fail
    (try simp only [Exit.inBlock, Exit.then])
    first | refine bodyPost_ret (results_none rfl _ _ _) rfl ?_ | refine bodyPost_end (results_none rfl _ _ _) rfl ?_
    exact ⟨rfl, _, hS3, HF.out, (B1.out.mono (by omega)).trans hb2⟩
theorem GI.osl {w : World} {B : Nat} {e : TypeId} {A : Option Addr} {c n : Nat} {l : List Int} (h : Gre w B e 1 (.slice A n c) n (l.map (D.num .i64))) (hw : ∀ x ∈ l, (Lit.int .i64 x).wf = true) : Osl w (Btw B w.heap.size) 1 A c (l.map (D.num .i64)) := by
 have hl : l.length = n := by have := h.1; simpa using this
 by_cases hn : 0 < l.length
 ·
  obtain ⟨g, rfl, _, hf, h1, h2⟩ := GI.form h 0 hn
  have ho := h.own g rfl
  refine ⟨by simpa [hl] using h1, h2, .inr ⟨g, rfl, ho, hf, rowI_ownR l _ 0 hw fun k hk => ?_⟩⟩
  obtain ⟨g', e', hc, _⟩ := GI.form h k hk
  obtain rfl : g = g' := by simpa using e'
  rw [Nat.zero_add]; exact hc
 · have hn' : l = [] := List.eq_nil_of_length_eq_zero (by omega)
   subst hn'
   obtain ⟨A', c', e', hs⟩ := h.sl
   obtain ⟨rfl, rfl⟩ : A = A' ∧ c = c' := by simpa using e'
   exact Osl.nil hs.2.1
theorem DepthsTo.yesG {l : List GFun} {i : Int} {w w' : World} {B : Nat} {t : TypeId} {A : Option Addr} {c : Nat} {out : List Int} (h : IsDepths l i (some out)) (hr : Gre w' B t 1 (.slice A out.length c) out.length (out.map (D.num .i64))) (hg : w.heap.size ≤ B) (hw : ∀ x ∈ out, (Lit.int .i64 x).wf = true) (hb : Below w.heap.size w w') : DepthsTo l i w (.returned (.tuple #[.slice A out.length c, .bool true])) w' :=
 ⟨some out, A, c, h, rfl, (GI.osl hr hw).keep fun b hb => ⟨⟨by have := hb.1; omega, hb.2⟩, rfl⟩, hb⟩
theorem specDepths (l : List GFun) (A : Option Addr) (c : Nat) (i : Int) (w : World) (hi : -9223372036854775808 ≤ i ∧ i ≤ 9223372036854775807) (hs : Sl w (Lt w.heap.size) 2 A c (l.map GFun.toD)) :
 Calls Tryz.prog 7 #[.slice A l.length c, .int .i64 i] w (DepthsTo l i w) := by
 have hlen : l.length ≤ 9223372036854775807 := by simpa using hs.len
 have S0 := LH hs
 clear hs
 cases hf : funsB l
 ·
  have HR := LH (show IsDepths l i none from .inl ⟨hf, rfl⟩)
  go_enter Tryz.func7, Tryz.ntmps7
  go_wp2_with fail
  refine (specFunsOk l A c w S0.out).mono ?_
  rintro e w1 ⟨rfl, hb1⟩
  rw [hf]
  go_wp2_with fail
  go_ret2
  exact DepthsTo.no HR.out (by unfold maxLen; omega) (hb1.alloc hb1.size _)
 have HF := LH hf
 have ht := (funsB_out hf).1.1
 have hl1 := ht.1
 have hl2 := ht.2
 clear ht
 by_cases hin : 0 ≤ i ∧ i ≤ (l.length : Int) - 1
 rotate_left
 ·
  have HR := LH (show IsDepths l i none from .inr (.inl ⟨hf, hin, rfl⟩))
  have hn := inB_false hin
  clear hin
  go_enter Tryz.func7, Tryz.ntmps7
  go_wp2_with fail
  refine (specFunsOk l A c w S0.out).mono ?_
  rintro e w1 ⟨rfl, hb1⟩
  rw [hf]
  clear hf
  go_wp2_with fail
  refine (specIn i 0 ((l.length : Int) - 1) w1).mono ?_
  rintro e w2 ⟨rfl, rfl⟩
  rw [hn]
  go_wp2_with fail
  go_ret2
  exact DepthsTo.no HR.out (by unfold maxLen; omega) (hb1.alloc hb1.size _)
 have hn := inB_true hin
 obtain ⟨p, rfl⟩ : ∃ p : Nat, i = (p : Int) := ⟨i.toNat, by omega⟩
 have hp : p < l.length := by omega
 obtain ⟨hJ, hE, hops⟩ := funs_in hf p hp
 have HJ := LH hJ
 have HE := LH hE
 have HID := LH (show ∀ r, Found l[p].list r → IsDepths l (p : Int) r from fun r h => .inr (.inr ⟨hf, by simpa using hp, by omega, by simpa using h⟩))
 have h1n := hJ.1
 clear hJ hE hi hin
 go_enter Tryz.func7, Tryz.ntmps7
 go_wp2_with fail
 refine (specFunsOk l A c w S0.out).mono ?_
 rintro e w1 ⟨rfl, hb1⟩
 have B1 := LH hb1
 rw [hf]
 clear hf hb1
 go_wp2_with fail
 refine (specIn (p : Int) 0 ((l.length : Int) - 1) w1).mono ?_
 rintro e w2 ⟨rfl, rfl⟩
 rw [hn]
 clear hn
 obtain ⟨b, off, A1, c1, rfl, hSb, g0, g1, hat⟩ := GFun.elem (S0.out.below B1.out (Nat.le_refl _)) p hp
 have HT := LH hat.2
 clear hat g0
 obtain ⟨gw, hg⟩ : ∃ gw, gw = w1.heap.size := ⟨_, rfl⟩
 have hgw : w.heap.size ≤ gw := by rw [hg]; exact B1.out.size
 obtain ⟨w2, e2⟩ : ∃ w2, w2 = w1.alloc (.cells #[.slice none 0 0, .slice none 0 0, .bool true] 52) := ⟨_, rfl⟩
 have B2 := LH (show Below w.heap.size w w2 by rw [e2]; exact B1.out.alloc B1.out.size _)
 have S2 := LH (show WSt w2 gw (List.replicate 0 (-1)) [] true from ⟨none, 0, none, 0, by rw [e2]; exact Row.new' _ _ _ hg, Gre.nil _ _ _ _, Gre.nil _ _ _ _, fun b h => by simp [Value.ownBlock] at h, by rw [e2, hg]; simp⟩)
 have HG1 := LH (show ∀ w', Below w.heap.size w w' → w'.cell? ⟨b, off + p * 2 + 1, none⟩ = some (.slice A1 (l[p]).list.length c1) from fun w' hb => (hb.cell (p := ⟨b, off + p * 2 + 1, none⟩) hSb).trans (((B1.out.cell (p := ⟨b, off + p * 2 + 1, none⟩) hSb).symm).trans g1))
 clear g1
 go_wp2_with fail
 rw [← e2, ← hg]
 clear e2
 generalize l[p].list = ops at *
 have HSl := LH (show ∀ w', Below w.heap.size w w' → Sl w' (Lt w.heap.size) 3 A1 c1 (ops.map GOp.toD) from fun w' hb => HT.out.keep fun q hq => ⟨hq, (hb.block q hq).trans (B1.out.block q hq).symm⟩)
 clear hg HT S0 B1
 go_loopw [7] (fun i wr => ∃ (j : Nat), j ≤ ops.length ∧ i = .int .i64 j ∧ Hid (WSt wr gw (List.replicate j (-1)) [] true) ∧ Below w.heap.size w wr) (fun i _ => ops.length - (intOf i).toNat)
 case atStart => exact ⟨0, by omega, by go_num, S2, B2.out⟩
 case round =>
  clear S2 B2
  obtain ⟨j, hj, rfl, HS, hbl⟩ := hrel
  have x1 := HG1.out wr hbl
  by_cases hlt : j < ops.length
  ·
   obtain ⟨Ad, cd, At, cT, hr, ho, ht, hne, hgs⟩ := HS.out
   have R0 := LH hr
   have HO := LH ho
   have HT := LH ht
   have HNE := LH hne
   have hR := fun i => R0.out.cell i
   have hrl : (List.replicate j (-1 : Int)).length = j := by simp
   have E2 := LH (show Below wr.heap.size wr (wr.alloc (.cells #[.int .i64 (-1)] 3)) from (Below.refl _ _).alloc (Nat.le_refl _) _)
   have HO2 := LH (HO.out.below E2.out)
   have HT2 := LH (HT.out.below E2.out)
   have R2 := LH (R0.out.below E2.out R0.out.lt)
   have hs2 := E2.out.size
   have HSL := LH (show Sl (wr.alloc (.cells #[.int .i64 (-1)] 3)) (fun b => b < (wr.alloc (.cells #[.int .i64 (-1)] 3)).heap.size ∧ (Value.slice Ad (List.replicate j (-1 : Int)).length cd).ownBlock ≠ some b) 1 (some ⟨wr.heap.size, 0, none⟩) 1 ([(-1 : Int)].map (D.num .i64)) from
     (rowI_osl (B := wr.heap.size) (Row.new' wr 3 (rowI [(-1 : Int)]) rfl) (Nat.le_refl _) (by simp [maxLen]) (by intro x hx; simp at hx; rw [hx]; exact wf_i64 (by omega) (by omega))).sl.keep fun b hb => ⟨⟨hb.2, fun e => by have := (HO.out.own b e).2; have := hb.1; omega⟩, rfl⟩)
   rw [hrl] at HSL HO HO2 R2 HNE hR
   clear hr ho ht hne HS R0
   go_wp2_with (first | (at_builtin; refine wpList_append_M (wr.alloc (.cells #[.int .i64 (-1)] 3)) rfl (.tmp 37) (.tmp 38) 27 rfl 3 (.int .i64 0) 1 8 Tryz.underlying27 (by kernel_rfl) rfl (by omega) (gw + 1) (.slice Ad j cd) j _ HO2.out (some ⟨wr.heap.size, 0, none⟩) 1 1 _ rfl HSL.out (by omega) (by unfold maxLen; omega) (by omega) rfl rfl ?_; intro A3 c3 w3 G3 hGr3; have R3 := LH (hGr3.row R2.out (fun e => by have := (HO2.out.own _ e).1; omega)); have hR3 := fun i => R3.out.cell i; have hF3 := fun i => R3.out.frozen i; have G3h := LH G3; have GR3 := LH hGr3; clear G3 hGr3))
   go_roundw
   case rel =>
    refine ⟨j + 1, by omega, by go_num, LH ⟨A3, c3, At, cT, ?_, ?_, ?_, ?_, ?_⟩, ?_⟩
    · have h := R3.out.set 0 (.slice A3 (j + 1) c3)
      simpa using h
    · have h := GI.setNe (p := ⟨gw, 0, none⟩) (l := List.replicate (j + 1) (-1)) (by rw [List.replicate_succ', List.map_append]; exact G3h.out) (fun e => by have h2 := (G3h.out.own _ e).1; change gw + 1 ≤ gw at h2; omega) (.slice A3 (j + 1) c3)
      simpa using h
    · have h := GI.setNe (p := ⟨gw, 0, none⟩) (GI.grow HT2.out GR3.out (fun b hb e => HNE.out b e hb)) (fun e => by have h2 := (HT2.out.own _ e).1; change gw + 1 ≤ gw at h2; omega) (.slice A3 (j + 1) c3)
      simpa using h
    · intro b hb hb2
      have h := GR3.out.ne (fun e => HNE.out b e hb2) ((HT2.out.own b hb2).2)
      exact h (by simpa using hb)
    · have := GR3.out.size
      simp only [World.setCell, Array.size_modify] at *
      omega
    · exact (((hbl.alloc hbl.size _).trans (GR3.out.below (by have := hbl.size; omega) (fun gg hg => by have := (HO2.out.own gg hg).1; omega)))).setCell (p := ⟨gw, 0, none⟩) hgw _
   case measure => simp [intOf]; omega
  ·
   have hjl : j = ops.length := by omega
   subst hjl
   have hcl := HSl.out wr hbl
   have hol : ops.length ≤ 9223372036854775807 := by omega
   go_wp2_with fail
   refine (specGo gw _ [] true 0 1 wr (by omega) (by omega) (by simp) HS.out).mono ?_
   rintro e w3 ⟨rfl, hS3, hb3⟩
   have hgo : goS (List.replicate ops.length (-1)) [] true 0 1 = ((List.replicate ops.length (-1)).set 0 1, [0], true) := by
    unfold goS
    have h0 : 0 < ops.length := by omega
    rw [if_neg (by rw [List.length_replicate]; omega), if_pos (by rw [List.getD_eq_getElem?_getD, List.getElem?_replicate, if_pos h0]; decide)]
    rfl
   have B3 := LH (hbl.trans (hb3.mono hgw))
   have S3 := LH (show WSt w3 gw ((List.replicate ops.length (-1)).set 0 1) [0] true by rw [hgo] at hS3; exact hS3)
   have I3 := LH (SInv.begin (out := List.replicate ops.length (-1)) h1n (by simp) (fun k h _ => by simp))
   have M3 := LH (show 2 * negs ((List.replicate ops.length (-1)).set 0 1) + 1 < 2 * ops.length + 2 by have := negs_le ((List.replicate ops.length (-1)).set 0 1); simp only [List.length_set, List.length_replicate] at this; omega)
   clear hS3 hb3 hgo HS hlt hj x1 hcl hbl
   go_wp2_with fail
   go_loopg [] (2 * ops.length + 2) (fun k wr => ∃ r : List Int × List Nat × Bool, Hid (WSt wr gw r.1 r.2.1 r.2.2) ∧ Hid (OneR ops k r) ∧ k ≤ 2 * ops.length + 2 ∧ Below w.heap.size w wr)
   case atStart => exact ⟨((List.replicate ops.length (-1)).set 0 1, [0], true), S3, LH ⟨fun _ => ⟨I3.out, M3.out⟩, fun h => (by cases h), by simp⟩, Nat.le_refl _, B3.out⟩
   case round =>
    clear S3 I3 M3 B3
    obtain ⟨⟨out, todo, ok⟩, HS, HO, hk, hbl⟩ := hrel
    have HOL := LH (show out.length = ops.length from HO.out.2.2)
    have hol3 : out.length ≤ 3000 := by have := HOL.out; omega
    obtain ⟨Ad, cd, At, cT, hr, ho, ht, hne, hgs⟩ := HS.out
    simp only at hr ho ht hne
    have R0 := LH hr
    have HD := LH ho
    have HT := LH ht
    have HNE := LH hne
    have hR := fun i => R0.out.cell i
    have hsz := hbl.size
    clear hr ho ht hne
    cases ok with
    | false =>
     have HBAD := LH (HID.out none (HO.out.2.1 rfl))
     go_wp2_with fail
     go_ret2
     exact DepthsTo.no HBAD.out (by unfold maxLen; omega) (hbl.alloc hbl.size _)
    | true =>
     obtain ⟨hI, hM⟩ := HO.out.1 rfl
     simp only at hI hM
     obtain ⟨k', rfl⟩ : ∃ k', gk = k' + 1 := ⟨gk - 1, by omega⟩
     have HI := LH hI
     have HM := LH hM
     clear hI hM HO
     rcases List.eq_nil_or_concat todo with rfl | ⟨ts, q, rfl⟩
     · simp only [List.length_nil] at hR
       go_wp2_with fail
       go_ret2
       exact DepthsTo.yesG (HID.out _ HI.out.end) HD.out (by omega) HI.out.wf hbl
     rw [List.concat_eq_append] at *
     rw [show (ts ++ [q]).length = ts.length + 1 by simp] at *
     obtain ⟨hq', hneq⟩ := HI.out.stk q (by simp)
     have hqn : q ≤ 3000 := by omega
     have hqo : q < ops.length := by have := HOL.out; omega
     have hts : ts.length ≤ 6002 := by have := HM.out; omega
     have hlq : (tdI (ts ++ [q])).length = ts.length + 1 := by rw [tdI_length]; simp
     obtain ⟨gt, rfl, ct, hct, hc1, hcm⟩ := GI.form HT.out ts.length (by omega)
     have ect : (tdI (ts ++ [q]))[ts.length]'(by omega) = (q : Int) := by simp [tdI]
     rw [ect] at ct
     have HT2 := LH (show Gre wr (gw + 1) 3 1 (.slice (some ⟨gt, 0, none⟩) ts.length cT) ts.length ((tdI ts).map (D.num .i64)) from GI.pop (d := (q : Int)) (by have h := HT.out; rw [tdI_snoc] at h; simpa using h) hgs)
     have hcm2 : cT ≤ 9223372036854775807 := by unfold maxLen at hcm; omega
     have hgl := R0.out.lt
     clear ect hlq hneq hct HT
     go_wp2_with fail
     go_quiet (fail)
     go_wp2_with fail
     have HGm := LH (fun m => show Gre ((wr.drewN m).alloc (.cells #[] 3)) (gw + 1) 3 1 (.slice (some ⟨wr.heap.size, 0, none⟩) 0 0) 0 [] from Gre.made (Row.new' _ _ _ rfl) hgs)
     have HSm := LH (fun m => show Sl ((wr.drewN m).alloc (.cells #[] 3)) (fun b => b < ((wr.drewN m).alloc (.cells #[] 3)).heap.size ∧ (Value.slice (some ⟨wr.heap.size, 0, none⟩) 0 0).ownBlock ≠ some b) 1 (some ⟨gt, 0, none⟩) cT ((tdI ts).map (D.num .i64)) from by
       obtain ⟨A', c', e', h⟩ := HT2.out.sl
       obtain ⟨rfl, rfl⟩ : some ⟨gt, 0, none⟩ = A' ∧ cT = c' := by simpa using e'
       refine h.keep fun b hb => ⟨⟨Nat.lt_of_lt_of_le hb (by simp [World.drew, World.drewN]), fun e => ?_⟩, (Below.heap_alloc _ _ b hb).trans rfl⟩
       simp [Value.ownBlock] at e
       have : b < wr.heap.size := hb
       omega)
     have hBm := fun m => (show gw + 1 ≤ ((wr.drewN m).alloc (.cells #[] 3)).heap.size from Nat.le_trans hgs (by simp [World.drew, World.drewN]))
     have BWm := LH (fun m => show Below wr.heap.size wr ((wr.drewN m).alloc (.cells #[] 3)) from (belowN (Below.refl _ _) m).alloc (Nat.le_refl _) _)
     have RGm := LH (fun m => R0.out.below (BWm.out m) R0.out.lt)
     have HDm := LH (fun m => HD.out.below (BWm.out m))
     have hRm := fun m i => (RGm.out m).cell i
     have HBm := LH hBm
     clear hBm
     have hcT : ts.length ≤ cT := by omega
     have hwr : IntKind.i64.wrap ((ts.length : Nat) : Int) = ((ts.length : Nat) : Int) := (IntWalk.i64_left _).trans (IntWalk.wrap64_in _ (by omega))
     go_region_law (first
       | (refine step_append_M _ rfl (.tmp 69) (.tmp 80) 27 rfl 3 (.int .i64 0) 1 8 Tryz.underlying27 (by kernel_rfl) rfl (by omega) (gw + 1) (.slice (some ⟨wr.heap.size, 0, none⟩) 0 0) 0 [] (HGm.out _) (some ⟨gt, 0, none⟩) cT ts.length _ (by simp [tdI]) (HSm.out _) (HBm.out _) (by unfold maxLen; omega) (by omega) rfl rfl ?_
          intro A3 c3 w4 G4 hGr4
          rw [Nat.zero_add] at G4 hGr4
          have R4 := LH (hGr4.row (RGm.out _) (fun e => by simp [Value.ownBlock] at e; omega))
          have D4 := LH (GI.grow (HDm.out _) hGr4 (fun b hb e => by have h1 := (HD.out.own b hb).2; simp [Value.ownBlock] at e; omega))
          have N4 := LH (show ∀ b, (Value.slice Ad out.length cd).ownBlock = some b → (Value.slice A3 ts.length c3).ownBlock ≠ some b from fun b hb => hGr4.ne (fun e => by have h1 := (HD.out.own b hb).2; simp [Value.ownBlock] at e; omega) (Nat.lt_of_lt_of_le (HD.out.own b hb).2 (BWm.out _).size))
          have G4h := LH (show Gre w4 (gw + 1) 3 1 (.slice A3 ts.length c3) ts.length ((tdI ts).map (D.num .i64)) from G4)
          have B4 := LH (show Below w.heap.size w w4 from hbl.trans (((BWm.out _).mono hsz).trans (hGr4.below (by have := (BWm.out 0).size; have := HBm.out 0; first | omega | exact Nat.le_trans hsz (BWm.out _).size) (fun gg hg => by simp [Value.ownBlock] at hg; omega))))
          have hs4 : gw + 1 ≤ w4.heap.size := Nat.le_trans (HBm.out _) hGr4.size
          have hR4 := fun i => R4.out.cell i
          have hF4 := fun i => R4.out.frozen i
          clear G4 hGr4)
       | (go_simp
          fail))
     all_goals
      clear hwr
      have S5 := LH (show WSt (w4.setCell ⟨gw, 1, none⟩ (.slice A3 ts.length c3)) gw out ts true from ⟨Ad, cd, A3, c3, by have h := R4.out.set 1 (.slice A3 ts.length c3); simpa using h,
        GI.setNe (p := ⟨gw, 1, none⟩) D4.out (fun e => by have h2 := (D4.out.own _ e).1; change gw + 1 ≤ gw at h2; omega) _, GI.setNe (p := ⟨gw, 1, none⟩) G4h.out (fun e => by have h2 := (G4h.out.own _ e).1; change gw + 1 ≤ gw at h2; omega) _, N4.out, by simpa [World.setCell] using hs4⟩)
      have B5 := LH (B4.out.setCell (p := ⟨gw, 1, none⟩) hgw (.slice A3 ts.length c3))
      have x2 := HG1.out _ B5.out
      have L5 := LH ((HSl.out _ B5.out).keep (S' := Lt gw) (w' := w4.setCell ⟨gw, 1, none⟩ (.slice A3 ts.length c3)) fun b hb => ⟨Nat.lt_of_lt_of_le hb hgw, rfl⟩)
      go_wp2_with fail
      refine (specOne gw ops A1 c1 out ts q _ HJ.out HE.out hops hts HI.out L5.out S5.out).mono ?_
      rintro e w6 ⟨rfl, r, hS6, hO6, hb6⟩
      have O6 := LH (show OneR ops k' r from ⟨fun e => ⟨(hO6.1 e).1, by have h1 := (hO6.1 e).2; have h2 := HM.out; omega⟩, hO6.2.1, hO6.2.2⟩)
      have B6 := LH (B5.out.trans (hb6.mono hgw))
      have S6 := LH hS6
      clear hS6 hO6 hb6 x2
      go_wp2_with fail
      go_roundg k'
      case measure => omega
      case rel => exact ⟨r, S6, O6, by omega, B6.out⟩
def DepthsVTo (l : List GFun) (i : Int) (w : World) (e : Ending) (w' : World) : Prop :=
 ∃ A c, e = .returned (.tuple #[.slice A ((depthsV l i).getD []).length c, .bool (depthsV l i).isSome]) ∧ Osl w' (Btw w.heap.size w'.heap.size) 1 A c (((depthsV l i).getD []).map (D.num .i64)) ∧ Below w.heap.size w w'
theorem DepthsTo.v {l : List GFun} {i : Int} {w w' : World} {e : Ending} (h : DepthsTo l i w e w') : DepthsVTo l i w e w' := by
 obtain ⟨r, A, c, h1, h2, h3, h4⟩ := h
 have e1 := depthsV_eq h1
 subst e1
 exact ⟨A, c, h2, h3, h4⟩
theorem specDepthsV (l : List GFun) (A : Option Addr) (c : Nat) (i : Int) (w : World) (hi : -9223372036854775808 ≤ i ∧ i ≤ 9223372036854775807) (hs : Sl w (Lt w.heap.size) 2 A c (l.map GFun.toD)) :
 Calls Tryz.prog 7 #[.slice A l.length c, .int .i64 i] w (DepthsVTo l i w) := (specDepths l A c i w hi hs).mono fun _ _ h => h.v
theorem implDepthsV (l : List GFun) (A : Option Addr) (c : Nat) (i : Int) (w : World) (hi : -9223372036854775808 ≤ i ∧ i ≤ 9223372036854775807) (hs : Sl w (Lt w.heap.size) 2 A c (l.map GFun.toD)) :
 Calls Tryz.prog 6 #[.slice A l.length c, .int .i64 i] w (DepthsVTo l i w) := (implDepths l A c i w hi hs).mono fun _ _ h => h.v
noncomputable def verifyV (l : List GFun) : Bool := funsB l && (List.range l.length).all fun i => (depthsV l i).isSome
theorem verifyV_no {l : List GFun} {j : Nat} (h : j < l.length) (e : (depthsV l j).isSome = false) : verifyV l = false := by
 unfold verifyV
 rw [Bool.and_eq_false_iff]
 right
 rw [← Bool.not_eq_true, List.all_eq_true]
 intro h2
 have := h2 j (List.mem_range.2 h)
 rw [e] at this; cases this
theorem verifyV_end {l : List GFun} (h : ∀ j, j < l.length → (depthsV l j).isSome = true) : verifyV l = funsB l := by
 unfold verifyV
 rw [show (List.range l.length).all (fun i => (depthsV l i).isSome) = true from List.all_eq_true.2 fun i hi => h i (List.mem_range.1 hi), Bool.and_true]
theorem specVerify (l : List GFun) (A : Option Addr) (c : Nat) (w : World) (hs : Sl w (Lt w.heap.size) 2 A c (l.map GFun.toD)) :
 Calls Tryz.prog 13 #[.slice A l.length c] w fun e w' => e = .returned (.bool (verifyV l)) ∧ Below w.heap.size w w' := by
 have hlen : l.length ≤ 9223372036854775807 := by simpa using hs.len
 have S0 := LH hs
 clear hs
 go_enter Tryz.func13, Tryz.ntmps13
 go_wp2_with fail
 go_loopw [3] (fun i wr => ∃ (j : Nat), j ≤ l.length ∧ i = .int .i64 j ∧ Hid (∀ q, q < j → (depthsV l q).isSome = true) ∧ Below w.heap.size w wr) (fun i _ => l.length - (intOf i).toNat)
 case atStart => exact ⟨0, by omega, by go_num, LH (fun q h => by omega), Below.refl _ _⟩
 case round =>
  obtain ⟨j, hj, rfl, HN, hbl⟩ := hrel
  have hsz := hbl.size
  by_cases hlt : j < l.length
  ·
   have HS := LH (S0.out.below hbl hsz)
   go_wp2_with fail
   refine (specDepthsV l A c (j : Int) _ (by omega) HS.out).mono ?_
   rintro e w1 ⟨A1, c1, rfl, how, hb1⟩
   have B1 := LH (hbl.trans (hb1.mono hsz))
   clear how hb1
   cases he : (depthsV l j).isSome
   · have HX := LH (verifyV_no hlt he)
     clear he
     go_wp2_with fail
     go_ret
     exact ⟨ret_bool HX.out.symm, B1.out⟩
   ·
    have HN2 := LH (show ∀ q, q < j + 1 → (depthsV l q).isSome = true from fun q hq => by
      rcases Nat.lt_or_ge q j with h | h
      · exact HN.out q h
      · obtain rfl : q = j := by omega
        exact he)
    clear he
    go_wp2_with fail
    go_roundw
    case rel => exact ⟨j + 1, by omega, by go_num, HN2, B1.out⟩
    case measure => simp [intOf]; omega
  ·
   have HV := LH (verifyV_end (l := l) (fun q hq => HN.out q (by omega)))
   have HS := LH (S0.out.below hbl hsz)
   go_wp2_with fail
   refine (specFunsOk l A c _ HS.out).mono ?_
   rintro e w1 ⟨rfl, hb1⟩
   go_wp2_with fail
   go_ret
   exact ⟨ret_bool HV.out.symm, hbl.trans (hb1.mono hsz)⟩
theorem implVerify (l : List GFun) (A : Option Addr) (c : Nat) (w : World) (hs : Sl w (Lt w.heap.size) 2 A c (l.map GFun.toD)) :
 Calls Tryz.prog 12 #[.slice A l.length c] w fun e w' => e = .returned (.bool (verifyV l)) ∧ Below w.heap.size w w' := by
 have hlen : l.length ≤ 9223372036854775807 := by simpa using hs.len
 have S0 := LH hs
 clear hs
 go_enter Tryz.func12, Tryz.ntmps12
 go_wp2_with fail
 go_loopw [8] (fun i wr => ∃ (j : Nat), j ≤ l.length ∧ i = .int .i64 j ∧ Hid (∀ q, q < j → (depthsV l q).isSome = true) ∧ Below w.heap.size w wr) (fun i _ => l.length - (intOf i).toNat)
 case atStart => exact ⟨0, by omega, by go_num, LH (fun q h => by omega), Below.refl _ _⟩
 case round =>
  obtain ⟨j, hj, rfl, HN, hbl⟩ := hrel
  have hsz := hbl.size
  by_cases hlt : j < l.length
  ·
   have HS := LH (S0.out.below hbl hsz)
   go_wp2_with fail
   refine (implDepthsV l A c (j : Int) _ (by omega) HS.out).mono ?_
   rintro e w1 ⟨A1, c1, rfl, how, hb1⟩
   have B1 := LH (hbl.trans (hb1.mono hsz))
   clear how hb1
   cases he : (depthsV l j).isSome
   · have HX := LH (verifyV_no hlt he)
     clear he
     go_wp2_with fail
     go_ret
     exact ⟨ret_bool HX.out.symm, B1.out⟩
   ·
    have HN2 := LH (show ∀ q, q < j + 1 → (depthsV l q).isSome = true from fun q hq => by
      rcases Nat.lt_or_ge q j with h | h
      · exact HN.out q h
      · obtain rfl : q = j := by omega
        exact he)
    clear he
    go_wp2_with fail
    go_roundw
    case rel => exact ⟨j + 1, by omega, by go_num, HN2, B1.out⟩
    case measure => simp [intOf]; omega
  ·
   have HV := LH (verifyV_end (l := l) (fun q hq => HN.out q (by omega)))
   have HS := LH (S0.out.below hbl hsz)
   go_wp2_with fail
   refine (implFunsOk l A c _ HS.out).mono ?_
   rintro e w1 ⟨rfl, hb1⟩
   go_wp2_with fail
   go_ret
   exact ⟨ret_bool HV.out.symm, hbl.trans (hb1.mono hsz)⟩
theorem verPlace {l : List GFun} {i : Int} {out : List Int} (h : IsDepths l i (some out)) : ∃ hi : i.toNat < l.length, 0 ≤ i ∧ out.length = l[i.toNat].list.length ∧ ∀ k (hk : k < out.length) (hk2 : k < l[i.toNat].list.length), 0 ≤ out[k] → (effI (l[i.toNat].list[k]).code (l[i.toNat].list[k]).m).1 < out[k] ∧ out[k] - (effI (l[i.toNat].list[k]).code (l[i.toNat].list[k]).m).1 + (effI (l[i.toNat].list[k]).code (l[i.toNat].list[k]).m).2 ≤ 60 := by
 rcases h with ⟨_, e⟩ | ⟨_, _, e⟩ | ⟨_, hi, h0, hF⟩
 · cases e
 · cases e
 ·
  refine ⟨hi, h0, hF.2.1, fun k hk hk2 hz => ?_⟩
  rcases hF.2.2 k hk with ⟨e, _⟩ | hr
  · omega
  ·
   cases ha : afterI (l[i.toNat].list[k]) out[k] with
   | none => exact absurd (.inl ⟨k, _, hk2, hr, ha⟩) hF.1
   | some d' =>
    unfold afterI at ha
    split at ha
    · cases ha
    · rename_i hn
      constructor <;> omega
set_option maxHeartbeats 1000000
def opNames : List ByteArray := [⟨#[110, 117, 109]⟩, ⟨#[108, 111, 99, 97, 108]⟩, ⟨#[102, 114, 101, 101]⟩, ⟨#[115, 101, 108, 102]⟩, ⟨#[99, 108, 111, 115]⟩, ⟨#[99, 97, 108, 108]⟩, ⟨#[114, 101, 116]⟩, ⟨#[99, 111, 110]⟩, ⟨#[102, 105, 101, 108, 100]⟩, ⟨#[105, 115, 99, 111, 110]⟩, ⟨#[105, 115, 110, 117, 109]⟩, ⟨#[97, 100, 100]⟩, ⟨#[115, 117, 98]⟩, ⟨#[109, 117, 108]⟩, ⟨#[108, 101, 115, 115]⟩, ⟨#[115, 97, 109, 101]⟩, ⟨#[112, 117, 116]⟩, ⟨#[122, 101, 114, 111]⟩, ⟨#[106, 117, 109, 112]⟩, ⟨#[115, 108, 105, 100, 101]⟩, ⟨#[102, 97, 105, 108]⟩]
def opTextB (c n m : Int) : ByteArray := if 1 ≤ c ∧ c ≤ 21 then (opNames.getD (c - 1).toNat ⟨#[]⟩) ++ ⟨#[32]⟩ ++ digI n ++ ⟨#[32]⟩ ++ digI m else ⟨#[]⟩
theorem opNames_size (i : Nat) : (opNames.getD i ⟨#[]⟩).size ≤ 5 := by
 rcases Nat.lt_or_ge i 21 with h | h
 · have : ∀ i, i < 21 → (opNames.getD i ⟨#[]⟩).size ≤ 5 := by decide
   exact this i h
 · have e : opNames.getD i ⟨#[]⟩ = ⟨#[]⟩ := by rw [List.getD_eq_getElem?_getD, List.getElem?_eq_none (by simpa [opNames] using h)]; rfl
   rw [e]; exact Nat.zero_le _
theorem opNames_at (c : Int) (h1 : 1 ≤ c) (h2 : c ≤ 21) : ([.string ⟨#[110, 117, 109]⟩, .string ⟨#[108, 111, 99, 97, 108]⟩, .string ⟨#[102, 114, 101, 101]⟩, .string ⟨#[115, 101, 108, 102]⟩, .string ⟨#[99, 108, 111, 115]⟩, .string ⟨#[99, 97, 108, 108]⟩, .string ⟨#[114, 101, 116]⟩, .string ⟨#[99, 111, 110]⟩, .string ⟨#[102, 105, 101, 108, 100]⟩, .string ⟨#[105, 115, 99, 111, 110]⟩, .string ⟨#[105, 115, 110, 117, 109]⟩, .string ⟨#[97, 100, 100]⟩, .string ⟨#[115, 117, 98]⟩, .string ⟨#[109, 117, 108]⟩, .string ⟨#[108, 101, 115, 115]⟩, .string ⟨#[115, 97, 109, 101]⟩, .string ⟨#[112, 117, 116]⟩, .string ⟨#[122, 101, 114, 111]⟩, .string ⟨#[106, 117, 109, 112]⟩, .string ⟨#[115, 108, 105, 100, 101]⟩, .string ⟨#[102, 97, 105, 108]⟩] : List Value)[c.toNat - 1]? = some (.string (opNames.getD (c - 1).toNat ⟨#[]⟩)) := by
 have e : (c - 1).toNat = c.toNat - 1 := by omega
 rw [e]
 have h : ∀ i, i < 21 → (opNames.map Value.string)[i]? = some (.string (opNames.getD i ⟨#[]⟩)) := by
  intro i hi
  have hl : i < opNames.length := by simpa [opNames] using hi
  rw [List.getElem?_map, List.getElem?_eq_getElem hl, List.getD_eq_getElem?_getD, List.getElem?_eq_getElem hl]; rfl
 exact h (c.toNat - 1) (by omega)
theorem opNames_at2 (c : Int) (h1 : 1 ≤ c) (h2 : c ≤ 21) : (#[.string ⟨#[]⟩, .string ⟨#[110, 117, 109]⟩, .string ⟨#[108, 111, 99, 97, 108]⟩, .string ⟨#[102, 114, 101, 101]⟩, .string ⟨#[115, 101, 108, 102]⟩, .string ⟨#[99, 108, 111, 115]⟩, .string ⟨#[99, 97, 108, 108]⟩, .string ⟨#[114, 101, 116]⟩, .string ⟨#[99, 111, 110]⟩, .string ⟨#[102, 105, 101, 108, 100]⟩, .string ⟨#[105, 115, 99, 111, 110]⟩, .string ⟨#[105, 115, 110, 117, 109]⟩, .string ⟨#[97, 100, 100]⟩, .string ⟨#[115, 117, 98]⟩, .string ⟨#[109, 117, 108]⟩, .string ⟨#[108, 101, 115, 115]⟩, .string ⟨#[115, 97, 109, 101]⟩, .string ⟨#[112, 117, 116]⟩, .string ⟨#[122, 101, 114, 111]⟩, .string ⟨#[106, 117, 109, 112]⟩, .string ⟨#[115, 108, 105, 100, 101]⟩, .string ⟨#[102, 97, 105, 108]⟩] : Array Value)[c.toNat]? = some (.string (opNames.getD (c - 1).toNat ⟨#[]⟩)) := by
 have e : c.toNat = (c.toNat - 1) + 1 := by omega
 have h := opNames_at c h1 h2
 rw [e]
 rw [← h, List.getElem?_toArray, List.getElem?_cons_succ]
theorem specNames (w : World) : Calls Tryz.prog 33 #[] w fun e w' => e = .returned (.slice (some ⟨w.heap.size, 0, none⟩) 22 22) ∧ w.alloc (.cells #[.string ⟨#[]⟩, .string ⟨#[110, 117, 109]⟩, .string ⟨#[108, 111, 99, 97, 108]⟩, .string ⟨#[102, 114, 101, 101]⟩, .string ⟨#[115, 101, 108, 102]⟩, .string ⟨#[99, 108, 111, 115]⟩, .string ⟨#[99, 97, 108, 108]⟩, .string ⟨#[114, 101, 116]⟩, .string ⟨#[99, 111, 110]⟩, .string ⟨#[102, 105, 101, 108, 100]⟩, .string ⟨#[105, 115, 99, 111, 110]⟩, .string ⟨#[105, 115, 110, 117, 109]⟩, .string ⟨#[97, 100, 100]⟩, .string ⟨#[115, 117, 98]⟩, .string ⟨#[109, 117, 108]⟩, .string ⟨#[108, 101, 115, 115]⟩, .string ⟨#[115, 97, 109, 101]⟩, .string ⟨#[112, 117, 116]⟩, .string ⟨#[122, 101, 114, 111]⟩, .string ⟨#[106, 117, 109, 112]⟩, .string ⟨#[115, 108, 105, 100, 101]⟩, .string ⟨#[102, 97, 105, 108]⟩] 9) = w' := by
 go_enter Tryz.func33, Tryz.ntmps33
 go_wp2_with fail
 go_ret
 exact ⟨rfl, rfl⟩
theorem implOpText (c n m : Int) (w : World) (hn1 : -9223372036854775808 ≤ n) (hn2 : n ≤ 9223372036854775807) (hm1 : -9223372036854775808 ≤ m) (hm2 : m ≤ 9223372036854775807) :
 Calls Tryz.prog 16 #[.agg #[.int .i64 c, .int .i64 n, .int .i64 m]] w fun e w' => e = .returned (.string (opTextB c n m)) ∧ Below w.heap.size w w' := by
 have E : Below w.heap.size w (w.alloc (.cells #[.int .i64 c, .int .i64 n, .int .i64 m] 32)) := (Below.refl _ _).alloc (Nat.le_refl _) _
 by_cases hc : 1 ≤ c ∧ c ≤ 21
 rotate_left
 ·
  have hv := LH (show opTextB c n m = ⟨#[]⟩ from if_neg hc)
  have hb := inB_false hc
  clear hc
  go_enter Tryz.func16, Tryz.ntmps16
  go_wp2_with fail
  refine (implWithin c 1 21 _).mono ?_
  rintro e w1 ⟨rfl, rfl⟩
  go_wp2_with fail
  go_ret
  exact ⟨ret_str hv.out.symm, E⟩
 have hv := LH (show opTextB c n m = (opNames.getD (c - 1).toNat ⟨#[]⟩) ++ ⟨#[32]⟩ ++ digI n ++ ⟨#[32]⟩ ++ digI m from if_pos hc)
 have hb := inB_true hc
 have z0 := opNames_size (c - 1).toNat
 have z1 := digI_size n hn1 hn2
 have z2 := digI_size m hm1 hm2
 obtain ⟨h1, h2⟩ := hc
 have h3 : 0 ≤ c - 1 := by omega
 have h4 : c - 1 < 21 := by omega
 have hat := opNames_at c h1 h2
 generalize opNames.getD (c - 1).toNat ⟨#[]⟩ = nm at *
 have zz1 : ¬ 9223372036854775807 < nm.size + 1 := by omega
 have zz2 : ¬ 9223372036854775807 < nm.size + 1 + (digI n).size := by omega
 have zz3 : ¬ 9223372036854775807 < nm.size + 1 + (digI n).size + 1 := by omega
 have zz4 : ¬ 9223372036854775807 < nm.size + 1 + (digI n).size + 1 + (digI m).size := by omega
 have hE := LH (E.alloc (o := .cells #[.string ⟨#[110, 117, 109]⟩, .string ⟨#[108, 111, 99, 97, 108]⟩, .string ⟨#[102, 114, 101, 101]⟩, .string ⟨#[115, 101, 108, 102]⟩, .string ⟨#[99, 108, 111, 115]⟩, .string ⟨#[99, 97, 108, 108]⟩, .string ⟨#[114, 101, 116]⟩, .string ⟨#[99, 111, 110]⟩, .string ⟨#[102, 105, 101, 108, 100]⟩, .string ⟨#[105, 115, 99, 111, 110]⟩, .string ⟨#[105, 115, 110, 117, 109]⟩, .string ⟨#[97, 100, 100]⟩, .string ⟨#[115, 117, 98]⟩, .string ⟨#[109, 117, 108]⟩, .string ⟨#[108, 101, 115, 115]⟩, .string ⟨#[115, 97, 109, 101]⟩, .string ⟨#[112, 117, 116]⟩, .string ⟨#[122, 101, 114, 111]⟩, .string ⟨#[106, 117, 109, 112]⟩, .string ⟨#[115, 108, 105, 100, 101]⟩, .string ⟨#[102, 97, 105, 108]⟩] 9) E.size)
 have Ra := LH ((Row.new w 32 #[.int .i64 c, .int .i64 n, .int .i64 m]).alloc (.cells #[.string ⟨#[110, 117, 109]⟩, .string ⟨#[108, 111, 99, 97, 108]⟩, .string ⟨#[102, 114, 101, 101]⟩, .string ⟨#[115, 101, 108, 102]⟩, .string ⟨#[99, 108, 111, 115]⟩, .string ⟨#[99, 97, 108, 108]⟩, .string ⟨#[114, 101, 116]⟩, .string ⟨#[99, 111, 110]⟩, .string ⟨#[102, 105, 101, 108, 100]⟩, .string ⟨#[105, 115, 99, 111, 110]⟩, .string ⟨#[105, 115, 110, 117, 109]⟩, .string ⟨#[97, 100, 100]⟩, .string ⟨#[115, 117, 98]⟩, .string ⟨#[109, 117, 108]⟩, .string ⟨#[108, 101, 115, 115]⟩, .string ⟨#[115, 97, 109, 101]⟩, .string ⟨#[112, 117, 116]⟩, .string ⟨#[122, 101, 114, 111]⟩, .string ⟨#[106, 117, 109, 112]⟩, .string ⟨#[115, 108, 105, 100, 101]⟩, .string ⟨#[102, 97, 105, 108]⟩] 9))
 go_enter Tryz.func16, Tryz.ntmps16
 go_wp2_with fail
 refine (implWithin c 1 21 _).mono ?_
 rintro e w1 ⟨rfl, rfl⟩
 go_wp2_with fail
 obtain ⟨w2, e2⟩ : ∃ w2, w2 = ((w.alloc (.cells #[.int .i64 c, .int .i64 n, .int .i64 m] 32)).alloc (.cells #[.string ⟨#[110, 117, 109]⟩, .string ⟨#[108, 111, 99, 97, 108]⟩, .string ⟨#[102, 114, 101, 101]⟩, .string ⟨#[115, 101, 108, 102]⟩, .string ⟨#[99, 108, 111, 115]⟩, .string ⟨#[99, 97, 108, 108]⟩, .string ⟨#[114, 101, 116]⟩, .string ⟨#[99, 111, 110]⟩, .string ⟨#[102, 105, 101, 108, 100]⟩, .string ⟨#[105, 115, 99, 111, 110]⟩, .string ⟨#[105, 115, 110, 117, 109]⟩, .string ⟨#[97, 100, 100]⟩, .string ⟨#[115, 117, 98]⟩, .string ⟨#[109, 117, 108]⟩, .string ⟨#[108, 101, 115, 115]⟩, .string ⟨#[115, 97, 109, 101]⟩, .string ⟨#[112, 117, 116]⟩, .string ⟨#[122, 101, 114, 111]⟩, .string ⟨#[106, 117, 109, 112]⟩, .string ⟨#[115, 108, 105, 100, 101]⟩, .string ⟨#[102, 97, 105, 108]⟩] 9)) := ⟨_, rfl⟩
 rw [← e2]
 rw [← e2] at Ra hE
 clear e2 hat
 have hca : ∀ i, w2.drew.cell? ⟨w.heap.size, i, none⟩ = (#[.int .i64 c, .int .i64 n, .int .i64 m] : Array Value)[i]? := fun i => Ra.out.cell i
 go_region_held3 (fun w' => ∀ i, w'.cell? ⟨w.heap.size, i, none⟩ = (#[.int .i64 c, .int .i64 n, .int .i64 m] : Array Value)[i]?) (first | exact hca)
  (first
  | (go_at_call_of 32 n
     refine (implDigits' n _ hn1 hn2).mono ?_
     rintro e w3 ⟨rfl, rfl⟩)
  | (go_at_call_of 32 m
     refine (implDigits' m _ hm1 hm2).mono ?_
     rintro e w3 ⟨rfl, rfl⟩))
 go_wp2_with fail
 go_ret
 exact ⟨ret_str hv.out.symm, hE.out.drew⟩
theorem wpAnyH_imp {P : Program} {md : Region.Mode} {ops : Array Oper} {Q : Exit → Act → World → Prop} {S T : World → Prop} (h : ∀ w, S w → T w) : ∀ (fuel : Nat) (listed : Array Bool) (a : Act) (w : World), wpAnyH P md ops Q S fuel listed a w → wpAnyH P md ops Q T fuel listed a w
 | 0, _, _, _, hw => hw
 | fuel + 1, _, _, _, hw => ⟨hw.1, fun i hi => wpOp_mono (fun a' w' h' => ⟨h _ h'.1, wpAnyH_imp h fuel _ a' w' h'.2⟩) (hw.2 i hi)⟩
theorem specOpText (c n m : Int) (w : World) (hn1 : -9223372036854775808 ≤ n) (hn2 : n ≤ 9223372036854775807) (hm1 : -9223372036854775808 ≤ m) (hm2 : m ≤ 9223372036854775807) :
 Calls Tryz.prog 17 #[.agg #[.int .i64 c, .int .i64 n, .int .i64 m]] w fun e w' => e = .returned (.string (opTextB c n m)) ∧ Below w.heap.size w w' := by
 have E : Below w.heap.size w (w.alloc (.cells #[.int .i64 c, .int .i64 n, .int .i64 m] 32)) := (Below.refl _ _).alloc (Nat.le_refl _) _
 by_cases hc : 1 ≤ c ∧ c ≤ 21
 rotate_left
 ·
  have hv := LH (show opTextB c n m = ⟨#[]⟩ from if_neg hc)
  have hb := inB_false hc
  clear hc
  go_enter Tryz.func17, Tryz.ntmps17
  go_wp2_with fail
  refine (specIn c 1 21 _).mono ?_
  rintro e w1 ⟨rfl, rfl⟩
  go_wp2_with fail
  go_ret
  exact ⟨ret_str hv.out.symm, E⟩
 have hv := LH (show opTextB c n m = (opNames.getD (c - 1).toNat ⟨#[]⟩) ++ ⟨#[32]⟩ ++ digI n ++ ⟨#[32]⟩ ++ digI m from if_pos hc)
 have hb := inB_true hc
 have z0 := opNames_size (c - 1).toNat
 have z1 := digI_size n hn1 hn2
 have z2 := digI_size m hm1 hm2
 obtain ⟨h1, h2⟩ := hc
 have h3 : 0 ≤ c - 1 := by omega
 have h4 : c - 1 < 21 := by omega
 have h5 : 0 ≤ c := by omega
 have h6 : c < 22 := by omega
 have hat := opNames_at2 c h1 h2
 generalize opNames.getD (c - 1).toNat ⟨#[]⟩ = nm at *
 have zz1 : ¬ 9223372036854775807 < nm.size + 1 := by omega
 have zz2 : ¬ 9223372036854775807 < nm.size + 1 + (digI n).size := by omega
 have zz3 : ¬ 9223372036854775807 < nm.size + 1 + (digI n).size + 1 := by omega
 have zz4 : ¬ 9223372036854775807 < nm.size + 1 + (digI n).size + 1 + (digI m).size := by omega
 have Ra := LH (Row.new w 32 #[.int .i64 c, .int .i64 n, .int .i64 m])
 go_enter Tryz.func17, Tryz.ntmps17
 go_wp2_with fail
 refine (specIn c 1 21 _).mono ?_
 rintro e w1 ⟨rfl, rfl⟩
 go_wp2_with fail
 refine wp_region_held_drew (S := fun w' => ∀ i, w'.cell? ⟨w.heap.size, i, none⟩ = (#[.int .i64 c, .int .i64 n, .int .i64 m] : Array Value)[i]?) (by kernel_rfl) (fun i => Row.cell Ra.out i) (fun hHeld => ?_)
 refine wpAnyH_take (i := 1) (oi := ?o1) (v := ?v1) ?ho1 (by kernel_rfl) (by kernel_rfl) (by kernel_rfl) ?hq1 (Or.inl ⟨?hw1, ?hy1⟩) (by assumption) ?hr1
 case ho1 => simp only [List.getElem?_toArray, List.getElem?_cons_succ, List.getElem?_cons_zero]; rfl
 case hw1 => rfl
 case hy1 =>
  intro w' hSw
  (try dsimp only at hSw)
  go_simp
  (try with_reducible rfl)
 case hq1 => exact fun _ _ _ h => h
 (try simp only [Act.put, List.setIfInBounds_toArray, List.set_cons_zero, List.set_cons_succ])
 refine wpAnyH_take (i := 2) (oi := ?o2) (v := ?v2) ?ho2 (by kernel_rfl) (by kernel_rfl) (by kernel_rfl) ?hq2 (Or.inl ⟨?hw2, ?hy2⟩) (by assumption) ?hr2
 case ho2 => simp only [List.getElem?_toArray, List.getElem?_cons_succ, List.getElem?_cons_zero]; rfl
 case hw2 => rfl
 case hy2 =>
  intro w' hSw
  (try dsimp only at hSw)
  go_simp
  (try with_reducible rfl)
 case hq2 => exact fun _ _ _ h => h
 (try simp only [Act.put, List.setIfInBounds_toArray, List.set_cons_zero, List.set_cons_succ])
 refine wpAnyH_take (i := 6) (oi := ?o6) (v := ?v6) ?ho6 (by kernel_rfl) (by kernel_rfl) (by kernel_rfl) ?hq6 (Or.inl ⟨?hw6, ?hy6⟩) (by assumption) ?hr6
 case ho6 => simp only [List.getElem?_toArray, List.getElem?_cons_succ, List.getElem?_cons_zero]; rfl
 case hw6 => rfl
 case hy6 =>
  intro w' hSw
  (try dsimp only at hSw)
  go_simp
  (try with_reducible rfl)
 case hq6 => exact fun _ _ _ h => h
 (try simp only [Act.put, List.setIfInBounds_toArray, List.set_cons_zero, List.set_cons_succ])
 refine wpAnyH_take (i := 7) (oi := ?o7) (v := ?v7) ?ho7 (by kernel_rfl) (by kernel_rfl) (by kernel_rfl) ?hq7 (Or.inl ⟨?hw7, ?hy7⟩) (by assumption) ?hr7
 case ho7 => simp only [List.getElem?_toArray, List.getElem?_cons_succ, List.getElem?_cons_zero]; rfl
 case hw7 => rfl
 case hy7 =>
  intro w' hSw
  (try dsimp only at hSw)
  go_simp
  (try with_reducible rfl)
 case hq7 => exact fun _ _ _ h => h
 (try simp only [Act.put, List.setIfInBounds_toArray, List.set_cons_zero, List.set_cons_succ])
 refine wpAnyH_take (i := 11) (oi := ?o11) (v := ?v11) ?ho11 (by kernel_rfl) (by kernel_rfl) (by kernel_rfl) ?hq11 (Or.inl ⟨?hw11, ?hy11⟩) (by assumption) ?hr11
 case ho11 => simp only [List.getElem?_toArray, List.getElem?_cons_succ, List.getElem?_cons_zero]; rfl
 case hw11 => rfl
 case hy11 =>
  intro w' hSw
  (try dsimp only at hSw)
  go_simp
  (try with_reducible rfl)
 case hq11 => exact fun _ _ _ h => h
 (try simp only [Act.put, List.setIfInBounds_toArray, List.set_cons_zero, List.set_cons_succ])
 refine wpAnyH_take (i := 12) (oi := ?o12) (v := ?v12) ?ho12 (by kernel_rfl) (by kernel_rfl) (by kernel_rfl) ?hq12 (Or.inl ⟨?hw12, ?hy12⟩) (by assumption) ?hr12
 case ho12 => simp only [List.getElem?_toArray, List.getElem?_cons_succ, List.getElem?_cons_zero]; rfl
 case hw12 => rfl
 case hy12 =>
  intro w' hSw
  (try dsimp only at hSw)
  go_simp
  (try with_reducible rfl)
 case hq12 => exact fun _ _ _ h => h
 (try simp only [Act.put, List.setIfInBounds_toArray, List.set_cons_zero, List.set_cons_succ])
 refine wpAnyH_ready (rs := [0]) (by kernel_rfl) (by simp) ?_
 refine AllReadyH.cons (o := ?o0) ?ho0 ?hs0 AllReadyH.nil
 case ho0 => simp only [List.getElem?_toArray, List.getElem?_cons_succ, List.getElem?_cons_zero]; rfl
 case hs0 =>
 intro K hK
 go_simp
 refine (specNames _).mono ?_
 rintro e w2 ⟨rfl, e2⟩
 have Rn : Row w2 (w.alloc (.cells #[.int .i64 c, .int .i64 n, .int .i64 m] 32)).drew.heap.size 9 #[.string ⟨#[]⟩, .string ⟨#[110, 117, 109]⟩, .string ⟨#[108, 111, 99, 97, 108]⟩, .string ⟨#[102, 114, 101, 101]⟩, .string ⟨#[115, 101, 108, 102]⟩, .string ⟨#[99, 108, 111, 115]⟩, .string ⟨#[99, 97, 108, 108]⟩, .string ⟨#[114, 101, 116]⟩, .string ⟨#[99, 111, 110]⟩, .string ⟨#[102, 105, 101, 108, 100]⟩, .string ⟨#[105, 115, 99, 111, 110]⟩, .string ⟨#[105, 115, 110, 117, 109]⟩, .string ⟨#[97, 100, 100]⟩, .string ⟨#[115, 117, 98]⟩, .string ⟨#[109, 117, 108]⟩, .string ⟨#[108, 101, 115, 115]⟩, .string ⟨#[115, 97, 109, 101]⟩, .string ⟨#[112, 117, 116]⟩, .string ⟨#[122, 101, 114, 111]⟩, .string ⟨#[106, 117, 109, 112]⟩, .string ⟨#[115, 108, 105, 100, 101]⟩, .string ⟨#[102, 97, 105, 108]⟩] := by rw [← e2]; exact Row.new _ _ _
 have hE : Below w.heap.size w w2 := by rw [← e2]; exact E.drew.alloc E.drew.size _
 have Ra2 := LH (show Row w2 w.heap.size 32 #[.int .i64 c, .int .i64 n, .int .i64 m] from by rw [← e2]; exact Row.alloc (show Row _ w.heap.size 32 #[.int .i64 c, .int .i64 n, .int .i64 m] from Ra.out) _)
 have hBlt := Rn.lt
 clear e2
 generalize (w.alloc (.cells #[.int .i64 c, .int .i64 n, .int .i64 m] 32)).drew.heap.size = B at *
 have hcn : w2.cell? ⟨B, c.toNat, none⟩ = some (.string nm) := (Rn.cell c.toNat).trans hat
 refine hK.out _ _ (fun i => Ra2.out.cell i) (fun _ => ?_)
 clear hK K hHeld hat
 refine wpAnyH_imp (S := (fun w' => (∀ i, w'.cell? ⟨w.heap.size, i, none⟩ = (#[.int .i64 c, .int .i64 n, .int .i64 m] : Array Value)[i]?) ∧ w'.cell? ⟨B, c.toNat, none⟩ = some (.string nm))) (fun _ h => h.1) _ _ _ _ ?_
 have hHeld : (fun w' => (∀ i, w'.cell? ⟨w.heap.size, i, none⟩ = (#[.int .i64 c, .int .i64 n, .int .i64 m] : Array Value)[i]?) ∧ w'.cell? ⟨B, c.toNat, none⟩ = some (.string nm)) w2 := ⟨fun i => Ra2.out.cell i, hcn⟩
 (try simp only [Act.put, List.setIfInBounds_toArray, List.set_cons_zero, List.set_cons_succ])
 refine wpAnyH_take (i := 3) (oi := ?o3) (v := ?v3) ?ho3 (by kernel_rfl) (by kernel_rfl) (by kernel_rfl) ?hq3 (Or.inl ⟨?hw3, ?hy3⟩) (by assumption) ?hr3
 case ho3 => simp only [List.getElem?_toArray, List.getElem?_cons_succ, List.getElem?_cons_zero]; rfl
 case hw3 => rfl
 case hy3 =>
  intro w' hSw
  (try dsimp only at hSw)
  go_simp
  (try with_reducible rfl)
 case hq3 => exact fun _ _ _ h => h
 (try simp only [Act.put, List.setIfInBounds_toArray, List.set_cons_zero, List.set_cons_succ])
 refine wpAnyH_take (i := 4) (oi := ?o4) (v := ?v4) ?ho4 (by kernel_rfl) (by kernel_rfl) (by kernel_rfl) ?hq4 (Or.inl ⟨?hw4, ?hy4⟩) (by assumption) ?hr4
 case ho4 => simp only [List.getElem?_toArray, List.getElem?_cons_succ, List.getElem?_cons_zero]; rfl
 case hw4 => rfl
 case hy4 =>
  intro w' hSw
  (try dsimp only at hSw)
  go_simp
  (try with_reducible rfl)
 case hq4 => exact fun _ _ _ h => h
 (try simp only [Act.put, List.setIfInBounds_toArray, List.set_cons_zero, List.set_cons_succ])
 refine wpAnyH_take (i := 5) (oi := ?o5) (v := ?v5) ?ho5 (by kernel_rfl) (by kernel_rfl) (by kernel_rfl) ?hq5 (Or.inl ⟨?hw5, ?hy5⟩) (by assumption) ?hr5
 case ho5 => simp only [List.getElem?_toArray, List.getElem?_cons_succ, List.getElem?_cons_zero]; rfl
 case hw5 => rfl
 case hy5 =>
  intro w' hSw
  (try dsimp only at hSw)
  go_simp
  (try with_reducible rfl)
 case hq5 => exact fun _ _ _ h => h
 (try simp only [Act.put, List.setIfInBounds_toArray, List.set_cons_zero, List.set_cons_succ])
 refine wpAnyH_ready (rs := [8]) (by kernel_rfl) (by simp) ?_
 refine AllReadyH.cons (o := ?o8) ?ho8 ?hs8 AllReadyH.nil
 case ho8 => simp only [List.getElem?_toArray, List.getElem?_cons_succ, List.getElem?_cons_zero]; rfl
 case hs8 =>
 intro K hK
 go_simp
 refine (specDigits n _ hn1 hn2).mono ?_
 rintro e w3 ⟨rfl, hb3⟩
 have Ra3 := LH (Ra2.out.below hb3 Ra2.out.lt)
 have hcn3 := (hb3.cell (p := ⟨B, c.toNat, none⟩) hBlt).trans hcn
 have hBlt3 := Nat.lt_of_lt_of_le hBlt hb3.size
 refine hK.out _ _ ⟨fun i => Ra3.out.cell i, hcn3⟩ (fun hHeld => ?_)
 clear hK K
 (try simp only [Act.put, List.setIfInBounds_toArray, List.set_cons_zero, List.set_cons_succ])
 refine wpAnyH_take (i := 9) (oi := ?o9) (v := ?v9) ?ho9 (by kernel_rfl) (by kernel_rfl) (by kernel_rfl) ?hq9 (Or.inl ⟨?hw9, ?hy9⟩) (by assumption) ?hr9
 case ho9 => simp only [List.getElem?_toArray, List.getElem?_cons_succ, List.getElem?_cons_zero]; rfl
 case hw9 => rfl
 case hy9 =>
  intro w' hSw
  (try dsimp only at hSw)
  go_simp
  (try with_reducible rfl)
 case hq9 => exact fun _ _ _ h => h
 (try simp only [Act.put, List.setIfInBounds_toArray, List.set_cons_zero, List.set_cons_succ])
 refine wpAnyH_take (i := 10) (oi := ?o10) (v := ?v10) ?ho10 (by kernel_rfl) (by kernel_rfl) (by kernel_rfl) ?hq10 (Or.inl ⟨?hw10, ?hy10⟩) (by assumption) ?hr10
 case ho10 => simp only [List.getElem?_toArray, List.getElem?_cons_succ, List.getElem?_cons_zero]; rfl
 case hw10 => rfl
 case hy10 =>
  intro w' hSw
  (try dsimp only at hSw)
  go_simp
  (try with_reducible rfl)
 case hq10 => exact fun _ _ _ h => h
 (try simp only [Act.put, List.setIfInBounds_toArray, List.set_cons_zero, List.set_cons_succ])
 refine wpAnyH_ready (rs := [13]) (by kernel_rfl) (by simp) ?_
 refine AllReadyH.cons (o := ?o13) ?ho13 ?hs13 AllReadyH.nil
 case ho13 => simp only [List.getElem?_toArray, List.getElem?_cons_succ, List.getElem?_cons_zero]; rfl
 case hs13 =>
 intro K hK
 go_simp
 refine (specDigits m _ hm1 hm2).mono ?_
 rintro e w4 ⟨rfl, hb4⟩
 have hcn4 := (hb4.cell (p := ⟨B, c.toNat, none⟩) hBlt3).trans hcn3
 have Ra4 := LH (Ra3.out.below hb4 Ra3.out.lt)
 refine hK.out _ _ ⟨fun i => Ra4.out.cell i, hcn4⟩ (fun hHeld => ?_)
 clear hK K
 (try simp only [Act.put, List.setIfInBounds_toArray, List.set_cons_zero, List.set_cons_succ])
 refine wpAnyH_take (i := 14) (oi := ?o14) (v := ?v14) ?ho14 (by kernel_rfl) (by kernel_rfl) (by kernel_rfl) ?hq14 (Or.inl ⟨?hw14, ?hy14⟩) (by assumption) ?hr14
 case ho14 => simp only [List.getElem?_toArray, List.getElem?_cons_succ, List.getElem?_cons_zero]; rfl
 case hw14 => rfl
 case hy14 =>
  intro w' hSw
  (try dsimp only at hSw)
  go_simp
  (try with_reducible rfl)
 case hq14 => exact fun _ _ _ h => h
 (try simp only [Act.put, List.setIfInBounds_toArray, List.set_cons_zero, List.set_cons_succ])
 refine wpAnyH_take (i := 15) (oi := ?o15) (v := ?v15) ?ho15 (by kernel_rfl) (by kernel_rfl) (by kernel_rfl) ?hq15 (Or.inl ⟨?hw15, ?hy15⟩) (by assumption) ?hr15
 case ho15 => simp only [List.getElem?_toArray, List.getElem?_cons_succ, List.getElem?_cons_zero]; rfl
 case hw15 => rfl
 case hy15 =>
  intro w' hSw
  (try dsimp only at hSw)
  go_simp
  (try with_reducible rfl)
 case hq15 => exact fun _ _ _ h => h
 (try simp only [Act.put, List.setIfInBounds_toArray, List.set_cons_zero, List.set_cons_succ])
 refine wpAnyH_done (by kernel_rfl) ?_ _
 go_wp2_with fail
 go_ret
 exact ⟨ret_str hv.out.symm, hE.trans ((hb3.trans (hb4.mono hb3.size)).mono hE.size)⟩
theorem specOpText' (t : GOp) (w : World) (h : GOp.At w (Lt w.heap.size) t) : Calls Tryz.prog 17 #[.agg #[.int .i64 t.code, .int .i64 t.n, .int .i64 t.m]] w fun e w' => e = .returned (.string (opTextB t.code t.n t.m)) ∧ Below w.heap.size w w' :=
 specOpText _ _ _ w (wf64 h.2.1).1 (wf64 h.2.1).2 (wf64 h.2.2).1 (wf64 h.2.2).2
theorem implOpText' (t : GOp) (w : World) (h : GOp.At w (Lt w.heap.size) t) : Calls Tryz.prog 16 #[.agg #[.int .i64 t.code, .int .i64 t.n, .int .i64 t.m]] w fun e w' => e = .returned (.string (opTextB t.code t.n t.m)) ∧ Below w.heap.size w w' :=
 implOpText _ _ _ w (wf64 h.2.1).1 (wf64 h.2.1).2 (wf64 h.2.2).1 (wf64 h.2.2).2
end Go.Proofs.YtehpobojopmilaaGreat
namespace Go.Proofs.YtehpobojopmilaaGreat
set_option maxRecDepth 20000
set_option linter.unusedVariables false
set_option linter.unusedSimpArgs false
end Go.Proofs.YtehpobojopmilaaGreat
namespace Go.Proofs.YtehpobojopmilaaGreat
set_option maxRecDepth 20000
set_option linter.unusedVariables false
set_option linter.unusedSimpArgs false
open Go.RowKit
set_option maxHeartbeats 400000
theorem sameIntsL (l : List Int) (A B : Option Addr) (c d : Nat) (w : World) (hs : Sl w (Lt w.heap.size) 1 A c (l.map (D.num .i64))) (hs' : Sl w (Lt w.heap.size) 1 B d (l.map (D.num .i64))) :
 Calls Tryz.prog 11 #[.slice A l.length c, .slice B l.length d] w fun e w' => e = .returned (.bool true) ∧ Below w.heap.size w w' := by
 have hlen : l.length ≤ 9223372036854775807 := by simpa using hs.len
 have S0 := LH hs
 have S1 := LH hs'
 clear hs hs'
 go_enter Tryz.func11, Tryz.ntmps11
 go_wp2_with fail
 go_loopw [5] (fun i wr => ∃ (j : Nat), j ≤ l.length ∧ i = .int .i64 j ∧ Below w.heap.size w wr) (fun i _ => l.length - (intOf i).toNat)
 case atStart => exact ⟨0, by omega, by go_num, Below.refl _ _⟩
 case round =>
  obtain ⟨j, hj, rfl, hb⟩ := hrel
  by_cases hlt : j < l.length
  ·
   obtain ⟨b, off, rfl, hSb, g0, _⟩ := int_elem (S0.out.below hb (Nat.le_refl _)) j hlt
   obtain ⟨b', off', rfl, hSb', g0', _⟩ := int_elem (S1.out.below hb (Nat.le_refl _)) j hlt
   go_wp2_with fail
   go_quiet (fail)
   go_wp2_with fail
   go_roundw
   case rel => exact ⟨j + 1, by omega, by go_num, ⟨hb.os, hb.tape, hb.output, hb.size, hb.block⟩⟩
   case measure => simp [intOf]; omega
  · go_wp2_with fail
    go_ret
    exact ⟨rfl, hb⟩
end Go.Proofs.YtehpobojopmilaaGreat
namespace Go.Proofs.YtehpobojopmilaaGreat
set_option maxRecDepth 20000
set_option linter.unusedVariables false
set_option linter.unusedSimpArgs false
open Go.RowKit Go.BigFrame
set_option maxHeartbeats 2000000
theorem bigYesV {n : Nat} (A : Option Addr) (c : Nat) (hbi : (1048576 : Int) < (n : Int)) (w : World) : Calls Tryz.prog 4 #[.slice A n c] w fun e w' => e = .returned (.bool true) ∧ w = w' := by
 go_enter Tryz.func4, Tryz.ntmps4
 go_wp2_with fail
 go_ret
 exact ⟨rfl, rfl⟩
theorem bigNoV {n : Nat} (A : Option Addr) (c : Nat) (hbi : ¬ (1048576 : Int) < (n : Int)) (w : World) : Calls Tryz.prog 4 #[.slice A n c] w fun e w' => e = .returned (.bool false) ∧ w = w' := by
 go_enter Tryz.func4, Tryz.ntmps4
 go_wp2_with fail
 go_ret
 exact ⟨rfl, rfl⟩
theorem effPuts (c m : Int) : 0 ≤ (effI c m).2 ∧ (effI c m).2 ≤ 1 := by
 unfold effI
 repeat' split
 all_goals simp
theorem verAll {l : List GFun} {i : Int} {r : Option (List Int)} (h : IsDepths l i r) : ∀ k (hk : k < (r.getD []).length), ∃ (q : Nat) (hq : q < l.length) (hk2 : k < l[q].list.length), i = (q : Int) ∧ (0 ≤ (r.getD [])[k] → (effI (l[q].list[k]).code (l[q].list[k]).m).1 < (r.getD [])[k] ∧ (r.getD [])[k] - (effI (l[q].list[k]).code (l[q].list[k]).m).1 + (effI (l[q].list[k]).code (l[q].list[k]).m).2 ≤ 60) := by
 intro k hk
 cases r with
 | none => exact absurd hk (Nat.not_lt_zero _)
 | some out =>
  obtain ⟨hi, h0, hlen, hall⟩ := verPlace h
  have hk : k < out.length := hk
  exact ⟨i.toNat, hi, by omega, by omega, fun h0 => hall k hk (by omega) h0⟩
theorem walkVerifies (l : List Int) (A : Option Addr) (c : Nat) (w : World) (hs : Sl w (Lt w.heap.size) 1 A c (l.map (D.num .u8))) :
 Calls Tryz.prog 3 #[.slice A l.length c] w fun e w' => e = .returned (.bool true) ∧ Below w.heap.size w w' := by
 have S0 := LH hs
 have hln : l.length ≤ 9223372036854775807 := by simpa using hs.len
 clear hs
 by_cases hbig : 1048576 < l.length
 ·
  have hbi : (1048576 : Int) < (l.length : Int) := by omega
  go_enter Tryz.func3, Tryz.ntmps3
  go_wp2_with fail
  refine (bigYesV A c (by omega) w).mono ?_
  rintro e w1 ⟨rfl, rfl⟩
  go_wp2_with fail
  go_ret
  exact ⟨rfl, Below.refl _ _⟩
 have hbi : ¬ (1048576 : Int) < (l.length : Int) := by omega
 have hl : l.length ≤ 1048576 := by omega
 go_enter Tryz.func3, Tryz.ntmps3
 go_wp2_with fail
 refine (bigNoV A c (by omega) w).mono ?_
 rintro e w1 ⟨rfl, rfl⟩
 go_wp2_with fail
 refine (drawDepthsE l A c w S0.out hl).mono ?_
 rintro e w1 ⟨fs, Af, cf, z, rfl, hfl, hz, hsf, hb1⟩
 have hz1 := hb1.size
 have D1 := LH hb1
 have SF1 := LH hsf
 have HC := LH (implDepths fs Af cf z w1 ⟨by omega, by omega⟩ hsf)
 clear hb1 hsf
 go_wp2_with fail
 refine HC.out.mono ?_
 clear HC
 rintro e w2 ⟨r, A2, c2, hr, rfl, ho2, hb2⟩
 have hz2 := hb2.size
 have HR := LH hr
 have SF2 := LH (SF1.out.below hb2 hb2.size)
 have O2 := LH (ho2.sl.keep (w' := w2) (S' := Lt w2.heap.size) fun q hq => ⟨hq.2, rfl⟩)
 have D2 := LH (D1.out.trans (hb2.mono D1.out.size))
 have HC := LH (specDepths fs Af cf z w2 ⟨by omega, by omega⟩ SF2.out)
 clear hb2 ho2 hr SF1
 obtain ⟨d, hd⟩ : ∃ d, d = r.getD [] := ⟨_, rfl⟩
 obtain ⟨ok, hok⟩ : ∃ ok, ok = r.isSome := ⟨_, rfl⟩
 rw [← hd, ← hok]
 rw [← hd] at O2
 have HD := LH hd
 have HOK := LH hok
 clear hd hok
 have hdl : d.length ≤ 9223372036854775807 := by simpa using O2.out.len
 go_wp2_with fail
 refine HC.out.mono ?_
 clear HC
 rintro e w3 ⟨r', A3, c3, hr', rfl, ho3, hb3⟩
 have hz3 := hb3.size
 obtain rfl : r = r' := HR.out.one hr'
 rw [← HD.out, ← HOK.out]
 have O3 := LH (ho3.sl.keep (w' := w3) (S' := Lt w3.heap.size) fun q hq => ⟨hq.2, rfl⟩)
 rw [← HD.out] at O3
 have SF3 := LH (SF2.out.below hb3 hb3.size)
 have O23 := LH (O2.out.below hb3 hb3.size)
 have D3 := LH (D2.out.trans (hb3.mono D2.out.size))
 clear hb3 ho3 hr' SF2 O2
 have HPL := LH (verAll HR.out)
 rw [← HD.out] at HPL
 have HNO := LH (show ok = false → d.length = 0 from fun h => by
   have h1 := HOK.out
   have h2 := HD.out
   cases r with
   | none => rw [h2]; rfl
   | some _ => rw [h1] at h; cases h)
 clear HD HOK HR
 have HC := LH (drawVerifyE l A c w3 (S0.out.below D3.out D3.out.size) hl)
 go_wp2_with fail
 refine HC.out.mono ?_
 clear HC
 rintro e w4 ⟨fv, Av, cv, rfl, hvl, hsv, hb4⟩
 have hz4 := hb4.size
 have SV4 := LH hsv
 have SF4 := LH (SF3.out.below hb4 hb4.size)
 have O24 := LH (O23.out.below hb4 hb4.size)
 have O34 := LH (O3.out.below hb4 hb4.size)
 have D4 := LH (D3.out.trans (hb4.mono D3.out.size))
 clear hb4 hsv SF3 O23 O3
 have HC := LH (drawFunsOkE l A c w4 (S0.out.below D4.out D4.out.size) hl)
 go_wp2_with fail
 refine HC.out.mono ?_
 clear HC
 rintro e w5 ⟨fo, Ao, co, rfl, hol, hso, hb5⟩
 have hz5 := hb5.size
 have SO5 := LH hso
 have SV5 := LH (SV4.out.below hb5 hb5.size)
 have SF5 := LH (SF4.out.below hb5 hb5.size)
 have O25 := LH (O24.out.below hb5 hb5.size)
 have O35 := LH (O34.out.below hb5 hb5.size)
 have D5 := LH (D4.out.trans (hb5.mono D4.out.size))
 clear hb5 hso SV4 SF4 O24 O34
 have HC := LH (drawOpTextE l A c w5 (S0.out.below D5.out D5.out.size) hl)
 go_wp2_with fail
 refine HC.out.mono ?_
 clear HC
 rintro e w6 ⟨t, rfl, hwt, hb6⟩
 have hz6 := hb6.size
 obtain ⟨w7, e7, R7, hz7, K7⟩ := boxed w6 32 #[.int .i64 t.code, .int .i64 t.n, .int .i64 t.m]
 have B7 := LH (show Below w6.heap.size w6 w7 by rw [e7]; exact (Below.refl _ _).alloc (Nat.le_refl _) _)
 have hz7' : w6.heap.size + 1 ≤ w7.heap.size ∧ w7.heap.size ≤ w6.heap.size + 1 := by omega
 have B57 := LH (hb6.trans (B7.out.mono hb6.size))
 have SO7 := LH (SO5.out.below B57.out B57.out.size)
 have SV7 := LH (SV5.out.below B57.out B57.out.size)
 have SF7 := LH (SF5.out.below B57.out B57.out.size)
 have O27 := LH (O25.out.below B57.out B57.out.size)
 have O37 := LH (O35.out.below B57.out B57.out.size)
 have D7 := LH (D5.out.trans (B57.out.mono D5.out.size))
 have HWT := LH hwt
 clear hb6 hwt hz7 K7 B57 B7 SO5 SV5 SF5 O25 O35
 go_wp2_with fail
 rw [← e7]
 clear e7
 refine wp_region_T (fun x => Row x w6.heap.size 32 #[.int .i64 t.code, .int .i64 t.n, .int .i64 t.m]) 100 (by kernel_rfl) ?_
 obtain ⟨w8, e8⟩ : ∃ x, x = w7.drew := ⟨_, rfl⟩
 rw [← e8]
 have B8 := LH (show Below w7.heap.size w7 w8 by rw [e8]; exact (Below.refl _ _).drew)
 have hz8 : w8.heap.size ≤ w7.heap.size ∧ w7.heap.size ≤ w8.heap.size := by rw [e8]; exact ⟨Nat.le_refl _, Nat.le_refl _⟩
 clear e8
 have hS8 : Row w8 w6.heap.size 32 #[.int .i64 t.code, .int .i64 t.n, .int .i64 t.m] := R7.out.below B8.out R7.out.lt
 have D8 := LH (D7.out.trans (B8.out.mono D7.out.size))
 clear R7
 have SO_7 := SO7
 have SV_7 := SV7
 have SF_7 := SF7
 have O2_7 := O27
 have O3_7 := O37
 clear SO7 SV7 SF7 O27 O37
 have SO_8 := LH (SO_7.out.below B8.out B8.out.size)
 have SV_8 := LH (SV_7.out.below B8.out B8.out.size)
 have SF_8 := LH (SF_7.out.below B8.out B8.out.size)
 have O2_8 := LH (O2_7.out.below B8.out B8.out.size)
 have O3_8 := LH (O3_7.out.below B8.out B8.out.size)
 clear SO_7 SV_7 SF_7 O2_7 O3_7
 refine wpAnyT_tk (i := 0) (oi := _) (v := ?tv1) rfl (Or.inl ⟨by rfl, ?th1⟩) hS8 ?_
 case th1 => (intro x hSx; have hx1 := fun i => hSx.cell i; clear hSx; go_simp; (try with_reducible rfl))
 try simp only [List.getElem_toArray, List.getElem_cons_succ, List.getElem_cons_zero, Act.put, List.setIfInBounds_toArray, List.set_cons_zero, List.set_cons_succ]
 refine wpAnyT_tk (i := 1) (oi := _) (v := ?tv2) rfl (Or.inl ⟨by rfl, ?th2⟩) hS8 ?_
 case th2 => (intro x hSx; have hx1 := fun i => hSx.cell i; clear hSx; go_simp; (try with_reducible rfl))
 try simp only [List.getElem_toArray, List.getElem_cons_succ, List.getElem_cons_zero, Act.put, List.setIfInBounds_toArray, List.set_cons_zero, List.set_cons_succ]
 refine wpAnyT_tk (i := 2) (oi := _) (v := ?tv3) rfl (Or.inl ⟨by rfl, ?th3⟩) hS8 ?_
 case th3 => (intro x hSx; have hx1 := fun i => hSx.cell i; clear hSx; go_simp; (try with_reducible rfl))
 try simp only [List.getElem_toArray, List.getElem_cons_succ, List.getElem_cons_zero, Act.put, List.setIfInBounds_toArray, List.set_cons_zero, List.set_cons_succ]
 refine wpAnyT_tk (i := 3) (oi := _) (v := ?tv4) rfl (Or.inl ⟨by rfl, ?th4⟩) hS8 ?_
 case th4 => (intro x hSx; have hx1 := fun i => hSx.cell i; clear hSx; go_simp; (try with_reducible rfl))
 try simp only [List.getElem_toArray, List.getElem_cons_succ, List.getElem_cons_zero, Act.put, List.setIfInBounds_toArray, List.set_cons_zero, List.set_cons_succ]
 refine wpAnyT_tk (i := 4) (oi := _) (v := ?tv5) rfl (Or.inl ⟨by rfl, ?th5⟩) hS8 ?_
 case th5 => (intro x hSx; have hx1 := fun i => hSx.cell i; clear hSx; go_simp; (try with_reducible rfl))
 try simp only [List.getElem_toArray, List.getElem_cons_succ, List.getElem_cons_zero, Act.put, List.setIfInBounds_toArray, List.set_cons_zero, List.set_cons_succ]
 refine wpAnyT_tk (i := 5) (oi := _) (v := ?tv6) rfl (Or.inl ⟨by rfl, ?th6⟩) hS8 ?_
 case th6 => (intro x hSx; have hx1 := fun i => hSx.cell i; clear hSx; go_simp; (try with_reducible rfl))
 try simp only [List.getElem_toArray, List.getElem_cons_succ, List.getElem_cons_zero, Act.put, List.setIfInBounds_toArray, List.set_cons_zero, List.set_cons_succ]
 refine wpAnyT_step (i := 6) (by kernel_rfl) rfl (fun K hK => ?_)
 try simp only [List.getElem_toArray, List.getElem_cons_succ, List.getElem_cons_zero]
 go_simp
 refine (sameIntsL d A2 A3 c2 c3 w8 O2_8.out O3_8.out).mono ?_
 rintro e w9 ⟨rfl, hb9⟩
 have hz9 := hb9.size
 have hS9 : Row w9 w6.heap.size 32 #[.int .i64 t.code, .int .i64 t.n, .int .i64 t.m] := hS8.below hb9 hS8.lt
 have B9 := LH hb9
 have D9 := LH (D8.out.trans (hb9.mono D8.out.size))
 clear hb9
 try simp only [List.getElem_toArray, List.getElem_cons_succ, List.getElem_cons_zero]
 go_simp
 refine hK.out _ _ hS9 (fun _ => ?_)
 clear hK K hS8
 try simp only [List.getElem_toArray, List.getElem_cons_succ, List.getElem_cons_zero, Act.put, List.setIfInBounds_toArray, List.set_cons_zero, List.set_cons_succ]
 clear O3_8
 have SO_9 := LH (SO_8.out.below B9.out B9.out.size)
 have SV_9 := LH (SV_8.out.below B9.out B9.out.size)
 have SF_9 := LH (SF_8.out.below B9.out B9.out.size)
 have O2_9 := LH (O2_8.out.below B9.out B9.out.size)
 clear SO_8 SV_8 SF_8 O2_8
 refine wpAnyT_tk (i := 7) (oi := _) (v := ?tv7) rfl (Or.inl ⟨by rfl, ?th7⟩) hS9 ?_
 case th7 => (intro x hSx; have hx1 := fun i => hSx.cell i; clear hSx; go_simp; (try with_reducible rfl))
 try simp only [List.getElem_toArray, List.getElem_cons_succ, List.getElem_cons_zero, Act.put, List.setIfInBounds_toArray, List.set_cons_zero, List.set_cons_succ]
 refine wpAnyT_tk (i := 8) (oi := _) (v := ?tv8) rfl (Or.inl ⟨by rfl, ?th8⟩) hS9 ?_
 case th8 => (intro x hSx; have hx1 := fun i => hSx.cell i; clear hSx; go_simp; (try with_reducible rfl))
 try simp only [List.getElem_toArray, List.getElem_cons_succ, List.getElem_cons_zero, Act.put, List.setIfInBounds_toArray, List.set_cons_zero, List.set_cons_succ]
 refine wpAnyT_tk (i := 9) (oi := _) (v := ?tv9) rfl (Or.inl ⟨by rfl, ?th9⟩) hS9 ?_
 case th9 => (intro x hSx; have hx1 := fun i => hSx.cell i; clear hSx; go_simp; (try with_reducible rfl))
 try simp only [List.getElem_toArray, List.getElem_cons_succ, List.getElem_cons_zero, Act.put, List.setIfInBounds_toArray, List.set_cons_zero, List.set_cons_succ]
 refine wpAnyT_tk (i := 10) (oi := _) (v := ?tv10) rfl (Or.inl ⟨by rfl, ?th10⟩) hS9 ?_
 case th10 => (intro x hSx; have hx1 := fun i => hSx.cell i; clear hSx; go_simp; (try with_reducible rfl))
 try simp only [List.getElem_toArray, List.getElem_cons_succ, List.getElem_cons_zero, Act.put, List.setIfInBounds_toArray, List.set_cons_zero, List.set_cons_succ]
 refine wpAnyT_tk (i := 12) (oi := _) (v := ?tv11) rfl (Or.inl ⟨by rfl, ?th11⟩) hS9 ?_
 case th11 => (intro x hSx; have hx1 := fun i => hSx.cell i; clear hSx; go_simp; (try with_reducible rfl))
 try simp only [List.getElem_toArray, List.getElem_cons_succ, List.getElem_cons_zero, Act.put, List.setIfInBounds_toArray, List.set_cons_zero, List.set_cons_succ]
 refine wpAnyT_step (i := 11) (by kernel_rfl) rfl (fun K hK => ?_)
 try simp only [List.getElem_toArray, List.getElem_cons_succ, List.getElem_cons_zero]
 go_simp
 refine (implVerify fv Av cv w9 SV_9.out).mono ?_
 rintro e w10 ⟨rfl, hb10⟩
 have hz10 := hb10.size
 have hS10 : Row w10 w6.heap.size 32 #[.int .i64 t.code, .int .i64 t.n, .int .i64 t.m] := hS9.below hb10 hS9.lt
 have B10 := LH hb10
 have D10 := LH (D9.out.trans (hb10.mono D9.out.size))
 clear hb10
 try simp only [List.getElem_toArray, List.getElem_cons_succ, List.getElem_cons_zero]
 go_simp
 refine hK.out _ _ hS10 (fun _ => ?_)
 clear hK K hS9
 try simp only [List.getElem_toArray, List.getElem_cons_succ, List.getElem_cons_zero, Act.put, List.setIfInBounds_toArray, List.set_cons_zero, List.set_cons_succ]
 have SO_10 := LH (SO_9.out.below B10.out B10.out.size)
 have SV_10 := LH (SV_9.out.below B10.out B10.out.size)
 have SF_10 := LH (SF_9.out.below B10.out B10.out.size)
 have O2_10 := LH (O2_9.out.below B10.out B10.out.size)
 clear SO_9 SV_9 SF_9 O2_9
 refine wpAnyT_step (i := 13) (by kernel_rfl) rfl (fun K hK => ?_)
 try simp only [List.getElem_toArray, List.getElem_cons_succ, List.getElem_cons_zero]
 go_simp
 refine (specVerify fv Av cv w10 SV_10.out).mono ?_
 rintro e w11 ⟨rfl, hb11⟩
 have hz11 := hb11.size
 have hS11 : Row w11 w6.heap.size 32 #[.int .i64 t.code, .int .i64 t.n, .int .i64 t.m] := hS10.below hb11 hS10.lt
 have B11 := LH hb11
 have D11 := LH (D10.out.trans (hb11.mono D10.out.size))
 clear hb11
 try simp only [List.getElem_toArray, List.getElem_cons_succ, List.getElem_cons_zero]
 go_simp
 refine hK.out _ _ hS11 (fun _ => ?_)
 clear hK K hS10
 try simp only [List.getElem_toArray, List.getElem_cons_succ, List.getElem_cons_zero, Act.put, List.setIfInBounds_toArray, List.set_cons_zero, List.set_cons_succ]
 clear SV_10
 have SO_11 := LH (SO_10.out.below B11.out B11.out.size)
 have SF_11 := LH (SF_10.out.below B11.out B11.out.size)
 have O2_11 := LH (O2_10.out.below B11.out B11.out.size)
 clear SO_10 SF_10 O2_10
 refine wpAnyT_tk (i := 14) (oi := _) (v := ?tv12) rfl (Or.inl ⟨by rfl, ?th12⟩) hS11 ?_
 case th12 => (intro x hSx; have hx1 := fun i => hSx.cell i; clear hSx; go_simp; (try with_reducible rfl))
 try simp only [List.getElem_toArray, List.getElem_cons_succ, List.getElem_cons_zero, Act.put, List.setIfInBounds_toArray, List.set_cons_zero, List.set_cons_succ]
 refine wpAnyT_tk (i := 15) (oi := _) (v := ?tv13) rfl (Or.inl ⟨by rfl, ?th13⟩) hS11 ?_
 case th13 => (intro x hSx; have hx1 := fun i => hSx.cell i; clear hSx; go_simp; (try with_reducible rfl))
 try simp only [List.getElem_toArray, List.getElem_cons_succ, List.getElem_cons_zero, Act.put, List.setIfInBounds_toArray, List.set_cons_zero, List.set_cons_succ]
 refine wpAnyT_tk (i := 16) (oi := _) (v := ?tv14) rfl (Or.inl ⟨by rfl, ?th14⟩) hS11 ?_
 case th14 => (intro x hSx; have hx1 := fun i => hSx.cell i; clear hSx; go_simp; (try with_reducible rfl))
 try simp only [List.getElem_toArray, List.getElem_cons_succ, List.getElem_cons_zero, Act.put, List.setIfInBounds_toArray, List.set_cons_zero, List.set_cons_succ]
 refine wpAnyT_tk (i := 17) (oi := _) (v := ?tv15) rfl (Or.inl ⟨by rfl, ?th15⟩) hS11 ?_
 case th15 => (intro x hSx; have hx1 := fun i => hSx.cell i; clear hSx; go_simp; (try with_reducible rfl))
 try simp only [List.getElem_toArray, List.getElem_cons_succ, List.getElem_cons_zero, Act.put, List.setIfInBounds_toArray, List.set_cons_zero, List.set_cons_succ]
 refine wpAnyT_tk (i := 19) (oi := _) (v := ?tv16) rfl (Or.inl ⟨by rfl, ?th16⟩) hS11 ?_
 case th16 => (intro x hSx; have hx1 := fun i => hSx.cell i; clear hSx; go_simp; (try with_reducible rfl))
 try simp only [List.getElem_toArray, List.getElem_cons_succ, List.getElem_cons_zero, Act.put, List.setIfInBounds_toArray, List.set_cons_zero, List.set_cons_succ]
 refine wpAnyT_step (i := 18) (by kernel_rfl) rfl (fun K hK => ?_)
 try simp only [List.getElem_toArray, List.getElem_cons_succ, List.getElem_cons_zero]
 go_simp
 refine (implFunsOk fo Ao co w11 SO_11.out).mono ?_
 rintro e w12 ⟨rfl, hb12⟩
 have hz12 := hb12.size
 have hS12 : Row w12 w6.heap.size 32 #[.int .i64 t.code, .int .i64 t.n, .int .i64 t.m] := hS11.below hb12 hS11.lt
 have B12 := LH hb12
 have D12 := LH (D11.out.trans (hb12.mono D11.out.size))
 clear hb12
 try simp only [List.getElem_toArray, List.getElem_cons_succ, List.getElem_cons_zero]
 go_simp
 refine hK.out _ _ hS12 (fun _ => ?_)
 clear hK K hS11
 try simp only [List.getElem_toArray, List.getElem_cons_succ, List.getElem_cons_zero, Act.put, List.setIfInBounds_toArray, List.set_cons_zero, List.set_cons_succ]
 have SO_12 := LH (SO_11.out.below B12.out B12.out.size)
 have SF_12 := LH (SF_11.out.below B12.out B12.out.size)
 have O2_12 := LH (O2_11.out.below B12.out B12.out.size)
 clear SO_11 SF_11 O2_11
 refine wpAnyT_step (i := 20) (by kernel_rfl) rfl (fun K hK => ?_)
 try simp only [List.getElem_toArray, List.getElem_cons_succ, List.getElem_cons_zero]
 go_simp
 refine (specFunsOk fo Ao co w12 SO_12.out).mono ?_
 rintro e w13 ⟨rfl, hb13⟩
 have hz13 := hb13.size
 have hS13 : Row w13 w6.heap.size 32 #[.int .i64 t.code, .int .i64 t.n, .int .i64 t.m] := hS12.below hb13 hS12.lt
 have B13 := LH hb13
 have D13 := LH (D12.out.trans (hb13.mono D12.out.size))
 clear hb13
 try simp only [List.getElem_toArray, List.getElem_cons_succ, List.getElem_cons_zero]
 go_simp
 refine hK.out _ _ hS13 (fun _ => ?_)
 clear hK K hS12
 try simp only [List.getElem_toArray, List.getElem_cons_succ, List.getElem_cons_zero, Act.put, List.setIfInBounds_toArray, List.set_cons_zero, List.set_cons_succ]
 clear SO_12
 have SF_13 := LH (SF_12.out.below B13.out B13.out.size)
 have O2_13 := LH (O2_12.out.below B13.out B13.out.size)
 clear SF_12 O2_12
 refine wpAnyT_tk (i := 21) (oi := _) (v := ?tv17) rfl (Or.inl ⟨by rfl, ?th17⟩) hS13 ?_
 case th17 => (intro x hSx; have hx1 := fun i => hSx.cell i; clear hSx; go_simp; (try with_reducible rfl))
 try simp only [List.getElem_toArray, List.getElem_cons_succ, List.getElem_cons_zero, Act.put, List.setIfInBounds_toArray, List.set_cons_zero, List.set_cons_succ]
 refine wpAnyT_tk (i := 22) (oi := _) (v := ?tv18) rfl (Or.inl ⟨by rfl, ?th18⟩) hS13 ?_
 case th18 => (intro x hSx; have hx1 := fun i => hSx.cell i; clear hSx; go_simp; (try with_reducible rfl))
 try simp only [List.getElem_toArray, List.getElem_cons_succ, List.getElem_cons_zero, Act.put, List.setIfInBounds_toArray, List.set_cons_zero, List.set_cons_succ]
 refine wpAnyT_tk (i := 23) (oi := _) (v := ?tv19) rfl (Or.inl ⟨by rfl, ?th19⟩) hS13 ?_
 case th19 => (intro x hSx; have hx1 := fun i => hSx.cell i; clear hSx; go_simp; (try with_reducible rfl))
 try simp only [List.getElem_toArray, List.getElem_cons_succ, List.getElem_cons_zero, Act.put, List.setIfInBounds_toArray, List.set_cons_zero, List.set_cons_succ]
 refine wpAnyT_tk (i := 24) (oi := _) (v := ?tv20) rfl (Or.inl ⟨by rfl, ?th20⟩) hS13 ?_
 case th20 => (intro x hSx; have hx1 := fun i => hSx.cell i; clear hSx; go_simp; (try with_reducible rfl))
 try simp only [List.getElem_toArray, List.getElem_cons_succ, List.getElem_cons_zero, Act.put, List.setIfInBounds_toArray, List.set_cons_zero, List.set_cons_succ]
 refine wpAnyT_tk (i := 26) (oi := _) (v := ?tv21) rfl (Or.inl ⟨by rfl, ?th21⟩) hS13 ?_
 case th21 => (intro x hSx; have hx1 := fun i => hSx.cell i; clear hSx; go_simp; (try with_reducible rfl))
 try simp only [List.getElem_toArray, List.getElem_cons_succ, List.getElem_cons_zero, Act.put, List.setIfInBounds_toArray, List.set_cons_zero, List.set_cons_succ]
 refine wpAnyT_step (i := 25) (by kernel_rfl) rfl (fun K hK => ?_)
 try simp only [List.getElem_toArray, List.getElem_cons_succ, List.getElem_cons_zero]
 go_simp
 refine (implOpText' t w13 HWT.out).mono ?_
 rintro e w14 ⟨rfl, hb14⟩
 have hz14 := hb14.size
 have hS14 : Row w14 w6.heap.size 32 #[.int .i64 t.code, .int .i64 t.n, .int .i64 t.m] := hS13.below hb14 hS13.lt
 have B14 := LH hb14
 have D14 := LH (D13.out.trans (hb14.mono D13.out.size))
 clear hb14
 try simp only [List.getElem_toArray, List.getElem_cons_succ, List.getElem_cons_zero]
 go_simp
 refine hK.out _ _ hS14 (fun _ => ?_)
 clear hK K hS13
 try simp only [List.getElem_toArray, List.getElem_cons_succ, List.getElem_cons_zero, Act.put, List.setIfInBounds_toArray, List.set_cons_zero, List.set_cons_succ]
 have SF_14 := LH (SF_13.out.below B14.out B14.out.size)
 have O2_14 := LH (O2_13.out.below B14.out B14.out.size)
 clear SF_13 O2_13
 refine wpAnyT_step (i := 27) (by kernel_rfl) rfl (fun K hK => ?_)
 try simp only [List.getElem_toArray, List.getElem_cons_succ, List.getElem_cons_zero]
 go_simp
 refine (specOpText' t w14 HWT.out).mono ?_
 rintro e w15 ⟨rfl, hb15⟩
 have hz15 := hb15.size
 have hS15 : Row w15 w6.heap.size 32 #[.int .i64 t.code, .int .i64 t.n, .int .i64 t.m] := hS14.below hb15 hS14.lt
 have B15 := LH hb15
 have D15 := LH (D14.out.trans (hb15.mono D14.out.size))
 clear hb15
 try simp only [List.getElem_toArray, List.getElem_cons_succ, List.getElem_cons_zero]
 go_simp
 refine hK.out _ _ hS15 (fun _ => ?_)
 clear hK K hS14
 try simp only [List.getElem_toArray, List.getElem_cons_succ, List.getElem_cons_zero, Act.put, List.setIfInBounds_toArray, List.set_cons_zero, List.set_cons_succ]
 have SF_15 := LH (SF_14.out.below B15.out B15.out.size)
 have O2_15 := LH (O2_14.out.below B15.out B15.out.size)
 clear SF_14 O2_14
 refine wpAnyT_tk (i := 28) (oi := _) (v := ?tv22) rfl (Or.inl ⟨by rfl, ?th22⟩) hS15 ?_
 case th22 => (intro x hSx; have hx1 := fun i => hSx.cell i; clear hSx; go_simp; (try with_reducible rfl))
 try simp only [List.getElem_toArray, List.getElem_cons_succ, List.getElem_cons_zero, Act.put, List.setIfInBounds_toArray, List.set_cons_zero, List.set_cons_succ]
 refine wpAnyT_tk (i := 29) (oi := _) (v := ?tv23) rfl (Or.inl ⟨by rfl, ?th23⟩) hS15 ?_
 case th23 => (intro x hSx; have hx1 := fun i => hSx.cell i; clear hSx; go_simp; (try with_reducible rfl))
 try simp only [List.getElem_toArray, List.getElem_cons_succ, List.getElem_cons_zero, Act.put, List.setIfInBounds_toArray, List.set_cons_zero, List.set_cons_succ]
 refine wpAnyT_done (by kernel_rfl) ?_ _
 clear hS15 HWT
 have HC := LH (drawEffectE l A c w15 (S0.out.below D15.out D15.out.size) hl)
 go_wp2_with fail
 refine HC.out.mono ?_
 clear HC
 rintro e w16 ⟨te, rfl, hwt, hb16⟩
 have hz16 := hb16.size
 obtain ⟨w17, e17, R17, hz17, K17⟩ := boxed w16 32 #[.int .i64 te.code, .int .i64 te.n, .int .i64 te.m]
 have B17 := LH (show Below w16.heap.size w16 w17 by rw [e17]; exact (Below.refl _ _).alloc (Nat.le_refl _) _)
 have hz17' : w16.heap.size + 1 ≤ w17.heap.size ∧ w17.heap.size ≤ w16.heap.size + 1 := by omega
 have B1517 := LH (hb16.trans (B17.out.mono hb16.size))
 have SF_17 := LH (SF_15.out.below B1517.out B1517.out.size)
 have O2_17 := LH (O2_15.out.below B1517.out B1517.out.size)
 clear SF_15 O2_15
 have D17 := LH (D15.out.trans (B1517.out.mono D15.out.size))
 clear hb16 hwt hz17 K17 B1517 B17
 have hct := fun i => R17.out.cell i
 have hclt := R17.out.lt
 have HC := LH (implEffect te.code te.n te.m w17)
 go_wp2_with fail
 rw [← e17]
 clear e17
 refine HC.out.mono ?_
 clear HC hct hclt
 obtain ⟨pe, hpe⟩ : ∃ p, p = effI te.code te.m := ⟨_, rfl⟩
 rw [← hpe]
 rintro e w18 ⟨rfl, hb18⟩
 have hz18 := hb18.size
 have R18 := LH (R17.out.below hb18 R17.out.lt)
 have B18 := LH hb18
 have SF_18 := LH (SF_17.out.below B18.out B18.out.size)
 have O2_18 := LH (O2_17.out.below B18.out B18.out.size)
 clear SF_17 O2_17
 have D18 := LH (D17.out.trans (B18.out.mono D17.out.size))
 clear hb18 B18 R17
 have hct := fun i => R18.out.cell i
 have hclt := R18.out.lt
 have HC := LH (specEffect te.code te.n te.m w18)
 rw [← hpe] at HC
 clear hpe
 go_wp2_with fail
 refine HC.out.mono ?_
 clear HC hct hclt
 rintro e w19 ⟨rfl, hb19⟩
 have hz19 := hb19.size
 have B19 := LH hb19
 have SF_19 := LH (SF_18.out.below B19.out B19.out.size)
 have O2_19 := LH (O2_18.out.below B19.out B19.out.size)
 clear SF_18 O2_18
 have D19 := LH (D18.out.trans (B19.out.mono D18.out.size))
 clear hb19 B19 R18
 go_wp2_with fail
 go_loopw [17] (fun i wr => ∃ (j : Nat), j ≤ d.length ∧ i = .int .i64 j ∧ Hid (Below w19.heap.size w19 wr)) (fun i _ => d.length - (intOf i).toNat)
 case atStart => exact ⟨0, by omega, by go_num, LH (Below.refl _ _)⟩
 case round =>
  obtain ⟨j, hj, rfl, HB⟩ := hrel
  have hsz := HB.out.size
  by_cases hlt : j < d.length
  ·
   have hji : (j : Int) < (d.length : Int) := by omega
   have dji : decide ((j : Int) < (d.length : Int)) = true := decide_eq_true hji
   obtain ⟨q, hq, hk2, hzq, himp⟩ := HPL.out j hlt
   subst hzq
   have SFr := LH (SF_19.out.below HB.out HB.out.size)
   obtain ⟨bf, of, Ap, cp, rfl, hSb, hf0, hf1, hat⟩ := GFun.elem SFr.out q hq
   have HFE := LH hat
   obtain ⟨bo, oo, rfl, hSo, ho0, ho1, ho2, hwo⟩ := GOp.elem hat.2 j hk2
   have hql : fs[q].list.length ≤ 9223372036854775807 := by simpa using hat.2.len
   obtain ⟨op, hop⟩ : ∃ p, p = (fs[q].list)[j] := ⟨_, rfl⟩
   rw [← hop] at ho0 ho1 ho2 himp
   obtain ⟨x, hx⟩ : ∃ x, x = d[j] := ⟨_, rfl⟩
   rw [← hx] at himp
   have HX := LH hx
   have HIM := LH himp
   have HC := LH (implEffect op.code op.n op.m wr)
   obtain ⟨pt, hpt⟩ : ∃ p, p = effI op.code op.m := ⟨_, rfl⟩
   rw [← hpt] at HC HIM
   have HPU := LH (effPuts op.code op.m)
   rw [← hpt] at HPU
   have hjo : (j : Int) < (fs[q].list.length : Int) := by omega
   have hqo : (q : Int) < (fs.length : Int) := by omega
   clear hat himp hop hx hpt hwo HFE SFr
   go_wp2_with fail
   refine HC.out.mono ?_
   clear HC
   rintro e w20 ⟨rfl, hb20⟩
   have hz20 := hb20.size
   have B20 := LH (HB.out.trans (hb20.mono hsz))
   have Or := LH (O2_19.out.below B20.out B20.out.size)
   obtain ⟨bv, ov, rfl, hSv, gv, _⟩ := int_elem Or.out j hlt
   rw [← HX.out] at gv
   clear hb20 Or HX ho0 ho1 ho2 hf0 hf1
   by_cases hneg : x < 0
   · have hn1 : ¬ 0 ≤ x := by omega
     have dn1 : decide (0 ≤ x) = false := decide_eq_false hn1
     go_wp2_with fail
     go_roundw
     case rel => exact ⟨j + 1, by omega, by go_num, B20⟩
     case measure => simp [intOf]; omega
   ·
    have hn1 : 0 ≤ x := by omega
    have dn1 : decide (0 ≤ x) = true := decide_eq_true hn1
    obtain ⟨hi1, hi2⟩ := HIM.out hn1
    obtain ⟨hp1, hp2⟩ := HPU.out
    have hle : ¬ x ≤ pt.1 := by omega
    have dle : decide (x ≤ pt.1) = false := decide_eq_false hle
    have hw1 : IntKind.i64.wrap (x - pt.1) = x - pt.1 := (IntWalk.i64_left _).trans (IntWalk.wrap64_in _ (by omega))
    have hw2 : IntKind.i64.wrap (x - pt.1 + pt.2) = x - pt.1 + pt.2 := (IntWalk.i64_left _).trans (IntWalk.wrap64_in _ (by omega))
    have hgt : ¬ 60 < x - pt.1 + pt.2 := by omega
    have dgt : decide (60 < x - pt.1 + pt.2) = false := decide_eq_false hgt
    go_wp2_with fail
    go_roundw
    case rel => exact ⟨j + 1, by omega, by go_num, B20⟩
    case measure => simp [intOf]; omega
  ·
   have hji : ¬ (j : Int) < (d.length : Int) := by omega
   have dji : decide ((j : Int) < (d.length : Int)) = false := decide_eq_false hji
   cases ok with
   | true =>
    go_wp2_with fail
    go_ret
    exact ⟨rfl, D19.out.trans (HB.out.mono D19.out.size)⟩
   | false =>
    have hd0 := HNO.out rfl
    have hdi : (d.length : Int) = 0 := by omega
    go_wp2_with fail
    go_ret
    exact ⟨rfl, D19.out.trans (HB.out.mono D19.out.size)⟩
end Go.Proofs.YtehpobojopmilaaGreat
namespace Go.Proofs.YtehpobojopmilaaGreat
set_option maxRecDepth 20000
set_option linter.unusedVariables false
set_option linter.unusedSimpArgs false
open Go.ChangeShapes Go.WideShapes Go.ChangeAt Go.RowKit
def kindsOf (P : Program) (fn : Func) (c : OpenClaim) : List (Option IntKind) := if c.domain.isEmpty then [] else fn.params.toList.map fun t => match P.underlying t with | some (.int k) => some k | _ => none
theorem joinedAnd {a b : Bool} (h : a = true) (h2 : b = true) : (a && b) = true := by rw [h, h2]; rfl
set_option maxRecDepth 10000 in
theorem joinedOf {P : Program} {f : FuncId} {fn : Func} {s : ChangeSpec} {c : OpenClaim} (h0 : (c.wf (OpenSpec.ofChange s)) = true) (h1 : (laidOutB P) = true) (h2 : (mapsRowed P) = true) (h3 : (fn.params.all (P.readableRec ·)) = true) (h4 : (namedTie P c.named s.vars) = true) (h5 : (c.stops == []) = true) (h6 : (P.stops == []) = true) (h7 : (c.knobs == []) = true) (h8 : (P.stopKnobs == []) = true) (h9 : (c.inPlace == P.inPlace f) = true) (h10 : (c.unfollowed == P.unfollowed f) = true) (h11 : (c.recurses == P.recurses f) = true) (h12 : (c.named == P.varsNamed f) = true) (h13 : (c.maps == (fn.params.toList ++ s.plain.varTypes P).any (P.mapsRec ·)) = true) (h14 : (c.ifaces == (fn.params.toList ++ s.plain.varTypes P).any (P.ifacesRec ·)) = true) (h15 : (c.mapsOut == P.mapsAmong fn.resultTypes.toList) = true) (h16 : (c.loops == (fn.params.toList ++ s.plain.varTypes P).any (P.loopsFrom ·)) = true) (h17 : (c.wideKeys == (fn.params.toList ++ s.plain.varTypes P ++ fn.resultTypes.toList).any (P.wideKeysFrom ·)) = true) (h18 : (s.vars.all (P.varReadable ·)) = true) (h19 : (fn.resultTypes.all (fun t => P.readableRec t && decide (t < P.types.size))) = true) (h20 : (c.ifacesOut == fn.resultTypes.toList.any (P.ifacesRec ·)) = true) (h21 : (c.loopsOut == fn.resultTypes.toList.any (P.loopsFrom ·)) = true) (h22 : (c.plainKeys == P.plainKeys) = true) (h23 : (c.shortTexts.isNone) = true) (h24 : (P.stopsHeard) = true) (h25 : (P.mayEnter) = true) (h26 : (c.lifted == P.liftsFinal) = true) (h27 : (P.make == some c.make) = true) (h28 : (c.kinds == kindsOf P fn c) = true) (h29 : (c.pinned == c.pinnedBy) = true) (h30 : (c.veiled == (fn.params.toList ++ s.plain.varTypes P ++ fn.resultTypes.toList).any (P.veiledRec ·)) = true) (h31 : (c.veiledFits P fn.params.toList (fn.params.toList ++ s.plain.varTypes P ++ fn.resultTypes.toList)) = true) : joinedFacts P f fn s c = true := by
 unfold joinedFacts
 exact (joinedAnd (joinedAnd (joinedAnd (joinedAnd (joinedAnd (joinedAnd (joinedAnd (joinedAnd (joinedAnd (joinedAnd (joinedAnd (joinedAnd (joinedAnd (joinedAnd (joinedAnd (joinedAnd (joinedAnd (joinedAnd (joinedAnd (joinedAnd (joinedAnd (joinedAnd (joinedAnd (joinedAnd (joinedAnd (joinedAnd (joinedAnd (joinedAnd (joinedAnd (joinedAnd (joinedAnd h0 h1) h2) h3) h4) h5) h6) h7) h8) h9) h10) h11) h12) h13) h14) h15) h16) h17) h18) h19) h20) h21) h22) h23) h24) h25) h26) h27) h28) h29) h30) h31)
end Go.Proofs.YtehpobojopmilaaGreat
