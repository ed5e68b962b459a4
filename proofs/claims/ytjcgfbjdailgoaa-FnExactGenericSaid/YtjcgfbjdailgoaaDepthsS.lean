/- Depths of the reference: its state in memory, l15Go, l15One. Conditions: none but what a Go value may be. -/
import Derived.Test.YtjcgfbjdailgoaaDepths
import Derived.Test.YtjcgfbjdailgoaaAppM
import Derived.BigQuiet
import Derived.IntWalk
import Derived.OwnWalk
import Derived.Deep.RegionLaw
namespace Go.Proofs.Ytjcgfbjdailgoaa
open Go.RowKit
set_option linter.unusedVariables false
set_option linter.unusedSimpArgs false
set_option maxHeartbeats 2000000

theorem GI.keep {w w' : World} {B : Nat} {e : TypeId} {v : Value} {n : Nat} {l : List Int} (h : Gre w B e 1 v n (l.map (D.num .i64))) (hk : ∀ b, v.ownBlock = some b → w'.heap[b]? = w.heap[b]?) : Gre w' B e 1 v n (l.map (D.num .i64)) := by
  obtain ⟨h1, cs, h2, h4⟩ := h
  refine ⟨h1, cs, ⟨h2.1, ?_⟩, rdC_num l cs h4⟩
  rcases h2.2 with h | ⟨g, cap, cur, rfl, a1, a2, a3⟩
  · exact .inl h
  · exact .inr ⟨g, cap, cur, rfl, a1, (hk g rfl).trans a2, a3⟩
theorem GI.setNe {w : World} {B : Nat} {e : TypeId} {v : Value} {n : Nat} {l : List Int} (h : Gre w B e 1 v n (l.map (D.num .i64))) {p : Addr} (hp : v.ownBlock ≠ some p.block) (u : Value) : Gre (w.setCell p u) B e 1 v n (l.map (D.num .i64)) :=
  GI.keep h fun b hb => Below.heap_setCell w p u b fun e => hp (by rw [hb, e])
theorem GI.grow {w w' : World} {B : Nat} {e : TypeId} {v v2 v2' : Value} {n : Nat} {l : List Int} (h : Gre w B e 1 v n (l.map (D.num .i64))) (hg : Gr w w' v2 v2') (hne : ∀ b, v.ownBlock = some b → v2.ownBlock ≠ some b) : Gre w' B e 1 v n (l.map (D.num .i64)) :=
  GI.keep h fun b hb => hg.grow.block b (h.own b hb).2 fun e => hne b hb e.symm
theorem rdC_intC {w : World} {S : Nat → Prop} : ∀ (l : List Int) (cs : List Value), rdC w 1 S (l.map (D.num .i64)) cs → cs = l.map (Value.int .i64)
  | [], cs, h => h
  | x :: r, cs, h => by
    simp only [List.map_cons, rdC] at h
    obtain ⟨c1, c2, rfl, hl, h1, h2⟩ := h
    rw [(D.rd_num.1 h1).1, rdC_intC r c2 h2]; rfl
theorem GI.form {w : World} {B : Nat} {e : TypeId} {A : Option Addr} {c n : Nat} {l : List Int} (h : Gre w B e 1 (.slice A n c) n (l.map (D.num .i64))) (k : Nat) (hk : k < l.length) :
    ∃ g, A = some ⟨g, 0, none⟩ ∧ w.cell? ⟨g, k, none⟩ = some (.int .i64 l[k]) ∧ (∀ q, w.frozen? ⟨g, q, none⟩ = false) ∧ n ≤ c ∧ c ≤ maxLen := by
  obtain ⟨h1, cs, h2, h4⟩ := h
  have hcs := rdC_intC l cs h4
  simp only [List.length_map] at h1
  rcases h2.2 with ⟨_, h⟩ | ⟨g, cap, cur, hv, a1, a2, a3, a4, a5, a6⟩
  · omega
  · simp only [Value.slice.injEq] at hv
    obtain ⟨rfl, _, rfl⟩ := hv
    refine ⟨g, rfl, ?_, fun q => Row.frozen (t := e) (cs := cur) a2 q, a3, a4⟩
    rw [Row.cell (t := e) (cs := cur) a2, ← Array.getElem?_toList]
    have : (cur.toList.take (n * 1))[k]? = some (.int .i64 l[k]) := by rw [a6, hcs]; simp [hk]
    rwa [List.getElem?_take_of_lt (by omega)] at this
theorem GI.set {w : World} {B : Nat} {e : TypeId} {g c n : Nat} {l : List Int} (h : Gre w B e 1 (.slice (some ⟨g, 0, none⟩) n c) n (l.map (D.num .i64))) (k : Nat) (hk : k < l.length) (d : Int) (hd : (Lit.int .i64 d).wf = true) :
    Gre (w.setCell ⟨g, k, none⟩ (.int .i64 d)) B e 1 (.slice (some ⟨g, 0, none⟩) n c) n ((l.set k d).map (D.num .i64)) := by
  obtain ⟨h1, cs, h2, h4⟩ := h
  have hcs := rdC_intC l cs h4
  simp only [List.length_map] at h1
  have hw : ∀ x ∈ l, (Lit.int .i64 x).wf = true := by
    clear hk h1 h2
    revert cs
    induction l with
    | nil => intro _ _ _ x hx; cases hx
    | cons y r ih =>
      intro cs h4 hcs x hx
      simp only [List.map_cons, rdC] at h4
      obtain ⟨c1, c2, e1, hl, k1, k2⟩ := h4
      rcases List.mem_cons.1 hx with rfl | hx
      · exact (D.rd_num.1 k1).2
      · exact ih c2 k2 (rdC_intC r c2 k2) x hx
  refine ⟨by simpa using h1, (l.set k d).map (Value.int .i64), ⟨by simp [h1], ?_⟩, rdC_int _ fun x hx => ?_⟩
  · rcases h2.2 with ⟨h, _⟩ | ⟨g', cap, cur, hv, a1, a2, a3, a4, a5, a6⟩
    · cases h
    · simp only [Value.slice.injEq, Option.some.injEq, Addr.mk.injEq, and_true, true_and] at hv
      obtain ⟨rfl, rfl⟩ := hv
      refine .inr ⟨g, c, cur.setIfInBounds k (.int .i64 d), rfl, a1, Row.set (t := e) (cs := cur) a2 k _, a3, a4, by simp [a5], ?_⟩
      rw [Array.toList_setIfInBounds, List.take_set, a6, hcs, List.map_set]
  · rcases List.mem_or_eq_of_mem_set hx with h | rfl
    · exact hw x h
    · exact hd
theorem GI.pop {w : World} {B : Nat} {e : TypeId} {A : Option Addr} {c n : Nat} {d : Int} {l : List Int} (h : Gre w B e 1 (.slice A (n + 1) c) (n + 1) ((l ++ [d]).map (D.num .i64))) (hB : B ≤ w.heap.size) : Gre w B e 1 (.slice A n c) n (l.map (D.num .i64)) := by
  obtain ⟨h1, cs, h2, h4⟩ := h
  have h5 := rdC_num (w' := w) (S' := Lt B) (l ++ [d]) cs h4
  rw [List.map_append] at h5
  have hg : Gsh w B e 1 (.slice A (n + 1) c) (n + 1) (l.map (D.num .i64) ++ [D.num .i64 d]) := ⟨by simpa using h1, cs, h2, h5⟩
  exact Gre.of_gsh (Gsh.pop hg) hB

/-- the state of the search lies in block gw -/
def WSt (w : World) (gw : Nat) (out : List Int) (todo : List Nat) (ok : Bool) : Prop :=
  ∃ A c A2 c2, Row w gw 147 #[.slice A out.length c, .slice A2 todo.length c2, .bool ok] ∧ Gre w (gw + 1) 3 1 (.slice A out.length c) out.length (out.map (D.num .i64)) ∧ Gre w (gw + 1) 3 1 (.slice A2 todo.length c2) todo.length ((tdI todo).map (D.num .i64)) ∧
    (∀ b, (Value.slice A out.length c).ownBlock = some b → (Value.slice A2 todo.length c2).ownBlock ≠ some b) ∧ gw + 1 ≤ w.heap.size
theorem WSt.below {w w' : World} {gw : Nat} {out : List Int} {todo : List Nat} {ok : Bool} (h : WSt w gw out todo ok) (hb : Below w.heap.size w w') : WSt w' gw out todo ok := by
  obtain ⟨A, c, A2, c2, h1, h2, h3, h4, h5⟩ := h
  exact ⟨A, c, A2, c2, h1.below hb h1.lt, h2.below hb, h3.below hb, h4, Nat.le_trans h5 hb.size⟩
/-- what l15Go does -/
def goS (out : List Int) (todo : List Nat) (ok : Bool) (q : Nat) (d : Int) : List Int × List Nat × Bool :=
  if out.length ≤ q ∨ 60 < d then (out, todo, false) else if out.getD q 0 < 0 then (out.set q d, todo ++ [q], ok) else if out.getD q 0 = d then (out, todo, ok) else (out, todo, false)
def WGo (w : World) (gw : Nat) (r : List Int × List Nat × Bool) (e : Ending) (w' : World) : Prop := e = .returned (.tuple #[]) ∧ WSt w' gw r.1 r.2.1 r.2.2 ∧ Below gw w w'
theorem bool_wf : True := trivial

set_option maxRecDepth 20000 in
theorem specGo (gw : Nat) (out : List Int) (todo : List Nat) (ok : Bool) (q : Nat) (d : Int) (w : World) (hq : q ≤ 1048576) (hd : 1 ≤ d ∧ d ≤ 1048576) (ht : todo.length ≤ 1048576) (hs : WSt w gw out todo ok) :
    Calls Try.prog 100 #[.pointer (some ⟨gw, 0, none⟩), .int .i64 (q : Int), .int .i64 d] w (WGo w gw (goS out todo ok q d)) := by
  obtain ⟨A, c, A2, c2, hr, ho, ht2, hne, hgs⟩ := hs
  have hol : out.length ≤ 9223372036854775807 := by
    obtain ⟨A', c', e', h⟩ := ho.sl
    simpa using h.len
  have R0 := Lib.hid hr
  have HO := Lib.hid ho
  have HT := Lib.hid ht2
  have HN := Lib.hid hne
  have hR := fun i => R0.out.cell i
  have hF := fun i => R0.out.frozen i
  clear hr ho ht2 hne
  -- a store of false into the state
  have HBAD := Lib.hid (show ∀ (h : goS out todo ok q d = (out, todo, false)), WGo w gw (goS out todo ok q d) (.returned (.tuple #[])) (w.setCell ⟨gw, 2, none⟩ (.bool false)) from fun h => by
    rw [h]
    refine ⟨rfl, ⟨A, c, A2, c2, ?_, GI.setNe HO.out (fun e => ?_) _, GI.setNe HT.out (fun e => ?_) _, HN.out, by simpa [World.setCell] using hgs⟩, (Below.refl _ _).setCell (p := ⟨gw, 2, none⟩) (Nat.le_refl _) _⟩
    · have := R0.out.set 2 (.bool false)
      simpa using this
    · have h2 := (HO.out.own _ e).1; change gw + 1 ≤ gw at h2; omega
    · have h2 := (HT.out.own _ e).1; change gw + 1 ≤ gw at h2; omega)
  by_cases g1 : out.length ≤ q
  · have HV := Lib.hid (HBAD.out (by unfold goS; rw [if_pos (.inl g1)]))
    have e1 : decide ((out.length : Int) ≤ (q : Int)) = true := decide_eq_true (by omega)
    go_enter Try.func100, Try.ntmps100
    go_wp2_with fail
    (try simp only [Exit.inBlock, Exit.then])
    first | refine bodyPost_ret (results_none rfl _ _ _) rfl ?_ | refine bodyPost_end (results_none rfl _ _ _) rfl ?_
    exact HV.out
  have e1 : decide ((out.length : Int) ≤ (q : Int)) = false := decide_eq_false (by omega)
  by_cases g2 : 60 < d
  · have HV := Lib.hid (HBAD.out (by unfold goS; rw [if_pos (.inr g2)]))
    have e2 : decide (60 < d) = true := decide_eq_true g2
    go_enter Try.func100, Try.ntmps100
    go_wp2_with fail
    (try simp only [Exit.inBlock, Exit.then])
    first | refine bodyPost_ret (results_none rfl _ _ _) rfl ?_ | refine bodyPost_end (results_none rfl _ _ _) rfl ?_
    exact HV.out
  have e2 : decide (60 < d) = false := decide_eq_false g2
  have hql : q < out.length := by omega
  obtain ⟨gd, rfl, xq, xf, hnc, hcm⟩ := GI.form HO.out q hql
  have hcm2 : c ≤ 9223372036854775807 := by unfold maxLen at hcm; omega
  have egd : out.getD q 0 = out[q] := by simp [List.getD, List.getElem?_eq_getElem hql]
  have HGS := Lib.hid (show goS out todo ok q d = if out[q] < 0 then (out.set q d, todo ++ [q], ok) else if out[q] = d then (out, todo, ok) else (out, todo, false) by unfold goS; rw [if_neg (by omega), egd])
  clear egd
  by_cases g3 : out[q] < 0
  · have e3 : decide (out[q] < 0) = true := decide_eq_true g3
    have HV := Lib.hid (HGS.out.trans (if_pos g3))
    have ess : (w.setCell ⟨gd, q, none⟩ (.int .i64 d)).heap.size = w.heap.size := by simp [World.setCell]
    have hgd := HO.out.own gd rfl
    have HO1 := Lib.hid (GI.set HO.out q hql d (wf_i64 (by omega) (by omega)))
    have HT1 := Lib.hid (GI.setNe (p := ⟨gd, q, none⟩) HT.out (HN.out gd rfl) (.int .i64 d))
    have R1 := Lib.hid (R0.out.far (p := ⟨gd, q, none⟩) (by simp; omega) (.int .i64 d))
    have hR1 := fun i => R1.out.cell i
    have hF1 := fun i => R1.out.frozen i
    obtain ⟨w1, hw1⟩ : ∃ w1, w1 = w.setCell ⟨gd, q, none⟩ (.int .i64 d) := ⟨_, rfl⟩
    have BW := Lib.hid (show Below gw w w1 by rw [hw1]; exact (Below.refl _ _).setCell (p := ⟨gd, q, none⟩) (by simp; omega) _)
    rw [← hw1] at HO1 HT1 R1 hR1 hF1 ess
    have E2 := Lib.hid (show Below w1.heap.size w1 (w1.alloc (.cells #[.int .i64 (q : Int)] 3)) from (Below.refl _ _).alloc (Nat.le_refl _) _)
    have HT2 := Lib.hid (HT1.out.below E2.out)
    have HO2 := Lib.hid (HO1.out.below E2.out)
    have R2 := Lib.hid (R1.out.below E2.out R1.out.lt)
    have HSL := Lib.hid (show Sl (w1.alloc (.cells #[.int .i64 (q : Int)] 3)) (fun b => b < (w1.alloc (.cells #[.int .i64 (q : Int)] 3)).heap.size ∧ (Value.slice A2 todo.length c2).ownBlock ≠ some b) 1 (some ⟨w1.heap.size, 0, none⟩) 1 ([(q : Int)].map (D.num .i64)) from
      (rowI_osl (B := w1.heap.size) (Row.new' (w1) 3 (rowI [(q : Int)]) rfl) (Nat.le_refl _) (by simp [maxLen]) (by intro x hx; simp at hx; rw [hx]; exact wf_i64 (by omega) (by omega))).sl.keep fun b hb => ⟨⟨hb.2, fun e => by have := (HT1.out.own b e).2; have := hb.1; omega⟩, rfl⟩)
    clear g3
    subst hw1
    rw [ess] at HSL
    go_enter Try.func100, Try.ntmps100
    go_wp2_with (first | (at_builtin; refine wpList_append_M ((w.setCell ⟨gd, q, none⟩ (.int .i64 d)).alloc (.cells #[.int .i64 (q : Int)] 3)) rfl (.tmp 39) (.tmp 41) 25 rfl 3 (.int .i64 0) 1 8 Try.underlying25 (by kernel_rfl) rfl (by omega) (gw + 1) (.slice A2 todo.length c2) todo.length _ HT2.out (some ⟨w.heap.size, 0, none⟩) 1 1 _ rfl HSL.out (by simp; omega) (by unfold maxLen; omega) (by omega) rfl rfl ?_; intro A3 c3 w3 G3 hGr3; have R3 := Lib.hid (hGr3.row R2.out (fun e => by have := (HT2.out.own _ e).1; omega)); have hR3 := fun i => R3.out.cell i; have hF3 := fun i => R3.out.frozen i; have G3h := Lib.hid G3; have GR3 := Lib.hid hGr3; clear G3 hGr3))
    (try simp only [Exit.inBlock, Exit.then])
    first | refine bodyPost_ret (results_none rfl _ _ _) rfl ?_ | refine bodyPost_end (results_none rfl _ _ _) rfl ?_
    rw [HV.out]
    refine ⟨rfl, ⟨some ⟨gd, 0, none⟩, c, A3, c3, ?_, ?_, ?_, ?_, ?_⟩, ?_⟩
    · have h := R3.out.set 1 (.slice A3 (todo.length + 1) c3)
      simpa using h
    · have h := GI.setNe (p := ⟨gw, 1, none⟩) (GI.grow HO2.out GR3.out HN.out) (fun e => by have h2 := (HO2.out.own _ e).1; change gw + 1 ≤ gw at h2; omega) (.slice A3 (todo.length + 1) c3)
      simpa using h
    · have h := GI.setNe (p := ⟨gw, 1, none⟩) (l := tdI (todo ++ [q])) (by rw [tdI_snoc]; exact G3h.out) (fun e => by have h2 := (G3h.out.own _ e).1; change gw + 1 ≤ gw at h2; omega) (.slice A3 (todo.length + 1) c3)
      simpa using h
    · intro b hb
      have h := GR3.out.ne (HN.out b hb) ((HO2.out.own b hb).2)
      simpa using h
    · have := GR3.out.size
      have h2 := E2.out.size
      simp only [World.setCell, Array.size_modify] at *
      omega
    · refine (BW.out.trans ((E2.out.mono ?_).trans (GR3.out.below ?_ (fun gg hg => by have := (HT2.out.own gg hg).1; omega)))).setCell (p := ⟨gw, 1, none⟩) (Nat.le_refl _) _
      · rw [ess]; omega
      · have := E2.out.size; rw [ess] at this; omega
  · have e3 : decide (out[q] < 0) = false := decide_eq_false g3
    by_cases g4 : out[q] = d
    · have e4 : (out[q] != d) = false := by rw [bne_eq_false_iff_eq]; exact g4
      have HV := Lib.hid (HGS.out.trans ((if_neg g3).trans (if_pos g4)))
      clear g3 g4
      go_enter Try.func100, Try.ntmps100
      go_wp2_with fail
      (try simp only [Exit.inBlock, Exit.then])
      first | refine bodyPost_ret (results_none rfl _ _ _) rfl ?_ | refine bodyPost_end (results_none rfl _ _ _) rfl ?_
      rw [HV.out]
      exact ⟨rfl, ⟨_, c, A2, c2, R0.out, HO.out, HT.out, HN.out, hgs⟩, Below.refl _ _⟩
    · have e4 : (out[q] != d) = true := by rw [bne_iff_ne]; exact g4
      have HV := Lib.hid (HBAD.out (HGS.out.trans ((if_neg g3).trans (if_neg g4))))
      clear g3 g4
      go_enter Try.func100, Try.ntmps100
      go_wp2_with fail
      (try simp only [Exit.inBlock, Exit.then])
      first | refine bodyPost_ret (results_none rfl _ _ _) rfl ?_ | refine bodyPost_end (results_none rfl _ _ _) rfl ?_
      exact HV.out


theorem goS_len (out : List Int) (todo : List Nat) (ok : Bool) (q : Nat) (d : Int) : (goS out todo ok q d).1.length = out.length ∧ (goS out todo ok q d).2.1.length ≤ todo.length + 1 := by
  unfold goS; split
  · simp
  · split
    · simp
    · split <;> simp
theorem goS_false (out : List Int) (todo : List Nat) (q : Nat) (d : Int) : (goS out todo false q d).2.2 = false := by
  unfold goS; split
  · rfl
  · split
    · rfl
    · split <;> rfl
theorem goS_big {out : List Int} {todo : List Nat} {ok : Bool} {q : Nat} {d : Int} (h : 60 < d) : goS out todo ok q d = (out, todo, false) := by unfold goS; rw [if_pos (.inr h)]
theorem goS_step {ops : List GOp} {out : List Int} {todo : List Nat} {q : Nat} {d' : Int} {don : Int → Prop} (h : PInv ops out todo q d' don) {p : Nat} (hp : (p : Int) ∈ nextI (ops[q]'h.hq) q) (hl : p < out.length) :
    ((goS out todo true p d').2.2 = true → PInv ops (goS out todo true p d').1 (goS out todo true p d').2.1 q d' (fun x => don x ∨ x = p) ∧ 2 * negs (goS out todo true p d').1 + (goS out todo true p d').2.1.length ≤ 2 * negs out + todo.length) ∧
    ((goS out todo true p d').2.2 = false → Bad ops) := by
  have hr := h.rng
  have eg : out.getD p 0 = out[p] := by simp [List.getD, List.getElem?_eq_getElem hl]
  have e : goS out todo true p d' = if out[p] < 0 then (out.set p d', todo ++ [p], true) else if out[p] = d' then (out, todo, true) else (out, todo, false) := by
    unfold goS; rw [if_neg (by omega), eg]
  by_cases h1 : out[p] < 0
  · rw [e, if_pos h1]
    have h2 : out[p] = -1 := by rcases h.base.val p hl with h2 | ⟨h2, _, _⟩; exact h2; omega
    have h3 := negs_set (d := d') hl h2 (by omega)
    exact ⟨fun _ => ⟨h.set hp hl h2, by simp only [List.length_append, List.length_singleton]; omega⟩, fun h => by cases h⟩
  · have h4 : ¬ out[p] = -1 := by omega
    by_cases h2 : out[p] = d'
    · rw [e, if_neg h1, if_pos h2]
      exact ⟨fun _ => ⟨h.same hl h2, Nat.le_refl _⟩, fun h => by cases h⟩
    · rw [e, if_neg h1, if_neg h2]
      exact ⟨fun h => (by cases h), fun _ => h.bad hp hl h4 h2⟩

/-- what l15One leaves: the search goes on, or something is wrong -/
def OneR (ops : List GOp) (M : Nat) (r : List Int × List Nat × Bool) : Prop := (r.2.2 = true → SInv ops r.1 r.2.1 (fun _ => False) ∧ 2 * negs r.1 + r.2.1.length < M) ∧ (r.2.2 = false → Bad ops) ∧ r.1.length = ops.length
theorem one0 {ops : List GOp} {out : List Int} {ts : List Nat} {q : Nat} {d' : Int} (h : SInv ops out (ts ++ [q]) (fun _ => False)) (hq : q < ops.length) (h' : q < out.length) (hn : nextI ops[q] q = []) (ha : afterI ops[q] out[q] = some d') : OneR ops (2 * negs out + ts.length + 1) (out, ts, true) :=
  ⟨fun _ => ⟨(h.pop h' hq ha).end (by rw [hn]; simp), Nat.lt_succ_self _⟩, fun h => by simp at h, h.len⟩
theorem oneBad {ops : List GOp} {out : List Int} {ts : List Nat} {q : Nat} {M : Nat} (h : SInv ops out (ts ++ [q]) (fun _ => False)) (hq : q < ops.length) (h' : q < out.length) (ha : afterI ops[q] out[q] = none) : OneR ops M (out, ts, false) :=
  ⟨fun h => by simp at h, fun _ => h.bad h' hq ha, h.len⟩
theorem one1 {ops : List GOp} {out : List Int} {ts : List Nat} {q : Nat} {nx : Int} (h : SInv ops out (ts ++ [q]) (fun _ => False)) (hJ : JumpsIn ops) (hq : q < ops.length) (h' : q < out.length) (p : Nat) (hn : nextI ops[q] q = [(p : Int)]) (ha : afterI ops[q] out[q] = if 60 < nx then none else some nx) :
    OneR ops (2 * negs out + ts.length + 1) (goS out ts true p nx) := by
  by_cases hb : 60 < nx
  · rw [goS_big hb]; rw [if_pos hb] at ha; exact oneBad h hq h' ha
  · rw [if_neg hb] at ha
    have hp := h.pop h' hq ha
    have hm : (p : Int) ∈ nextI ops[q] q := by rw [hn]; simp
    have hpl := hJ.2 q hq _ hm
    have hs := goS_step hp hm (by have := h.len; omega)
    refine ⟨fun e => ?_, hs.2, by rw [(goS_len _ _ _ _ _).1]; exact h.len⟩
    obtain ⟨a, b⟩ := hs.1 e
    exact ⟨a.end (by rw [hn]; simp), by omega⟩
theorem one2 {ops : List GOp} {out : List Int} {ts : List Nat} {q : Nat} {nx : Int} (h : SInv ops out (ts ++ [q]) (fun _ => False)) (hJ : JumpsIn ops) (hq : q < ops.length) (h' : q < out.length) (p : Nat) (hn : nextI ops[q] q = [((q + 1 : Nat) : Int), (p : Int)]) (ha : afterI ops[q] out[q] = if 60 < nx then none else some nx) :
    OneR ops (2 * negs out + ts.length + 1) (goS (goS out ts true p nx).1 (goS out ts true p nx).2.1 (goS out ts true p nx).2.2 (q + 1) nx) := by
  by_cases hb : 60 < nx
  · rw [goS_big hb, goS_big hb]; rw [if_pos hb] at ha; exact oneBad h hq h' ha
  · rw [if_neg hb] at ha
    have hp := h.pop h' hq ha
    have hm : (p : Int) ∈ nextI ops[q] q := by rw [hn]; simp
    have hm1 : ((q + 1 : Nat) : Int) ∈ nextI ops[q] q := by rw [hn]; simp
    have hpl := hJ.2 q hq _ hm
    have hpl1 := hJ.2 q hq _ hm1
    have hs := goS_step hp hm (by have := h.len; omega)
    have hl1 := (goS_len out ts true p nx).1
    cases he : (goS out ts true p nx).2.2 with
    | false =>
      refine ⟨fun e => ?_, fun _ => hs.2 he, by rw [(goS_len _ _ _ _ _).1, hl1]; exact h.len⟩
      rw [goS_false] at e; cases e
    | true =>
      obtain ⟨a, b⟩ := hs.1 he
      have hs2 := goS_step a hm1 (by have := h.len; omega)
      refine ⟨fun e => ?_, hs2.2, by rw [(goS_len _ _ _ _ _).1, hl1]; exact h.len⟩
      obtain ⟨a2, b2⟩ := hs2.1 e
      exact ⟨a2.end (by rw [hn]; simp), by omega⟩

def WOne (ops : List GOp) (M : Nat) (w : World) (gw : Nat) (e : Ending) (w' : World) : Prop := e = .returned (.tuple #[]) ∧ ∃ r : List Int × List Nat × Bool, WSt w' gw r.1 r.2.1 r.2.2 ∧ OneR ops M r ∧ Below gw w w'

set_option maxRecDepth 20000 in
theorem specOne (gw : Nat) (ops : List GOp) (A1 : Option Addr) (c1 : Nat) (out : List Int) (ts : List Nat) (q : Nat) (w : World) (hJ : JumpsIn ops) (hE : EffIn ops) (hol : ops.length ≤ 3000) (hts : ts.length ≤ 6002) (hI : SInv ops out (ts ++ [q]) (fun _ => False)) (hl : Sl w (Lt gw) 3 A1 c1 (ops.map GOp.toD)) (hs : WSt w gw out ts true) :
    Calls Try.prog 101 #[.pointer (some ⟨gw, 0, none⟩), .slice A1 ops.length c1, .int .i64 (q : Int)] w (WOne ops (2 * negs out + ts.length + 1) w gw) := by
  obtain ⟨hq', hne⟩ := hI.stk q (by simp)
  have hq : q < ops.length := by have := hI.len; omega
  have hrg := hI.rng hq' hne
  have HI := Lib.hid hI
  have HS := Lib.hid hs
  obtain ⟨A, c, A2, c2, hr, ho, ht2, hnn, hgs⟩ := hs
  obtain ⟨bo, oo, rfl, hSb, k0, k1, k2, kat⟩ := GOp.elem hl q hq
  obtain ⟨gd, rfl, xq, xf, hnc, hcm⟩ := GI.form ho q hq'
  have hcm2 : c ≤ 9223372036854775807 := by unfold maxLen at hcm; omega
  have hbo : bo < w.heap.size := Nat.lt_of_lt_of_le hSb (by omega)
  obtain ⟨o, ho'⟩ : ∃ o, o = ops[q] := ⟨_, rfl⟩
  obtain ⟨d, hd'⟩ : ∃ d, d = out[q] := ⟨_, rfl⟩
  have HB := Lib.hid (show afterI ops[q] out[q] = none → OneR ops (2 * negs out + ts.length + 1) (out, ts, false) from oneBad hI hq hq')
  have HZ := Lib.hid (fun (x : Int) => one0 (d' := x) hI hq hq')
  have H1 := Lib.hid (fun (x : Int) => one1 (nx := x) hI hJ hq hq')
  have H2 := Lib.hid (fun (x : Int) => one2 (nx := x) hI hJ hq hq')
  have HJ := Lib.hid (hJ.2 q hq)
  have heff := hE q hq
  rw [← ho', ← hd'] at HB
  rw [← ho', ← hd'] at HZ H1 H2
  rw [← ho'] at HJ heff k0 k1 k2 kat
  rw [← hd'] at xq hrg
  have HA := Lib.hid (show afterI o d = if d - 1 < (effI o.code o.m).1 ∨ (o.code = 2 ∧ d ≤ o.n) ∨ 60 < d - (effI o.code o.m).1 + (effI o.code o.m).2 ∨ (o.code = 7 ∧ ¬ d = 2) then none else some (d - (effI o.code o.m).1 + (effI o.code o.m).2) from rfl)
  have HN := Lib.hid (show nextI o q = if o.code = 7 ∨ o.code = 21 then [] else if o.code = 19 then [o.n] else if o.code = 10 ∨ o.code = 11 then [((q + 1 : Nat) : Int), o.m] else if o.code = 18 then [((q + 1 : Nat) : Int), o.n] else [((q + 1 : Nat) : Int)] from rfl)
  have hol2 : out.length ≤ 3000 := by have := hI.len; omega
  have E0 := Lib.hid (show Below w.heap.size w (w.alloc (.cells #[.int .i64 o.code, .int .i64 o.n, .int .i64 o.m] 153)) from (Below.refl _ _).alloc (Nat.le_refl _) _)
  have RB0 := Lib.hid (Row.new w 153 #[.int .i64 o.code, .int .i64 o.n, .int .i64 o.m])
  have RG0 := Lib.hid (hr.alloc (.cells #[.int .i64 o.code, .int .i64 o.n, .int .i64 o.m] 153))
  have hRG := fun i => RG0.out.cell i
  have xq2 := (E0.out.cell (p := ⟨gd, q, none⟩) (ho.own gd rfl).2).trans xq
  have HS1 := Lib.hid (HS.out.below E0.out)
  have HW := Lib.hid kat
  clear hr ho ht2 hnn hl kat HS hI hJ hE xq xf ho' hd' hne
  go_enter Try.func101, Try.ntmps101
  go_wp2_with fail
  refine (specEffect o.code o.n o.m _).mono ?_
  rintro e w1 ⟨rfl, hb1⟩
  have B1 := Lib.hid (E0.out.trans (hb1.mono E0.out.size))
  have R1 := Lib.hid (RB0.out.below hb1 RB0.out.lt)
  have RG1 := Lib.hid (RG0.out.below hb1 RG0.out.lt)
  have HS2 := Lib.hid (HS1.out.below hb1)
  have hR := fun i => R1.out.cell i
  have hG := fun i => RG1.out.cell i
  have hGf := fun i => RG1.out.frozen i
  have HBAD := Lib.hid (show OneR ops (2 * negs out + ts.length + 1) (out, ts, false) → WOne ops (2 * negs out + ts.length + 1) w gw (.returned (.tuple #[])) (w1.setCell ⟨gw, 2, none⟩ (.bool false)) from fun h => by
    obtain ⟨A, c, A2, c2, h1, h2, h3, h4, h5⟩ := HS2.out
    refine ⟨rfl, (out, ts, false), ⟨A, c, A2, c2, ?_, GI.setNe h2 (fun e => ?_) _, GI.setNe h3 (fun e => ?_) _, h4, by simpa [World.setCell] using h5⟩, h, (show Below gw w w1 from B1.out.mono (by omega)).setCell (p := ⟨gw, 2, none⟩) (Nat.le_refl _) _⟩
    · have := h1.set 2 (.bool false)
      simpa using this
    · have h6 := (h2.own _ e).1; change gw + 1 ≤ gw at h6; omega
    · have h6 := (h3.own _ e).1; change gw + 1 ≤ gw at h6; omega)
  have HSM := Lib.hid (show o.code = 7 ∨ o.code = 21 → ¬ 60 < d - (effI o.code o.m).1 + (effI o.code o.m).2 from fun h => by rcases h with h | h <;> (rw [h]; simp [effI]; omega))
  generalize (effI o.code o.m).1 = T at *
  generalize (effI o.code o.m).2 = U at *
  clear hb1 hRG xq2 k0 k1 k2

  by_cases g1 : d - 1 < T
  · have e1 := decide_eq_true g1
    have HV := Lib.hid (HBAD.out (HB.out (HA.out.trans (if_pos (by omega)))))
    try clear g1
    try clear g2
    try clear g3
    try clear g4
    try clear g5
    try clear g6
    go_wp2_with fail
    (try simp only [Exit.inBlock, Exit.then])
    first | refine bodyPost_ret (results_none rfl _ _ _) rfl ?_ | refine bodyPost_end (results_none rfl _ _ _) rfl ?_
    exact HV.out
  · have e1 := decide_eq_false g1
    by_cases g2 : o.code = 2
    · have e2 : (o.code == 2) = true := by rw [beq_iff_eq]; exact g2
      by_cases g3 : d ≤ o.n
      · have e3 := decide_eq_true g3
        have HV := Lib.hid (HBAD.out (HB.out (HA.out.trans (if_pos (by omega)))))
        try clear g1
        try clear g2
        try clear g3
        try clear g4
        try clear g5
        try clear g6
        go_wp2_with fail
        (try simp only [Exit.inBlock, Exit.then])
        first | refine bodyPost_ret (results_none rfl _ _ _) rfl ?_ | refine bodyPost_end (results_none rfl _ _ _) rfl ?_
        exact HV.out
      · have e3 := decide_eq_false g3
        have g5 : ¬ o.code = 7 := by omega
        have e5 : (o.code == 7) = false := by rw [beq_eq_false_iff_ne]; exact g5
        have HX := Lib.hid (show afterI o d = if 60 < d - T + U then none else some (d - T + U) by rw [HA.out]; by_cases h6 : 60 < d - T + U; rw [if_pos (by omega), if_pos h6]; rw [if_neg (by omega), if_neg h6])
        have hnx : 1 ≤ d - T + U ∧ d - T + U ≤ 1048576 := by omega
        have q7 : ¬ o.code = 7 := by omega
        have f7 : (o.code == 7) = false := by rw [beq_eq_false_iff_ne]; exact q7
        have q21 : ¬ o.code = 21 := by omega
        have f21 : (o.code == 21) = false := by rw [beq_eq_false_iff_ne]; exact q21
        have q19 : ¬ o.code = 19 := by omega
        have f19 : (o.code == 19) = false := by rw [beq_eq_false_iff_ne]; exact q19
        have q18 : ¬ o.code = 18 := by omega
        have f18 : (o.code == 18) = false := by rw [beq_eq_false_iff_ne]; exact q18
        have q10 : ¬ o.code = 10 := by omega
        have f10 : (o.code == 10) = false := by rw [beq_eq_false_iff_ne]; exact q10
        have q11 : ¬ o.code = 11 := by omega
        have f11 : (o.code == 11) = false := by rw [beq_eq_false_iff_ne]; exact q11
        have HNX := Lib.hid (show nextI o q = [((q + 1 : Nat) : Int)] by rw [HN.out]; simp [q7, q21, q19, q18, q10, q11])
        have HF := Lib.hid (H1.out (d - T + U) (q + 1) HNX.out HX.out)
        try clear g1
        try clear g2
        try clear g3
        try clear g4
        try clear g5
        try clear g6
        try clear q7
        try clear q21
        try clear q19
        try clear q18
        try clear q10
        try clear q11
        go_wp2_with fail
        refine (specGo gw out ts true (q + 1) (d - T + U) w1 (by omega) hnx (by omega) HS2.out).mono ?_
        rintro e w2 ⟨rfl, hS3, hb2⟩
        go_wp2_with fail
        (try simp only [Exit.inBlock, Exit.then])
        first | refine bodyPost_ret (results_none rfl _ _ _) rfl ?_ | refine bodyPost_end (results_none rfl _ _ _) rfl ?_
        exact ⟨rfl, _, hS3, HF.out, (B1.out.mono (by omega)).trans hb2⟩
    · have e2 : (o.code == 2) = false := by rw [beq_eq_false_iff_ne]; exact g2
      by_cases g5 : o.code = 7
      · have e5 : (o.code == 7) = true := by rw [beq_iff_eq]; exact g5
        by_cases g6 : d = 2
        · have e6 : (d != 2) = false := by rw [bne_eq_false_iff_eq]; exact g6
          have HX := Lib.hid (show afterI o d = if 60 < d - T + U then none else some (d - T + U) by rw [HA.out]; by_cases h6 : 60 < d - T + U; rw [if_pos (by omega), if_pos h6]; rw [if_neg (by omega), if_neg h6])
          have hnx : 1 ≤ d - T + U ∧ d - T + U ≤ 1048576 := by omega
          have q7 := g5
          have f7 := e5
          have HF := Lib.hid (HZ.out (d - T + U) (by rw [HN.out]; simp [q7]) (by rw [HX.out, if_neg (HSM.out (.inl q7))]))
          try clear g1
          try clear g2
          try clear g3
          try clear g4
          try clear g5
          try clear g6
          try clear q7
          try clear q21
          try clear q19
          try clear q18
          try clear q10
          try clear q11
          go_wp2_with fail
          (try simp only [Exit.inBlock, Exit.then])
          first | refine bodyPost_ret (results_none rfl _ _ _) rfl ?_ | refine bodyPost_end (results_none rfl _ _ _) rfl ?_
          exact ⟨rfl, (out, ts, true), HS2.out, HF.out, B1.out.mono (by omega)⟩
        · have e6 : (d != 2) = true := by rw [bne_iff_ne]; exact g6
          have HV := Lib.hid (HBAD.out (HB.out (HA.out.trans (if_pos (by omega)))))
          try clear g1
          try clear g2
          try clear g3
          try clear g4
          try clear g5
          try clear g6
          go_wp2_with fail
          (try simp only [Exit.inBlock, Exit.then])
          first | refine bodyPost_ret (results_none rfl _ _ _) rfl ?_ | refine bodyPost_end (results_none rfl _ _ _) rfl ?_
          exact HV.out
      · have e5 : (o.code == 7) = false := by rw [beq_eq_false_iff_ne]; exact g5
        have HX := Lib.hid (show afterI o d = if 60 < d - T + U then none else some (d - T + U) by rw [HA.out]; by_cases h6 : 60 < d - T + U; rw [if_pos (by omega), if_pos h6]; rw [if_neg (by omega), if_neg h6])
        have hnx : 1 ≤ d - T + U ∧ d - T + U ≤ 1048576 := by omega
        have q7 := g5
        have f7 := e5
        by_cases q21 : o.code = 21
        · have f21 : (o.code == 21) = true := by rw [beq_iff_eq]; exact q21
          have HF := Lib.hid (HZ.out (d - T + U) (by rw [HN.out]; simp [q7, q21]) (by rw [HX.out, if_neg (HSM.out (.inr q21))]))
          try clear g1
          try clear g2
          try clear g3
          try clear g4
          try clear g5
          try clear g6
          try clear q7
          try clear q21
          try clear q19
          try clear q18
          try clear q10
          try clear q11
          go_wp2_with fail
          (try simp only [Exit.inBlock, Exit.then])
          first | refine bodyPost_ret (results_none rfl _ _ _) rfl ?_ | refine bodyPost_end (results_none rfl _ _ _) rfl ?_
          exact ⟨rfl, (out, ts, true), HS2.out, HF.out, B1.out.mono (by omega)⟩
        have f21 : (o.code == 21) = false := by rw [beq_eq_false_iff_ne]; exact q21
        by_cases q19 : o.code = 19
        · have f19 : (o.code == 19) = true := by rw [beq_iff_eq]; exact q19
          have HNX := Lib.hid (show nextI o q = [o.n] by rw [HN.out]; simp [q7, q21, q19])
          obtain ⟨p, hp⟩ : ∃ p : Nat, o.n = (p : Int) := ⟨o.n.toNat, by have := HJ.out o.n (by rw [HNX.out]; simp); omega⟩
          have hpl : p ≤ 1048576 := by have := HJ.out o.n (by rw [HNX.out]; simp); omega
          rw [hp] at HNX
          have HF := Lib.hid (H1.out (d - T + U) p HNX.out HX.out)
          try clear g1
          try clear g2
          try clear g3
          try clear g4
          try clear g5
          try clear g6
          try clear q7
          try clear q21
          try clear q19
          try clear q18
          try clear q10
          try clear q11
          rw [hp] at hR
          clear hp
          go_wp2_with fail
          refine (specGo gw out ts true p (d - T + U) w1 hpl hnx (by omega) HS2.out).mono ?_
          rintro e w2 ⟨rfl, hS3, hb2⟩
          have HS3 := Lib.hid hS3
          have B2 := Lib.hid ((B1.out.mono (by omega)).trans hb2)
          clear hS3 hb2
          go_wp2_with fail
          (try simp only [Exit.inBlock, Exit.then])
          first | refine bodyPost_ret (results_none rfl _ _ _) rfl ?_ | refine bodyPost_end (results_none rfl _ _ _) rfl ?_
          exact ⟨rfl, _, HS3.out, HF.out, B2.out⟩
        have f19 : (o.code == 19) = false := by rw [beq_eq_false_iff_ne]; exact q19
        by_cases q18 : o.code = 18
        · have f18 : (o.code == 18) = true := by rw [beq_iff_eq]; exact q18
          have HNX := Lib.hid (show nextI o q = [((q + 1 : Nat) : Int), o.n] by rw [HN.out]; simp [q7, q21, q19, q18])
          obtain ⟨p, hp⟩ : ∃ p : Nat, o.n = (p : Int) := ⟨o.n.toNat, by have := HJ.out o.n (by rw [HNX.out]; simp); omega⟩
          have hpl : p ≤ 1048576 := by have := HJ.out o.n (by rw [HNX.out]; simp); omega
          rw [hp] at HNX
          have HF := Lib.hid (H2.out (d - T + U) p HNX.out HX.out)
          try clear g1
          try clear g2
          try clear g3
          try clear g4
          try clear g5
          try clear g6
          try clear q7
          try clear q21
          try clear q19
          try clear q18
          try clear q10
          try clear q11
          rw [hp] at hR
          clear hp
          go_wp2_with fail
          refine (specGo gw out ts true p (d - T + U) w1 hpl hnx (by omega) HS2.out).mono ?_
          rintro e w2 ⟨rfl, hS3, hb2⟩
          have HS3 := Lib.hid hS3
          have B2 := Lib.hid ((B1.out.mono (by omega)).trans hb2)
          clear hS3 hb2
          go_wp2_with fail
          have hlt2 := (goS_len out ts true p (d - T + U)).2
          refine (specGo gw _ _ _ (q + 1) (d - T + U) w2 (by omega) hnx (by omega) HS3.out).mono ?_
          rintro e w3 ⟨rfl, hS4, hb3⟩
          go_wp2_with fail
          (try simp only [Exit.inBlock, Exit.then])
          first | refine bodyPost_ret (results_none rfl _ _ _) rfl ?_ | refine bodyPost_end (results_none rfl _ _ _) rfl ?_
          exact ⟨rfl, _, hS4, HF.out, B2.out.trans hb3⟩
        have f18 : (o.code == 18) = false := by rw [beq_eq_false_iff_ne]; exact q18
        by_cases q10 : o.code = 10
        · have f10 : (o.code == 10) = true := by rw [beq_iff_eq]; exact q10
          have HNX := Lib.hid (show nextI o q = [((q + 1 : Nat) : Int), o.m] by rw [HN.out]; simp [q7, q21, q19, q18, q10])
          obtain ⟨p, hp⟩ : ∃ p : Nat, o.m = (p : Int) := ⟨o.m.toNat, by have := HJ.out o.m (by rw [HNX.out]; simp); omega⟩
          have hpl : p ≤ 1048576 := by have := HJ.out o.m (by rw [HNX.out]; simp); omega
          rw [hp] at HNX
          have HF := Lib.hid (H2.out (d - T + U) p HNX.out HX.out)
          try clear g1
          try clear g2
          try clear g3
          try clear g4
          try clear g5
          try clear g6
          try clear q7
          try clear q21
          try clear q19
          try clear q18
          try clear q10
          try clear q11
          rw [hp] at hR
          clear hp
          go_wp2_with fail
          refine (specGo gw out ts true p (d - T + U) w1 hpl hnx (by omega) HS2.out).mono ?_
          rintro e w2 ⟨rfl, hS3, hb2⟩
          have HS3 := Lib.hid hS3
          have B2 := Lib.hid ((B1.out.mono (by omega)).trans hb2)
          clear hS3 hb2
          go_wp2_with fail
          have hlt2 := (goS_len out ts true p (d - T + U)).2
          refine (specGo gw _ _ _ (q + 1) (d - T + U) w2 (by omega) hnx (by omega) HS3.out).mono ?_
          rintro e w3 ⟨rfl, hS4, hb3⟩
          go_wp2_with fail
          (try simp only [Exit.inBlock, Exit.then])
          first | refine bodyPost_ret (results_none rfl _ _ _) rfl ?_ | refine bodyPost_end (results_none rfl _ _ _) rfl ?_
          exact ⟨rfl, _, hS4, HF.out, B2.out.trans hb3⟩
        have f10 : (o.code == 10) = false := by rw [beq_eq_false_iff_ne]; exact q10
        by_cases q11 : o.code = 11
        · have f11 : (o.code == 11) = true := by rw [beq_iff_eq]; exact q11
          have HNX := Lib.hid (show nextI o q = [((q + 1 : Nat) : Int), o.m] by rw [HN.out]; simp [q7, q21, q19, q18, q10, q11])
          obtain ⟨p, hp⟩ : ∃ p : Nat, o.m = (p : Int) := ⟨o.m.toNat, by have := HJ.out o.m (by rw [HNX.out]; simp); omega⟩
          have hpl : p ≤ 1048576 := by have := HJ.out o.m (by rw [HNX.out]; simp); omega
          rw [hp] at HNX
          have HF := Lib.hid (H2.out (d - T + U) p HNX.out HX.out)
          try clear g1
          try clear g2
          try clear g3
          try clear g4
          try clear g5
          try clear g6
          try clear q7
          try clear q21
          try clear q19
          try clear q18
          try clear q10
          try clear q11
          rw [hp] at hR
          clear hp
          go_wp2_with fail
          refine (specGo gw out ts true p (d - T + U) w1 hpl hnx (by omega) HS2.out).mono ?_
          rintro e w2 ⟨rfl, hS3, hb2⟩
          have HS3 := Lib.hid hS3
          have B2 := Lib.hid ((B1.out.mono (by omega)).trans hb2)
          clear hS3 hb2
          go_wp2_with fail
          have hlt2 := (goS_len out ts true p (d - T + U)).2
          refine (specGo gw _ _ _ (q + 1) (d - T + U) w2 (by omega) hnx (by omega) HS3.out).mono ?_
          rintro e w3 ⟨rfl, hS4, hb3⟩
          go_wp2_with fail
          (try simp only [Exit.inBlock, Exit.then])
          first | refine bodyPost_ret (results_none rfl _ _ _) rfl ?_ | refine bodyPost_end (results_none rfl _ _ _) rfl ?_
          exact ⟨rfl, _, hS4, HF.out, B2.out.trans hb3⟩
        have f11 : (o.code == 11) = false := by rw [beq_eq_false_iff_ne]; exact q11
        have HNX := Lib.hid (show nextI o q = [((q + 1 : Nat) : Int)] by rw [HN.out]; simp [q7, q21, q19, q18, q10, q11])
        have HF := Lib.hid (H1.out (d - T + U) (q + 1) HNX.out HX.out)
        try clear g1
        try clear g2
        try clear g3
        try clear g4
        try clear g5
        try clear g6
        try clear q7
        try clear q21
        try clear q19
        try clear q18
        try clear q10
        try clear q11
        go_wp2_with fail
        refine (specGo gw out ts true (q + 1) (d - T + U) w1 (by omega) hnx (by omega) HS2.out).mono ?_
        rintro e w2 ⟨rfl, hS3, hb2⟩
        go_wp2_with fail
        (try simp only [Exit.inBlock, Exit.then])
        first | refine bodyPost_ret (results_none rfl _ _ _) rfl ?_ | refine bodyPost_end (results_none rfl _ _ _) rfl ?_
        exact ⟨rfl, _, hS3, HF.out, (B1.out.mono (by omega)).trans hb2⟩

theorem GI.osl {w : World} {B : Nat} {e : TypeId} {A : Option Addr} {c n : Nat} {l : List Int} (h : Gre w B e 1 (.slice A n c) n (l.map (D.num .i64))) (hw : ∀ x ∈ l, (Lit.int .i64 x).wf = true) : Osl w (Btw B w.heap.size) 1 A c (l.map (D.num .i64)) := by
  have hl : l.length = n := by have := h.1; simpa using this
  by_cases hn : 0 < l.length
  · obtain ⟨g, rfl, _, hf, h1, h2⟩ := GI.form h 0 hn
    have ho := h.own g rfl
    refine ⟨by simpa [hl] using h1, h2, .inr ⟨g, rfl, ho, hf, rowI_ownR l _ 0 hw fun k hk => ?_⟩⟩
    obtain ⟨g', e', hc, _⟩ := GI.form h k hk
    obtain rfl : g = g' := by simpa using e'
    rw [Nat.zero_add]; exact hc
  · have hn' : l = [] := List.eq_nil_of_length_eq_zero (by omega)
    subst hn'
    obtain ⟨A', c', e', hs⟩ := h.sl
    obtain ⟨rfl, rfl⟩ : A = A' ∧ c = c' := by simpa using e'
    exact Osl.nil hs.2.1
theorem DepthsTo.yesG {l : List GFun} {i : Int} {w w' : World} {B : Nat} {t : TypeId} {A : Option Addr} {c : Nat} {out : List Int} (h : IsDepths l i (some out)) (hr : Gre w' B t 1 (.slice A out.length c) out.length (out.map (D.num .i64))) (hg : w.heap.size ≤ B) (hw : ∀ x ∈ out, (Lit.int .i64 x).wf = true) (hb : Below w.heap.size w w') : DepthsTo l i w (.returned (.tuple #[.slice A out.length c, .bool true])) w' :=
  ⟨some out, A, c, h, rfl, (GI.osl hr hw).keep fun b hb => ⟨⟨by have := hb.1; omega, hb.2⟩, rfl⟩, hb⟩

set_option maxRecDepth 20000 in
theorem specDepths (l : List GFun) (A : Option Addr) (c : Nat) (i : Int) (w : World) (hi : -9223372036854775808 ≤ i ∧ i ≤ 9223372036854775807) (hs : Sl w (Lt w.heap.size) 2 A c (l.map GFun.toD)) :
    Calls Try.prog 29 #[.slice A l.length c, .int .i64 i] w (DepthsTo l i w) := by
  have hlen : l.length ≤ 9223372036854775807 := by simpa using hs.len
  have S0 := Lib.hid hs
  clear hs
  cases hf : funsB l
  · have HR := Lib.hid (show IsDepths l i none from .inl ⟨hf, rfl⟩)
    go_enter Try.func29, Try.ntmps29
    go_wp2_with fail
    refine (specFunsOk l A c w S0.out).mono ?_
    rintro e w1 ⟨rfl, hb1⟩
    rw [hf]
    go_wp2_with fail
    go_ret2
    exact DepthsTo.no HR.out (by unfold maxLen; omega) (hb1.alloc hb1.size _)
  have HF := Lib.hid hf
  have ht := (funsB_out hf).1.1
  have hl1 := ht.1
  have hl2 := ht.2
  clear ht
  by_cases hin : 0 ≤ i ∧ i ≤ (l.length : Int) - 1
  rotate_left
  · have HR := Lib.hid (show IsDepths l i none from .inr (.inl ⟨hf, hin, rfl⟩))
    have hn := inB_false hin
    clear hin
    go_enter Try.func29, Try.ntmps29
    go_wp2_with fail
    refine (specFunsOk l A c w S0.out).mono ?_
    rintro e w1 ⟨rfl, hb1⟩
    rw [hf]
    clear hf
    go_wp2_with fail
    refine (specIn i 0 ((l.length : Int) - 1) w1).mono ?_
    rintro e w2 ⟨rfl, rfl⟩
    rw [hn]
    go_wp2_with fail
    go_ret2
    exact DepthsTo.no HR.out (by unfold maxLen; omega) (hb1.alloc hb1.size _)
  have hn := inB_true hin
  obtain ⟨p, rfl⟩ : ∃ p : Nat, i = (p : Int) := ⟨i.toNat, by omega⟩
  have hp : p < l.length := by omega
  obtain ⟨hJ, hE, hops⟩ := funs_in hf p hp
  have HJ := Lib.hid hJ
  have HE := Lib.hid hE
  have HID := Lib.hid (show ∀ r, Found l[p].list r → IsDepths l (p : Int) r from fun r h => .inr (.inr ⟨hf, by simpa using hp, by omega, by simpa using h⟩))
  have h1n := hJ.1
  clear hJ hE hi hin
  go_enter Try.func29, Try.ntmps29
  go_wp2_with fail
  refine (specFunsOk l A c w S0.out).mono ?_
  rintro e w1 ⟨rfl, hb1⟩
  have B1 := Lib.hid hb1
  rw [hf]
  clear hf hb1
  go_wp2_with fail
  refine (specIn (p : Int) 0 ((l.length : Int) - 1) w1).mono ?_
  rintro e w2 ⟨rfl, rfl⟩
  rw [hn]
  clear hn
  obtain ⟨b, off, A1, c1, rfl, hSb, g0, g1, hat⟩ := GFun.elem (S0.out.below B1.out (Nat.le_refl _)) p hp
  have HT := Lib.hid hat.2
  clear hat g0
  obtain ⟨gw, hg⟩ : ∃ gw, gw = w1.heap.size := ⟨_, rfl⟩
  have hgw : w.heap.size ≤ gw := by rw [hg]; exact B1.out.size
  obtain ⟨w2, e2⟩ : ∃ w2, w2 = w1.alloc (.cells #[.slice none 0 0, .slice none 0 0, .bool true] 147) := ⟨_, rfl⟩
  have B2 := Lib.hid (show Below w.heap.size w w2 by rw [e2]; exact B1.out.alloc B1.out.size _)
  have S2 := Lib.hid (show WSt w2 gw (List.replicate 0 (-1)) [] true from ⟨none, 0, none, 0, by rw [e2]; exact Row.new' _ _ _ hg, Gre.nil _ _ _ _, Gre.nil _ _ _ _, fun b h => by simp [Value.ownBlock] at h, by rw [e2, hg]; simp⟩)
  have HG1 := Lib.hid (show ∀ w', Below w.heap.size w w' → w'.cell? ⟨b, off + p * 2 + 1, none⟩ = some (.slice A1 (l[p]).list.length c1) from fun w' hb => (hb.cell (p := ⟨b, off + p * 2 + 1, none⟩) hSb).trans (((B1.out.cell (p := ⟨b, off + p * 2 + 1, none⟩) hSb).symm).trans g1))
  clear g1
  go_wp2_with fail
  rw [← e2, ← hg]
  clear e2
  generalize l[p].list = ops at *
  have HSl := Lib.hid (show ∀ w', Below w.heap.size w w' → Sl w' (Lt w.heap.size) 3 A1 c1 (ops.map GOp.toD) from fun w' hb => HT.out.keep fun q hq => ⟨hq, (hb.block q hq).trans (B1.out.block q hq).symm⟩)
  clear hg HT S0 B1
  go_loopw [7] (fun i wr => ∃ (j : Nat), j ≤ ops.length ∧ i = .int .i64 j ∧ Hid (WSt wr gw (List.replicate j (-1)) [] true) ∧ Below w.heap.size w wr) (fun i _ => ops.length - (intOf i).toNat)
  case atStart => exact ⟨0, by omega, by go_num, S2, B2.out⟩
  case round =>
    clear S2 B2
    obtain ⟨j, hj, rfl, HS, hbl⟩ := hrel
    have x1 := HG1.out wr hbl
    by_cases hlt : j < ops.length
    · obtain ⟨Ad, cd, At, cT, hr, ho, ht, hne, hgs⟩ := HS.out
      have R0 := Lib.hid hr
      have HO := Lib.hid ho
      have HT := Lib.hid ht
      have HNE := Lib.hid hne
      have hR := fun i => R0.out.cell i
      have hrl : (List.replicate j (-1 : Int)).length = j := by simp
      have E2 := Lib.hid (show Below wr.heap.size wr (wr.alloc (.cells #[.int .i64 (-1)] 3)) from (Below.refl _ _).alloc (Nat.le_refl _) _)
      have HO2 := Lib.hid (HO.out.below E2.out)
      have HT2 := Lib.hid (HT.out.below E2.out)
      have R2 := Lib.hid (R0.out.below E2.out R0.out.lt)
      have hs2 := E2.out.size
      have HSL := Lib.hid (show Sl (wr.alloc (.cells #[.int .i64 (-1)] 3)) (fun b => b < (wr.alloc (.cells #[.int .i64 (-1)] 3)).heap.size ∧ (Value.slice Ad (List.replicate j (-1 : Int)).length cd).ownBlock ≠ some b) 1 (some ⟨wr.heap.size, 0, none⟩) 1 ([(-1 : Int)].map (D.num .i64)) from
        (rowI_osl (B := wr.heap.size) (Row.new' wr 3 (rowI [(-1 : Int)]) rfl) (Nat.le_refl _) (by simp [maxLen]) (by intro x hx; simp at hx; rw [hx]; exact wf_i64 (by omega) (by omega))).sl.keep fun b hb => ⟨⟨hb.2, fun e => by have := (HO.out.own b e).2; have := hb.1; omega⟩, rfl⟩)
      rw [hrl] at HSL HO HO2 R2 HNE hR
      clear hr ho ht hne HS R0
      go_wp2_with (first | (at_builtin; refine wpList_append_M (wr.alloc (.cells #[.int .i64 (-1)] 3)) rfl (.tmp 37) (.tmp 38) 25 rfl 3 (.int .i64 0) 1 8 Try.underlying25 (by kernel_rfl) rfl (by omega) (gw + 1) (.slice Ad j cd) j _ HO2.out (some ⟨wr.heap.size, 0, none⟩) 1 1 _ rfl HSL.out (by omega) (by unfold maxLen; omega) (by omega) rfl rfl ?_; intro A3 c3 w3 G3 hGr3; have R3 := Lib.hid (hGr3.row R2.out (fun e => by have := (HO2.out.own _ e).1; omega)); have hR3 := fun i => R3.out.cell i; have hF3 := fun i => R3.out.frozen i; have G3h := Lib.hid G3; have GR3 := Lib.hid hGr3; clear G3 hGr3))
      go_roundw
      case rel =>
        refine ⟨j + 1, by omega, by go_num, Lib.hid ⟨A3, c3, At, cT, ?_, ?_, ?_, ?_, ?_⟩, ?_⟩
        · have h := R3.out.set 0 (.slice A3 (j + 1) c3)
          simpa using h
        · have h := GI.setNe (p := ⟨gw, 0, none⟩) (l := List.replicate (j + 1) (-1)) (by rw [List.replicate_succ', List.map_append]; exact G3h.out) (fun e => by have h2 := (G3h.out.own _ e).1; change gw + 1 ≤ gw at h2; omega) (.slice A3 (j + 1) c3)
          simpa using h
        · have h := GI.setNe (p := ⟨gw, 0, none⟩) (GI.grow HT2.out GR3.out (fun b hb e => HNE.out b e hb)) (fun e => by have h2 := (HT2.out.own _ e).1; change gw + 1 ≤ gw at h2; omega) (.slice A3 (j + 1) c3)
          simpa using h
        · intro b hb hb2
          have h := GR3.out.ne (fun e => HNE.out b e hb2) ((HT2.out.own b hb2).2)
          exact h (by simpa using hb)
        · have := GR3.out.size
          simp only [World.setCell, Array.size_modify] at *
          omega
        · exact (((hbl.alloc hbl.size _).trans (GR3.out.below (by have := hbl.size; omega) (fun gg hg => by have := (HO2.out.own gg hg).1; omega)))).setCell (p := ⟨gw, 0, none⟩) hgw _
      case measure => simp [intOf]; omega
    · have hjl : j = ops.length := by omega
      subst hjl
      have hcl := HSl.out wr hbl
      have hol : ops.length ≤ 9223372036854775807 := by omega
      go_wp2_with fail
      refine (specGo gw _ [] true 0 1 wr (by omega) (by omega) (by simp) HS.out).mono ?_
      rintro e w3 ⟨rfl, hS3, hb3⟩
      have hgo : goS (List.replicate ops.length (-1)) [] true 0 1 = ((List.replicate ops.length (-1)).set 0 1, [0], true) := by
        unfold goS
        have h0 : 0 < ops.length := by omega
        rw [if_neg (by rw [List.length_replicate]; omega), if_pos (by rw [List.getD_eq_getElem?_getD, List.getElem?_replicate, if_pos h0]; decide)]
        rfl
      have B3 := Lib.hid (hbl.trans (hb3.mono hgw))
      have S3 := Lib.hid (show WSt w3 gw ((List.replicate ops.length (-1)).set 0 1) [0] true by rw [hgo] at hS3; exact hS3)
      have I3 := Lib.hid (SInv.begin (out := List.replicate ops.length (-1)) h1n (by simp) (fun k h _ => by simp))
      have M3 := Lib.hid (show 2 * negs ((List.replicate ops.length (-1)).set 0 1) + 1 < 2 * ops.length + 2 by have := negs_le ((List.replicate ops.length (-1)).set 0 1); simp only [List.length_set, List.length_replicate] at this; omega)
      clear hS3 hb3 hgo HS hlt hj x1 hcl hbl
      go_wp2_with fail
      go_loopg [] (2 * ops.length + 2) (fun k wr => ∃ r : List Int × List Nat × Bool, Hid (WSt wr gw r.1 r.2.1 r.2.2) ∧ Hid (OneR ops k r) ∧ k ≤ 2 * ops.length + 2 ∧ Below w.heap.size w wr)
      case atStart => exact ⟨((List.replicate ops.length (-1)).set 0 1, [0], true), S3, Lib.hid ⟨fun _ => ⟨I3.out, M3.out⟩, fun h => (by cases h), by simp⟩, Nat.le_refl _, B3.out⟩
      case round =>
        clear S3 I3 M3 B3
        obtain ⟨⟨out, todo, ok⟩, HS, HO, hk, hbl⟩ := hrel
        have HOL := Lib.hid (show out.length = ops.length from HO.out.2.2)
        have hol3 : out.length ≤ 3000 := by have := HOL.out; omega
        obtain ⟨Ad, cd, At, cT, hr, ho, ht, hne, hgs⟩ := HS.out
        simp only at hr ho ht hne
        have R0 := Lib.hid hr
        have HD := Lib.hid ho
        have HT := Lib.hid ht
        have HNE := Lib.hid hne
        have hR := fun i => R0.out.cell i
        have hsz := hbl.size
        clear hr ho ht hne
        cases ok with
        | false =>
          have HBAD := Lib.hid (HID.out none (HO.out.2.1 rfl))
          go_wp2_with fail
          go_ret2
          exact DepthsTo.no HBAD.out (by unfold maxLen; omega) (hbl.alloc hbl.size _)
        | true =>
          obtain ⟨hI, hM⟩ := HO.out.1 rfl
          simp only at hI hM
          obtain ⟨k', rfl⟩ : ∃ k', gk = k' + 1 := ⟨gk - 1, by omega⟩
          have HI := Lib.hid hI
          have HM := Lib.hid hM
          clear hI hM HO
          rcases List.eq_nil_or_concat todo with rfl | ⟨ts, q, rfl⟩
          · simp only [List.length_nil] at hR
            go_wp2_with fail
            go_ret2
            exact DepthsTo.yesG (HID.out _ HI.out.end) HD.out (by omega) HI.out.wf hbl
          rw [List.concat_eq_append] at *
          rw [show (ts ++ [q]).length = ts.length + 1 by simp] at *
          obtain ⟨hq', hneq⟩ := HI.out.stk q (by simp)
          have hqn : q ≤ 3000 := by omega
          have hqo : q < ops.length := by have := HOL.out; omega
          have hts : ts.length ≤ 6002 := by have := HM.out; omega
          have hlq : (tdI (ts ++ [q])).length = ts.length + 1 := by rw [tdI_length]; simp
          obtain ⟨gt, rfl, ct, hct, hc1, hcm⟩ := GI.form HT.out ts.length (by omega)
          have ect : (tdI (ts ++ [q]))[ts.length]'(by omega) = (q : Int) := by simp [tdI]
          rw [ect] at ct
          have HT2 := Lib.hid (show Gre wr (gw + 1) 3 1 (.slice (some ⟨gt, 0, none⟩) ts.length cT) ts.length ((tdI ts).map (D.num .i64)) from GI.pop (d := (q : Int)) (by have h := HT.out; rw [tdI_snoc] at h; simpa using h) hgs)
          have hcm2 : cT ≤ 9223372036854775807 := by unfold maxLen at hcm; omega
          have hgl := R0.out.lt
          clear ect hlq hneq hct HT
          go_wp2_with fail
          go_quiet (fail)
          go_wp2_with fail
          have HGm := Lib.hid (fun m => show Gre ((wr.drewN m).alloc (.cells #[] 3)) (gw + 1) 3 1 (.slice (some ⟨wr.heap.size, 0, none⟩) 0 0) 0 [] from Gre.made (Row.new' _ _ _ rfl) hgs)
          have HSm := Lib.hid (fun m => show Sl ((wr.drewN m).alloc (.cells #[] 3)) (fun b => b < ((wr.drewN m).alloc (.cells #[] 3)).heap.size ∧ (Value.slice (some ⟨wr.heap.size, 0, none⟩) 0 0).ownBlock ≠ some b) 1 (some ⟨gt, 0, none⟩) cT ((tdI ts).map (D.num .i64)) from by
            obtain ⟨A', c', e', h⟩ := HT2.out.sl
            obtain ⟨rfl, rfl⟩ : some ⟨gt, 0, none⟩ = A' ∧ cT = c' := by simpa using e'
            refine h.keep fun b hb => ⟨⟨Nat.lt_of_lt_of_le hb (by simp [World.drew, World.drewN]), fun e => ?_⟩, (Below.heap_alloc _ _ b hb).trans rfl⟩
            simp [Value.ownBlock] at e
            have : b < wr.heap.size := hb
            omega)
          have hBm := fun m => (show gw + 1 ≤ ((wr.drewN m).alloc (.cells #[] 3)).heap.size from Nat.le_trans hgs (by simp [World.drew, World.drewN]))
          have BWm := Lib.hid (fun m => show Below wr.heap.size wr ((wr.drewN m).alloc (.cells #[] 3)) from (belowN (Below.refl _ _) m).alloc (Nat.le_refl _) _)
          have RGm := Lib.hid (fun m => R0.out.below (BWm.out m) R0.out.lt)
          have HDm := Lib.hid (fun m => HD.out.below (BWm.out m))
          have hRm := fun m i => (RGm.out m).cell i
          have HBm := Lib.hid hBm
          clear hBm
          have hcT : ts.length ≤ cT := by omega
          have hwr : IntKind.i64.wrap ((ts.length : Nat) : Int) = ((ts.length : Nat) : Int) := (IntWalk.i64_left _).trans (IntWalk.wrap64_in _ (by omega))
          go_region_law (first
            | (refine step_append_M _ rfl (.tmp 69) (.tmp 80) 25 rfl 3 (.int .i64 0) 1 8 Try.underlying25 (by kernel_rfl) rfl (by omega) (gw + 1) (.slice (some ⟨wr.heap.size, 0, none⟩) 0 0) 0 [] (HGm.out _) (some ⟨gt, 0, none⟩) cT ts.length _ (by simp [tdI]) (HSm.out _) (HBm.out _) (by unfold maxLen; omega) (by omega) rfl rfl ?_
               intro A3 c3 w4 G4 hGr4
               rw [Nat.zero_add] at G4 hGr4
               have R4 := Lib.hid (hGr4.row (RGm.out _) (fun e => by simp [Value.ownBlock] at e; omega))
               have D4 := Lib.hid (GI.grow (HDm.out _) hGr4 (fun b hb e => by have h1 := (HD.out.own b hb).2; simp [Value.ownBlock] at e; omega))
               have N4 := Lib.hid (show ∀ b, (Value.slice Ad out.length cd).ownBlock = some b → (Value.slice A3 ts.length c3).ownBlock ≠ some b from fun b hb => hGr4.ne (fun e => by have h1 := (HD.out.own b hb).2; simp [Value.ownBlock] at e; omega) (Nat.lt_of_lt_of_le (HD.out.own b hb).2 (BWm.out _).size))
               have G4h := Lib.hid (show Gre w4 (gw + 1) 3 1 (.slice A3 ts.length c3) ts.length ((tdI ts).map (D.num .i64)) from G4)
               have B4 := Lib.hid (show Below w.heap.size w w4 from hbl.trans (((BWm.out _).mono hsz).trans (hGr4.below (by have := (BWm.out 0).size; have := HBm.out 0; first | omega | exact Nat.le_trans hsz (BWm.out _).size) (fun gg hg => by simp [Value.ownBlock] at hg; omega))))
               have hs4 : gw + 1 ≤ w4.heap.size := Nat.le_trans (HBm.out _) hGr4.size
               have hR4 := fun i => R4.out.cell i
               have hF4 := fun i => R4.out.frozen i
               clear G4 hGr4)
            | (go_simp
               fail))
          all_goals
            clear hwr
            have S5 := Lib.hid (show WSt (w4.setCell ⟨gw, 1, none⟩ (.slice A3 ts.length c3)) gw out ts true from ⟨Ad, cd, A3, c3, by have h := R4.out.set 1 (.slice A3 ts.length c3); simpa using h,
              GI.setNe (p := ⟨gw, 1, none⟩) D4.out (fun e => by have h2 := (D4.out.own _ e).1; change gw + 1 ≤ gw at h2; omega) _, GI.setNe (p := ⟨gw, 1, none⟩) G4h.out (fun e => by have h2 := (G4h.out.own _ e).1; change gw + 1 ≤ gw at h2; omega) _, N4.out, by simpa [World.setCell] using hs4⟩)
            have B5 := Lib.hid (B4.out.setCell (p := ⟨gw, 1, none⟩) hgw (.slice A3 ts.length c3))
            have x2 := HG1.out _ B5.out
            have L5 := Lib.hid ((HSl.out _ B5.out).keep (S' := Lt gw) (w' := w4.setCell ⟨gw, 1, none⟩ (.slice A3 ts.length c3)) fun b hb => ⟨Nat.lt_of_lt_of_le hb hgw, rfl⟩)
            go_wp2_with fail
            refine (specOne gw ops A1 c1 out ts q _ HJ.out HE.out hops hts HI.out L5.out S5.out).mono ?_
            rintro e w6 ⟨rfl, r, hS6, hO6, hb6⟩
            have O6 := Lib.hid (show OneR ops k' r from ⟨fun e => ⟨(hO6.1 e).1, by have h1 := (hO6.1 e).2; have h2 := HM.out; omega⟩, hO6.2.1, hO6.2.2⟩)
            have B6 := Lib.hid (B5.out.trans (hb6.mono hgw))
            have S6 := Lib.hid hS6
            clear hS6 hO6 hb6 x2
            go_wp2_with fail
            go_roundg k'
            case measure => omega
            case rel => exact ⟨r, S6, O6, by omega, B6.out⟩

end Go.Proofs.Ytjcgfbjdailgoaa
