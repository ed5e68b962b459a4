/- Depths: how deep the values stand, in the program and in the reference. Conditions: none but what a Go value may be. -/
import Derived.Test.YtjcgfbjdailgoaaDepthsP
import Derived.Test.YtjcgfbjdailgoaaRowI
import Derived.Deep.LoopGhost
import Derived.Deep.RegionHeld3
namespace Go.Proofs.Ytjcgfbjdailgoaa
open Go.RowKit
set_option linter.unusedVariables false
set_option linter.unusedSimpArgs false
set_option maxHeartbeats 2000000

theorem ret_ib {a b : Int} {c d : Bool} (h : a = b) (h2 : c = d) : Ending.returned (.tuple #[.int .i64 a, .bool c]) = .returned (.tuple #[.int .i64 b, .bool d]) := by rw [h, h2]
def aftR (x : Option Int) : Int := match x with | some d => d | none => 0

set_option maxRecDepth 20000 in
theorem implAfter (o : GOp) (d : Int) (w : World) (h1 : 1 ≤ d ∧ d ≤ 60) (h2 : 0 ≤ (effI o.code o.m).1 ∧ (effI o.code o.m).1 ≤ 1048576 ∧ 0 ≤ (effI o.code o.m).2 ∧ (effI o.code o.m).2 ≤ 1) :
    Calls Try.prog 103 #[.agg #[.int .i64 o.code, .int .i64 o.n, .int .i64 o.m], .int .i64 d] w fun e w' => e = .returned (.tuple #[.int .i64 (aftR (afterI o d)), .bool (afterI o d).isSome]) ∧ Below w.heap.size w w' := by
  have E0 := Lib.hid (show Below w.heap.size w (w.alloc (.cells #[.int .i64 o.code, .int .i64 o.n, .int .i64 o.m] 153)) from (Below.refl _ _).alloc (Nat.le_refl _) _)
  have R0 := Lib.hid (Row.new w 153 #[.int .i64 o.code, .int .i64 o.n, .int .i64 o.m])
  have HA := Lib.hid (show afterI o d = if d - 1 < (effI o.code o.m).1 ∨ (o.code = 2 ∧ d ≤ o.n) ∨ 60 < d - (effI o.code o.m).1 + (effI o.code o.m).2 ∨ (o.code = 7 ∧ ¬ d = 2) then none else some (d - (effI o.code o.m).1 + (effI o.code o.m).2) from rfl)
  go_enter Try.func103, Try.ntmps103
  go_wp2_with fail
  refine (implEffect o.code o.n o.m _).mono ?_
  rintro e w1 ⟨rfl, hb1⟩
  have B1 := Lib.hid (E0.out.trans (hb1.mono E0.out.size))
  have R1 := Lib.hid (R0.out.below hb1 R0.out.lt)
  have hR := fun i => R1.out.cell i
  generalize (effI o.code o.m).1 = T at *
  generalize (effI o.code o.m).2 = U at *
  clear hb1
  by_cases g1 : d - 1 < T
  · have e1 := decide_eq_true g1
    have HV := Lib.hid (HA.out.trans (if_pos (by omega)))
    try clear g1
    try clear g2
    try clear g3
    try clear g4
    try clear g5
    try clear g6
    go_wp2_with fail
    go_ret2
    exact ⟨ret_ib (by rw [HV.out]; rfl) (by rw [HV.out]; rfl), B1.out⟩
  · have e1 := decide_eq_false g1
    by_cases g2 : o.code = 2
    · have e2 : (o.code == 2) = true := by rw [beq_iff_eq]; exact g2
      by_cases g3 : d ≤ o.n
      · have e3 := decide_eq_true g3
        have HV := Lib.hid (HA.out.trans (if_pos (by omega)))
        try clear g1
        try clear g2
        try clear g3
        try clear g4
        try clear g5
        try clear g6
        go_wp2_with fail
        go_ret2
        exact ⟨ret_ib (by rw [HV.out]; rfl) (by rw [HV.out]; rfl), B1.out⟩
      · have e3 := decide_eq_false g3
        by_cases g4 : 60 < d - T + U
        · have e4 := decide_eq_true g4
          have HV := Lib.hid (HA.out.trans (if_pos (by omega)))
          try clear g1
          try clear g2
          try clear g3
          try clear g4
          try clear g5
          try clear g6
          go_wp2_with fail
          go_ret2
          exact ⟨ret_ib (by rw [HV.out]; rfl) (by rw [HV.out]; rfl), B1.out⟩
        · have e4 := decide_eq_false g4
          have g5 : ¬ o.code = 7 := by omega
          have e5 : (o.code == 7) = false := by rw [beq_eq_false_iff_ne]; exact g5
          have HV := Lib.hid (HA.out.trans (if_neg (by omega)))
          try clear g1
          try clear g2
          try clear g3
          try clear g4
          try clear g5
          try clear g6
          go_wp2_with fail
          go_ret2
          exact ⟨ret_ib (by rw [HV.out]; rfl) (by rw [HV.out]; rfl), B1.out⟩
    · have e2 : (o.code == 2) = false := by rw [beq_eq_false_iff_ne]; exact g2
      by_cases g4 : 60 < d - T + U
      · have e4 := decide_eq_true g4
        have HV := Lib.hid (HA.out.trans (if_pos (by omega)))
        try clear g1
        try clear g2
        try clear g3
        try clear g4
        try clear g5
        try clear g6
        go_wp2_with fail
        go_ret2
        exact ⟨ret_ib (by rw [HV.out]; rfl) (by rw [HV.out]; rfl), B1.out⟩
      · have e4 := decide_eq_false g4
        by_cases g5 : o.code = 7
        · have e5 : (o.code == 7) = true := by rw [beq_iff_eq]; exact g5
          by_cases g6 : d = 2
          · have e6 : (d != 2) = false := by rw [bne_eq_false_iff_eq]; exact g6
            have HV := Lib.hid (HA.out.trans (if_neg (by omega)))
            try clear g1
            try clear g2
            try clear g3
            try clear g4
            try clear g5
            try clear g6
            go_wp2_with fail
            go_ret2
            exact ⟨ret_ib (by rw [HV.out]; rfl) (by rw [HV.out]; rfl), B1.out⟩
          · have e6 : (d != 2) = true := by rw [bne_iff_ne]; exact g6
            have HV := Lib.hid (HA.out.trans (if_pos (by omega)))
            try clear g1
            try clear g2
            try clear g3
            try clear g4
            try clear g5
            try clear g6
            go_wp2_with fail
            go_ret2
            exact ⟨ret_ib (by rw [HV.out]; rfl) (by rw [HV.out]; rfl), B1.out⟩
        · have e5 : (o.code == 7) = false := by rw [beq_eq_false_iff_ne]; exact g5
          have HV := Lib.hid (HA.out.trans (if_neg (by omega)))
          try clear g1
          try clear g2
          try clear g3
          try clear g4
          try clear g5
          try clear g6
          go_wp2_with fail
          go_ret2
          exact ⟨ret_ib (by rw [HV.out]; rfl) (by rw [HV.out]; rfl), B1.out⟩

/-- a list of numbers that a call lays -/
def FollowsTo (l : List Int) (w : World) (e : Ending) (w' : World) : Prop := ∃ A c, e = .returned (.slice A l.length c) ∧ Sl w' (Btw w.heap.size w'.heap.size) 1 A c (l.map (D.num .i64)) ∧ Below w.heap.size w w'
set_option maxRecDepth 20000 in
theorem implFollows (o : GOp) (q : Nat) (w : World) (hq : q ≤ 1048576) (h1 : (Lit.int .i64 o.n).wf = true) (h2 : (Lit.int .i64 o.m).wf = true) :
    Calls Try.prog 104 #[.agg #[.int .i64 o.code, .int .i64 o.n, .int .i64 o.m], .int .i64 (q : Int)] w (FollowsTo (nextI o q) w) := by
  have E0 := Lib.hid (show Below w.heap.size w (w.alloc (.cells #[.int .i64 o.code, .int .i64 o.n, .int .i64 o.m] 153)) from (Below.refl _ _).alloc (Nat.le_refl _) _)
  have R0 := Lib.hid (Row.new w 153 #[.int .i64 o.code, .int .i64 o.n, .int .i64 o.m])
  have hR := fun i => R0.out.cell i
  have W1 := Lib.hid h1
  have W2 := Lib.hid h2
  have W3 := Lib.hid (show (Lit.int .i64 ((q + 1 : Nat) : Int)).wf = true from wf_i64 (by omega) (by omega))
  have hq1 : ((q + 1 : Nat) : Int) = (q : Int) + 1 := by omega
  have HN := Lib.hid (show nextI o q = if o.code = 7 ∨ o.code = 21 then [] else if o.code = 19 then [o.n] else if o.code = 10 ∨ o.code = 11 then [((q + 1 : Nat) : Int), o.m] else if o.code = 18 then [((q + 1 : Nat) : Int), o.n] else [((q + 1 : Nat) : Int)] from rfl)
  rw [hq1] at HN W3
  clear h1 h2 hq1
  by_cases g7 : o.code = 7
  · have e7 : (o.code == 7) = true := by rw [beq_iff_eq]; exact g7
    have HV := Lib.hid (show nextI o q = [] by rw [HN.out]; simp [g7])
    clear g7
    go_enter Try.func104, Try.ntmps104
    go_wp2_with fail
    go_ret
    unfold FollowsTo
    rw [HV.out]
    exact ⟨none, 0, rfl, Sl.nil (by unfold maxLen; omega), E0.out⟩
  have e7 : (o.code == 7) = false := by rw [beq_eq_false_iff_ne]; exact g7
  by_cases g21 : o.code = 21
  · have e21 : (o.code == 21) = true := by rw [beq_iff_eq]; exact g21
    have HV := Lib.hid (show nextI o q = [] by rw [HN.out]; simp [g7, g21])
    clear g7 g21
    go_enter Try.func104, Try.ntmps104
    go_wp2_with fail
    go_ret
    unfold FollowsTo
    rw [HV.out]
    exact ⟨none, 0, rfl, Sl.nil (by unfold maxLen; omega), E0.out⟩
  have e21 : (o.code == 21) = false := by rw [beq_eq_false_iff_ne]; exact g21
  by_cases g19 : o.code = 19
  · have e19 : (o.code == 19) = true := by rw [beq_iff_eq]; exact g19
    have HV := Lib.hid (show nextI o q = [o.n] by rw [HN.out]; simp [g7, g21, g19])
    clear g7 g21 g19
    go_enter Try.func104, Try.ntmps104
    go_wp2_with fail
    go_ret
    unfold FollowsTo
    rw [HV.out]
    exact ⟨_, _, rfl, (rowI_osl (l := [o.n]) (Row.new' _ _ _ (by simp)) (by simp) (by simp [maxLen]) (by intro x hx; simp only [List.mem_cons, List.not_mem_nil, or_false] at hx; rw [hx]; exact W1.out)).sl, E0.out.alloc E0.out.size _⟩
  have e19 : (o.code == 19) = false := by rw [beq_eq_false_iff_ne]; exact g19
  by_cases g10 : o.code = 10
  · have e10 : (o.code == 10) = true := by rw [beq_iff_eq]; exact g10
    have HV := Lib.hid (show nextI o q = [(q : Int) + 1, o.m] by rw [HN.out]; simp [g7, g21, g19, g10])
    clear g7 g21 g19 g10
    go_enter Try.func104, Try.ntmps104
    go_wp2_with fail
    go_ret
    unfold FollowsTo
    rw [HV.out]
    exact ⟨_, _, rfl, (rowI_osl (l := [(q : Int) + 1, o.m]) (Row.new' _ _ _ (by simp)) (by simp) (by simp [maxLen]) (by intro x hx; simp only [List.mem_cons, List.not_mem_nil, or_false] at hx; rcases hx with rfl | rfl; exact W3.out; exact W2.out)).sl, E0.out.alloc E0.out.size _⟩
  have e10 : (o.code == 10) = false := by rw [beq_eq_false_iff_ne]; exact g10
  by_cases g11 : o.code = 11
  · have e11 : (o.code == 11) = true := by rw [beq_iff_eq]; exact g11
    have HV := Lib.hid (show nextI o q = [(q : Int) + 1, o.m] by rw [HN.out]; simp [g7, g21, g19, g10, g11])
    clear g7 g21 g19 g10 g11
    go_enter Try.func104, Try.ntmps104
    go_wp2_with fail
    go_ret
    unfold FollowsTo
    rw [HV.out]
    exact ⟨_, _, rfl, (rowI_osl (l := [(q : Int) + 1, o.m]) (Row.new' _ _ _ (by simp)) (by simp) (by simp [maxLen]) (by intro x hx; simp only [List.mem_cons, List.not_mem_nil, or_false] at hx; rcases hx with rfl | rfl; exact W3.out; exact W2.out)).sl, E0.out.alloc E0.out.size _⟩
  have e11 : (o.code == 11) = false := by rw [beq_eq_false_iff_ne]; exact g11
  by_cases g18 : o.code = 18
  · have e18 : (o.code == 18) = true := by rw [beq_iff_eq]; exact g18
    have HV := Lib.hid (show nextI o q = [(q : Int) + 1, o.n] by rw [HN.out]; simp [g7, g21, g19, g10, g11, g18])
    clear g7 g21 g19 g10 g11 g18
    go_enter Try.func104, Try.ntmps104
    go_wp2_with fail
    go_ret
    unfold FollowsTo
    rw [HV.out]
    exact ⟨_, _, rfl, (rowI_osl (l := [(q : Int) + 1, o.n]) (Row.new' _ _ _ (by simp)) (by simp) (by simp [maxLen]) (by intro x hx; simp only [List.mem_cons, List.not_mem_nil, or_false] at hx; rcases hx with rfl | rfl; exact W3.out; exact W1.out)).sl, E0.out.alloc E0.out.size _⟩
  have e18 : (o.code == 18) = false := by rw [beq_eq_false_iff_ne]; exact g18
  have HV := Lib.hid (show nextI o q = [(q : Int) + 1] by rw [HN.out]; simp [g7, g21, g19, g10, g11, g18])
  clear g7 g21 g19 g10 g11 g18
  go_enter Try.func104, Try.ntmps104
  go_wp2_with fail
  go_ret
  unfold FollowsTo
  rw [HV.out]
  exact ⟨_, _, rfl, (rowI_osl (l := [(q : Int) + 1]) (Row.new' _ _ _ (by simp)) (by simp) (by simp [maxLen]) (by intro x hx; simp only [List.mem_cons, List.not_mem_nil, or_false] at hx; rw [hx]; exact W3.out)).sl, E0.out.alloc E0.out.size _⟩

/-- what Depths hands back -/
def DepthsTo (l : List GFun) (i : Int) (w : World) (e : Ending) (w' : World) : Prop :=
  ∃ r A c, IsDepths l i r ∧ e = .returned (.tuple #[.slice A (r.getD []).length c, .bool r.isSome]) ∧ Osl w' (Btw w.heap.size w'.heap.size) 1 A c ((r.getD []).map (D.num .i64)) ∧ Below w.heap.size w w'
theorem DepthsTo.no {l : List GFun} {i : Int} {w w' : World} {A : Option Addr} {c : Nat} (h : IsDepths l i none) (hc : c ≤ maxLen) (hb : Below w.heap.size w w') : DepthsTo l i w (.returned (.tuple #[.slice A 0 c, .bool false])) w' :=
  ⟨none, A, c, h, rfl, Osl.nil hc, hb⟩
theorem DepthsTo.yes {l : List GFun} {i : Int} {w w' : World} {g n : Nat} {t : TypeId} {out : List Int} (h : IsDepths l i (some out)) (hr : Row w' g t (rowI out)) (hg : w.heap.size ≤ g) (hl : out.length = n) (hn : n ≤ 3000) (hw : ∀ x ∈ out, (Lit.int .i64 x).wf = true) (hb : Below w.heap.size w w') : DepthsTo l i w (.returned (.tuple #[.slice (some ⟨g, 0, none⟩) n n, .bool true])) w' := by
  subst hl
  exact ⟨some out, _, _, h, rfl, rowI_osl hr hg (by unfold maxLen; omega) hw, hb⟩
theorem SInv.wf {ops : List GOp} {out : List Int} {todo : List Nat} {ex : Nat → Prop} (h : SInv ops out todo ex) : ∀ x ∈ out, (Lit.int .i64 x).wf = true := fun x hx => by
  obtain ⟨k, hk, rfl⟩ := List.getElem_of_mem hx
  rcases h.val k hk with e | ⟨a, b, _⟩
  · rw [e]; exact wf_i64 (by omega) (by omega)
  · exact wf_i64 (by omega) (by omega)
/-- places as numbers -/
def tdI (todo : List Nat) : List Int := todo.map fun k => ((k : Nat) : Int)
theorem tdI_length (todo : List Nat) : (tdI todo).length = todo.length := by unfold tdI; simp
theorem replicate_all {n : Nat} {v : Int} {out : List Int} (h : out.length = n) (h2 : ∀ k (h : k < out.length), k < n → out[k] = v) : out = List.replicate n v := by
  apply List.ext_getElem (by simp [h])
  intro k h3 h4
  rw [List.getElem_replicate]; exact h2 k h3 (by omega)
theorem rdC_num {w w' : World} {S S' : Nat → Prop} : ∀ (l : List Int) (cs : List Value), rdC w 1 S (l.map (D.num .i64)) cs → rdC w' 1 S' (l.map (D.num .i64)) cs
  | [], _, h => h
  | x :: r, cs, h => by
    simp only [List.map_cons, rdC] at h ⊢
    obtain ⟨c1, c2, e, hl, h1, h2⟩ := h
    exact ⟨c1, c2, e, hl, D.rd_num.2 (D.rd_num.1 h1), rdC_num r c2 h2⟩
theorem Gsh.setFar {w : World} {B : Nat} {e : TypeId} {v : Value} {n : Nat} {l : List Int} (h : Gsh w B e 1 v n (l.map (D.num .i64))) {p : Addr} (hp : p.block < B) (u : Value) : Gsh (w.setCell p u) B e 1 v n (l.map (D.num .i64)) := by
  obtain ⟨h1, cs, h2, h4⟩ := h
  refine ⟨h1, cs, ⟨h2.1, ?_⟩, rdC_num l cs h4⟩
  rcases h2.2 with h | ⟨g, cap, cur, hv, a1, a2, a3⟩
  · exact .inl h
  · exact .inr ⟨g, cap, cur, hv, a1, (Below.heap_setCell w p u g (by omega)).trans a2, a3⟩
theorem Gsh.top {w : World} {B : Nat} {e : TypeId} {A : Option Addr} {c n : Nat} {ts : List Nat} {q : Nat} (h : Gsh w B e 1 (.slice A (n + 1) c) (n + 1) ((tdI (ts ++ [q])).map (D.num .i64))) (hB : B ≤ w.heap.size) (hn : ts.length = n) :
    ∃ b off, A = some ⟨b, off, none⟩ ∧ w.cell? ⟨b, off + n, none⟩ = some (.int .i64 (q : Int)) ∧ n + 1 ≤ c ∧ c ≤ maxLen := by
  obtain ⟨A', c', e', hs⟩ := h.sl hB
  obtain ⟨rfl, rfl⟩ : A = A' ∧ c = c' := by simpa using e'
  have hl : (tdI (ts ++ [q])).length = n + 1 := by rw [tdI_length]; simp [hn]
  obtain ⟨b, off, e1, hS, hc, hw⟩ := int_elem hs n (by omega)
  have h1 := hs.1
  rw [List.length_map, hl] at h1
  refine ⟨b, off, e1, ?_, h1, hs.2.1⟩
  rw [hc]
  congr 2
  subst hn
  simp [tdI]
theorem tdI_snoc (ts : List Nat) (q : Nat) : (tdI (ts ++ [q])).map (D.num .i64) = (tdI ts).map (D.num .i64) ++ [D.num .i64 (q : Int)] := by simp [tdI]
theorem SInv.rng {ops : List GOp} {out : List Int} {todo : List Nat} {ex : Nat → Prop} (h : SInv ops out todo ex) {q : Nat} (hq : q < out.length) (hne : ¬ out[q] = -1) : 1 ≤ out[q] ∧ out[q] ≤ 60 := by
  rcases h.val q hq with e | ⟨a, b, _⟩
  · exact absurd e hne
  · exact ⟨a, b⟩
theorem PInv.mono {ops : List GOp} {out : List Int} {todo : List Nat} {q : Nat} {d' : Int} {don don' : Int → Prop} (h : PInv ops out todo q d' don) (hd : ∀ x, don' x → don x) : PInv ops out todo q d' don' :=
  ⟨h.base, h.hq, h.hq', h.at', h.mark, h.rng, fun x hx hd' => h.nxt x hx (hd x hd')⟩
theorem mem_take_succ {ns : List Int} {j : Nat} (h : j < ns.length) {x : Int} (hx : x ∈ ns.take (j + 1)) : x ∈ ns.take j ∨ x = ns[j] := by
  rw [take_snoc' ns j h, List.mem_append] at hx
  exact hx.imp id fun h => by simpa using h
theorem SInv.begin {ops : List GOp} {out : List Int} (h1 : 1 ≤ ops.length) (hl : out.length = ops.length) (h2 : ∀ k (h : k < out.length), k < ops.length → out[k] = -1) : SInv ops (out.set 0 1) [0] (fun _ => False) :=
  SInv.start h1 (by simp [hl]) (by rw [List.getElem?_set_self (by omega)]) (fun k h hk => by rw [List.getElem_set_ne (by omega)]; exact h2 k (by simpa using h) (by simp at h; omega))
theorem negs_le : ∀ (l : List Int), negs l ≤ l.length
  | [] => by simp [negs]
  | x :: r => by have := negs_le r; simp only [negs, List.length_cons]; split <;> omega

set_option maxRecDepth 20000 in
theorem implDepths (l : List GFun) (A : Option Addr) (c : Nat) (i : Int) (w : World) (hi : -9223372036854775808 ≤ i ∧ i ≤ 9223372036854775807) (hs : Sl w (Lt w.heap.size) 2 A c (l.map GFun.toD)) :
    Calls Try.prog 30 #[.slice A l.length c, .int .i64 i] w (DepthsTo l i w) := by
  have hlen : l.length ≤ 9223372036854775807 := by simpa using hs.len
  have S0 := Lib.hid hs
  clear hs
  cases hf : funsB l
  · have HR := Lib.hid (show IsDepths l i none from .inl ⟨hf, rfl⟩)
    go_enter Try.func30, Try.ntmps30
    go_wp2_with fail
    refine (implFunsOk l A c w S0.out).mono ?_
    rintro e w1 ⟨rfl, hb1⟩
    rw [hf]
    go_wp2_with fail
    go_ret2
    exact DepthsTo.no HR.out (by unfold maxLen; omega) hb1
  have HF := Lib.hid hf
  have ht := (funsB_out hf).1.1
  have hl1 := ht.1
  have hl2 := ht.2
  clear ht
  by_cases hin : 0 ≤ i ∧ i ≤ (l.length : Int) - 1
  rotate_left
  · have HR := Lib.hid (show IsDepths l i none from .inr (.inl ⟨hf, hin, rfl⟩))
    have hn := inB_false hin
    clear hin
    go_enter Try.func30, Try.ntmps30
    go_wp2_with fail
    refine (implFunsOk l A c w S0.out).mono ?_
    rintro e w1 ⟨rfl, hb1⟩
    rw [hf]
    clear hf
    go_wp2_with fail
    refine (implWithin i 0 ((l.length : Int) - 1) w1).mono ?_
    rintro e w2 ⟨rfl, rfl⟩
    rw [hn]
    go_wp2_with fail
    go_ret2
    exact DepthsTo.no HR.out (by unfold maxLen; omega) hb1
  have hn := inB_true hin
  obtain ⟨p, rfl⟩ : ∃ p : Nat, i = (p : Int) := ⟨i.toNat, by omega⟩
  have hp : p < l.length := by omega
  obtain ⟨hJ, hE, hops⟩ := funs_in hf p hp
  have HJ := Lib.hid hJ
  have HE := Lib.hid hE
  have HID := Lib.hid (show ∀ r, Found l[p].list r → IsDepths l (p : Int) r from fun r h => .inr (.inr ⟨hf, by simpa using hp, by omega, by simpa using h⟩))
  have h1n := hJ.1
  clear hJ hE hi hin
  go_enter Try.func30, Try.ntmps30
  go_wp2_with fail
  refine (implFunsOk l A c w S0.out).mono ?_
  rintro e w1 ⟨rfl, hb1⟩
  have B1 := Lib.hid hb1
  rw [hf]
  clear hf hb1
  go_wp2_with fail
  refine (implWithin (p : Int) 0 ((l.length : Int) - 1) w1).mono ?_
  rintro e w2 ⟨rfl, rfl⟩
  rw [hn]
  clear hn
  obtain ⟨b, off, A1, c1, rfl, hSb, g0, g1, hat⟩ := GFun.elem (S0.out.below B1.out (Nat.le_refl _)) p hp
  have HT := Lib.hid hat.2
  have hmk := mkInt l[p].list.length (by omega)
  clear hat g0
  go_wp2_with fail
  clear hmk g1
  generalize l[p].list = ops at *
  rw [zr_int]
  obtain ⟨g, hg⟩ : ∃ g, g = w1.heap.size := ⟨_, rfl⟩
  have R0 := Lib.hid (show Row (w1.alloc (.cells (rowI (List.replicate ops.length 0)) 3)) g 3 (rowI (List.replicate ops.length 0)) by rw [hg]; exact Row.new' _ _ _ rfl)
  have B2 := Lib.hid (B1.out.alloc B1.out.size (.cells (rowI (List.replicate ops.length 0)) 3))
  have hgw : w.heap.size ≤ g := by rw [hg]; exact B1.out.size
  have HSl := Lib.hid (show ∀ w', Below w.heap.size w w' → Sl w' (Lt w.heap.size) 3 A1 c1 (ops.map GOp.toD) from fun w' hb => HT.out.keep fun q hq => ⟨hq, (hb.block q hq).trans (B1.out.block q hq).symm⟩)
  rw [← hg]
  clear hg HT S0 B1
  obtain ⟨bo, oo, rfl, -, -, -, -⟩ := GOp.elem (HSl.out w (Below.refl _ _)) 0 h1n
  go_loopw [36] (fun i wr => ∃ (j : Nat) (out : List Int), j ≤ ops.length ∧ i = .int .i64 j ∧ Hid (out.length = ops.length) ∧ Hid (∀ k (h : k < out.length), k < j → out[k] = -1) ∧ Hid (Row wr g 3 (rowI out)) ∧ Below w.heap.size w wr) (fun i _ => ops.length - (intOf i).toNat)
  case atStart => exact ⟨0, List.replicate ops.length 0, by omega, by go_num, Lib.hid (by simp), Lib.hid (fun k h hk => by omega), R0, B2.out⟩
  case round =>
    clear R0 B2
    obtain ⟨j, out, hj, rfl, HL, HN, HR, hbl⟩ := hrel
    have hol := HL.out
    by_cases hlt : j < ops.length
    · have x0 := (HR.out.cell j).trans (rowI_get (l := out) (k := j) (by omega))
      have hfz := HR.out.frozen j
      go_wp2_with fail
      go_roundw
      case rel =>
        refine ⟨j + 1, out.set j (-1), by omega, by go_num, Lib.hid (by simp [HL.out]), Lib.hid (fun k h hk => ?_), Lib.hid (by rw [← rowI_set]; exact HR.out.set j _), hbl.setCell (p := ⟨g, j, none⟩) hgw _⟩
        rw [List.getElem_set]
        split
        · rfl
        · exact HN.out k (by simpa using h) (by omega)
      case measure => simp [intOf]; omega
    · have hjl : j = ops.length := by omega
      have SB := Lib.hid (SInv.begin h1n HL.out (by have h := HN.out; rw [hjl] at h; exact h))
      have x0 := (HR.out.cell 0).trans (rowI_get (l := out) (k := 0) (by omega))
      have hfz := HR.out.frozen 0
      obtain ⟨w3, e3⟩ : ∃ w3, w3 = (wr.setCell ⟨g, 0, none⟩ (.int .i64 1)).alloc (.cells #[.int .i64 0] 3) := ⟨_, rfl⟩
      have ess : (wr.setCell ⟨g, 0, none⟩ (.int .i64 1)).heap.size = wr.heap.size := by simp [World.setCell]
      have hgl := HR.out.lt
      have B3 := Lib.hid (show Below w.heap.size w w3 by rw [e3]; exact (hbl.setCell (p := ⟨g, 0, none⟩) hgw _).alloc (by rw [ess]; exact hbl.size) _)
      have R3 := Lib.hid (show Row w3 g 3 (rowI (out.set 0 1)) by rw [e3, ← rowI_set]; exact (HR.out.set 0 _).alloc _)
      have G3 := Lib.hid (show Gsh w3 (g + 1) 3 1 (.slice (some ⟨wr.heap.size, 0, none⟩) ([0] : List Nat).length 1) ([0] : List Nat).length ((tdI [0]).map (D.num .i64)) by
        rw [e3]
        exact Gsh.laid (Row.new' _ _ _ ess.symm) (by omega) (rdC_int [0] (by simp [wf_i64])) rfl (by simp [maxLen]))
      have hs3 : g + 1 ≤ w3.heap.size := by rw [e3]; simp [World.setCell]; omega
      have HNG := Lib.hid (show 2 * negs (out.set 0 1) + ([0] : List Nat).length < 2 * ops.length + 2 ∧ 2 * ops.length + 2 ≤ 2 * ops.length + 2 by have := negs_le (out.set 0 1); simp only [List.length_set, List.length_singleton] at *; omega)
      clear hj HN hjl
      go_wp2_with fail
      rw [← e3]
      clear e3 x0 hfz ess hbl HR hgl hol HL
      go_loopg [9] (2 * ops.length + 2) (fun k v wr => ∃ (out : List Int) (todo : List Nat) (A : Option Addr) (c : Nat), v = .slice A todo.length c ∧ Hid (SInv ops out todo (fun _ => False)) ∧ Hid (Gsh wr (g + 1) 3 1 (.slice A todo.length c) todo.length ((tdI todo).map (D.num .i64))) ∧ Hid (Row wr g 3 (rowI out)) ∧ g + 1 ≤ wr.heap.size ∧ Hid (2 * negs out + todo.length < k ∧ k ≤ 2 * ops.length + 2) ∧ Below w.heap.size w wr)
      case atStart => exact ⟨_, [0], _, _, rfl, SB, G3, R3, hs3, HNG, B3.out⟩
      case round =>
        clear SB G3 R3 hs3 B3 HNG
        obtain ⟨out, todo, A, c, rfl, HI, HG, HR, hgs, HM, hbl⟩ := hrel
        obtain ⟨k', rfl⟩ : ∃ k', gk = k' + 1 := ⟨gk - 1, by have := HM.out; omega⟩
        have hol := HI.out.len
        have hsz := hbl.size
        rcases List.eq_nil_or_concat todo with rfl | ⟨ts, q, rfl⟩
        · simp only [List.length_nil]
          go_wp2_with fail
          go_ret2
          exact DepthsTo.yes (HID.out _ HI.out.end) HR.out hgw hol hops HI.out.wf hbl
        rw [List.concat_eq_append] at *
        rw [show (ts ++ [q]).length = ts.length + 1 by simp] at *
        obtain ⟨hq', hne⟩ := HI.out.stk q (by simp)
        have hq : q < ops.length := by omega
        have hrg := HI.out.rng hq' hne
        obtain ⟨bt, ot, rfl, ct, hct, hcm⟩ := HG.out.top hgs rfl
        have hml : ts.length + 1 ≤ 9223372036854775807 := by unfold maxLen at hcm; omega
        obtain ⟨b', off', eA, hSb', k0, k1, k2, kat⟩ := GOp.elem (HSl.out wr hbl) q hq
        obtain ⟨rfl, rfl⟩ : bo = b' ∧ oo = off' := by simpa using eA
        have xq := (HR.out.cell q).trans (rowI_get (l := out) hq')
        have HG' := Lib.hid (show Gsh wr (g + 1) 3 1 (.slice (some ⟨bt, ot, none⟩) ts.length c) ts.length ((tdI ts).map (D.num .i64)) from Gsh.pop (by have h := HG.out; rw [tdI_snoc] at h; exact h))
        have hql : q ≤ 3000 := by omega
        have HW := Lib.hid kat
        have EFF := Lib.hid (HE.out q hq)
        have HV0 := Lib.hid hne
        have HQ := Lib.hid hq'
        clear kat hne
        go_wp2_with fail
        have hbo := Nat.lt_of_lt_of_le hSb' hsz
        have hgl := HR.out.lt
        go_region_held3 (fun w' => w'.cell? ⟨bo, oo + q * 3, none⟩ = some (.int .i64 ops[q].code) ∧ w'.cell? ⟨bo, oo + q * 3 + 1, none⟩ = some (.int .i64 ops[q].n) ∧ w'.cell? ⟨bo, oo + q * 3 + 2, none⟩ = some (.int .i64 ops[q].m) ∧ w'.cell? ⟨g, q, none⟩ = some (.int .i64 out[q])) (first | exact ⟨k0, k1, k2, xq⟩ | exact ⟨k3, k4, k5, xq3⟩) (first
          | (go_at_call 103
             refine (implAfter ops[q] out[q] wr.drew hrg EFF.out).mono ?_
             rintro e w4 ⟨rfl, hb4⟩
             have HBB := Lib.hid (show Below wr.heap.size wr w4 from (Below.drew (Below.refl _ _)).trans hb4)
             have k3 := (HBB.out.cell (p := ⟨bo, oo + q * 3, none⟩) hbo).trans k0
             have k4 := (HBB.out.cell (p := ⟨bo, oo + q * 3 + 1, none⟩) hbo).trans k1
             have k5 := (HBB.out.cell (p := ⟨bo, oo + q * 3 + 2, none⟩) hbo).trans k2
             have xq3 := (HBB.out.cell (p := ⟨g, q, none⟩) hgl).trans xq
             clear hb4))
        have B4 := Lib.hid (hbl.trans (HBB.out.mono hsz))
        have R4 := Lib.hid (HR.out.below HBB.out HR.out.lt)
        have G4 := Lib.hid (HG'.out.below HBB.out hgs)
        have hs4 := Nat.le_trans hgs HBB.out.size
        clear k0 k1 k2 xq ct HG HG' HR k3 k4 k5 xq3
        cases ha : afterI ops[q] out[q] with
        | none =>
          have HBAD := Lib.hid (HID.out none (HI.out.bad HQ.out hq ha))
          clear ha
          simp only [aftR, Option.isSome]
          go_wp2_with fail
          go_ret2
          exact DepthsTo.no HBAD.out (by unfold maxLen; omega) B4.out
        | some d' =>
          have HP := Lib.hid (HI.out.pop HQ.out hq ha)
          clear ha HI
          have hdr := HP.out.rng
          simp only [aftR, Option.isSome]
          obtain ⟨b', off', eA, hSb', k0, k1, k2, kat⟩ := GOp.elem (HSl.out w4 B4.out) q hq
          obtain ⟨rfl, rfl⟩ : bo = b' ∧ oo = off' := by simpa using eA
          have HNX := Lib.hid (HJ.out.2 q hq)
          clear kat
          go_wp2_with fail
          refine (implFollows ops[q] q w4 (by omega) HW.out.2.1 HW.out.2.2).mono ?_
          rintro e w5 ⟨A5, c5, rfl, hsl5, hb5⟩
          have B5 := Lib.hid (B4.out.trans (hb5.mono B4.out.size))
          have R5 := Lib.hid (R4.out.below hb5 R4.out.lt)
          have G5 := Lib.hid (G4.out.below hb5 hs4)
          have hs5 := Nat.le_trans hs4 hb5.size
          have HOW : Hid (∀ gg, (Value.slice (some ⟨bt, ot, none⟩) ts.length c).ownBlock = some gg → gg < w4.heap.size) := Lib.hid (fun gg e => (G4.out.own gg e).2)
          have S5 := Lib.hid (show Sl w5 (fun b => b < w5.heap.size ∧ b ≠ g ∧ (Value.slice (some ⟨bt, ot, none⟩) ts.length c).ownBlock ≠ some b) 1 A5 c5 ((nextI ops[q] q).map (D.num .i64)) from hsl5.keep fun x hx => ⟨⟨hx.2, by have := hx.1; omega, fun e => by have := HOW.out x e; have := hx.1; omega⟩, rfl⟩)
          have hn5 : (nextI ops[q] q).length ≤ 9223372036854775807 := by simpa using hsl5.len
          clear hb5 hsl5 k0 k1 k2 R4 G4 HOW
          obtain ⟨ns, hns⟩ : ∃ ns, ns = nextI ops[q] q := ⟨_, rfl⟩
          have HM' := Lib.hid (show 2 * negs out + ts.length < k' by have := HM.out.1; omega)
          have hk' : k' ≤ 6002 := by have := HM.out.2; omega
          have hk2 : k' ≤ 2 * ops.length + 2 := by have := HM.out.2; omega
          rw [← hns] at HNX S5 hn5 ⊢
          have HNS := Lib.hid hns
          clear hns HM hol
          go_wp2_with fail
          go_loopw [9, 81] (fun v i wr => ∃ (j : Nat) (out : List Int) (todo : List Nat) (A : Option Addr) (c : Nat), j ≤ ns.length ∧ i = .int .i64 j ∧ v = .slice A todo.length c ∧ Hid (PInv ops out todo q d' (fun x => x ∈ ns.take j)) ∧ Hid (Gsh wr (g + 1) 3 1 (.slice A todo.length c) todo.length ((tdI todo).map (D.num .i64))) ∧ Hid (Row wr g 3 (rowI out)) ∧ Hid (Sl wr (fun b => b < wr.heap.size ∧ b ≠ g ∧ (Value.slice A todo.length c).ownBlock ≠ some b) 1 A5 c5 (ns.map (D.num .i64))) ∧ g + 1 ≤ wr.heap.size ∧ Hid (2 * negs out + todo.length < k') ∧ Below w.heap.size w wr) (fun _ i _ => ns.length - (intOf i).toNat)
          case atStart => exact ⟨0, out, ts, _, _, by omega, by go_num, rfl, Lib.hid (HP.out.mono (by simp)), G5, R5, S5, hs5, HM', B5.out⟩
          case round =>
            clear HP G5 R5 S5 hs5 HM' B5
            obtain ⟨j, out2, todo2, A2, c2, hj, rfl, rfl, HP2, HG2, HR2, HS2, hs2, HM2, hb2⟩ := hrel
            have hgl2 := HR2.out.lt
            by_cases hlt : j < ns.length
            · have hx := HNX.out ns[j] (List.getElem_mem hlt)
              obtain ⟨m, hm⟩ : ∃ m : Nat, ns[j] = (m : Int) := ⟨(ns[j]).toNat, by omega⟩
              have hmo : m < ops.length := by omega
              have hml : m < out2.length := by have := HP2.out.base.len; omega
              obtain ⟨bn, onn, rfl, hSn, cn, -⟩ := int_elem HS2.out j hlt
              rw [hm] at cn
              have HME := Lib.hid (show (m : Int) ∈ nextI (ops[q]'HP2.out.hq) q by rw [← HNS.out, ← hm]; exact List.getElem_mem hlt)
              have HMJ := Lib.hid hm
              have xm := (HR2.out.cell m).trans (rowI_get hml)
              have xf := HR2.out.frozen m
              have hol2 := HP2.out.base.len
              clear hx hm
              by_cases hneg : out2[m] = -1
              · rw [hneg] at xm
                have HP3 := Lib.hid (HP2.out.set HME.out hml hneg)
                have HN3 := Lib.hid (negs_set (d := d') hml hneg (by omega))
                have ess : (wr.setCell ⟨g, m, none⟩ (.int .i64 d')).heap.size = wr.heap.size := by simp [World.setCell]
                have HG3 := Lib.hid (HG2.out.setFar (p := ⟨g, m, none⟩) (by simp) (.int .i64 d'))
                have HR3 := Lib.hid (show Row (wr.setCell ⟨g, m, none⟩ (.int .i64 d')) g 3 (rowI (out2.set m d')) by rw [← rowI_set]; exact HR2.out.set m _)
                have HD := Lib.hid (show (D.num .i64 (m : Int)).rd (wr.setCell ⟨g, m, none⟩ (.int .i64 d')) (Lt (g + 1)) [.int .i64 (m : Int)] from D.rd_num.2 ⟨rfl, wf_i64 (by omega) (by omega)⟩)
                have htl : todo2.length < 1048577 := by have := HM2.out; omega
                have hs2' : g + 1 ≤ (wr.setCell ⟨g, m, none⟩ (.int .i64 d')).heap.size := by rw [ess]; exact hs2
                have hown : (Value.slice A2 todo2.length c2).ownBlock ≠ some g := fun e => by have := (HG2.out.own g e).1; omega
                have hml3 : m < (out2.set m d').length := by simpa using hml
                have HB3 := Lib.hid (hb2.setCell (p := ⟨g, m, none⟩) hgw (.int .i64 d'))
                have HS3 := Lib.hid (HS2.out.keep (w' := wr.setCell ⟨g, m, none⟩ (.int .i64 d')) (S' := fun b => b < wr.heap.size ∧ b ≠ g ∧ (Value.slice A2 todo2.length c2).ownBlock ≠ some b) (fun x hx => ⟨hx, Below.heap_setCell wr ⟨g, m, none⟩ _ x (by have := hx.2.1; simpa using this)⟩))
                clear hneg
                go_wp2_with (first | (at_builtin; refine wpList_append_G (wr.setCell ⟨g, m, none⟩ (.int .i64 d')) rfl (.tmp 94) (.tmp 96) 25 rfl 3 (.int .i64 0) 1 8 Try.underlying25 (by kernel_rfl) rfl (by omega) (g + 1) (.slice A2 todo2.length c2) todo2.length _ HG3.out (D.num .i64 (m : Int)) [.int .i64 (m : Int)] HD.out hs2' rfl (by simp [Value.oneCell']) htl (by omega) 3 rfl wr.heap.size ess.symm rfl ?_; intro gg cap w6 G6 hGr6; have R6 := Lib.hid (hGr6.row HR3.out hown); have xm6 := (R6.out.cell m).trans ((rowI_get hml3).trans (by rw [List.getElem_set_self])); have G6h := Lib.hid G6; have GR6 := Lib.hid hGr6; clear G6 hGr6))
                go_roundw
                case rel =>
                  refine ⟨j + 1, out2.set m d', todo2 ++ [m], some ⟨gg, 0, none⟩, cap, by omega, by go_num, by simp, Lib.hid (HP3.out.mono fun x hx => ?_), Lib.hid ?_, R6, Lib.hid (HS3.out.keep fun x hx => ⟨⟨?_, hx.2.1, ?_⟩, ?_⟩), ?_, Lib.hid ?_, HB3.out.trans (GR6.out.below (B := w.heap.size) ?_ ?_)⟩
                  · rcases mem_take_succ hlt hx with h | h
                    · exact .inl h
                    · exact .inr (h.trans HMJ.out)
                  · rw [tdI_snoc]; simpa using G6h.out
                  · have := GR6.out.size; rw [ess] at this; omega
                  · have h := GR6.out.ne hx.2.2 (by rw [ess]; exact hx.1); simpa using h
                  · exact GR6.out.grow.block x (by rw [ess]; exact hx.1) (fun e => hx.2.2 e.symm)
                  · have := GR6.out.size; rw [ess] at this; omega
                  · have h1 := HM2.out; have h2 := HN3.out; simp only [List.length_append, List.length_singleton]; omega
                  · rw [ess]; omega
                  · intro gg' e; have := (HG2.out.own gg' e).1; omega
                case measure => simp [intOf]; omega
              · have hpos := HP2.out.base.rng hml hneg
                have ed : decide (out2[m] < 0) = false := decide_eq_false (by omega)
                by_cases hsame : out2[m] = d'
                · have e7 : (out2[m] != d') = false := by rw [bne_eq_false_iff_eq]; exact hsame
                  have HP3 := Lib.hid (HP2.out.same hml hsame)
                  clear hsame hneg
                  go_wp2_with fail
                  go_roundw
                  case rel =>
                    refine ⟨j + 1, out2, todo2, A2, c2, by omega, by go_num, rfl, Lib.hid (HP3.out.mono fun x hx => ?_), HG2, HR2, HS2, hs2, HM2, hb2⟩
                    rcases mem_take_succ hlt hx with h | h
                    · exact .inl h
                    · exact .inr (h.trans HMJ.out)
                  case measure => simp [intOf]; omega
                · have e7 : (out2[m] != d') = true := by rw [bne_iff_ne]; exact hsame
                  have HBAD := Lib.hid (HID.out none (HP2.out.bad HME.out hml hneg hsame))
                  clear hsame hneg
                  go_wp2_with fail
                  go_ret2
                  exact DepthsTo.no HBAD.out (by unfold maxLen; omega) hb2
            · have HEND := Lib.hid (HP2.out.end (fun x hx => by rw [← HNS.out] at hx; rwa [show j = ns.length by omega, List.take_length]))
              go_wp2_with fail
              go_roundg k'
              case measure => omega
              case rel => exact ⟨out2, todo2, A2, c2, rfl, HEND, HG2, HR2, hs2, Lib.hid ⟨HM2.out, by omega⟩, hb2⟩

end Go.Proofs.Ytjcgfbjdailgoaa
