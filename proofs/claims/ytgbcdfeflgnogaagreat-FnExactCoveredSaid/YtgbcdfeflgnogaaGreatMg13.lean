/- Several texts of this claim in one: Max Deep DeepTy TidyP. Conditions: none but bounds on sizes. -/
import Derived.Test.YtgbcdfeflgnogaaGreatRows
import Derived.Test.YtgbcdfeflgnogaaGreatMg0
import Derived.Test.YtgbcdfeflgnogaaGreatMg2
import Derived.Lib.Hide
import Derived.Test.YtgbcdfeflgnogaaGreatMg4
import Derived.Test.YtgbcdfeflgnogaaGreatMg3
import Derived.Test.YtgbcdfeflgnogaaGreatMg12
/- The greater of two. Conditions: none. -/
namespace Go.Proofs.YtgbcdfeflgnogaaGreat
open Go.RowKit
theorem specMax (a b : Int) (w : World) : Calls Tryz.prog 43 #[.int .i64 a, .int .i64 b] w fun e w' => e = .returned (.int .i64 (max a b)) ∧ w = w' := by
  by_cases h : b < a
  · go_enter Tryz.func43, Tryz.ntmps43
    go_wp2_with fail
    go_ret
    exact ⟨ret_int (by omega), rfl⟩
  · go_enter Tryz.func43, Tryz.ntmps43
    go_wp2_with fail
    go_ret
    exact ⟨ret_int (by omega), rfl⟩
end Go.Proofs.YtgbcdfeflgnogaaGreat

/- Deep. Conditions: none but a bound on the result. -/
namespace Go.Proofs.YtgbcdfeflgnogaaGreat
open Go.RowKit
set_option linter.unusedVariables false
set_option linter.unusedSimpArgs false
set_option maxHeartbeats 400000

mutual
/-- how many nodes are within each other, itself too -/
def GNode.deep : GNode → Nat | .mk _ _ _ _ kids => GNode.deepL kids + 1
def GNode.deepL : List GNode → Nat | [] => 0 | t :: r => max t.deep (GNode.deepL r)
end

theorem GNode.deep_eq (t : GNode) : t.deep = GNode.deepL t.kids + 1 := by cases t; simp only [GNode.deep, GNode.kids]

theorem GNode.deepL_take (l : List GNode) (i : Nat) (h : i < l.length) : GNode.deepL (l.take (i + 1)) = max (GNode.deepL (l.take i)) (l[i]).deep := by
  induction l generalizing i with
  | nil => simp at h
  | cons t r ih =>
    match i with
    | 0 => simp [GNode.deepL]
    | i + 1 => simp only [List.take_succ_cons, GNode.deepL, List.getElem_cons_succ]; rw [ih i (by simpa using h)]; omega

theorem GNode.deepL_le (l : List GNode) (i : Nat) : GNode.deepL (l.take i) ≤ GNode.deepL l := by
  induction l generalizing i with
  | nil => simp
  | cons t r ih =>
    match i with
    | 0 => simp [GNode.deepL]
    | i + 1 => simp only [List.take_succ_cons, GNode.deepL]; have := ih i; omega

mutual
theorem GNode.deep_bulk : ∀ t : GNode, t.deep ≤ t.bulk + 1
  | .mk op n s t kids => by simp only [GNode.deep, GNode.bulk]; have := GNode.deepL_bulk kids; omega
theorem GNode.deepL_bulk : ∀ l : List GNode, GNode.deepL l ≤ GNode.bulks l
  | [] => by simp [GNode.deepL]
  | t :: r => by simp only [GNode.deepL, GNode.bulks]; have := GNode.deep_bulk t; have := GNode.deepL_bulk r; omega
end

theorem implDeep (k : Nat) : ∀ (t : GNode) (A1 : Option Addr) (c1 : Nat) (w : World), t.deep ≤ k → t.deep ≤ 4611686018427387904 → GNode.At w (Lt w.heap.size) A1 c1 t →
    Calls Tryz.prog 53 #[.agg #[.int .i64 t.op, .int .i64 t.n, .string t.s, .string t.t, .slice A1 t.kids.length c1]] w fun e w' => e = .returned (.int .i64 t.deep) ∧ Below w.heap.size w w' := by
  induction k with
  | zero => intro t A1 c1 w h; rw [GNode.deep_eq] at h; omega
  | succ k ih =>
    intro t A1 c1 w hk hb ht
    obtain ⟨-, -, -, -, hs⟩ := id ht
    have hlen : t.kids.length ≤ 9223372036854775807 := by simpa using hs.len
    go_enter Tryz.func53, Tryz.ntmps53
    go_wp2_with fail
    go_loopw [3, 9] (fun n i wr => ∃ j : Nat, j ≤ t.kids.length ∧ i = .int .i64 j ∧ n = .int .i64 (GNode.deepL (t.kids.take j)) ∧ Below w.heap.size w wr) (fun _ i _ => t.kids.length - (intOf i).toNat)
    case atStart => exact ⟨0, by omega, by go_num, by simp [GNode.deepL], (Below.refl _ _).alloc (Nat.le_refl _) _⟩
    case round =>
      obtain ⟨j, hj, rfl, rfl, hbl⟩ := hrel
      have hsz := hbl.size
      by_cases hlt : j < t.kids.length
      · have htr := GNode.elem (hs.below hbl (Nat.le_refl _)) j hlt
        obtain ⟨b, off, A'1, c'1, rfl, hSb, g0, g1, g2, g3, g4, hat⟩ := htr
        have hs1 := GNode.deepL_take t.kids j hlt
        have hs2 := GNode.deepL_le t.kids (j + 1)
        have hs3 := t.deep_eq
        have Hs := Lib.hid hs1
        have hs4 : GNode.deepL (t.kids.take j) + 0 ≤ 4611686018427387904 := by omega
        have hs5 : (t.kids[j]).deep ≤ k := by omega
        have hs6 : (t.kids[j]).deep ≤ 4611686018427387904 := by omega
        clear hs1 hs2 hs3
        go_wp2_with fail
        refine (ih _ _ _ _ hs5 hs6 (hat.below ((Below.refl _ _).alloc (by omega) _) (by simp; omega))).mono ?_
        rintro e w1 ⟨rfl, hb1⟩
        go_wp2_with fail
        all_goals
          go_roundw
          case rel => exact ⟨j + 1, by omega, by go_num, by rw [Hs.out]; congr 1; omega, hbl.trans (((Below.refl _ _).alloc hsz _).trans (hb1.mono (by simp; omega)))⟩
          case measure => simp [intOf]; omega
      · have hjl : j = t.kids.length := by omega
        have Hj := Lib.hid hjl
        clear hjl
        have hbd := t.deep_eq
        have hbd2 := GNode.deepL_le t.kids j
        have hbd3 : GNode.deepL (t.kids.take j) ≤ 4611686018427387904 := by omega
        clear hbd hbd2
        go_wp2_with fail
        go_ret
        exact ⟨ret_int (by rw [t.deep_eq, Hj.out, List.take_length]; simp), hbl⟩

theorem specDeep (k : Nat) : ∀ (t : GNode) (A1 : Option Addr) (c1 : Nat) (w : World), t.deep ≤ k → t.deep ≤ 4611686018427387904 → GNode.At w (Lt w.heap.size) A1 c1 t →
    Calls Tryz.prog 25 #[.agg #[.int .i64 t.op, .int .i64 t.n, .string t.s, .string t.t, .slice A1 t.kids.length c1]] w fun e w' => e = .returned (.int .i64 t.deep) ∧ Below w.heap.size w w' := by
  induction k with
  | zero => intro t A1 c1 w h; rw [GNode.deep_eq] at h; omega
  | succ k ih =>
    intro t A1 c1 w hk hb ht
    obtain ⟨-, -, -, -, hs⟩ := id ht
    have hlen : t.kids.length ≤ 9223372036854775807 := by simpa using hs.len
    go_enter Tryz.func25, Tryz.ntmps25
    go_wp2_with fail
    go_loopw [3, 4] (fun n i wr => ∃ j : Nat, j ≤ t.kids.length ∧ i = .int .i64 j ∧ n = .int .i64 (GNode.deepL (t.kids.take j)) ∧ Below w.heap.size w wr ∧ Row wr w.heap.size 33 #[.int .i64 t.op, .int .i64 t.n, .string t.s, .string t.t, .slice A1 t.kids.length c1]) (fun _ i _ => t.kids.length - (intOf i).toNat)
    case atStart => exact ⟨0, by omega, by go_num, by simp [GNode.deepL], (Below.refl _ _).alloc (Nat.le_refl _) _, Row.new _ _ _⟩
    case round =>
      obtain ⟨j, hj, rfl, rfl, hbl, hrow⟩ := hrel
      have hsz := hbl.size
      have hgl := hrow.lt
      have hc := fun i => hrow.cell i
      by_cases hlt : j < t.kids.length
      · have htr := GNode.elem (hs.below hbl (Nat.le_refl _)) j hlt
        obtain ⟨b, off, A'1, c'1, rfl, hSb, g0, g1, g2, g3, g4, hat⟩ := htr
        have hs1 := GNode.deepL_take t.kids j hlt
        have hs2 := GNode.deepL_le t.kids (j + 1)
        have hs3 := t.deep_eq
        have Hs := Lib.hid hs1
        have hs4 : GNode.deepL (t.kids.take j) + 0 ≤ 4611686018427387904 := by omega
        have hs5 : (t.kids[j]).deep ≤ k := by omega
        have hs6 : (t.kids[j]).deep ≤ 4611686018427387904 := by omega
        clear hs1 hs2 hs3
        go_wp2_with fail
        refine (ih _ _ _ _ hs5 hs6 (hat.below (Below.refl _ _) (by omega))).mono ?_
        rintro e w1 ⟨rfl, hb1⟩
        go_wp2_with fail
        refine (specMax _ _ _).mono ?_
        rintro e w2 ⟨rfl, rfl⟩
        go_wp2_with fail
        all_goals
          go_roundw
          case rel => exact ⟨j + 1, by omega, by go_num, by rw [Hs.out]; congr 1; omega, hbl.trans (hb1.mono hsz), hrow.below hb1 hgl⟩
          case measure => simp [intOf]; omega
      · have hjl : j = t.kids.length := by omega
        have Hj := Lib.hid hjl
        clear hjl
        have hbd := t.deep_eq
        have hbd2 := GNode.deepL_le t.kids j
        have hbd3 : GNode.deepL (t.kids.take j) ≤ 4611686018427387904 := by omega
        clear hbd hbd2
        go_wp2_with fail
        go_ret
        exact ⟨ret_int (by rw [t.deep_eq, Hj.out, List.take_length]; simp), hbl⟩

end Go.Proofs.YtgbcdfeflgnogaaGreat

/- How deep types are. Conditions: none but a bound on the result. -/
namespace Go.Proofs.YtgbcdfeflgnogaaGreat
open Go.RowKit
set_option linter.unusedVariables false
set_option linter.unusedSimpArgs false
set_option maxHeartbeats 400000

mutual
/-- how many nodes are within each other, itself too -/
def GTy.deep : GTy → Nat | .mk _ _ _ kids => GTy.deepL kids + 1
def GTy.deepL : List GTy → Nat | [] => 0 | t :: r => max t.deep (GTy.deepL r)
end

theorem GTy.deep_eq (t : GTy) : t.deep = GTy.deepL t.kids + 1 := by cases t; simp only [GTy.deep, GTy.kids]

theorem GTy.deepL_take (l : List GTy) (i : Nat) (h : i < l.length) : GTy.deepL (l.take (i + 1)) = max (GTy.deepL (l.take i)) (l[i]).deep := by
  induction l generalizing i with
  | nil => simp at h
  | cons t r ih =>
    match i with
    | 0 => simp [GTy.deepL]
    | i + 1 => simp only [List.take_succ_cons, GTy.deepL, List.getElem_cons_succ]; rw [ih i (by simpa using h)]; omega

theorem GTy.deepL_le (l : List GTy) (i : Nat) : GTy.deepL (l.take i) ≤ GTy.deepL l := by
  induction l generalizing i with
  | nil => simp
  | cons t r ih =>
    match i with
    | 0 => simp [GTy.deepL]
    | i + 1 => simp only [List.take_succ_cons, GTy.deepL]; have := ih i; omega

mutual
theorem GTy.deep_bulk : ∀ t : GTy, t.deep ≤ t.bulk + 1
  | .mk op n s kids => by simp only [GTy.deep, GTy.bulk]; have := GTy.deepL_bulk kids; omega
theorem GTy.deepL_bulk : ∀ l : List GTy, GTy.deepL l ≤ GTy.bulks l
  | [] => by simp [GTy.deepL]
  | t :: r => by simp only [GTy.deepL, GTy.bulks]; have := GTy.deep_bulk t; have := GTy.deepL_bulk r; omega
end

theorem implDeepTy (k : Nat) : ∀ (t : GTy) (A1 : Option Addr) (c1 : Nat) (w : World), t.deep ≤ k → t.deep ≤ 4611686018427387904 → GTy.At w (Lt w.heap.size) A1 c1 t →
    Calls Tryz.prog 52 #[.agg #[.int .i64 t.op, .int .i64 t.n, .string t.s, .slice A1 t.kids.length c1]] w fun e w' => e = .returned (.int .i64 t.deep) ∧ Below w.heap.size w w' := by
  induction k with
  | zero => intro t A1 c1 w h; rw [GTy.deep_eq] at h; omega
  | succ k ih =>
    intro t A1 c1 w hk hb ht
    obtain ⟨-, -, -, hs⟩ := id ht
    have hlen : t.kids.length ≤ 9223372036854775807 := by simpa using hs.len
    go_enter Tryz.func52, Tryz.ntmps52
    go_wp2_with fail
    go_loopw [3, 9] (fun n i wr => ∃ j : Nat, j ≤ t.kids.length ∧ i = .int .i64 j ∧ n = .int .i64 (GTy.deepL (t.kids.take j)) ∧ Below w.heap.size w wr) (fun _ i _ => t.kids.length - (intOf i).toNat)
    case atStart => exact ⟨0, by omega, by go_num, by simp [GTy.deepL], (Below.refl _ _).alloc (Nat.le_refl _) _⟩
    case round =>
      obtain ⟨j, hj, rfl, rfl, hbl⟩ := hrel
      have hsz := hbl.size
      by_cases hlt : j < t.kids.length
      · have htr := GTy.elem (hs.below hbl (Nat.le_refl _)) j hlt
        obtain ⟨b, off, A'1, c'1, rfl, hSb, g0, g1, g2, g3, hat⟩ := htr
        have hs1 := GTy.deepL_take t.kids j hlt
        have hs2 := GTy.deepL_le t.kids (j + 1)
        have hs3 := t.deep_eq
        have Hs := Lib.hid hs1
        have hs4 : GTy.deepL (t.kids.take j) + 0 ≤ 4611686018427387904 := by omega
        have hs5 : (t.kids[j]).deep ≤ k := by omega
        have hs6 : (t.kids[j]).deep ≤ 4611686018427387904 := by omega
        clear hs1 hs2 hs3
        go_wp2_with fail
        refine (ih _ _ _ _ hs5 hs6 (hat.below ((Below.refl _ _).alloc (by omega) _) (by simp; omega))).mono ?_
        rintro e w1 ⟨rfl, hb1⟩
        go_wp2_with fail
        all_goals
          go_roundw
          case rel => exact ⟨j + 1, by omega, by go_num, by rw [Hs.out]; congr 1; omega, hbl.trans (((Below.refl _ _).alloc hsz _).trans (hb1.mono (by simp; omega)))⟩
          case measure => simp [intOf]; omega
      · have hjl : j = t.kids.length := by omega
        have Hj := Lib.hid hjl
        clear hjl
        have hbd := t.deep_eq
        have hbd2 := GTy.deepL_le t.kids j
        have hbd3 : GTy.deepL (t.kids.take j) ≤ 4611686018427387904 := by omega
        clear hbd hbd2
        go_wp2_with fail
        go_ret
        exact ⟨ret_int (by rw [t.deep_eq, Hj.out, List.take_length]; simp), hbl⟩

theorem specDeepTy (k : Nat) : ∀ (t : GTy) (A1 : Option Addr) (c1 : Nat) (w : World), t.deep ≤ k → t.deep ≤ 4611686018427387904 → GTy.At w (Lt w.heap.size) A1 c1 t →
    Calls Tryz.prog 23 #[.agg #[.int .i64 t.op, .int .i64 t.n, .string t.s, .slice A1 t.kids.length c1]] w fun e w' => e = .returned (.int .i64 t.deep) ∧ Below w.heap.size w w' := by
  induction k with
  | zero => intro t A1 c1 w h; rw [GTy.deep_eq] at h; omega
  | succ k ih =>
    intro t A1 c1 w hk hb ht
    obtain ⟨-, -, -, hs⟩ := id ht
    have hlen : t.kids.length ≤ 9223372036854775807 := by simpa using hs.len
    go_enter Tryz.func23, Tryz.ntmps23
    go_wp2_with fail
    go_loopw [3, 4] (fun n i wr => ∃ j : Nat, j ≤ t.kids.length ∧ i = .int .i64 j ∧ n = .int .i64 (GTy.deepL (t.kids.take j)) ∧ Below w.heap.size w wr ∧ Row wr w.heap.size 61 #[.int .i64 t.op, .int .i64 t.n, .string t.s, .slice A1 t.kids.length c1]) (fun _ i _ => t.kids.length - (intOf i).toNat)
    case atStart => exact ⟨0, by omega, by go_num, by simp [GTy.deepL], (Below.refl _ _).alloc (Nat.le_refl _) _, Row.new _ _ _⟩
    case round =>
      obtain ⟨j, hj, rfl, rfl, hbl, hrow⟩ := hrel
      have hsz := hbl.size
      have hgl := hrow.lt
      have hc := fun i => hrow.cell i
      by_cases hlt : j < t.kids.length
      · have htr := GTy.elem (hs.below hbl (Nat.le_refl _)) j hlt
        obtain ⟨b, off, A'1, c'1, rfl, hSb, g0, g1, g2, g3, hat⟩ := htr
        have hs1 := GTy.deepL_take t.kids j hlt
        have hs2 := GTy.deepL_le t.kids (j + 1)
        have hs3 := t.deep_eq
        have Hs := Lib.hid hs1
        have hs4 : GTy.deepL (t.kids.take j) + 0 ≤ 4611686018427387904 := by omega
        have hs5 : (t.kids[j]).deep ≤ k := by omega
        have hs6 : (t.kids[j]).deep ≤ 4611686018427387904 := by omega
        clear hs1 hs2 hs3
        go_wp2_with fail
        refine (ih _ _ _ _ hs5 hs6 (hat.below (Below.refl _ _) (by omega))).mono ?_
        rintro e w1 ⟨rfl, hb1⟩
        go_wp2_with fail
        refine (specMax _ _ _).mono ?_
        rintro e w2 ⟨rfl, rfl⟩
        go_wp2_with fail
        all_goals
          go_roundw
          case rel => exact ⟨j + 1, by omega, by go_num, by rw [Hs.out]; congr 1; omega, hbl.trans (hb1.mono hsz), hrow.below hb1 hgl⟩
          case measure => simp [intOf]; omega
      · have hjl : j = t.kids.length := by omega
        have Hj := Lib.hid hjl
        clear hjl
        have hbd := t.deep_eq
        have hbd2 := GTy.deepL_le t.kids j
        have hbd3 : GTy.deepL (t.kids.take j) ≤ 4611686018427387904 := by omega
        clear hbd hbd2
        go_wp2_with fail
        go_ret
        exact ⟨ret_int (by rw [t.deep_eq, Hj.out, List.take_length]; simp), hbl⟩

end Go.Proofs.YtgbcdfeflgnogaaGreat

/- A program that is tidy: what both compute (no program in sight). Conditions: none. -/
namespace Go.Proofs.YtgbcdfeflgnogaaGreat
open Go.RowKit
set_option linter.unusedVariables false
set_option linter.unusedSimpArgs false

/-- is a type of a con too deep, or not tidy? -/
def badA (vs : Int) (t : GTy) : Bool := decide (24 < t.deep) || !t.tidy vs
def badK (vs : Int) (c : GCon) : Bool := !conB c.name || c.args.any (badA vs)
def badG (d : GData) : Bool := !conB d.name || (!inB d.vars 0 26 || (d.cons.isEmpty || d.cons.any (badK d.vars)))
/-- is a program tidy? -/
def tidyP (p : GProg) : Bool := !(p.datas.any badG) && (decide (p.main.deep ≤ 24) && p.main.exp)

/-- the same, as the program asks it -/
def deepA (t : GTy) : Bool := decide (24 < t.deep)
def deepK (c : GCon) : Bool := c.args.any deepA
def deepG (d : GData) : Bool := d.cons.any deepK
def untidyK (vs : Int) (c : GCon) : Bool := !conB c.name || c.args.any fun t => !t.tidy vs
def untidyG (d : GData) : Bool := !conB d.name || (!inB d.vars 0 26 || (d.cons.isEmpty || d.cons.any (untidyK d.vars)))
def deepsOk (p : GProg) : Bool := !(p.datas.any deepG) && decide (p.main.deep ≤ 24)
def tidyQ (p : GProg) : Bool := deepsOk p && (p.main.exp && !(p.datas.any untidyG))

theorem any_or {α : Type} (f g h : α → Bool) (e : ∀ x, h x = (f x || g x)) : ∀ l : List α, l.any h = (l.any f || l.any g)
  | [] => rfl
  | x :: r => by
    simp only [List.any_cons, any_or f g h e r, e]
    cases f x <;> cases g x <;> simp
theorem badK_eq (vs : Int) (c : GCon) : badK vs c = (deepK c || untidyK vs c) := by
  unfold badK deepK untidyK
  rw [any_or deepA (fun t => !t.tidy vs) (badA vs) (fun t => rfl)]
  cases conB c.name <;> simp
theorem badG_eq (d : GData) : badG d = (deepG d || untidyG d) := by
  unfold badG deepG untidyG
  rw [any_or deepK (untidyK d.vars) (badK d.vars) (badK_eq d.vars)]
  cases conB d.name <;> cases inB d.vars 0 26 <;> cases d.cons.isEmpty <;> simp
theorem tidyQ_eq (p : GProg) : tidyQ p = tidyP p := by
  unfold tidyQ tidyP deepsOk
  rw [any_or deepG untidyG badG badG_eq]
  cases p.datas.any deepG <;> cases p.datas.any untidyG <;> cases p.main.exp <;> simp

theorem tidyP_data {p : GProg} (h : p.datas.any badG = true) : tidyP p = false := by unfold tidyP; rw [h]; rfl
theorem tidyP_main {p : GProg} (h : p.datas.any badG = false) : tidyP p = (decide (p.main.deep ≤ 24) && p.main.exp) := by unfold tidyP; rw [h]; rfl
theorem badG_name {d : GData} (h : conB d.name = false) : badG d = true := by unfold badG; rw [h]; rfl
theorem badG_vars {d : GData} (h : inB d.vars 0 26 = false) : badG d = true := by unfold badG; rw [h]; simp
theorem badG_none {d : GData} (h : d.cons.length = 0) : badG d = true := by unfold badG; rw [List.eq_nil_of_length_eq_zero h]; simp
theorem badG_con {d : GData} (h : d.cons.any (badK d.vars) = true) : badG d = true := by unfold badG; rw [h]; simp
theorem badG_not {d : GData} (h0 : conB d.name = true) (h1 : inB d.vars 0 26 = true) (h2 : ¬ d.cons.length = 0) (h : d.cons.any (badK d.vars) = false) : badG d = false := by
  unfold badG; rw [h0, h1, h]
  cases hc : d.cons with
  | nil => rw [hc] at h2; exact absurd rfl h2
  | cons a r => rfl
theorem untidyG_name {d : GData} (h : conB d.name = false) : untidyG d = true := by unfold untidyG; rw [h]; rfl
theorem untidyG_vars {d : GData} (h : inB d.vars 0 26 = false) : untidyG d = true := by unfold untidyG; rw [h]; simp
theorem untidyG_none {d : GData} (h : d.cons.length = 0) : untidyG d = true := by unfold untidyG; rw [List.eq_nil_of_length_eq_zero h]; simp
theorem untidyG_con {d : GData} (h : d.cons.any (untidyK d.vars) = true) : untidyG d = true := by unfold untidyG; rw [h]; simp
theorem untidyG_not {d : GData} (h0 : conB d.name = true) (h1 : inB d.vars 0 26 = true) (h2 : ¬ d.cons.length = 0) (h : d.cons.any (untidyK d.vars) = false) : untidyG d = false := by
  unfold untidyG; rw [h0, h1, h]
  cases hc : d.cons with
  | nil => rw [hc] at h2; exact absurd rfl h2
  | cons a r => rfl

theorem GCon.args_bulk (c : GCon) : bulkL GTy.bulk c.args ≤ c.bulk := by have := c.bulk_eq; omega
theorem GData.cons_bulk (d : GData) : bulkL GCon.bulk d.cons ≤ d.bulk := by have := d.bulk_eq; omega
/-- a type of a data is not greater than all -/
theorem arg_bulk {l : List GData} {j k m : Nat} (hj : j < l.length) (hk : k < l[j].cons.length) (hm : m < (l[j].cons[k]).args.length) : ((l[j].cons[k]).args[m]).bulk ≤ bulkL GData.bulk l := by
  have h1 := bulkL_mem GData.bulk l _ (List.getElem_mem hj)
  have h2 := bulkL_mem GCon.bulk l[j].cons _ (List.getElem_mem hk)
  have h3 := bulkL_mem GTy.bulk (l[j].cons[k]).args _ (List.getElem_mem hm)
  have h4 := GData.cons_bulk l[j]
  have h5 := GCon.args_bulk (l[j].cons[k])
  omega
end Go.Proofs.YtgbcdfeflgnogaaGreat
