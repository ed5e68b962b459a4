/- Coverage: what begins with anything is alike, whatever it is called (no program in sight). Conditions: none. -/
import Derived.Test.YtgbcdfeflgnogaaCoverU
namespace Go.Proofs.Ytgbcdfeflgnogaa
open Go.RowKit
set_option linter.unusedVariables false
set_option linter.unusedSimpArgs false

def nrm (x : GNode) : GNode := if isAnyB x = true then anyN else x
theorem anyN_any : isAnyB anyN = true := rfl
theorem nrm_any {x : GNode} (h : isAnyB x = true) : nrm x = anyN := if_pos h
theorem nrm_con {x : GNode} (h : isAnyB x = false) : nrm x = x := if_neg (by rw [h]; simp)
theorem nrm_isAny (x : GNode) : isAnyB (nrm x) = isAnyB x := by
  cases h : isAnyB x
  · rw [nrm_con h, h]
  · rw [nrm_any h]; rfl
/-- two patterns that are one but for what anything is called -/
theorem nrm_cases {x y : GNode} (h : nrm x = nrm y) : (isAnyB x = true ∧ isAnyB y = true) ∨ (isAnyB x = false ∧ x = y) := by
  have h1 : isAnyB x = isAnyB y := by rw [← nrm_isAny x, h, nrm_isAny]
  cases hx : isAnyB x
  · rw [hx] at h1
    rw [nrm_con hx, nrm_con h1.symm] at h
    exact .inr ⟨rfl, h⟩
  · rw [hx] at h1
    exact .inl ⟨rfl, h1.symm⟩
abbrev nr (r : List GNode) : List GNode := r.map nrm
theorem isAny_op {x : GNode} (h : isAnyB x = true) : x.op ≠ 20 := fun e => by rw [isAny_con (by simp [e])] at h; cases h
theorem nr_cons {x : GNode} {t r : List GNode} (h : nr (x :: t) = nr r) : ∃ y u, r = y :: u ∧ nrm x = nrm y ∧ nr t = nr u := by
  cases r with
  | nil => simp at h
  | cons y u => simp only [nr, List.map_cons, List.cons.injEq] at h; exact ⟨y, u, rfl, h.1, h.2⟩
theorem into1_nr (p : GNode) {r r' : List GNode} (h : nr r = nr r') : (into1 p r).map nr = (into1 p r').map nr := by
  cases r with
  | nil =>
    cases r' with
    | nil => rfl
    | cons y u => simp at h
  | cons x t =>
    obtain ⟨y, u, rfl, h1, h2⟩ := nr_cons h
    rw [into1_cons, into1_cons]
    rcases nrm_cases h1 with ⟨a, b⟩ | ⟨a, rfl⟩
    · rw [if_pos a, if_pos b]; simp [nr, h2]
    · simp only [a, Bool.false_eq_true, if_false]
      cases alikeB x p
      · rfl
      · simp [nr, h2]
theorem rest1_nr {r r' : List GNode} (h : nr r = nr r') : (rest1 r).map nr = (rest1 r').map nr := by
  cases r with
  | nil =>
    cases r' with
    | nil => rfl
    | cons y u => simp at h
  | cons x t =>
    obtain ⟨y, u, rfl, h1, h2⟩ := nr_cons h
    rw [rest1_cons, rest1_cons]
    rcases nrm_cases h1 with ⟨a, b⟩ | ⟨a, rfl⟩
    · rw [if_pos a, if_pos b]; simp [nr, h2]
    · simp only [a, Bool.false_eq_true, if_false]
theorem fm_nr {f g : List GNode → Option (List GNode)} (hf : ∀ r r', nr r = nr r' → (f r).map nr = (g r').map nr) : ∀ {rows rows' : List (List GNode)}, rows.map nr = rows'.map nr → (rows.filterMap f).map nr = (rows'.filterMap g).map nr
  | [], [], _ => rfl
  | [], b :: l, h => by simp at h
  | a :: l, [], h => by simp at h
  | a :: l, b :: k, h => by
    simp only [List.map_cons, List.cons.injEq] at h
    have h1 := hf a b h.1
    have h2 := fm_nr hf h.2
    rw [List.filterMap_cons, List.filterMap_cons]
    cases ha : f a <;> cases hb : g b <;> rw [ha, hb] at h1 <;> simp at h1
    · exact h2
    · simp only [List.map_cons, h2]; rw [show nr _ = nr _ from h1]
theorem hd_nr {r r' : List GNode} (h : nr r = nr r') : ((hd r).op = 20 ↔ (hd r').op = 20) ∧ ((hd r).op = 20 → (hd r).s = (hd r').s) := by
  cases r with
  | nil =>
    cases r' with
    | nil => exact ⟨Iff.rfl, fun _ => rfl⟩
    | cons y u => simp at h
  | cons x t =>
    obtain ⟨y, u, rfl, h1, h2⟩ := nr_cons h
    rcases nrm_cases h1 with ⟨a, b⟩ | ⟨a, rfl⟩
    · exact ⟨⟨fun e => absurd e (isAny_op a), fun e => absurd e (isAny_op b)⟩, fun e => absurd e (isAny_op a)⟩
    · exact ⟨Iff.rfl, fun _ => rfl⟩
theorem dataStep_nr (ds : List GData) (a : Int) {r r' : List GNode} (h : nr r = nr r') : dataStep ds a r = dataStep ds a r' := by
  obtain ⟨h1, h2⟩ := hd_nr h
  unfold dataStep
  by_cases hc : a < 0 ∧ (hd r).op = 20
  · rw [if_pos hc, if_pos ⟨hc.1, h1.1 hc.2⟩, h2 hc.2]
  · rw [if_neg hc, if_neg (fun e => hc ⟨e.1, h1.2 e.2⟩)]
theorem dataFold_nr (ds : List GData) : ∀ {rows rows' : List (List GNode)} (a : Int), rows.map nr = rows'.map nr → rows.foldl (dataStep ds) a = rows'.foldl (dataStep ds) a
  | [], [], _, _ => rfl
  | [], b :: l, _, h => by simp at h
  | a :: l, [], _, h => by simp at h
  | x :: l, y :: k, a, h => by
    simp only [List.map_cons, List.cons.injEq] at h
    rw [List.foldl_cons, List.foldl_cons, dataStep_nr ds a h.1, dataFold_nr ds _ h.2]
theorem headIs_nr (s : ByteArray) {r r' : List GNode} (h : nr r = nr r') : headIs s r = headIs s r' := by
  obtain ⟨h1, h2⟩ := hd_nr h
  unfold headIs
  by_cases hc : (hd r).op = 20
  · rw [h2 hc]; simp [hc, h1.1 hc]
  · have : ¬ (hd r').op = 20 := fun e => hc (h1.2 e)
    rw [show ((hd r).op == 20) = false from beq_eq_false_iff_ne.2 hc, show ((hd r').op == 20) = false from beq_eq_false_iff_ne.2 this]; rfl
theorem any_nr (s : ByteArray) : ∀ {rows rows' : List (List GNode)}, rows.map nr = rows'.map nr → rows.any (headIs s) = rows'.any (headIs s)
  | [], [], _ => rfl
  | [], b :: l, h => by simp at h
  | a :: l, [], h => by simp at h
  | x :: l, y :: k, h => by
    simp only [List.map_cons, List.cons.injEq] at h
    rw [List.any_cons, List.any_cons, headIs_nr s h.1, any_nr s h.2]
theorem allR_nr (ds : List GData) {rows rows' : List (List GNode)} (h : rows.map nr = rows'.map nr) : allR ds rows = allR ds rows' := by
  have h1 : dataAt ds rows = dataAt ds rows' := dataFold_nr ds (-1) h
  have h2 : ∀ cs, allIn rows cs = allIn rows' cs := fun cs => by unfold allIn; congr 1; funext k; exact any_nr k.name h
  unfold allR
  rw [h1]
  split
  · rfl
  · split
    · rfl
    · rw [h2]
theorem intoR_nr (p : GNode) {rows rows' : List (List GNode)} (h : rows.map nr = rows'.map nr) : (intoR p rows).map nr = (intoR p rows').map nr := fm_nr (fun _ _ h => into1_nr p h) h
theorem restR_nr {rows rows' : List (List GNode)} (h : rows.map nr = rows'.map nr) : (restR rows).map nr = (restR rows').map nr := fm_nr (fun _ _ h => rest1_nr h) h
theorem empty_nr {rows rows' : List (List GNode)} (h : rows.map nr = rows'.map nr) : rows.isEmpty = rows'.isEmpty := by
  cases rows <;> cases rows' <;> first | rfl | simp at h
theorem useAll_nr {g : Nat → List (List GNode) → List GNode → Bool × Nat} (hg : ∀ s rows rows' row row', rows.map nr = rows'.map nr → nr row = nr row' → g s rows row = g s rows' row') {rows rows' : List (List GNode)} {t t' : List GNode} (h1 : rows.map nr = rows'.map nr) (h2 : nr t = nr t') : ∀ (l : List GNode) (s : Nat), useAll g rows t l s = useAll g rows' t' l s
  | [], s => rfl
  | a :: r, s => by
    have h := hg s (intoR a rows) (intoR a rows') (List.replicate a.kids.length anyN ++ t) (List.replicate a.kids.length anyN ++ t') (intoR_nr a h1) (by simp [nr, h2])
    cases hc : (g s (intoR a rows) (List.replicate a.kids.length anyN ++ t)).1 with
    | true => rw [useAll_hit hc, useAll_hit (by rw [← h]; exact hc), h]
    | false => rw [useAll_miss hc, useAll_miss (by rw [← h]; exact hc), h, useAll_nr hg h1 h2 r _]
theorem useF_nr (ds : List GData) : ∀ (f s : Nat) (rows rows' : List (List GNode)) (row row' : List GNode), rows.map nr = rows'.map nr → nr row = nr row' → useF ds f s rows row = useF ds f s rows' row'
  | 0, _, _, _, _, _, _, _ => rfl
  | f + 1, s, rows, rows', row, row', h1, h2 => by
    by_cases ho : 4000 < s + 1
    · rw [useF_over ho, useF_over ho]
    · cases row with
      | nil =>
        cases row' with
        | nil => rw [useF_nil ho, useF_nil ho, empty_nr h1]
        | cons y u => simp at h2
      | cons p t =>
        obtain ⟨q, u, rfl, e1, e2⟩ := nr_cons h2
        rcases nrm_cases e1 with ⟨a, b⟩ | ⟨a, rfl⟩
        · have ha := allR_nr ds h1
          cases hr : allR ds rows with
          | none => rw [useF_none ho a hr, useF_none ho b (by rw [← ha]; exact hr)]; exact useF_nr ds f _ _ _ _ _ (restR_nr h1) e2
          | some all => rw [useF_all ho a hr, useF_all ho b (by rw [← ha]; exact hr)]; exact useAll_nr (fun s r r' w w' => useF_nr ds f s r r' w w') h1 e2 all _
        · rw [useF_con ho a, useF_con ho a]
          exact useF_nr ds f _ _ _ _ _ (intoR_nr p h1) (by simp [nr, e2])
theorem usefulV_nr (ds : List GData) {rows rows' : List (List GNode)} {row row' : List GNode} (h1 : rows.map nr = rows'.map nr) (h2 : nr row = nr row') : usefulV ds rows row = usefulV ds rows' row' := by
  have hl : row.length = row'.length := by have := congrArg List.length h2; simpa using this
  have ha : ∀ {rows rows' : List (List GNode)}, rows.map nr = rows'.map nr → (rows.all fun r => r.length == row'.length) = (rows'.all fun r => r.length == row'.length) := by
    intro rows
    induction rows with
    | nil => intro rows' h; cases rows' with
      | nil => rfl
      | cons y u => simp at h
    | cons x l ih => intro rows' h; cases rows' with
      | nil => simp at h
      | cons y k =>
        simp only [List.map_cons, List.cons.injEq] at h
        have e : x.length = y.length := by have := congrArg List.length h.1; simpa using this
        rw [List.all_cons, List.all_cons, ih h.2, e]
  unfold usefulV
  rw [hl, ha h1, useF_nr ds 4001 0 rows rows' row row' h1 h2]

/-- the pattern of an alternative, as the program has it -/
def zeroN : GNode := .mk 0 0 ByteArray.empty ByteArray.empty []
def patI (a : GNode) : GNode := a.kids.headD zeroN
theorem nrm_pat (a : GNode) : nrm (patI a) = nrm (patOf a) := by
  unfold patI patOf hd
  cases a.kids <;> rfl
def rowsOf (f : GNode → GNode) (alts : List GNode) : List (List GNode) := alts.map fun a => [f a]
def missingG (f : GNode → GNode) (ds : List GData) (alts : List GNode) : Bool := usefulV ds (rowsOf f alts) [anyN]
def idleG (f : GNode → GNode) (ds : List GData) (alts : List GNode) : Int := idxI (fun i => !usefulV ds ((rowsOf f alts).take i) [f (alts.getD i anyN)]) (List.range alts.length)
theorem rowsOf_nr (alts : List GNode) : (rowsOf patI alts).map nr = (rowsOf patOf alts).map nr := by
  unfold rowsOf; simp [nr, nrm_pat]
theorem missing_eq (ds : List GData) (alts : List GNode) : missingG patI ds alts = missingG patOf ds alts := usefulV_nr ds (rowsOf_nr alts) rfl
theorem idle_eq (ds : List GData) (alts : List GNode) : idleG patI ds alts = idleG patOf ds alts := by
  unfold idleG
  congr 1
  funext i
  rw [usefulV_nr ds (rows' := (rowsOf patOf alts).take i) (row' := [patOf (alts.getD i anyN)]) (by rw [List.map_take, List.map_take, rowsOf_nr]) (by simp [nr, nrm_pat])]
end Go.Proofs.Ytgbcdfeflgnogaa
