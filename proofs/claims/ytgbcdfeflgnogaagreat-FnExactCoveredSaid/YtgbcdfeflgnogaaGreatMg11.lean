/- Several texts of this claim in one: CoverN CoverL CoverM CoverI. Conditions: none but bounds on sizes. -/
import Derived.Test.YtgbcdfeflgnogaaGreatMg10
/- Coverage: what begins with anything is alike, whatever it is called (no program in sight). Conditions: none. -/
namespace Go.Proofs.YtgbcdfeflgnogaaGreat
open Go.RowKit
set_option linter.unusedVariables false
set_option linter.unusedSimpArgs false

def nrm (x : GNode) : GNode := if isAnyB x = true then anyN else x
theorem anyN_any : isAnyB anyN = true := rfl
theorem nrm_any {x : GNode} (h : isAnyB x = true) : nrm x = anyN := if_pos h
theorem nrm_con {x : GNode} (h : isAnyB x = false) : nrm x = x := if_neg (by rw [h]; simp)
theorem nrm_isAny (x : GNode) : isAnyB (nrm x) = isAnyB x := by
  cases h : isAnyB x
  · rw [nrm_con h, h]
  · rw [nrm_any h]; rfl
/-- two patterns that are one but for what anything is called -/
theorem nrm_cases {x y : GNode} (h : nrm x = nrm y) : (isAnyB x = true ∧ isAnyB y = true) ∨ (isAnyB x = false ∧ x = y) := by
  have h1 : isAnyB x = isAnyB y := by rw [← nrm_isAny x, h, nrm_isAny]
  cases hx : isAnyB x
  · rw [hx] at h1
    rw [nrm_con hx, nrm_con h1.symm] at h
    exact .inr ⟨rfl, h⟩
  · rw [hx] at h1
    exact .inl ⟨rfl, h1.symm⟩
abbrev nr (r : List GNode) : List GNode := r.map nrm
theorem isAny_op {x : GNode} (h : isAnyB x = true) : x.op ≠ 20 := fun e => by rw [isAny_con (by simp [e])] at h; cases h
theorem nr_cons {x : GNode} {t r : List GNode} (h : nr (x :: t) = nr r) : ∃ y u, r = y :: u ∧ nrm x = nrm y ∧ nr t = nr u := by
  cases r with
  | nil => simp at h
  | cons y u => simp only [nr, List.map_cons, List.cons.injEq] at h; exact ⟨y, u, rfl, h.1, h.2⟩
theorem into1_nr (p : GNode) {r r' : List GNode} (h : nr r = nr r') : (into1 p r).map nr = (into1 p r').map nr := by
  cases r with
  | nil =>
    cases r' with
    | nil => rfl
    | cons y u => simp at h
  | cons x t =>
    obtain ⟨y, u, rfl, h1, h2⟩ := nr_cons h
    rw [into1_cons, into1_cons]
    rcases nrm_cases h1 with ⟨a, b⟩ | ⟨a, rfl⟩
    · rw [if_pos a, if_pos b]; simp [nr, h2]
    · simp only [a, Bool.false_eq_true, if_false]
      cases alikeB x p
      · rfl
      · simp [nr, h2]
theorem rest1_nr {r r' : List GNode} (h : nr r = nr r') : (rest1 r).map nr = (rest1 r').map nr := by
  cases r with
  | nil =>
    cases r' with
    | nil => rfl
    | cons y u => simp at h
  | cons x t =>
    obtain ⟨y, u, rfl, h1, h2⟩ := nr_cons h
    rw [rest1_cons, rest1_cons]
    rcases nrm_cases h1 with ⟨a, b⟩ | ⟨a, rfl⟩
    · rw [if_pos a, if_pos b]; simp [nr, h2]
    · simp only [a, Bool.false_eq_true, if_false]
theorem fm_nr {f g : List GNode → Option (List GNode)} (hf : ∀ r r', nr r = nr r' → (f r).map nr = (g r').map nr) : ∀ {rows rows' : List (List GNode)}, rows.map nr = rows'.map nr → (rows.filterMap f).map nr = (rows'.filterMap g).map nr
  | [], [], _ => rfl
  | [], b :: l, h => by simp at h
  | a :: l, [], h => by simp at h
  | a :: l, b :: k, h => by
    simp only [List.map_cons, List.cons.injEq] at h
    have h1 := hf a b h.1
    have h2 := fm_nr hf h.2
    rw [List.filterMap_cons, List.filterMap_cons]
    cases ha : f a <;> cases hb : g b <;> rw [ha, hb] at h1 <;> simp at h1
    · exact h2
    · simp only [List.map_cons, h2]; rw [show nr _ = nr _ from h1]
theorem hd_nr {r r' : List GNode} (h : nr r = nr r') : ((hd r).op = 20 ↔ (hd r').op = 20) ∧ ((hd r).op = 20 → (hd r).s = (hd r').s) := by
  cases r with
  | nil =>
    cases r' with
    | nil => exact ⟨Iff.rfl, fun _ => rfl⟩
    | cons y u => simp at h
  | cons x t =>
    obtain ⟨y, u, rfl, h1, h2⟩ := nr_cons h
    rcases nrm_cases h1 with ⟨a, b⟩ | ⟨a, rfl⟩
    · exact ⟨⟨fun e => absurd e (isAny_op a), fun e => absurd e (isAny_op b)⟩, fun e => absurd e (isAny_op a)⟩
    · exact ⟨Iff.rfl, fun _ => rfl⟩
theorem dataStep_nr (ds : List GData) (a : Int) {r r' : List GNode} (h : nr r = nr r') : dataStep ds a r = dataStep ds a r' := by
  obtain ⟨h1, h2⟩ := hd_nr h
  unfold dataStep
  by_cases hc : a < 0 ∧ (hd r).op = 20
  · rw [if_pos hc, if_pos ⟨hc.1, h1.1 hc.2⟩, h2 hc.2]
  · rw [if_neg hc, if_neg (fun e => hc ⟨e.1, h1.2 e.2⟩)]
theorem dataFold_nr (ds : List GData) : ∀ {rows rows' : List (List GNode)} (a : Int), rows.map nr = rows'.map nr → rows.foldl (dataStep ds) a = rows'.foldl (dataStep ds) a
  | [], [], _, _ => rfl
  | [], b :: l, _, h => by simp at h
  | a :: l, [], _, h => by simp at h
  | x :: l, y :: k, a, h => by
    simp only [List.map_cons, List.cons.injEq] at h
    rw [List.foldl_cons, List.foldl_cons, dataStep_nr ds a h.1, dataFold_nr ds _ h.2]
theorem headIs_nr (s : ByteArray) {r r' : List GNode} (h : nr r = nr r') : headIs s r = headIs s r' := by
  obtain ⟨h1, h2⟩ := hd_nr h
  unfold headIs
  by_cases hc : (hd r).op = 20
  · rw [h2 hc]; simp [hc, h1.1 hc]
  · have : ¬ (hd r').op = 20 := fun e => hc (h1.2 e)
    rw [show ((hd r).op == 20) = false from beq_eq_false_iff_ne.2 hc, show ((hd r').op == 20) = false from beq_eq_false_iff_ne.2 this]; rfl
theorem any_nr (s : ByteArray) : ∀ {rows rows' : List (List GNode)}, rows.map nr = rows'.map nr → rows.any (headIs s) = rows'.any (headIs s)
  | [], [], _ => rfl
  | [], b :: l, h => by simp at h
  | a :: l, [], h => by simp at h
  | x :: l, y :: k, h => by
    simp only [List.map_cons, List.cons.injEq] at h
    rw [List.any_cons, List.any_cons, headIs_nr s h.1, any_nr s h.2]
theorem allR_nr (ds : List GData) {rows rows' : List (List GNode)} (h : rows.map nr = rows'.map nr) : allR ds rows = allR ds rows' := by
  have h1 : dataAt ds rows = dataAt ds rows' := dataFold_nr ds (-1) h
  have h2 : ∀ cs, allIn rows cs = allIn rows' cs := fun cs => by unfold allIn; congr 1; funext k; exact any_nr k.name h
  unfold allR
  rw [h1]
  split
  · rfl
  · split
    · rfl
    · rw [h2]
theorem intoR_nr (p : GNode) {rows rows' : List (List GNode)} (h : rows.map nr = rows'.map nr) : (intoR p rows).map nr = (intoR p rows').map nr := fm_nr (fun _ _ h => into1_nr p h) h
theorem restR_nr {rows rows' : List (List GNode)} (h : rows.map nr = rows'.map nr) : (restR rows).map nr = (restR rows').map nr := fm_nr (fun _ _ h => rest1_nr h) h
theorem empty_nr {rows rows' : List (List GNode)} (h : rows.map nr = rows'.map nr) : rows.isEmpty = rows'.isEmpty := by
  cases rows <;> cases rows' <;> first | rfl | simp at h
theorem useAll_nr {g : Nat → List (List GNode) → List GNode → Bool × Nat} (hg : ∀ s rows rows' row row', rows.map nr = rows'.map nr → nr row = nr row' → g s rows row = g s rows' row') {rows rows' : List (List GNode)} {t t' : List GNode} (h1 : rows.map nr = rows'.map nr) (h2 : nr t = nr t') : ∀ (l : List GNode) (s : Nat), useAll g rows t l s = useAll g rows' t' l s
  | [], s => rfl
  | a :: r, s => by
    have h := hg s (intoR a rows) (intoR a rows') (List.replicate a.kids.length anyN ++ t) (List.replicate a.kids.length anyN ++ t') (intoR_nr a h1) (by simp [nr, h2])
    cases hc : (g s (intoR a rows) (List.replicate a.kids.length anyN ++ t)).1 with
    | true => rw [useAll_hit hc, useAll_hit (by rw [← h]; exact hc), h]
    | false => rw [useAll_miss hc, useAll_miss (by rw [← h]; exact hc), h, useAll_nr hg h1 h2 r _]
theorem useF_nr (ds : List GData) : ∀ (f s : Nat) (rows rows' : List (List GNode)) (row row' : List GNode), rows.map nr = rows'.map nr → nr row = nr row' → useF ds f s rows row = useF ds f s rows' row'
  | 0, _, _, _, _, _, _, _ => rfl
  | f + 1, s, rows, rows', row, row', h1, h2 => by
    by_cases ho : 4000 < s + 1
    · rw [useF_over ho, useF_over ho]
    · cases row with
      | nil =>
        cases row' with
        | nil => rw [useF_nil ho, useF_nil ho, empty_nr h1]
        | cons y u => simp at h2
      | cons p t =>
        obtain ⟨q, u, rfl, e1, e2⟩ := nr_cons h2
        rcases nrm_cases e1 with ⟨a, b⟩ | ⟨a, rfl⟩
        · have ha := allR_nr ds h1
          cases hr : allR ds rows with
          | none => rw [useF_none ho a hr, useF_none ho b (by rw [← ha]; exact hr)]; exact useF_nr ds f _ _ _ _ _ (restR_nr h1) e2
          | some all => rw [useF_all ho a hr, useF_all ho b (by rw [← ha]; exact hr)]; exact useAll_nr (fun s r r' w w' => useF_nr ds f s r r' w w') h1 e2 all _
        · rw [useF_con ho a, useF_con ho a]
          exact useF_nr ds f _ _ _ _ _ (intoR_nr p h1) (by simp [nr, e2])
theorem usefulV_nr (ds : List GData) {rows rows' : List (List GNode)} {row row' : List GNode} (h1 : rows.map nr = rows'.map nr) (h2 : nr row = nr row') : usefulV ds rows row = usefulV ds rows' row' := by
  have hl : row.length = row'.length := by have := congrArg List.length h2; simpa using this
  have ha : ∀ {rows rows' : List (List GNode)}, rows.map nr = rows'.map nr → (rows.all fun r => r.length == row'.length) = (rows'.all fun r => r.length == row'.length) := by
    intro rows
    induction rows with
    | nil => intro rows' h; cases rows' with
      | nil => rfl
      | cons y u => simp at h
    | cons x l ih => intro rows' h; cases rows' with
      | nil => simp at h
      | cons y k =>
        simp only [List.map_cons, List.cons.injEq] at h
        have e : x.length = y.length := by have := congrArg List.length h.1; simpa using this
        rw [List.all_cons, List.all_cons, ih h.2, e]
  unfold usefulV
  rw [hl, ha h1, useF_nr ds 4001 0 rows rows' row row' h1 h2]

/-- the pattern of an alternative, as the program has it -/
def zeroN : GNode := .mk 0 0 ByteArray.empty ByteArray.empty []
def patI (a : GNode) : GNode := a.kids.headD zeroN
theorem nrm_pat (a : GNode) : nrm (patI a) = nrm (patOf a) := by
  unfold patI patOf hd
  cases a.kids <;> rfl
def rowsOf (f : GNode → GNode) (alts : List GNode) : List (List GNode) := alts.map fun a => [f a]
def missingG (f : GNode → GNode) (ds : List GData) (alts : List GNode) : Bool := usefulV ds (rowsOf f alts) [anyN]
def idleG (f : GNode → GNode) (ds : List GData) (alts : List GNode) : Int := idxI (fun i => !usefulV ds ((rowsOf f alts).take i) [f (alts.getD i anyN)]) (List.range alts.length)
theorem rowsOf_nr (alts : List GNode) : (rowsOf patI alts).map nr = (rowsOf patOf alts).map nr := by
  unfold rowsOf; simp [nr, nrm_pat]
theorem missing_eq (ds : List GData) (alts : List GNode) : missingG patI ds alts = missingG patOf ds alts := usefulV_nr ds (rowsOf_nr alts) rfl
theorem idle_eq (ds : List GData) (alts : List GNode) : idleG patI ds alts = idleG patOf ds alts := by
  unfold idleG
  congr 1
  funext i
  rw [usefulV_nr ds (rows' := (rowsOf patOf alts).take i) (row' := [patOf (alts.getD i anyN)]) (by rw [List.map_take, List.map_take, rowsOf_nr]) (by simp [nr, nrm_pat])]
end Go.Proofs.YtgbcdfeflgnogaaGreat

/- Coverage: Useful, Missing and Idle of both, against what they compute. Conditions: the sizes are bounded. -/
namespace Go.Proofs.YtgbcdfeflgnogaaGreat
open Go.RowKit
set_option linter.unusedVariables false
set_option linter.unusedSimpArgs false
set_option maxHeartbeats 1000000

theorem dsM {ds : List GData} (h : bulkL GData.bulk ds ≤ 1048576) : ∀ d ∈ ds, d.cons.length ≤ 1048576 ∧ ∀ k ∈ d.cons, k.args.length ≤ 1048576 := fun d hd => by
  have h1 := bulkL_mem GData.bulk ds d hd
  have h2 := d.bulk_eq
  have h3 := bulkL_len GCon.bulk d.cons
  refine ⟨by omega, fun k hk => ?_⟩
  have h4 := bulkL_mem GCon.bulk d.cons k hk
  have h5 := k.bulk_eq
  have h6 := bulkL_len GTy.bulk k.args
  omega
theorem len_ne {r row : List GNode} (h : r.length ≠ row.length) : ((r.length : Int) != (row.length : Int)) = true := by simp [bne]; omega
theorem implUseful1 (row : List GNode) (A2 : Option Addr) (c2 b : Nat) (r : List GNode) (A1 : Option Addr) (c1 : Nat) (w : World) (hc : w.cell? ⟨b, 0, none⟩ = some (.slice A2 row.length c2)) :
    Calls Tryz.prog 79 #[.slice A1 r.length c1, .pointer (some ⟨b, 0, none⟩)] w fun e w' => e = .returned (.bool (!(r.length == row.length))) ∧ Below w.heap.size w w' := by
  go_enter Tryz.func79, Tryz.ntmps79
  go_wp2_with fail
  go_ret
  exact ⟨ret_bool (by cases h : (r.length == row.length) <;> simp [bne] <;> (simp at h; omega)), Below.refl _ _⟩

/-- what Useful asks of its arguments -/
structure UseIn (ds : List GData) (A0 : Option Addr) (c0 : Nat) (rows : List (List GNode)) (A : Option Addr) (c : Nat) (row : List GNode) (A2 : Option Addr) (c2 : Nat) (w : World) : Prop where
  ds : Sl w (Lt w.heap.size) 3 A0 c0 (ds.map GData.toD)
  rows : Sl w (Lt w.heap.size) 1 A c (rows.map rowD)
  row : Sl w (Lt w.heap.size) 5 A2 c2 (row.map GNode.toD)
theorem UseIn.lx {ds : List GData} {A0 : Option Addr} {c0 : Nat} {rows : List (List GNode)} {A : Option Addr} {c : Nat} {row : List GNode} {A2 : Option Addr} {c2 : Nat} {w w' : World} (h : UseIn ds A0 c0 rows A c row A2 c2 w) (hb : Below w.heap.size w w') (g : Nat) (hg : w.heap.size ≤ g) :
    Sl w' (Lx (Ng g) w') 3 A0 c0 (ds.map GData.toD) ∧ Sl w' (Lx (Ng g) w') 1 A c (rows.map rowD) ∧ Sl w' (Lx (Ng g) w') 5 A2 c2 (row.map GNode.toD) := by
  have hk : ∀ b, Lt w.heap.size b → Lx (Ng g) w' b ∧ w'.heap[b]? = w.heap[b]? := fun b h => ⟨⟨Nat.lt_of_lt_of_le h hb.size, fun e => by unfold Lt at h; omega⟩, hb.block b h⟩
  exact ⟨h.ds.keep hk, h.rows.keep hk, h.row.keep hk⟩
theorem rowsB_of {rows : List (List GNode)} {n : Nat} (h : (rows.all fun r => r.length == n) = true) (hB : ∀ r ∈ rows, ∀ x ∈ r, nodeB 1048576 x) : RowsB 1048576 n rows := fun r hr => by
  rw [List.all_eq_true] at h
  exact ⟨by simpa using h r hr, hB r hr⟩

set_option maxRecDepth 20000 in
theorem implUsefulT (ds : List GData) (A0 : Option Addr) (c0 : Nat) (rows : List (List GNode)) (A : Option Addr) (c : Nat) (row : List GNode) (A2 : Option Addr) (c2 : Nat) (w : World) (hd : bulkL GData.bulk ds ≤ 1048576) (hrl : rows.length ≤ 1048576) (hwl : row.length ≤ 1048576)
    (hrB : ∀ r ∈ rows, ∀ x ∈ r, nodeB 1048576 x) (hwB : ∀ x ∈ row, nodeB 1048576 x) (hin : UseIn ds A0 c0 rows A c row A2 c2 w) :
    Calls Tryz.prog 61 #[.slice A0 ds.length c0, .slice A rows.length c, .slice A2 row.length c2] w fun e w' => e = .returned (.bool (usefulV ds rows row)) ∧ Below w.heap.size w w' := by
  have HI := Lib.hid hin
  have HRB := Lib.hid hrB
  have HWB := Lib.hid hwB
  have HM := Lib.hid (dsM hd)
  obtain ⟨w0, e0⟩ : ∃ w0, w0 = w.alloc (.cells #[.slice A2 row.length c2] 31) := ⟨_, rfl⟩
  have E0 := Lib.hid (show Below w.heap.size w w0 by rw [e0]; exact (Below.refl _ _).alloc (Nat.le_refl _) _)
  have R0 := Lib.hid (show Row w0 w.heap.size 31 #[.slice A2 row.length c2] by rw [e0]; exact Row.new' _ _ _ rfl)
  clear hin hrB hwB hd
  go_enter Tryz.func61, Tryz.ntmps61
  go_wp2_with fail
  rw [← e0]
  clear e0
  refine (containsFuncRow 79 (enters Tryz.func79 (by kernel_rfl) (by kernel_rfl)) #[.pointer (some ⟨w.heap.size, 0, none⟩)] (fun r => !(r.length == row.length)) rows A c w0 (HI.out.rows.keep fun k hk => ⟨Nat.lt_of_lt_of_le hk E0.out.size, E0.out.block k hk⟩)
    (fun x hx A1 c1 w2 hb2 hat2 => implUseful1 row A2 c2 w.heap.size x A1 c1 w2 ((R0.out.below hb2 R0.out.lt).cell 0))).mono ?_
  rintro e w1 ⟨rfl, hb1⟩
  have B1 := Lib.hid (E0.out.trans (hb1.mono E0.out.size))
  have R1 := Lib.hid (R0.out.below hb1 R0.out.lt)
  clear hb1
  cases hall : (rows.all fun r => r.length == row.length)
  · have hany : (rows.any fun r => !(r.length == row.length)) = true := by
      rw [List.all_eq_false] at hall
      obtain ⟨x, hx, h⟩ := hall
      exact List.any_eq_true.2 ⟨x, hx, by simpa using h⟩
    have HV := Lib.hid (show usefulV ds rows row = false by unfold usefulV; rw [hall]; rfl)
    clear hall
    go_wp2_with fail
    go_ret
    exact ⟨ret_bool HV.out.symm, B1.out⟩
  · have hany : (rows.any fun r => !(r.length == row.length)) = false := by
      rw [List.all_eq_true] at hall
      rw [List.any_eq_false]
      intro x hx
      simpa using hall x hx
    have HV := Lib.hid (show usefulV ds rows row = (useF ds 4001 0 rows row).1 by unfold usefulV; rw [hall]; rfl)
    have HRS := Lib.hid (rowsB_of hall HRB.out)
    have HOK := Lib.hid (useF_ok ds 4001 0 rows row (by omega))
    have hs1 := B1.out.size
    obtain ⟨w2, e2⟩ : ∃ w2, w2 = w1.alloc (.cells #[.slice A0 ds.length c0, .int .i64 0] 100) := ⟨_, rfl⟩
    have E2 := Lib.hid (show Below w1.heap.size w1 w2 by rw [e2]; exact (Below.refl _ _).alloc (Nat.le_refl _) _)
    have R2 := Lib.hid (show Row w2 w1.heap.size 100 #[.slice A0 ds.length c0, .int .i64 ((0 : Nat) : Int)] by rw [e2]; exact Row.new' _ _ _ rfl)
    have B2 := Lib.hid (B1.out.trans (E2.out.mono hs1))
    have Q2 := Lib.hid (R1.out.below E2.out R1.out.lt)
    have hq2 := fun i => Q2.out.cell i
    rw [e2] at hq2
    have HU := Lib.hid (implUseful ds A0 c0 w1.heap.size HM.out 4001 0 rows row A c A2 c2 w2 (by omega) (by omega) hrl (by omega) HRS.out HWB.out R2.out (HI.out.lx B2.out _ hs1).1 (HI.out.lx B2.out _ hs1).2.1 (HI.out.lx B2.out _ hs1).2.2)
    have EQ2 := Lib.hid e2
    clear hall e2
    go_wp2_with fail
    rw [← EQ2.out]
    refine HU.out.mono ?_
    rintro e w3 ⟨rfl, hR3, hT3⟩
    have B3 := Lib.hid (show Below w.heap.size w w3 from B2.out.trans (hT3.below (Nat.le_trans hs1 E2.out.size) hs1))
    have hc3 := fun i => hR3.cell i
    have ok := HOK.out
    clear hR3 hT3 hq2
    cases hr : (useF ds 4001 0 rows row).1
    · have hle := ok.2 hr
      have hng : ¬ ((useF ds 4001 0 rows row).2 : Int) > 4000 := by omega
      have Hr := Lib.hid hr
      clear ok hr hle
      generalize (useF ds 4001 0 rows row).2 = n at *
      go_wp2_with fail
      go_ret
      exact ⟨ret_bool (by rw [HV.out, Hr.out]; first | done | exact decide_eq_false (by omega)), B3.out⟩
    · have Hr := Lib.hid hr
      clear ok hr
      generalize (useF ds 4001 0 rows row).2 = n at *
      go_wp2_with fail
      go_ret
      exact ⟨ret_bool (by rw [HV.out, Hr.out]), B3.out⟩

set_option maxRecDepth 20000 in
theorem specUsefulT (ds : List GData) (A0 : Option Addr) (c0 : Nat) (rows : List (List GNode)) (A : Option Addr) (c : Nat) (row : List GNode) (A2 : Option Addr) (c2 : Nat) (w : World) (hd : bulkL GData.bulk ds ≤ 1048576) (hrl : rows.length ≤ 1048576) (hwl : row.length ≤ 1048576)
    (hrB : ∀ r ∈ rows, ∀ x ∈ r, nodeB 1048576 x) (hwB : ∀ x ∈ row, nodeB 1048576 x) (hin : UseIn ds A0 c0 rows A c row A2 c2 w) :
    Calls Tryz.prog 47 #[.slice A0 ds.length c0, .slice A rows.length c, .slice A2 row.length c2] w fun e w' => e = .returned (.bool (usefulV ds rows row)) ∧ Below w.heap.size w w' := by
  have HI := Lib.hid hin
  have HRB := Lib.hid hrB
  have HWB := Lib.hid hwB
  have HM := Lib.hid (dsM hd)
  have hrlm : rows.length ≤ 9223372036854775807 := by omega
  clear hin hrB hwB hd
  go_enter Tryz.func47, Tryz.ntmps47
  go_wp2_with fail
  go_loopw [7] (fun i wr => ∃ (j : Nat), j ≤ rows.length ∧ i = .int .i64 j ∧ Hid (noneTo (fun r : List GNode => !(r.length == row.length)) rows j) ∧ Hid (Below w.heap.size w wr)) (fun i _ => rows.length - (intOf i).toNat)
  case atStart => exact ⟨0, by omega, by go_num, Lib.hid (noneTo_zero _ _), Lib.hid (Below.refl _ _)⟩
  case round =>
    obtain ⟨j, hj, rfl, HN, HB⟩ := hrel
    by_cases hlt : j < rows.length
    · obtain ⟨b, off, A1, c1, rfl, hSb, g0, hs1⟩ := rowD_elem (HI.out.rows.keep (w' := wr) (S' := Lt w.heap.size) fun k hk => ⟨hk, HB.out.block k hk⟩) j hlt
      clear hs1
      cases he : ((rows[j]).length == row.length)
      · have HV := Lib.hid (show usefulV ds rows row = false by
          unfold usefulV
          rw [show (rows.all fun r => r.length == row.length) = false from List.all_eq_false.2 ⟨_, List.getElem_mem hlt, by rw [he]; simp⟩]; rfl)
        have hne : (((rows[j]).length : Int) != (row.length : Int)) = true := len_ne (by simpa using he)
        clear he
        go_wp2_with fail
        go_ret
        exact ⟨ret_bool HV.out.symm, HB.out⟩
      · have HN2 := Lib.hid (noneTo_succ HN.out hlt (by rw [he]; rfl))
        have hne : (((rows[j]).length : Int) != (row.length : Int)) = false := by simp only [beq_iff_eq] at he; simp [bne]; omega
        clear he
        go_wp2_with fail
        go_roundw
        case rel => exact ⟨j + 1, by omega, by go_num, HN2, HB⟩
        case measure => simp [intOf]; omega
    · have hall : (rows.all fun r => r.length == row.length) = true := by
        have h1 := HN.out
        rw [show j = rows.length by omega] at h1
        rw [List.all_eq_true]
        intro x hx
        obtain ⟨i, hi, rfl⟩ := List.getElem_of_mem hx
        have := h1 i hi hi
        simpa using this
      have HV := Lib.hid (show usefulV ds rows row = (useF ds 4001 0 rows row).1 by unfold usefulV; rw [hall]; rfl)
      have HRS := Lib.hid (rowsB_of hall HRB.out)
      have hs1 := HB.out.size
      obtain ⟨w2, e2⟩ : ∃ w2, w2 = wr.alloc (.cells #[.slice A0 ds.length c0, .int .i64 0] 92) := ⟨_, rfl⟩
      have E2 := Lib.hid (show Below wr.heap.size wr w2 by rw [e2]; exact (Below.refl _ _).alloc (Nat.le_refl _) _)
      have R2 := Lib.hid (show Row w2 wr.heap.size 92 #[.slice A0 ds.length c0, .int .i64 ((0 : Nat) : Int)] by rw [e2]; exact Row.new' _ _ _ rfl)
      have B2 := Lib.hid (HB.out.trans (E2.out.mono hs1))
      have HU := Lib.hid (specUseful ds A0 c0 wr.heap.size HM.out 4001 0 rows row A c A2 c2 w2 (by omega) (by omega) hrl (by omega) HRS.out HWB.out R2.out (HI.out.lx B2.out _ hs1).1 (HI.out.lx B2.out _ hs1).2.1 (HI.out.lx B2.out _ hs1).2.2)
      have EQ2 := Lib.hid e2
      clear hall e2
      go_wp2_with fail
      rw [← EQ2.out]
      refine HU.out.mono ?_
      rintro e w3 ⟨rfl, hR3, hT3⟩
      have B3 := Lib.hid (show Below w.heap.size w w3 from B2.out.trans (hT3.below (Nat.le_trans hs1 E2.out.size) hs1))
      clear hR3 hT3
      go_wp2_with fail
      go_ret
      exact ⟨ret_bool HV.out.symm, B3.out⟩

end Go.Proofs.YtgbcdfeflgnogaaGreat

/- Coverage: the rows of alternatives, in both. Conditions: the sizes are bounded. -/
namespace Go.Proofs.YtgbcdfeflgnogaaGreat
open Go.RowKit
set_option linter.unusedVariables false
set_option linter.unusedSimpArgs false
set_option maxHeartbeats 1000000

/-- rows that both hand back -/
def RowsTo (rows : List (List GNode)) (w : World) (e : Ending) (w' : World) : Prop := ∃ A c, e = .returned (.slice A rows.length c) ∧ Sl w' (Lt w'.heap.size) 1 A c (rows.map rowD) ∧ Below w.heap.size w w'
theorem anyN_cells (w : World) (S : Nat → Prop) : anyN.toD.rd w S [.int .i64 17, .int .i64 0, .string ⟨#[]⟩, .string ⟨#[]⟩, .slice none 0 0] := anyN_rd w S 0 (Nat.zero_le _) none
def TrX : Nat → Prop := fun _ => True
theorem rowsOf_take {f : GNode → GNode} {alts : List GNode} {j : Nat} (h : j < alts.length) : rowsOf f (alts.take (j + 1)) = rowsOf f (alts.take j) ++ [[f alts[j]]] := by
  unfold rowsOf; rw [take_snoc' alts j h, List.map_append]; rfl
theorem patOf_cons {a k : GNode} {r : List GNode} (h : a.kids = k :: r) : patOf a = k := by unfold patOf hd; rw [h]; rfl
theorem patOf_nil {a : GNode} (h : a.kids = []) : patOf a = anyN := by unfold patOf hd; rw [h]; rfl
theorem patI_cons {a k : GNode} {r : List GNode} (h : a.kids = k :: r) : patI a = k := by unfold patI; rw [h]; rfl
theorem patI_nil {a : GNode} (h : a.kids = []) : patI a = zeroN := by unfold patI; rw [h]; rfl

/-- a pattern that is handed back -/
def PatTo (S : Nat → Prop) (p : GNode) (w : World) (e : Ending) (w' : World) : Prop := ∃ A c, e = .returned (.agg #[.int .i64 p.op, .int .i64 p.n, .string p.s, .string p.t, .slice A p.kids.length c]) ∧ GNode.At w' S A c p ∧ Below w.heap.size w w'
set_option maxRecDepth 20000 in
theorem implPatternOf (S : Nat → Prop) (a : GNode) (A1 : Option Addr) (c1 : Nat) (w : World) (hS : ∀ b, S b → b < w.heap.size) (hat : GNode.At w S A1 c1 a) :
    Calls Tryz.prog 81 #[.agg #[.int .i64 a.op, .int .i64 a.n, .string a.s, .string a.t, .slice A1 a.kids.length c1]] w (PatTo S (patI a) w) := by
  have HSS := Lib.hid hS
  clear hS
  obtain ⟨w0, e0⟩ : ∃ w0, w0 = (w.alloc (.cells #[.int .i64 a.op, .int .i64 a.n, .string a.s, .string a.t, .slice A1 a.kids.length c1] 33)).alloc (.cells #[.int .i64 0, .int .i64 0, .string ⟨#[]⟩, .string ⟨#[]⟩, .slice none 0 0] 33) := ⟨_, rfl⟩
  have E0 := Lib.hid (show Below w.heap.size w w0 by rw [e0]; exact ((Below.refl _ _).alloc (Nat.le_refl _) _).alloc (by simp) _)
  have hkm : a.kids.length ≤ 9223372036854775807 := by simpa using hat.2.2.2.2.len
  cases hks : a.kids with
  | nil =>
    have HV := Lib.hid (patI_nil hks)
    have EQ := Lib.hid e0
    rw [hks] at EQ
    clear hks hat e0
    go_enter Tryz.func81, Tryz.ntmps81
    go_wp2_with fail
    refine bodyPost_ret (v := .agg #[.int .i64 0, .int .i64 0, .string ⟨#[]⟩, .string ⟨#[]⟩, .slice none 0 0]) (by simp [results, Tryz.results81, go_sem]) rfl ?_
    rw [HV.out]
    refine ⟨none, 0, rfl, ⟨(show (Lit.int IntKind.i64 0).wf = true by decide), (show (Lit.int IntKind.i64 0).wf = true by decide), (show ByteArray.empty.size ≤ maxLen by unfold maxLen; simp), (show ByteArray.empty.size ≤ maxLen by unfold maxLen; simp), Sl.nil (Nat.zero_le _)⟩, ?_⟩
    have := E0.out
    rw [EQ.out] at this
    exact this
  | cons k r =>
    have hat2 := hat.2.2.2.2
    rw [hks] at hat2
    obtain ⟨b, off, A2, c2, rfl, hSb, q0, q1, q2, q3, q4, hk⟩ := GNode.elem hat2 0 (by simp)
    simp only [Nat.zero_mul, Nat.add_zero, List.getElem_cons_zero] at q0 q1 q2 q3 q4 hk
    have HV := Lib.hid (patI_cons hks)
    have HK := Lib.hid hk
    have k0 := (E0.out.cell (p := ⟨b, off, none⟩) (HSS.out b hSb)).trans q0
    have k1 := (E0.out.cell (p := ⟨b, off + 1, none⟩) (HSS.out b hSb)).trans q1
    have k2 := (E0.out.cell (p := ⟨b, off + 2, none⟩) (HSS.out b hSb)).trans q2
    have k3 := (E0.out.cell (p := ⟨b, off + 3, none⟩) (HSS.out b hSb)).trans q3
    have k4 := (E0.out.cell (p := ⟨b, off + 4, none⟩) (HSS.out b hSb)).trans q4
    rw [e0] at k0 k1 k2 k3 k4
    have EQ := Lib.hid e0
    have hl : a.kids.length = r.length + 1 := by rw [hks]; rfl
    rw [hl] at hkm EQ k0 k1 k2 k3 k4
    rw [List.length_cons]
    clear hks hat e0 hat2 hk q0 q1 q2 q3 q4 hl
    go_enter Tryz.func81, Tryz.ntmps81
    go_wp2_with fail
    refine bodyPost_ret (v := .agg #[.int .i64 k.op, .int .i64 k.n, .string k.s, .string k.t, .slice A2 k.kids.length c2]) (by simp [results, Tryz.results81, go_sem]) rfl ?_
    rw [HV.out]
    exact (fun (BB : Below w.heap.size w _) => ⟨A2, c2, rfl, HK.out.keep fun x hx => ⟨hx, BB.block x (HSS.out x hx)⟩, BB⟩) (((Below.refl _ _).alloc (Nat.le_refl _) _).alloc (by simp) _)

set_option maxRecDepth 20000 in
theorem specRows (alts : List GNode) (A : Option Addr) (c : Nat) (w : World) (hl : alts.length ≤ 1048576) (hs : Sl w (Lt w.heap.size) 5 A c (alts.map GNode.toD)) :
    Calls Tryz.prog 48 #[.slice A alts.length c] w (RowsTo (rowsOf patOf alts) w) := by
  have HS := Lib.hid hs
  have hlm : alts.length ≤ 9223372036854775807 := by omega
  obtain ⟨w0, e0⟩ : ∃ w0, w0 = w.alloc (.cells #[] 31) := ⟨_, rfl⟩
  have E0 := Lib.hid (show Below w.heap.size w w0 by rw [e0]; exact (Below.refl _ _).alloc (Nat.le_refl _) _)
  have G0 := Lib.hid (show Grx TrX w0 w.heap.size 31 1 (.slice (some ⟨w.heap.size, 0, none⟩) 0 0) 0 [] from Grx.made (by rw [e0]; exact Row.new' _ _ _ rfl) (Nat.le_refl _))
  clear hs
  go_enter Tryz.func48, Tryz.ntmps48
  go_wp2_with fail
  rw [← e0]
  clear e0
  go_loopw [3, 4] (fun v i wr => ∃ (j : Nat) (A : Option Addr) (c : Nat), j ≤ alts.length ∧ i = .int .i64 j ∧ v = .slice A j c ∧ Hid (Grx TrX wr w.heap.size 31 1 (.slice A j c) j ((rowsOf patOf (alts.take j)).map rowD)) ∧ Hid (Below w.heap.size w wr)) (fun _ i _ => alts.length - (intOf i).toNat)
  case atStart => exact ⟨0, _, _, by omega, by go_num, rfl, G0, E0⟩
  case round =>
    clear G0 E0
    obtain ⟨j, A', c', hj, rfl, rfl, HG, HB⟩ := hrel
    have hsz := HB.out.size
    have HOW := Lib.hid (fun g (hg : (Value.slice A' j c').ownBlock = some g) => HG.out.own g hg)
    by_cases hlt : j < alts.length
    · obtain ⟨b, off, A1, c1, rfl, hSb, q0, q1, q2, q3, q4, hat⟩ := GNode.elem (HS.out.keep (w' := wr) (S' := Lt w.heap.size) fun k hk => ⟨hk, HB.out.block k hk⟩) j hlt
      have HT := Lib.hid (rowsOf_take (f := patOf) hlt)
      have hkm : (alts[j]).kids.length ≤ 9223372036854775807 := by simpa using hat.2.2.2.2.len
      obtain ⟨wa, ea⟩ : ∃ wa, wa = wr.alloc (.cells #[.int .i64 17, .int .i64 0, .string ⟨#[]⟩, .string ⟨#[]⟩, .slice none 0 0] 33) := ⟨_, rfl⟩
      have EA := Lib.hid (show Below wr.heap.size wr wa by rw [ea]; exact (Below.refl _ _).alloc (Nat.le_refl _) _)
      have RA := Lib.hid (show Row wa wr.heap.size 33 #[.int .i64 17, .int .i64 0, .string ⟨#[]⟩, .string ⟨#[]⟩, .slice none 0 0] by rw [ea]; exact Row.new' _ _ _ rfl)
      have hsa := Nat.le_trans hsz EA.out.size
      have k4 := (EA.out.cell (p := ⟨b, off + j * 5 + 4, none⟩) (Nat.lt_of_lt_of_le hSb hsz)).trans q4
      cases hks : (alts[j]).kids with
      | nil =>
        have HV := Lib.hid (show patOf alts[j] = anyN from patOf_nil hks)
        rw [hks] at k4
        rw [ea] at k4
        have hwa : wa.heap.size = wr.heap.size + 1 := by rw [ea]; simp
        obtain ⟨w3, e3⟩ : ∃ w3, w3 = wa.alloc (.cells #[.slice (some ⟨wr.heap.size, 0, none⟩) 1 1] 31) := ⟨_, rfl⟩
        have E3 := Lib.hid (show Below wa.heap.size wa w3 by rw [e3]; exact (Below.refl _ _).alloc (Nat.le_refl _) _)
        have T3 := Lib.hid (oneRow (X := TrX) (r := [anyN]) (w' := w3) (T := 31) (Value.slice A' j c') (fun g hg => Nat.lt_of_lt_of_le (HOW.out g hg).2 EA.out.size) trivial e3
          (slOne RA.out (anyN_cells _ _) rfl ⟨RA.out.lt, fun e => by have := (HOW.out _ e).2; omega, trivial⟩))
        have T3x := Lib.hid (show Sl w3 (fun b => b < w3.heap.size ∧ (Value.slice A' j c').ownBlock ≠ some b ∧ TrX b) 1 (some ⟨wr.heap.size + 1, 0, none⟩) 1 ([[anyN]].map rowD) from by have h := T3.out; rw [hwa] at h; exact h)
        clear hwa
        have G3 := Lib.hid ((HG.out.below EA.out).below E3.out)
        have hs3 := Nat.le_trans hsa E3.out.size
        have B3 := Lib.hid ((HB.out.trans (EA.out.mono hsz)).trans (E3.out.mono hsa))
        clear hat hks q0 q1 q2 q3 q4
        go_wp2_with (first | (at_builtin; rw [← ea, ← e3]; refine wpList_append_X w3 rfl (.tmp 30) (.tmp 32) 78 rfl 31 zRow 1 24 Tryz.underlying78 (by kernel_rfl) rfl (by omega) w.heap.size (.slice A' j c') j _ G3.out (some ⟨wr.heap.size + 1, 0, none⟩) 1 1 _ rfl T3x.out hs3 (by unfold maxLen; omega) (by omega) rfl rfl ?_; intro A4 c4 w4 G4 hGr4; have G4h := Lib.hid G4; have B4 := Lib.hid (B3.out.trans (hGr4.below hs3 (fun g hg => (HOW.out g hg).1))); clear G4 hGr4))
        go_roundw
        case rel => exact ⟨j + 1, A4, c4, by omega, by go_num, rfl, Lib.hid (by rw [HT.out, HV.out, List.map_append]; exact G4h.out), B4⟩
        case measure => simp [intOf]; omega
      | cons k r =>
        have hl : (alts[j]).kids.length = r.length + 1 := by rw [hks]; rfl
        have HV := Lib.hid (show patOf alts[j] = k from patOf_cons hks)
        have hat2 := hat.2.2.2.2
        rw [hks] at hat2
        obtain ⟨bk, offk, A2, c2, rfl, hSk, p0, p1, p2, p3, p4, hk⟩ := GNode.elem hat2 0 (by simp)
        simp only [Nat.zero_mul, Nat.add_zero, List.getElem_cons_zero] at p0 p1 p2 p3 p4 hk
        rw [hl] at k4 hkm
        have m0 := (EA.out.cell (p := ⟨bk, offk, none⟩) (Nat.lt_of_lt_of_le hSk hsz)).trans p0
        have m1 := (EA.out.cell (p := ⟨bk, offk + 1, none⟩) (Nat.lt_of_lt_of_le hSk hsz)).trans p1
        have m2 := (EA.out.cell (p := ⟨bk, offk + 2, none⟩) (Nat.lt_of_lt_of_le hSk hsz)).trans p2
        have m3 := (EA.out.cell (p := ⟨bk, offk + 3, none⟩) (Nat.lt_of_lt_of_le hSk hsz)).trans p3
        have m4 := (EA.out.cell (p := ⟨bk, offk + 4, none⟩) (Nat.lt_of_lt_of_le hSk hsz)).trans p4
        rw [ea] at k4 m0 m1 m2 m3 m4
        have hwa : wa.heap.size = wr.heap.size + 1 := by rw [ea]; simp
        obtain ⟨wb, eb⟩ : ∃ wb, wb = wa.alloc (.cells #[.int .i64 k.op, .int .i64 k.n, .string k.s, .string k.t, .slice A2 k.kids.length c2] 33) := ⟨_, rfl⟩
        have EB := Lib.hid (show Below wa.heap.size wa wb by rw [eb]; exact (Below.refl _ _).alloc (Nat.le_refl _) _)
        have RB := Lib.hid (show Row wb (wr.heap.size + 1) 33 #[.int .i64 k.op, .int .i64 k.n, .string k.s, .string k.t, .slice A2 k.kids.length c2] by rw [eb]; exact Row.new' _ _ _ hwa.symm)
        have hwb : wb.heap.size = wr.heap.size + 2 := by rw [eb]; simp; omega
        obtain ⟨w3, e3⟩ : ∃ w3, w3 = wb.alloc (.cells #[.slice (some ⟨wr.heap.size + 1, 0, none⟩) 1 1] 31) := ⟨_, rfl⟩
        have E3 := Lib.hid (show Below wb.heap.size wb w3 by rw [e3]; exact (Below.refl _ _).alloc (Nat.le_refl _) _)
        have T3 := Lib.hid (oneRow (X := TrX) (r := [k]) (w' := w3) (T := 31) (Value.slice A' j c') (fun g hg => Nat.lt_of_lt_of_le (HOW.out g hg).2 (Nat.le_trans EA.out.size EB.out.size)) trivial e3
          (slOne RB.out (GNode.rd_mk (t := k) (hk.keep (w' := wb) (S' := fun b => b < wb.heap.size ∧ (Value.slice A' j c').ownBlock ≠ some b ∧ TrX b) fun b hb => ⟨⟨by have : b < w.heap.size := hb; omega, fun e => by have := (HOW.out _ e).1; have : b < w.heap.size := hb; omega, trivial⟩, (EB.out.block b (by have : b < w.heap.size := hb; omega)).trans (EA.out.block b (by have : b < w.heap.size := hb; omega))⟩)) rfl ⟨RB.out.lt, fun e => by have := (HOW.out _ e).2; omega, trivial⟩))
        have T3x := Lib.hid (show Sl w3 (fun b => b < w3.heap.size ∧ (Value.slice A' j c').ownBlock ≠ some b ∧ TrX b) 1 (some ⟨wr.heap.size + 2, 0, none⟩) 1 ([[k]].map rowD) from by have h := T3.out; rw [hwb] at h; exact h)
        have G3 := Lib.hid (((HG.out.below EA.out).below EB.out).below E3.out)
        have hs3 : w.heap.size ≤ w3.heap.size := Nat.le_trans hsa (Nat.le_trans EB.out.size E3.out.size)
        have B3 := Lib.hid (((HB.out.trans (EA.out.mono hsz)).trans (EB.out.mono hsa)).trans (E3.out.mono (Nat.le_trans hsa EB.out.size)))
        rw [hl] at q4
        clear hat hat2 hks hk p0 p1 p2 p3 p4 hwa hwb hl q0 q1 q2 q3
        go_wp2_with (first | (at_builtin; rw [← ea, ← eb, ← e3]; refine wpList_append_X w3 rfl (.tmp 30) (.tmp 32) 78 rfl 31 zRow 1 24 Tryz.underlying78 (by kernel_rfl) rfl (by omega) w.heap.size (.slice A' j c') j _ G3.out (some ⟨wr.heap.size + 2, 0, none⟩) 1 1 _ rfl T3x.out hs3 (by unfold maxLen; omega) (by omega) rfl rfl ?_; intro A4 c4 w4 G4 hGr4; have G4h := Lib.hid G4; have B4 := Lib.hid (B3.out.trans (hGr4.below hs3 (fun g hg => (HOW.out g hg).1))); clear G4 hGr4))
        go_roundw
        case rel => exact ⟨j + 1, A4, c4, by omega, by go_num, rfl, Lib.hid (by rw [HT.out, HV.out, List.map_append]; exact G4h.out), B4⟩
        case measure => simp [intOf]; omega
    · have hje : j = alts.length := by omega
      have HLE := Lib.hid (show alts.take j = alts by rw [hje, List.take_length])
      clear hje
      go_wp2_with fail
      go_ret
      have hG := HG.out
      rw [HLE.out] at hG
      obtain ⟨A5, c5, e5, hs5⟩ := hG.sl (fun _ _ => trivial)
      have hl5 := hG.1
      obtain ⟨rfl, rfl⟩ : A' = A5 ∧ c' = c5 := by simpa using e5
      exact ⟨A', c', ret_sl (by rw [← hl5]; simp), hs5.keep fun b hb => ⟨hb.1, rfl⟩, HB.out⟩

set_option maxRecDepth 20000 in
theorem implPatterns (alts : List GNode) (A : Option Addr) (c : Nat) (w : World) (hl : alts.length ≤ 1048576) (hs : Sl w (Lt w.heap.size) 5 A c (alts.map GNode.toD)) :
    Calls Tryz.prog 62 #[.slice A alts.length c] w (RowsTo (rowsOf patI alts) w) := by
  have HS := Lib.hid hs
  have hlm : alts.length ≤ 9223372036854775807 := by omega
  obtain ⟨w0, e0⟩ : ∃ w0, w0 = w.alloc (.cells #[] 31) := ⟨_, rfl⟩
  have E0 := Lib.hid (show Below w.heap.size w w0 by rw [e0]; exact (Below.refl _ _).alloc (Nat.le_refl _) _)
  have G0 := Lib.hid (show Grx TrX w0 w.heap.size 31 1 (.slice (some ⟨w.heap.size, 0, none⟩) 0 0) 0 [] from Grx.made (by rw [e0]; exact Row.new' _ _ _ rfl) (Nat.le_refl _))
  clear hs
  go_enter Tryz.func62, Tryz.ntmps62
  go_wp2_with fail
  rw [← e0]
  clear e0
  go_loopw [3, 9] (fun v i wr => ∃ (j : Nat) (A : Option Addr) (c : Nat), j ≤ alts.length ∧ i = .int .i64 j ∧ v = .slice A j c ∧ Hid (Grx TrX wr w.heap.size 31 1 (.slice A j c) j ((rowsOf patI (alts.take j)).map rowD)) ∧ Hid (Below w.heap.size w wr)) (fun _ i _ => alts.length - (intOf i).toNat)
  case atStart => exact ⟨0, _, _, by omega, by go_num, rfl, G0, E0⟩
  case round =>
    clear G0 E0
    obtain ⟨j, A', c', hj, rfl, rfl, HG, HB⟩ := hrel
    have hsz := HB.out.size
    have HOW := Lib.hid (fun g (hg : (Value.slice A' j c').ownBlock = some g) => HG.out.own g hg)
    by_cases hlt : j < alts.length
    · obtain ⟨b, off, A1, c1, rfl, hSb, q0, q1, q2, q3, q4, hat⟩ := GNode.elem (HS.out.keep (w' := wr) (S' := Lt w.heap.size) fun k hk => ⟨hk, HB.out.block k hk⟩) j hlt
      have HT := Lib.hid (rowsOf_take (f := patI) hlt)
      obtain ⟨wa, ea⟩ : ∃ wa, wa = wr.alloc (.cells #[.int .i64 (alts[j]).op, .int .i64 (alts[j]).n, .string (alts[j]).s, .string (alts[j]).t, .slice A1 (alts[j]).kids.length c1] 33) := ⟨_, rfl⟩
      have EA := Lib.hid (show Below wr.heap.size wr wa by rw [ea]; exact (Below.refl _ _).alloc (Nat.le_refl _) _)
      have hsa := Nat.le_trans hsz EA.out.size
      have HP := Lib.hid (implPatternOf (Lt w.heap.size) alts[j] A1 c1 wa (fun x hx => Nat.lt_of_lt_of_le hx hsa) (hat.keep fun x hx => ⟨hx, EA.out.block x (Nat.lt_of_lt_of_le hx hsz)⟩))
      generalize alts[j] = al at *
      clear hat
      go_wp2_with fail
      rw [← ea]
      refine HP.out.mono ?_
      rintro e w1 ⟨A2, c2, rfl, hk, hb1⟩
      have B1 := Lib.hid ((HB.out.trans (EA.out.mono hsz)).trans (hb1.mono hsa))
      have G1 := Lib.hid ((HG.out.below EA.out).below hb1)
      have hs1 := B1.out.size
      obtain ⟨wb, eb⟩ : ∃ wb, wb = w1.alloc (.cells #[.int .i64 (patI al).op, .int .i64 (patI al).n, .string (patI al).s, .string (patI al).t, .slice A2 (patI al).kids.length c2] 33) := ⟨_, rfl⟩
      have EB := Lib.hid (show Below w1.heap.size w1 wb by rw [eb]; exact (Below.refl _ _).alloc (Nat.le_refl _) _)
      have RB := Lib.hid (show Row wb w1.heap.size 33 #[.int .i64 (patI al).op, .int .i64 (patI al).n, .string (patI al).s, .string (patI al).t, .slice A2 (patI al).kids.length c2] by rw [eb]; exact Row.new' _ _ _ rfl)
      have hwb : wb.heap.size = w1.heap.size + 1 := by rw [eb]; simp
      obtain ⟨w3, e3⟩ : ∃ w3, w3 = wb.alloc (.cells #[.slice (some ⟨w1.heap.size, 0, none⟩) 1 1] 31) := ⟨_, rfl⟩
      have E3 := Lib.hid (show Below wb.heap.size wb w3 by rw [e3]; exact (Below.refl _ _).alloc (Nat.le_refl _) _)
      have hlt1 : ∀ x, Lt w.heap.size x → x < w1.heap.size := fun x hx => Nat.lt_of_lt_of_le hx hs1
      have T3 := Lib.hid (oneRow (X := TrX) (r := [patI al]) (w' := w3) (T := 31) (Value.slice A' j c') (fun g hg => Nat.lt_of_lt_of_le (G1.out.own g hg).2 EB.out.size) trivial e3
        (slOne RB.out (GNode.rd_mk (t := patI al) (hk.keep (w' := wb) (S' := fun b => b < wb.heap.size ∧ (Value.slice A' j c').ownBlock ≠ some b ∧ TrX b) fun b hb => ⟨⟨by have := hlt1 b hb; omega, fun e => by have := (HOW.out _ e).1; have : b < w.heap.size := hb; omega, trivial⟩, EB.out.block b (hlt1 b hb)⟩)) rfl ⟨RB.out.lt, fun e => by have := (G1.out.own _ e).2; omega, trivial⟩))
      have T3x := Lib.hid (show Sl w3 (fun b => b < w3.heap.size ∧ (Value.slice A' j c').ownBlock ≠ some b ∧ TrX b) 1 (some ⟨w1.heap.size + 1, 0, none⟩) 1 ([[patI al]].map rowD) from by have h := T3.out; rw [hwb] at h; exact h)
      have G3 := Lib.hid ((G1.out.below EB.out).below E3.out)
      have hs3 : w.heap.size ≤ w3.heap.size := Nat.le_trans hs1 (Nat.le_trans EB.out.size E3.out.size)
      have B3 := Lib.hid ((B1.out.trans (EB.out.mono hs1)).trans (E3.out.mono (Nat.le_trans hs1 EB.out.size)))
      clear hk hb1 hwb hlt1
      go_wp2_with (first | (at_builtin; rw [← eb, ← e3]; refine wpList_append_X w3 rfl (.tmp 13) (.tmp 17) 78 rfl 31 zRow 1 24 Tryz.underlying78 (by kernel_rfl) rfl (by omega) w.heap.size (.slice A' j c') j _ G3.out (some ⟨w1.heap.size + 1, 0, none⟩) 1 1 _ rfl T3x.out hs3 (by unfold maxLen; omega) (by omega) rfl rfl ?_; intro A4 c4 w4 G4 hGr4; have G4h := Lib.hid G4; have B4 := Lib.hid (B3.out.trans (hGr4.below hs3 (fun g hg => (HOW.out g hg).1))); clear G4 hGr4))
      go_roundw
      case rel => exact ⟨j + 1, A4, c4, by omega, by go_num, rfl, Lib.hid (by rw [HT.out, List.map_append]; exact G4h.out), B4⟩
      case measure => simp [intOf]; omega
    · have hje : j = alts.length := by omega
      have HLE := Lib.hid (show alts.take j = alts by rw [hje, List.take_length])
      clear hje
      go_wp2_with fail
      go_ret
      have hG := HG.out
      rw [HLE.out] at hG
      obtain ⟨A5, c5, e5, hs5⟩ := hG.sl (fun _ _ => trivial)
      have hl5 := hG.1
      obtain ⟨rfl, rfl⟩ : A' = A5 ∧ c' = c5 := by simpa using e5
      exact ⟨A', c', ret_sl (by rw [← hl5]; simp), hs5.keep fun b hb => ⟨hb.1, rfl⟩, HB.out⟩

theorem rowsOf_B {f : GNode → GNode} {alts : List GNode} (h : ∀ a ∈ alts, nodeB 1048576 (f a)) : ∀ r ∈ rowsOf f alts, ∀ x ∈ r, nodeB 1048576 x := fun r hr x hx => by
  unfold rowsOf at hr
  obtain ⟨a, ha, rfl⟩ := List.mem_map.1 hr
  rw [List.mem_singleton.1 hx]; exact h a ha
theorem pat_B {alts : List GNode} (h : bulkL GNode.bulk alts ≤ 1048576) : (∀ a ∈ alts, nodeB 1048576 (patOf a)) ∧ ∀ a ∈ alts, nodeB 1048576 (patI a) := by
  have key : ∀ a ∈ alts, ∀ k ∈ a.kids, nodeB 1048576 k := fun a ha k hk => by
    have h1 := bulkL_mem GNode.bulk alts a ha
    have h2 := bulkL_mem GNode.bulk a.kids k hk
    have h3 := a.bulk_eq
    unfold nodeB; omega
  refine ⟨fun a ha => ?_, fun a ha => ?_⟩
  · cases hk : a.kids with
    | nil => rw [patOf_nil hk]; exact anyN_B _
    | cons k r => rw [patOf_cons hk]; exact key a ha k (by rw [hk]; simp)
  · cases hk : a.kids with
    | nil => rw [patI_nil hk]; unfold nodeB; rw [GNode.bulk_eq]; decide
    | cons k r => rw [patI_cons hk]; exact key a ha k (by rw [hk]; simp)
theorem rowsOf_length (f : GNode → GNode) (alts : List GNode) : (rowsOf f alts).length = alts.length := by unfold rowsOf; simp
end Go.Proofs.YtgbcdfeflgnogaaGreat

/- Coverage: Missing and Idle of both. Conditions: the sizes are bounded. -/
namespace Go.Proofs.YtgbcdfeflgnogaaGreat
open Go.RowKit
set_option linter.unusedVariables false
set_option linter.unusedSimpArgs false
set_option maxHeartbeats 1000000

theorem rowsOf_get (f : GNode → GNode) (alts : List GNode) (j : Nat) (h : j < (rowsOf f alts).length) (h2 : j < alts.length) : (rowsOf f alts)[j] = [f alts[j]] := List.getElem_map ..
theorem run_head {P : Program} (T e : TypeId) (size : Nat) (ht : P.underlying T = some (.slice e)) (hi : (P.info? e).map (fun i => i.size) = some size) (b off n c j : Nat) (h1 : j ≤ n) (h2 : n ≤ c) (w : World) :
    (Instr.slice T (.slice (some ⟨b, off, none⟩) n c) none (some (.int .i64 (j : Int))) none).run P w = .ok (.slice (some ⟨b, off, none⟩) j c) w := by
  have he : P.elem T = e := by simp [Program.elem, ht]
  obtain ⟨i, g1, g2⟩ := Option.map_eq_some_iff.1 hi
  subst g2
  rw [run_slice_h w T (some ⟨b, off, none⟩) n c (by rw [he]; exact ht) .i64 j (by omega) (by omega)]
  rw [he]
  simp only [sizeOf, typeInfo, Sem.run_bind, g1, Result.andThen_ok, Sem.run_pure, sliced]
  by_cases hc : c = 0
  · subst hc
    simp [g1, Result.andThen]
  · simp [g1, Result.andThen, hc, Addr.add]

set_option maxRecDepth 20000 in
theorem specMissing (ds : List GData) (A0 : Option Addr) (c0 : Nat) (alts : List GNode) (A : Option Addr) (c : Nat) (w : World) (hd : bulkL GData.bulk ds ≤ 1048576) (ha : bulkL GNode.bulk alts ≤ 1048576) (hds : Sl w (Lt w.heap.size) 3 A0 c0 (ds.map GData.toD)) (hs : Sl w (Lt w.heap.size) 5 A c (alts.map GNode.toD)) :
    Calls Tryz.prog 27 #[.slice A0 ds.length c0, .slice A alts.length c] w fun e w' => e = .returned (.bool (missingG patOf ds alts)) ∧ Below w.heap.size w w' := by
  have HD := Lib.hid hds
  have hl : alts.length ≤ 1048576 := Nat.le_trans (bulkL_len GNode.bulk alts) ha
  have HR := Lib.hid (specRows alts A c w hl hs)
  have HB := Lib.hid (rowsOf_B (f := patOf) (pat_B ha).1)
  have HH := Lib.hid hd
  clear hds hs ha hd
  go_enter Tryz.func27, Tryz.ntmps27
  go_wp2_with fail
  refine HR.out.mono ?_
  rintro e w1 ⟨A1, c1, rfl, hr1, hb1⟩
  have B1 := Lib.hid hb1
  have HS1 := Lib.hid hr1
  obtain ⟨w2, e2⟩ : ∃ w2, w2 = w1.alloc (.cells #[.int .i64 17, .int .i64 0, .string ⟨#[]⟩, .string ⟨#[]⟩, .slice none 0 0] 33) := ⟨_, rfl⟩
  have E2 := Lib.hid (show Below w1.heap.size w1 w2 by rw [e2]; exact (Below.refl _ _).alloc (Nat.le_refl _) _)
  have R2 := Lib.hid (show Row w2 w1.heap.size 33 #[.int .i64 17, .int .i64 0, .string ⟨#[]⟩, .string ⟨#[]⟩, .slice none 0 0] by rw [e2]; exact Row.new' _ _ _ rfl)
  have B2 := Lib.hid (B1.out.trans (E2.out.mono B1.out.size))
  have HU := Lib.hid (specUsefulT ds A0 c0 (rowsOf patOf alts) A1 c1 [anyN] (some ⟨w1.heap.size, 0, none⟩) 1 w2 HH.out (by rw [rowsOf_length]; exact hl) (by simp) HB.out (fun x hx => by rw [List.mem_singleton.1 hx]; exact anyN_B _)
    ⟨HD.out.keep (fun k hk => ⟨Nat.lt_of_lt_of_le hk B2.out.size, B2.out.block k hk⟩), HS1.out.keep (fun k hk => ⟨Nat.lt_of_lt_of_le hk E2.out.size, E2.out.block k hk⟩), slOne R2.out (anyN_cells _ _) rfl R2.out.lt⟩)
  have EQ := Lib.hid e2
  clear hr1 hb1 e2
  go_wp2_with fail
  rw [← EQ.out]
  refine HU.out.mono ?_
  rintro e w3 ⟨rfl, hb3⟩
  go_wp2_with fail
  go_ret
  exact ⟨rfl, B2.out.trans (hb3.mono B2.out.size)⟩

set_option maxRecDepth 20000 in
theorem implMissing (ds : List GData) (A0 : Option Addr) (c0 : Nat) (alts : List GNode) (A : Option Addr) (c : Nat) (w : World) (hd : bulkL GData.bulk ds ≤ 1048576) (ha : bulkL GNode.bulk alts ≤ 1048576) (hds : Sl w (Lt w.heap.size) 3 A0 c0 (ds.map GData.toD)) (hs : Sl w (Lt w.heap.size) 5 A c (alts.map GNode.toD)) :
    Calls Tryz.prog 35 #[.slice A0 ds.length c0, .slice A alts.length c] w fun e w' => e = .returned (.bool (missingG patI ds alts)) ∧ Below w.heap.size w w' := by
  have HD := Lib.hid hds
  have hl : alts.length ≤ 1048576 := Nat.le_trans (bulkL_len GNode.bulk alts) ha
  have HR := Lib.hid (implPatterns alts A c w hl hs)
  have HB := Lib.hid (rowsOf_B (f := patI) (pat_B ha).2)
  have HH := Lib.hid hd
  clear hds hs ha hd
  go_enter Tryz.func35, Tryz.ntmps35
  go_wp2_with fail
  refine HR.out.mono ?_
  rintro e w1 ⟨A1, c1, rfl, hr1, hb1⟩
  have B1 := Lib.hid hb1
  have HS1 := Lib.hid hr1
  obtain ⟨w2, e2⟩ : ∃ w2, w2 = w1.alloc (.cells #[.int .i64 17, .int .i64 0, .string ⟨#[]⟩, .string ⟨#[]⟩, .slice none 0 0] 33) := ⟨_, rfl⟩
  have E2 := Lib.hid (show Below w1.heap.size w1 w2 by rw [e2]; exact (Below.refl _ _).alloc (Nat.le_refl _) _)
  have R2 := Lib.hid (show Row w2 w1.heap.size 33 #[.int .i64 17, .int .i64 0, .string ⟨#[]⟩, .string ⟨#[]⟩, .slice none 0 0] by rw [e2]; exact Row.new' _ _ _ rfl)
  have B2 := Lib.hid (B1.out.trans (E2.out.mono B1.out.size))
  have HU := Lib.hid (implUsefulT ds A0 c0 (rowsOf patI alts) A1 c1 [anyN] (some ⟨w1.heap.size, 0, none⟩) 1 w2 HH.out (by rw [rowsOf_length]; exact hl) (by simp) HB.out (fun x hx => by rw [List.mem_singleton.1 hx]; exact anyN_B _)
    ⟨HD.out.keep (fun k hk => ⟨Nat.lt_of_lt_of_le hk B2.out.size, B2.out.block k hk⟩), HS1.out.keep (fun k hk => ⟨Nat.lt_of_lt_of_le hk E2.out.size, E2.out.block k hk⟩), slOne R2.out (anyN_cells _ _) rfl R2.out.lt⟩)
  have EQ := Lib.hid e2
  clear hr1 hb1 e2
  go_wp2_with fail
  rw [← EQ.out]
  refine HU.out.mono ?_
  rintro e w3 ⟨rfl, hb3⟩
  go_wp2_with fail
  go_ret
  exact ⟨rfl, B2.out.trans (hb3.mono B2.out.size)⟩

end Go.Proofs.YtgbcdfeflgnogaaGreat
