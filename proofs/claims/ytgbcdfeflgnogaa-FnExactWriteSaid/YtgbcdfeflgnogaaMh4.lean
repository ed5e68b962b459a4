/- Several texts of this claim in one: WriteP WrP WriteQ. Conditions: none but bounds on sizes. -/
import Derived.Test.YtgbcdfeflgnogaaTyText
import Derived.Test.YtgbcdfeflgnogaaDigits
import Derived.Test.YtgbcdfeflgnogaaNodeP
import Derived.Test.YtgbcdfeflgnogaaGProg
import Derived.Lib.Join
import Derived.Test.YtgbcdfeflgnogaaTidyP
/- Programs as text: what both write (no program in sight). Conditions: none. -/
namespace Go.Proofs.Ytgbcdfeflgnogaa
open Go.RowKit
set_option linter.unusedVariables false
set_option linter.unusedSimpArgs false

/-- texts, another ahead of each -/
def tailB (sep : ByteArray) : List ByteArray → ByteArray | [] => ⟨#[]⟩ | x :: r => (sep ++ x) ++ tailB sep r
/-- texts, another between them -/
def joinB (sep : ByteArray) : List ByteArray → ByteArray | [] => ⟨#[]⟩ | x :: r => x ++ tailB sep r

theorem tailB_list (sep : ByteArray) : ∀ l : List ByteArray, (tailB sep l).data.toList = Lib.joinTail sep.data.toList (l.map (·.data.toList))
  | [] => rfl
  | x :: r => by
    have h := tailB_list sep r
    simp only [Lib.joinTail] at h
    simp only [tailB, ByteArray.data_append, Array.toList_append, List.map_cons, Lib.joinTail, List.flatten_cons, h]
theorem joinB_lib (sep : ByteArray) (l : List ByteArray) : (⟨(Lib.join (l.map (·.data.toList)) sep.data.toList).toArray⟩ : ByteArray) = joinB sep l := by
  apply ByteArray.ext
  apply Array.ext'
  match l with
  | [] => rfl
  | x :: r => simp only [joinB, List.map_cons, Lib.join_cons, ByteArray.data_append, Array.toList_append, tailB_list]
theorem spaced_tail : ∀ l : List ByteArray, spaced l = tailB ⟨#[32]⟩ l
  | [] => rfl
  | x :: r => by simp only [spaced, tailB, spaced_tail r]
theorem spaced_join {l : List ByteArray} (h : l ≠ []) : spaced l = ⟨#[32]⟩ ++ joinB ⟨#[32]⟩ l := by
  cases l with
  | nil => exact absurd rfl h
  | cons x r => rw [spaced_tail, tailB, joinB, ba_assoc]
theorem tailB_take (sep : ByteArray) (l : List ByteArray) (i : Nat) (h : i < l.length) : tailB sep (l.take (i + 1)) = tailB sep (l.take i) ++ (sep ++ l[i]) := by
  induction l generalizing i with
  | nil => simp at h
  | cons t r ih =>
    match i with
    | 0 => simp [tailB, tnil, tnil']
    | i + 1 => simp only [List.take_succ_cons, tailB, List.getElem_cons_succ]; rw [ih i (by simpa using h), ba_assoc, ba_assoc, ba_assoc]
theorem joinB_first (sep : ByteArray) {l : List ByteArray} (h : 0 < l.length) : joinB sep (l.take 1) = l[0] := by
  cases l with
  | nil => simp at h
  | cons x r => simp [joinB, tailB, tnil]
theorem joinB_take (sep : ByteArray) {l : List ByteArray} {i : Nat} (hi : 0 < i) (h : i < l.length) : joinB sep (l.take (i + 1)) = joinB sep (l.take i) ++ sep ++ l[i] := by
  cases l with
  | nil => simp at h
  | cons x r =>
    obtain ⟨j, rfl⟩ : ∃ j, i = j + 1 := ⟨i - 1, by omega⟩
    simp only [List.take_succ_cons, joinB, List.getElem_cons_succ]
    rw [tailB_take sep r j (by simpa using h)]
    simp only [ba_assoc]

/-- how long texts are, with 3 for each -/
def lensB (l : List ByteArray) : Nat := (l.map fun x => x.size + 3).sum
theorem lensB_cons (x : ByteArray) (r : List ByteArray) : lensB (x :: r) = x.size + 3 + lensB r := by simp [lensB]
theorem tailB_size {sep : ByteArray} (h : sep.size ≤ 3) : ∀ l : List ByteArray, (tailB sep l).size ≤ lensB l
  | [] => by simp only [tailB]; exact Nat.zero_le _
  | x :: r => by have := tailB_size h r; simp only [tailB, ByteArray.size_append', lensB_cons]; omega
theorem joinB_size {sep : ByteArray} (h : sep.size ≤ 3) (l : List ByteArray) : (joinB sep l).size ≤ lensB l := by
  cases l with
  | nil => exact Nat.zero_le _
  | cons x r => have := tailB_size h r; simp only [joinB, ByteArray.size_append', lensB_cons]; omega
theorem lensB_take (l : List ByteArray) (i : Nat) : lensB (l.take i) ≤ lensB l := by
  induction l generalizing i with
  | nil => simp
  | cons t r ih =>
    match i with
    | 0 => simp [lensB]
    | i + 1 => simp only [List.take_succ_cons, lensB_cons]; have := ih i; omega
theorem lensB_get {l : List ByteArray} {i : Nat} (h : i < l.length) : l[i].size ≤ lensB l := by
  induction l generalizing i with
  | nil => simp at h
  | cons t r ih =>
    match i with
    | 0 => simp only [List.getElem_cons_zero, lensB_cons]; omega
    | i + 1 => simp only [List.getElem_cons_succ, lensB_cons]; have := ih (i := i) (by simpa using h); omega

def atB (l : List ByteArray) (i : Nat) : ByteArray := (l[i]?).getD ⟨#[]⟩
theorem atB_get {l : List ByteArray} {i : Nat} (h : i < l.length) : atB l i = l[i] := by unfold atB; rw [List.getElem?_eq_getElem h]; rfl

/-- the sign of a reckoning -/
def signT (op : Int) : ByteArray := if op = 10 then ⟨#[43]⟩ else if op = 11 then ⟨#[45]⟩ else if op = 12 then ⟨#[42]⟩ else if op = 13 then ⟨#[60]⟩ else ⟨#[61, 61]⟩

/-- an expression as text, without brackets, by its kids' texts -/
def bodyOf (op : Int) (s t : ByteArray) (bare : Bool) (ks : List ByteArray) : ByteArray :=
  if op = 3 then ⟨#[102, 117, 110, 32]⟩ ++ s ++ ⟨#[32, 45, 62, 32]⟩ ++ atB ks 0
  else if op = 4 then (if bare = true then ⟨#[40]⟩ ++ atB ks 0 ++ ⟨#[41]⟩ else atB ks 0) ++ ⟨#[32]⟩ ++ atB ks 1
  else if op = 5 then ⟨#[108, 101, 116, 32]⟩ ++ s ++ ⟨#[32, 61, 32]⟩ ++ atB ks 0 ++ ⟨#[32, 105, 110, 32]⟩ ++ atB ks 1
  else if op = 6 then ⟨#[114, 101, 99, 32]⟩ ++ s ++ ⟨#[32]⟩ ++ t ++ ⟨#[32, 61, 32]⟩ ++ atB ks 0 ++ ⟨#[32, 105, 110, 32]⟩ ++ atB ks 1
  else if op = 7 then ⟨#[99, 97, 115, 101, 32]⟩ ++ atB ks 0 ++ ⟨#[32, 111, 102, 32, 123, 32]⟩ ++ joinB ⟨#[59, 32]⟩ (ks.drop 1) ++ ⟨#[32, 125]⟩
  else if op = 9 then ⟨#[105, 102, 32]⟩ ++ atB ks 0 ++ ⟨#[32, 116, 104, 101, 110, 32]⟩ ++ atB ks 1 ++ ⟨#[32, 101, 108, 115, 101, 32]⟩ ++ atB ks 2
  else if op = 16 then ⟨#[112, 117, 116, 32]⟩ ++ atB ks 0
  else atB ks 0 ++ ⟨#[32]⟩ ++ signT op ++ ⟨#[32]⟩ ++ atB ks 1

/-- a node as text, by its kids' texts -/
def nodeTextOf (op n : Int) (s t : ByteArray) (bare : Bool) (ks : List ByteArray) : ByteArray :=
  if op = 1 ∨ op = 19 then (if inB n 0 1073741823 = true then digI n else ⟨#[]⟩)
  else if op = 2 ∨ op = 18 then s
  else if op = 17 then ⟨#[95]⟩
  else if op = 8 then atB ks 0 ++ ⟨#[32, 45, 62, 32]⟩ ++ atB ks 1
  else if op = 15 ∨ op = 20 then (if ks.length = 0 then s else ⟨#[40]⟩ ++ (s ++ ⟨#[32]⟩ ++ joinB ⟨#[32]⟩ ks) ++ ⟨#[41]⟩)
  else ⟨#[40]⟩ ++ bodyOf op s t bare ks ++ ⟨#[41]⟩

/-- is the first one of some nodes a con without kids? -/
def bareL : List GNode → Bool | [] => false | x :: _ => x.op == 15 && x.kids.length == 0

mutual
/-- a node as text -/
def GNode.text : GNode → ByteArray | .mk op n s t kids => nodeTextOf op n s t (bareL kids) (GNode.texts kids)
def GNode.texts : List GNode → List ByteArray | [] => [] | t :: r => t.text :: GNode.texts r
end
theorem GNode.texts_map : ∀ l : List GNode, GNode.texts l = l.map GNode.text
  | [] => rfl
  | t :: r => by simp only [GNode.texts, List.map_cons, GNode.texts_map r]
theorem GNode.text_eq (t : GNode) : t.text = nodeTextOf t.op t.n t.s t.t (bareL t.kids) (t.kids.map GNode.text) := by
  cases t; simp only [GNode.text, GNode.texts_map, GNode.op, GNode.n, GNode.s, GNode.t, GNode.kids]

theorem ba1 (a : UInt8) : (ByteArray.mk #[a]).size = 1 := rfl
theorem ba2 (a b : UInt8) : (ByteArray.mk #[a, b]).size = 2 := rfl
theorem ba3 (a b c : UInt8) : (ByteArray.mk #[a, b, c]).size = 3 := rfl
theorem ba4 (a b c d : UInt8) : (ByteArray.mk #[a, b, c, d]).size = 4 := rfl
theorem ba5 (a b c d e : UInt8) : (ByteArray.mk #[a, b, c, d, e]).size = 5 := rfl
theorem ba6 (a b c d e f : UInt8) : (ByteArray.mk #[a, b, c, d, e, f]).size = 6 := rfl
theorem ba0 : (ByteArray.mk #[]).size = 0 := rfl
theorem at3 (ks : List ByteArray) : (atB ks 0).size + (atB ks 1).size + (atB ks 2).size ≤ lensB ks ∧ (atB ks 0).size + (joinB ⟨#[59, 32]⟩ (ks.drop 1)).size ≤ lensB ks := by
  have hj := fun l => joinB_size (sep := ⟨#[59, 32]⟩) (by rw [ba2]; omega) l
  match ks with
  | [] => exact ⟨Nat.le_refl _, Nat.le_refl _⟩
  | [a] => refine ⟨?_, ?_⟩ <;> simp [atB, lensB, joinB, ba0] <;> omega
  | [a, b] => refine ⟨?_, ?_⟩ <;> simp [atB, lensB, joinB, ba0, tailB, ByteArray.size_append'] <;> omega
  | a :: b :: c :: r =>
    have := hj (b :: c :: r)
    refine ⟨?_, ?_⟩
    · simp [atB, lensB_cons]; omega
    · simp only [List.drop_succ_cons, List.drop_zero]
      simp only [lensB_cons] at this ⊢
      have e : atB (a :: b :: c :: r) 0 = a := rfl
      rw [e]; omega
theorem signT_size (op : Int) : (signT op).size ≤ 2 := by 
  unfold signT
  repeat' split
  all_goals first | (rw [ba1]; omega) | (rw [ba2]; omega)
theorem bodyOf_size (op : Int) (s t : ByteArray) (bare : Bool) (ks : List ByteArray) : (bodyOf op s t bare ks).size ≤ s.size + t.size + lensB ks + 15 := by
  have h3 := at3 ks
  have hs := signT_size op
  unfold bodyOf
  repeat' split
  all_goals simp only [ByteArray.size_append', ba1, ba2, ba3, ba4, ba5, ba6]
  all_goals omega
theorem nodeTextOf_size (op n : Int) (s t : ByteArray) (bare : Bool) (ks : List ByteArray) : (nodeTextOf op n s t bare ks).size ≤ s.size + t.size + lensB ks + 20 := by
  have h3 := at3 ks
  have hb := bodyOf_size op s t bare ks
  have hj := joinB_size (sep := ⟨#[32]⟩) (by rw [ba1]; omega) ks
  unfold nodeTextOf
  split
  · split
    · rename_i h
      have h' : 0 ≤ n ∧ n ≤ 1073741823 := of_decide_eq_true h
      have := digI_size n (by omega) (by omega)
      omega
    · rw [ba0]; omega
  repeat' split
  all_goals (try simp only [ByteArray.size_append', ba1, ba2, ba3, ba4, ba5, ba6])
  all_goals omega
mutual
theorem GNode.text_size : ∀ t : GNode, t.text.size + 20 ≤ 40 * (t.bulk + 1)
  | .mk op n s t kids => by
    have h1 := GNode.texts_size kids
    have h2 := nodeTextOf_size op n s t (bareL kids) (GNode.texts kids)
    simp only [GNode.text, GNode.bulk]
    omega
theorem GNode.texts_size : ∀ l : List GNode, lensB (GNode.texts l) ≤ 40 * GNode.bulks l
  | [] => by simp only [GNode.texts]; exact Nat.zero_le _
  | t :: r => by
    have h1 := GNode.text_size t
    have h2 := GNode.texts_size r
    simp only [GNode.texts, GNode.bulks, lensB_cons]
    omega
end
theorem GNode.lens_kids (t : GNode) : lensB (t.kids.map GNode.text) ≤ 40 * t.bulk := by
  have h := GNode.texts_size t.kids
  rw [GNode.texts_map, GNode.bulks_eq] at h
  have := t.bulk_eq
  omega

/-- a con of a data as text -/
def conText (c : GCon) : ByteArray := c.name ++ spaced (c.args.map GTy.text)
/-- the vars of a data -/
def varsText (n : Nat) : ByteArray := spaced ((List.range n).map fun i : Nat => one (97 + (i : Int) % 26))
theorem varsText_succ (n : Nat) : varsText (n + 1) = varsText n ++ (⟨#[32]⟩ ++ one (97 + (n : Int) % 26)) := by
  have h := spaced_take ((List.range (n + 1)).map fun i : Nat => one (97 + (i : Int) % 26)) n (by simp)
  have e1 : ((List.range (n + 1)).map fun i : Nat => one (97 + (i : Int) % 26)).take (n + 1) = (List.range (n + 1)).map fun i : Nat => one (97 + (i : Int) % 26) := by rw [List.take_of_length_le (by simp)]
  have e2 : ((List.range (n + 1)).map fun i : Nat => one (97 + (i : Int) % 26)).take n = (List.range n).map fun i : Nat => one (97 + (i : Int) % 26) := by rw [← List.map_take, List.range_succ, List.take_left' (by simp)]
  rw [e1, e2] at h
  unfold varsText
  rw [h]
  simp
theorem varsText_size : ∀ n : Nat, (varsText n).size = 2 * n
  | 0 => rfl
  | n + 1 => by rw [varsText_succ]; simp only [ByteArray.size_append', varsText_size n, ba1, one_size]; omega
/-- a data as text -/
def dataText (d : GData) : ByteArray := ⟨#[100, 97, 116, 97, 32]⟩ ++ d.name ++ varsText d.vars.toNat ++ (⟨#[32, 61, 32]⟩ ++ joinB ⟨#[32, 124, 32]⟩ (d.cons.map conText) ++ ⟨#[59, 10]⟩)
/-- one text of some -/
def catB : List ByteArray → ByteArray | [] => ⟨#[]⟩ | x :: r => x ++ catB r
theorem catB_take (l : List ByteArray) (i : Nat) (h : i < l.length) : catB (l.take (i + 1)) = catB (l.take i) ++ l[i] := by
  induction l generalizing i with
  | nil => simp at h
  | cons t r ih =>
    match i with
    | 0 => simp [catB, tnil, tnil']
    | i + 1 => simp only [List.take_succ_cons, catB, List.getElem_cons_succ]; rw [ih i (by simpa using h), ba_assoc]
theorem catB_size (l : List ByteArray) (i : Nat) : (catB (l.take i)).size ≤ (catB l).size := by
  induction l generalizing i with
  | nil => simp
  | cons t r ih =>
    match i with
    | 0 => simp [catB, ba0]
    | i + 1 => simp only [List.take_succ_cons, catB, ByteArray.size_append']; have := ih i; omega
/-- a program as text -/
def progText (p : GProg) : ByteArray := catB (p.datas.map dataText) ++ p.main.text ++ ⟨#[10]⟩

/-- as the reference writes the cons: so far -/
def consTo (l : List ByteArray) (j : Nat) : ByteArray := if j = 0 then ⟨#[32, 61]⟩ else ⟨#[32, 61, 32]⟩ ++ joinB ⟨#[32, 124, 32]⟩ (l.take j)
theorem consTo_one {l : List ByteArray} (h : 0 < l.length) : consTo l 1 = ⟨#[32, 61]⟩ ++ (⟨#[32]⟩ ++ l[0]) := by
  unfold consTo
  rw [if_neg (by omega), joinB_first _ h, ← ba_assoc]
  rfl
theorem consTo_succ {l : List ByteArray} {j : Nat} (hj : 0 < j) (h : j < l.length) : consTo l (j + 1) = consTo l j ++ ⟨#[32, 124]⟩ ++ (⟨#[32]⟩ ++ l[j]) := by
  unfold consTo
  rw [if_neg (by omega), if_neg (by omega), joinB_take _ hj h]
  have : (⟨#[32, 124, 32]⟩ : ByteArray) = ⟨#[32, 124]⟩ ++ ⟨#[32]⟩ := rfl
  rw [this]
  simp only [ba_assoc]
end Go.Proofs.Ytgbcdfeflgnogaa

/- What is tidy, as its text needs it (no program in sight). Conditions: none. -/
namespace Go.Proofs.Ytgbcdfeflgnogaa
open Go.RowKit
set_option linter.unusedVariables false
set_option linter.unusedSimpArgs false

theorem inB_of {n : Int} (h : inB n 10 14 = true) : 10 ≤ n ∧ n ≤ 14 := of_decide_eq_true h
theorem exp1_len {op n : Int} {s t : ByteArray} {k : Nat} (h : exp1 op n s t k = true) :
    (op = 1 ∧ inB n 0 1073741823 = true ∧ k = 0) ∨ (op = 2 ∧ k = 0) ∨ (op = 3 ∧ k = 1) ∨ (op = 4 ∧ k = 2) ∨ (op = 5 ∧ k = 2) ∨ (op = 6 ∧ k = 2) ∨ (op = 7 ∧ 2 ≤ k) ∨ (op = 9 ∧ k = 3) ∨ (op = 16 ∧ k = 1) ∨ op = 15 ∨ ((10 ≤ op ∧ op ≤ 14) ∧ k = 2) := by
  unfold exp1 at h
  by_cases o1 : op = 1
  · rw [if_pos o1] at h; simp only [Bool.and_eq_true, beq_iff_eq] at h; exact .inl ⟨o1, h.1, h.2.2.2⟩
  rw [if_neg o1, Bool.and_eq_true] at h
  replace h := h.2
  by_cases o2 : op = 2
  · rw [if_pos o2] at h; simp only [Bool.and_eq_true, beq_iff_eq] at h; exact .inr (.inl ⟨o2, h.2.2⟩)
  rw [if_neg o2] at h
  by_cases o3 : op = 3
  · rw [if_pos o3] at h; simp only [Bool.and_eq_true, beq_iff_eq] at h; exact .inr (.inr (.inl ⟨o3, h.2.2⟩))
  rw [if_neg o3] at h
  by_cases o5 : op = 5
  · rw [if_pos o5] at h; simp only [Bool.and_eq_true, beq_iff_eq] at h; exact .inr (.inr (.inr (.inr (.inl ⟨o5, h.2.2⟩))))
  rw [if_neg o5] at h
  by_cases o6 : op = 6
  · rw [if_pos o6] at h; simp only [Bool.and_eq_true, beq_iff_eq] at h; exact .inr (.inr (.inr (.inr (.inr (.inl ⟨o6, h.2.2⟩)))))
  rw [if_neg o6] at h
  by_cases o15 : op = 15
  · exact .inr (.inr (.inr (.inr (.inr (.inr (.inr (.inr (.inr (.inl o15)))))))))
  rw [if_neg o15, Bool.and_eq_true, Bool.and_eq_true] at h
  replace h := h.2.2
  by_cases o16 : op = 16
  · rw [if_pos o16, beq_iff_eq] at h; exact .inr (.inr (.inr (.inr (.inr (.inr (.inr (.inr (.inl ⟨o16, h⟩))))))))
  rw [if_neg o16] at h
  by_cases o9 : op = 9
  · rw [if_pos o9, beq_iff_eq] at h; exact .inr (.inr (.inr (.inr (.inr (.inr (.inr (.inl ⟨o9, h⟩)))))))
  rw [if_neg o9] at h
  by_cases o7 : op = 7
  · rw [if_pos o7, decide_eq_true_eq] at h; exact .inr (.inr (.inr (.inr (.inr (.inr (.inl ⟨o7, h⟩))))))
  rw [if_neg o7] at h
  by_cases o4 : op = 4
  · rw [if_pos o4, beq_iff_eq] at h; exact .inr (.inr (.inr (.inl ⟨o4, h⟩)))
  rw [if_neg o4, Bool.and_eq_true, beq_iff_eq] at h
  exact .inr (.inr (.inr (.inr (.inr (.inr (.inr (.inr (.inr (.inr ⟨inB_of h.1, h.2⟩)))))))))
theorem exp_len {t : GNode} (h : t.exp = true) :
    (t.op = 1 ∧ inB t.n 0 1073741823 = true ∧ t.kids.length = 0) ∨ (t.op = 2 ∧ t.kids.length = 0) ∨ (t.op = 3 ∧ t.kids.length = 1) ∨ (t.op = 4 ∧ t.kids.length = 2) ∨ (t.op = 5 ∧ t.kids.length = 2) ∨ (t.op = 6 ∧ t.kids.length = 2) ∨ (t.op = 7 ∧ 2 ≤ t.kids.length) ∨ (t.op = 9 ∧ t.kids.length = 3) ∨ (t.op = 16 ∧ t.kids.length = 1) ∨ t.op = 15 ∨ ((10 ≤ t.op ∧ t.op ≤ 14) ∧ t.kids.length = 2) := exp1_len (n := t.n) (s := t.s) (t := t.t) (by rw [t.exp_eq, Bool.and_eq_true] at h; exact h.1)
theorem exp_kids {t : GNode} (h : t.exp = true) (h7 : ¬ t.op = 7) : ∀ x ∈ t.kids, x.exp = true := by
  rw [t.exp_eq, Bool.and_eq_true, if_neg h7, GNode.expL_all, List.all_eq_true] at h
  exact h.2
theorem exp_case {t : GNode} (h : t.exp = true) (h7 : t.op = 7) : ∃ x r, t.kids = x :: r ∧ x.exp = true ∧ ∀ a ∈ r, a.alt = true := by
  rw [t.exp_eq, Bool.and_eq_true, if_pos h7] at h
  have h2 := h.2
  cases hk : t.kids with
  | nil => rw [hk, GNode.caseL] at h2; cases h2
  | cons x r =>
    rw [hk, GNode.caseL_cons, Bool.and_eq_true, List.all_eq_true] at h2
    exact ⟨x, r, rfl, h2⟩
theorem alt_kids {a : GNode} (h : a.alt = true) : a.op = 8 ∧ ∃ p x, a.kids = [p, x] ∧ p.pat = true ∧ x.exp = true := by
  rw [a.alt_eq, Bool.and_eq_true] at h
  have h1 := h.1
  have h2 := h.2
  unfold alt1 at h1
  simp only [Bool.and_eq_true, beq_iff_eq] at h1
  obtain ⟨ho, -, -, -, hl⟩ := h1
  refine ⟨ho, ?_⟩
  match hk : a.kids with
  | [] => rw [hk] at hl; simp at hl
  | [p] => rw [hk] at hl; simp at hl
  | [p, x] => rw [hk, GNode.altK_two, Bool.and_eq_true] at h2; exact ⟨p, x, rfl, h2⟩
  | p :: x :: y :: r => rw [hk] at hl; simp at hl
theorem pat_kids {t : GNode} (h : t.pat = true) : ∀ x ∈ t.kids, x.pat = true := by
  rw [t.pat_eq, Bool.and_eq_true, GNode.patL_all, List.all_eq_true] at h
  exact h.2
theorem pat_ops {t : GNode} (h : t.pat = true) : t.op = 17 ∨ t.op = 18 ∨ (t.op = 19 ∧ inB t.n 0 1073741823 = true) ∨ t.op = 20 := by
  rw [t.pat_eq, Bool.and_eq_true] at h
  have h1 := h.1
  unfold pat1 at h1
  simp only [Bool.and_eq_true, beq_iff_eq] at h1
  repeat' split at h1
  all_goals simp_all
end Go.Proofs.Ytgbcdfeflgnogaa

/- A program as text: bounds (no program in sight). Conditions: what the program holds is at most 1048576. -/
namespace Go.Proofs.Ytgbcdfeflgnogaa
open Go.RowKit Go.BigFrame
set_option linter.unusedVariables false
set_option linter.unusedSimpArgs false
set_option maxHeartbeats 2000000

theorem conText_size (c : GCon) : (conText c).size ≤ 25 * c.bulk := by
  have h := GTy.texts_size c.args
  rw [GTy.texts_map, GTy.bulks_eq] at h
  have := c.bulk_eq
  unfold conText
  rw [ByteArray.size_append']
  omega
theorem cons_lens : ∀ l : List GCon, lensB (l.map conText) ≤ 25 * bulkL GCon.bulk l
  | [] => Nat.zero_le _
  | c :: r => by
    have h1 := conText_size c
    have h2 := cons_lens r
    simp only [List.map_cons, lensB_cons, bulkL]
    omega
theorem dataText_size (d : GData) (hv : d.vars ≤ 26) : (dataText d).size ≤ 62 * (d.bulk + 1) := by
  have h1 := cons_lens d.cons
  have h2 := joinB_size (sep := ⟨#[32, 124, 32]⟩) (by rw [ba3]; omega) (d.cons.map conText)
  have h3 := d.bulk_eq
  have h4 : (varsText d.vars.toNat).size ≤ 52 := by rw [varsText_size]; omega
  unfold dataText
  simp only [ByteArray.size_append', ba1, ba2, ba3, ba5]
  omega
theorem datas_size : ∀ l : List GData, (∀ d, d ∈ l → d.vars ≤ 26) → (catB (l.map dataText)).size ≤ 62 * bulkL GData.bulk l
  | [], _ => Nat.zero_le _
  | d :: r, h => by
    have h1 := dataText_size d (h d (by simp))
    have h2 := datas_size r (fun x hx => h x (by simp [hx]))
    simp only [List.map_cons, catB, ByteArray.size_append', bulkL]
    omega
/-- the var of a number -/
def varW (i : Nat) : GTy := .mk 2 i ⟨#[]⟩ []
theorem varW_bulk (i : Nat) : (varW i).bulk = 0 := rfl
theorem varW_at (w : World) (S : Nat → Prop) {i : Nat} (h : i ≤ 1048576) : GTy.At w S none 0 (varW i) :=
  ⟨show (Lit.int .i64 2).wf = true from by decide, by simp [varW, GTy.n, Lit.wf, IntKind.min, IntKind.max, IntKind.signed, IntKind.bits]; omega, by simp [varW, GTy.s, ByteArray.size, maxLen], Sl.nil (by unfold maxLen; omega)⟩
/-- what Write gives -/
def writeT (p : GProg) : ByteArray := if tidyP p = true then progText p else ⟨#[]⟩
theorem tidy_parts {p : GProg} (h : tidyP p = true) : p.main.exp = true ∧ ∀ d, d ∈ p.datas → (0 ≤ d.vars ∧ d.vars ≤ 26) ∧ 0 < d.cons.length := by
  unfold tidyP at h
  simp only [Bool.and_eq_true, Bool.not_eq_true'] at h
  refine ⟨h.2.2, fun d hd => ?_⟩
  have h1 : badG d = false := by
    cases hc : badG d
    · rfl
    · exact absurd h.1 (by rw [List.any_eq_true.2 ⟨d, hd, hc⟩]; exact fun e => Bool.noConfusion e)
  unfold badG at h1
  simp only [Bool.or_eq_false_iff, Bool.not_eq_false'] at h1
  refine ⟨of_decide_eq_true h1.2.1, ?_⟩
  have h2 := h1.2.2.1
  cases hk : d.cons with
  | nil => rw [hk] at h2; cases h2
  | cons a r => simp
end Go.Proofs.Ytgbcdfeflgnogaa
