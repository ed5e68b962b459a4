/- Instance: a type with others in place of vars, in the program and in the reference. Conditions: none but a bound on the sizes. -/
import Derived.Test.YtgbcdfeflgnogaaApply
import Derived.Test.YtgbcdfeflgnogaaAppS
import Derived.Test.YtgbcdfeflgnogaaInt
import Derived.Test.YtgbcdfeflgnogaaGScheme
import Derived.Deep.RegionLaw
namespace Go.Proofs.Ytgbcdfeflgnogaa
open Go.RowKit
set_option linter.unusedVariables false
set_option linter.unusedSimpArgs false
set_option maxHeartbeats 1000000

/-- what stands for a var, by two lists -/
def instOf : List Int → List GTy → Int → Option GTy
  | v :: vs, t :: ts, n => if (n == v) = true then some t else instOf vs ts n
  | _, _, _ => none
theorem instOf_idx {n : Int} : ∀ {vs : List Int} {ts : List GTy}, vs.length = ts.length → (∃ j, ∃ h : j < ts.length, j < vs.length ∧ idxI (fun x : Int => n == x) vs = (j : Int) ∧ instOf vs ts n = some ts[j]) ∨ (idxI (fun x : Int => n == x) vs = -1 ∧ instOf vs ts n = none)
  | [], [], _ => .inr ⟨rfl, rfl⟩
  | [], _ :: _, h => by simp at h
  | _ :: _, [], h => by simp at h
  | v :: vs, t :: ts, h => by
    cases hx : (n == v) with
    | true => exact .inl ⟨0, by simp, by simp, by simp [idxI, hx], by simp only [instOf, hx]; rfl⟩
    | false =>
      rcases instOf_idx (n := n) (vs := vs) (ts := ts) (by simpa using h) with ⟨j, h1, h2, e1, e2⟩ | ⟨e1, e2⟩
      · refine .inl ⟨j + 1, by simpa using h1, by simpa using h2, ?_, ?_⟩
        · simp only [idxI, hx]; rw [e1]; simp; omega
        · simp only [instOf, hx]; simpa using e2
      · refine .inr ⟨?_, ?_⟩
        · simp only [idxI, hx]; rw [e1]; simp
        · simp only [instOf, hx]; simpa using e2
theorem instOf_bulk {n : Int} {u : GTy} : ∀ {vs : List Int} {ts : List GTy}, instOf vs ts n = some u → u.bulk ≤ bulkL GTy.bulk ts
  | [], _, h => by simp [instOf] at h
  | _ :: _, [], h => by simp [instOf] at h
  | v :: vs, t :: ts, h => by
    simp only [instOf] at h
    simp only [bulkL]
    split at h
    · cases h; omega
    · have := instOf_bulk h; omega
def zipB (vs : List Int) (ts : List GTy) : List GBind := List.zipWith (fun v t => ⟨v, t⟩) vs ts
theorem bindOf_zip (n : Int) : ∀ (vs : List Int) (ts : List GTy), bindOf (zipB vs ts) n = instOf vs ts n
  | [], _ => rfl
  | _ :: _, [] => rfl
  | v :: vs, t :: ts => by
    have ih := bindOf_zip n vs ts
    have hc : (v == n) = (n == v) := by rw [Bool.eq_iff_iff, beq_iff_eq, beq_iff_eq]; exact eq_comm
    simp only [zipB, List.zipWith_cons_cons, bindOf, List.find?_cons, instOf, hc] at ih ⊢
    cases hx : (n == v) <;> simp_all
theorem zipB_bulk : ∀ (vs : List Int) (ts : List GTy), bulkL GBind.bulk (zipB vs ts) ≤ bulkL GTy.bulk ts
  | [], _ => by simp [zipB, bulkL]
  | _ :: _, [] => by simp [zipB, bulkL]
  | v :: vs, t :: ts => by
    have ih := zipB_bulk vs ts
    simp only [zipB, List.zipWith_cons_cons, bulkL, GBind.bulk] at ih ⊢
    omega
theorem zipB_length {vs : List Int} {ts : List GTy} (h : vs.length = ts.length) : (zipB vs ts).length = vs.length := by simp [zipB, h]
theorem zipB_take {vs : List Int} {ts : List GTy} (h : vs.length = ts.length) (j : Nat) (h1 : j < vs.length) (h2 : j < ts.length) : (zipB vs ts).take (j + 1) = (zipB vs ts).take j ++ [⟨vs[j], ts[j]⟩] := by
  rw [List.take_succ_eq_append_getElem (by rw [zipB_length h]; exact h1)]
  simp [zipB]

theorem implIndexInt (l : List Int) (A : Option Addr) (c : Nat) (n : Int) (w : World) (hs : Sl w (Lt w.heap.size) 1 A c (l.map (D.num .i64))) :
    Calls Try.prog 204 #[.slice A l.length c, .int .i64 n] w fun e w' => e = .returned (.int .i64 (idxI (fun x : Int => n == x) l)) ∧ Below w.heap.size w w' := by
  have hlen : l.length ≤ 9223372036854775807 := by simpa using hs.len
  have S0 := Lib.hid hs
  clear hs
  go_enter Try.func204, Try.ntmps204
  go_wp2_with fail
  go_loopw [8] (fun i wr => ∃ (j : Nat), j ≤ l.length ∧ i = .int .i64 j ∧ Hid (noneTo (fun x : Int => n == x) l j) ∧ Below w.heap.size w wr) (fun i _ => l.length - (intOf i).toNat)
  case atStart => exact ⟨0, by omega, by go_num, Lib.hid (noneTo_zero _ _), Below.refl _ _⟩
  case round =>
    obtain ⟨j, hj, rfl, HN, hbl⟩ := hrel
    by_cases hlt : j < l.length
    · obtain ⟨b, off, rfl, hSb, g0, _⟩ := int_elem (S0.out.below hbl (Nat.le_refl _)) j hlt
      cases he : (n == l[j]) with
      | true =>
        have HV := Lib.hid (idxI_at HN.out hlt he)
        go_wp2_with fail
        go_ret
        exact ⟨ret_int HV.out.symm, hbl⟩
      | false =>
        have HN2 := Lib.hid (noneTo_succ HN.out hlt he)
        go_wp2_with fail
        go_roundw
        case rel => exact ⟨j + 1, by omega, by go_num, HN2, hbl⟩
        case measure => simp [intOf]; omega
    · have hjl : j = l.length := by omega
      have HV := Lib.hid (idxI_none (hjl ▸ HN.out))
      clear hjl
      go_wp2_with fail
      go_ret
      exact ⟨ret_int HV.out.symm, hbl⟩

set_option maxRecDepth 20000 in
theorem implInst (k : Nat) : ∀ (vars : List Int) (Vl : Option Addr) (vc : Nat) (list : List GTy) (Tl : Option Addr) (tc : Nat) (t : GTy) (A1 : Option Addr) (c1 : Nat) (w : World), t.bulk < k → t.bulk ≤ 1048576 → vars.length = list.length → bulkL GTy.bulk list ≤ 1048576 → Sl w (Lt w.heap.size) 1 Vl vc (vars.map (D.num .i64)) → Sl w (Lt w.heap.size) 4 Tl tc (list.map GTy.toD) → GTy.At w (Lt w.heap.size) A1 c1 t →
    Calls Try.prog 113 #[.agg #[.int .i64 t.op, .int .i64 t.n, .string t.s, .slice A1 t.kids.length c1], .slice Vl vars.length vc, .slice Tl list.length tc] w (ToTy (t.sub (instOf vars list)) w) := by
  induction k with
  | zero => intros; omega
  | succ k ih =>
    intro vars Vl vc list Tl tc t A1 c1 w hk h1 he hl hv hs hat
    have hbe := t.bulk_eq
    have hlen : t.kids.length ≤ 1048576 := by have := bulkL_len GTy.bulk t.kids; omega
    obtain ⟨F, hF⟩ : ∃ F, F = instOf vars list := ⟨_, rfl⟩
    have HF := Lib.hid hF
    have HH := Lib.hid (fun (j : Nat) (h : j < t.kids.length) (A1 : Option Addr) (c1 : Nat) (w : World) => ih vars Vl vc list Tl tc t.kids[j] A1 c1 w (by have := bulkL_mem GTy.bulk t.kids _ (List.getElem_mem h); omega) (by have := bulkL_mem GTy.bulk t.kids _ (List.getElem_mem h); omega))
    rw [← hF] at HH ⊢
    have HSl := Lib.hid hs
    have HVs := Lib.hid hv
    have HL := Lib.hid hl
    have HE := Lib.hid he
    have T0 := Lib.hid hat
    clear ih hbe hk h1 hat hF hs hv hl he
    have E0 := Lib.hid (show Below w.heap.size w ((w.alloc (.cells #[.int .i64 t.op, .int .i64 t.n, .string t.s, .slice A1 t.kids.length c1] 59)).alloc (.cells #[.int .i64 0, .int .i64 0, .string ⟨#[]⟩, .slice none 0 0] 59)) from ((Below.refl _ _).alloc (Nat.le_refl _) _).alloc (by simp) _)
    have S0 : w.heap.size + 2 ≤ ((w.alloc (.cells #[.int .i64 t.op, .int .i64 t.n, .string t.s, .slice A1 t.kids.length c1] 59)).alloc (.cells #[.int .i64 0, .int .i64 0, .string ⟨#[]⟩, .slice none 0 0] 59)).heap.size := by simp
    have Ra0 := Lib.hid ((Row.new' w 59 #[.int .i64 t.op, .int .i64 t.n, .string t.s, .slice A1 t.kids.length c1] (g := w.heap.size) rfl).alloc (.cells #[.int .i64 0, .int .i64 0, .string ⟨#[]⟩, .slice none 0 0] 59))
    have Rz0 := Lib.hid (Row.new' (w.alloc (.cells #[.int .i64 t.op, .int .i64 t.n, .string t.s, .slice A1 t.kids.length c1] 59)) 59 #[.int .i64 0, .int .i64 0, .string ⟨#[]⟩, .slice none 0 0] (g := w.heap.size + 1) (by simp))
    cases o2 : (t.op == 2)
    · have ho2 : ¬ t.op = 2 := by simpa using o2
      have HN := Lib.hid (show t.sub F = _ from GTy.sub_none (.inl (fun e => ho2 e.1)))
      clear ho2
      go_enter Try.func113, Try.ntmps113
      obtain ⟨w0, e0⟩ : ∃ w0, w0 = ((w.alloc (.cells #[.int .i64 t.op, .int .i64 t.n, .string t.s, .slice A1 t.kids.length c1] 59)).alloc (.cells #[.int .i64 0, .int .i64 0, .string ⟨#[]⟩, .slice none 0 0] 59)).alloc (.cells #[] 59) := ⟨_, rfl⟩
      have HB0 := Lib.hid (show Below w.heap.size w w0 by rw [e0]; exact E0.out.alloc E0.out.size _)
      have HRa0 := Lib.hid (show Row w0 w.heap.size 59 #[.int .i64 t.op, .int .i64 t.n, .string t.s, .slice A1 t.kids.length c1] by rw [e0]; exact Ra0.out.alloc _)
      have HRz0 := Lib.hid (show Row w0 (w.heap.size + 1) 59 #[.int .i64 0, .int .i64 0, .string ⟨#[]⟩, .slice none 0 0] by rw [e0]; exact Rz0.out.alloc _)
      have G0 := Lib.hid (show Gow w0 (w.heap.size + 2) w0.heap.size 59 4 (.slice (some ⟨w.heap.size + 1 + 1, 0, none⟩) 0 0) 0 [] by rw [e0]; exact Gow.made (Row.new' _ _ _ (by simp)) (by omega) (by simp))
      go_wp2_with fail
      rw [← e0]
      clear e0
      go_loopw [8, 36] (fun v i wr => ∃ (j : Nat) (A : Option Addr) (c : Nat), j ≤ t.kids.length ∧ i = .int .i64 j ∧ v = .slice A j c ∧ Hid (Gow wr (w.heap.size + 2) wr.heap.size 59 4 (.slice A j c) j (((t.kids.take j).map (GTy.sub F)).map GTy.toD)) ∧ Hid (Row wr w.heap.size 59 #[.int .i64 t.op, .int .i64 t.n, .string t.s, .slice A1 t.kids.length c1]) ∧ Hid (Row wr (w.heap.size + 1) 59 #[.int .i64 0, .int .i64 0, .string ⟨#[]⟩, .slice none 0 0]) ∧ Below w.heap.size w wr) (fun _ i _ => t.kids.length - (intOf i).toNat)
      case atStart => exact ⟨0, _, _, by omega, by go_num, rfl, G0, HRa0, HRz0, HB0.out⟩
      case round =>
        clear G0 HRa0 HRz0 HB0
        obtain ⟨j, A, c, hj, rfl, rfl, HG, HRa, HRz, hbl⟩ := hrel
        have hsz := hbl.size
        have hzl := HRz.out.lt
        by_cases hlt : j < t.kids.length
        · obtain ⟨b, off, A2, c2, eA, hSb, g0, g1, g2, g3, hat⟩ := GTy.elem (T0.out.below hbl (Nat.le_refl _)).2.2.2 j hlt
          have E1 := Lib.hid (show Below wr.heap.size wr (wr.alloc (.cells #[.int .i64 (t.kids[j]).op, .int .i64 (t.kids[j]).n, .string (t.kids[j]).s, .slice A2 (t.kids[j]).kids.length c2] 59)) from (Below.refl _ _).alloc (Nat.le_refl _) _)
          have HA := Lib.hid (hat.keep (S' := Lt (wr.alloc (.cells #[.int .i64 (t.kids[j]).op, .int .i64 (t.kids[j]).n, .string (t.kids[j]).s, .slice A2 (t.kids[j]).kids.length c2] 59)).heap.size) (w' := wr.alloc (.cells #[.int .i64 (t.kids[j]).op, .int .i64 (t.kids[j]).n, .string (t.kids[j]).s, .slice A2 (t.kids[j]).kids.length c2] 59)) fun q hq => ⟨Nat.lt_of_lt_of_le hq (Nat.le_trans hsz E1.out.size), Below.heap_alloc _ _ _ (Nat.lt_of_lt_of_le hq hsz)⟩)
          have HV2 := Lib.hid (HVs.out.below (show Below w.heap.size w (wr.alloc (.cells #[.int .i64 (t.kids[j]).op, .int .i64 (t.kids[j]).n, .string (t.kids[j]).s, .slice A2 (t.kids[j]).kids.length c2] 59)) from (hbl.alloc hsz _)) (Nat.le_trans hsz E1.out.size))
          have HS2 := Lib.hid (HSl.out.below (show Below w.heap.size w (wr.alloc (.cells #[.int .i64 (t.kids[j]).op, .int .i64 (t.kids[j]).n, .string (t.kids[j]).s, .slice A2 (t.kids[j]).kids.length c2] 59)) from (hbl.alloc hsz _)) (Nat.le_trans hsz E1.out.size))
          clear hat
          subst eA
          go_wp2_with fail
          refine (HH.out j hlt A2 c2 _ HE.out HL.out HV2.out HS2.out HA.out).mono ?_
          rintro e w1 ⟨A3, c3, rfl, how, hb1⟩
          have B1 := Lib.hid ((E1.out.trans (hb1.mono E1.out.size)).alloc (Nat.le_trans E1.out.size hb1.size) (.cells #[.int .i64 ((t.kids[j]).sub F).op, .int .i64 ((t.kids[j]).sub F).n, .string ((t.kids[j]).sub F).s, .slice A3 ((t.kids[j]).sub F).kids.length c3] 59))
          have HG1 := HG.out.below B1.out (Nat.le_refl _)
          have how1 := GTy.own_mk (how.keep (S' := Btw wr.heap.size (w1.alloc (.cells #[.int .i64 ((t.kids[j]).sub F).op, .int .i64 ((t.kids[j]).sub F).n, .string ((t.kids[j]).sub F).s, .slice A3 ((t.kids[j]).sub F).kids.length c3] 59)).heap.size) (w' := w1.alloc (.cells #[.int .i64 ((t.kids[j]).sub F).op, .int .i64 ((t.kids[j]).sub F).n, .string ((t.kids[j]).sub F).s, .slice A3 ((t.kids[j]).sub F).kids.length c3] 59)) fun q hq => ⟨⟨Nat.le_trans E1.out.size hq.1, Nat.lt_of_lt_of_le hq.2 (by simp)⟩, Below.heap_alloc _ _ _ hq.2⟩)
          clear how hb1
          go_wp2_with (first | (at_builtin; refine wpList_append_D (w1.alloc (.cells #[.int .i64 ((t.kids[j]).sub F).op, .int .i64 ((t.kids[j]).sub F).n, .string ((t.kids[j]).sub F).s, .slice A3 ((t.kids[j]).sub F).kids.length c3] 59)) rfl (.tmp 44) (.tmp 46) 57 rfl 59 zTy 4 56 Try.underlying57 (by kernel_rfl) rfl (by omega) (w.heap.size + 2) wr.heap.size _ j _ HG1 ((t.kids[j]).sub F).toD [.int .i64 ((t.kids[j]).sub F).op, .int .i64 ((t.kids[j]).sub F).n, .string ((t.kids[j]).sub F).s, .slice A3 ((t.kids[j]).sub F).kids.length c3] how1 (by omega) B1.out.size rfl (by simp [Value.oneCell']) (by omega) (by omega) 59 rfl (w1.alloc (.cells #[.int .i64 ((t.kids[j]).sub F).op, .int .i64 ((t.kids[j]).sub F).n, .string ((t.kids[j]).sub F).s, .slice A3 ((t.kids[j]).sub F).kids.length c3] 59)).heap.size rfl (by simp [Act.eval]) ?_; intro g cap w2 G2 Bq2 hs2 hg2 hgl2))
          go_roundw
          case rel =>
            have X2 := (Bq2.mono (show w.heap.size ≤ w.heap.size + 2 by omega))
            exact ⟨j + 1, _, _, by omega, by go_num, rfl, Lib.hid (by rw [take_snoc' t.kids j hlt, List.map_append, List.map_append]; exact G2), Lib.hid ((HRa.out.below B1.out (by omega)).below Bq2 (by omega)), Lib.hid ((HRz.out.below B1.out (by omega)).below Bq2 (by omega)), (hbl.trans (B1.out.mono hsz)).trans X2⟩
          case measure => simp [intOf]; omega
        · have hjl : j = t.kids.length := by omega
          obtain ⟨A', c', eV, how⟩ := HG.out.osl
          obtain ⟨rfl, rfl⟩ : A = A' ∧ c = c' := by simpa using eV
          subst hjl
          rw [List.take_length] at how
          clear eV HG hlt hj
          obtain ⟨p0, p1, p2, -⟩ := T0.out
          have hca := fun i => HRa.out.cell i
          have hcz := fun i => HRz.out.cell i
          have hfa := fun i => HRa.out.frozen i
          have hfz := fun i => HRz.out.frozen i
          have B1 := setCells_below hbl w.heap.size 3 (Nat.le_refl _) [.slice A t.kids.length c]
          have BF := setCells_below B1 (w.heap.size + 1) 0 (by omega) [.int .i64 t.op, .int .i64 t.n, .string t.s, .slice A t.kids.length c]
          have SF : (setCells (setCells wr w.heap.size 3 [.slice A t.kids.length c]) (w.heap.size + 1) 0 [.int .i64 t.op, .int .i64 t.n, .string t.s, .slice A t.kids.length c]).heap.size = wr.heap.size := by rw [setCells_size, setCells_size]
          have how2 := how.keep (S' := Btw w.heap.size (setCells (setCells wr w.heap.size 3 [.slice A t.kids.length c]) (w.heap.size + 1) 0 [.int .i64 t.op, .int .i64 t.n, .string t.s, .slice A t.kids.length c]).heap.size) (w' := (setCells (setCells wr w.heap.size 3 [.slice A t.kids.length c]) (w.heap.size + 1) 0 [.int .i64 t.op, .int .i64 t.n, .string t.s, .slice A t.kids.length c])) fun q hq => ⟨⟨by have := hq.1; omega, by rw [SF]; exact hq.2⟩, (setCells_block _ _ _ _ _ (by have := hq.1; omega)).trans (setCells_block _ _ _ _ _ (by have := hq.1; omega))⟩
          have HOW := Lib.hid how2
          have HBF := Lib.hid BF
          have HS := Lib.hid (HN.out)
          clear how how2 BF B1 SF
          go_wp2_with fail
          exact bodyPost_ret (v := .agg #[.int .i64 t.op, .int .i64 t.n, .string t.s, .slice A t.kids.length c]) (by simp [results, Try.results113, go_sem, hca, hcz]) rfl ⟨A, c, by rw [HS.out]; simp [GTy.op, GTy.n, GTy.s, GTy.kids], by rw [HS.out]; exact ⟨p0, p1, p2, HOW.out⟩, HBF.out⟩
    · have ho2 : t.op = 2 := by simpa using o2
      by_cases hk : t.kids.length = 0
      rotate_left
      · have hk2 : ((t.kids.length : Int) == 0) = false := by rw [beq_eq_false_iff_ne]; omega
        have HN := Lib.hid (show t.sub F = _ from GTy.sub_none (.inl (fun e => hk e.2)))
        clear ho2 hk
        go_enter Try.func113, Try.ntmps113
        obtain ⟨w0, e0⟩ : ∃ w0, w0 = ((w.alloc (.cells #[.int .i64 t.op, .int .i64 t.n, .string t.s, .slice A1 t.kids.length c1] 59)).alloc (.cells #[.int .i64 0, .int .i64 0, .string ⟨#[]⟩, .slice none 0 0] 59)).alloc (.cells #[] 59) := ⟨_, rfl⟩
        have HB0 := Lib.hid (show Below w.heap.size w w0 by rw [e0]; exact E0.out.alloc E0.out.size _)
        have HRa0 := Lib.hid (show Row w0 w.heap.size 59 #[.int .i64 t.op, .int .i64 t.n, .string t.s, .slice A1 t.kids.length c1] by rw [e0]; exact Ra0.out.alloc _)
        have HRz0 := Lib.hid (show Row w0 (w.heap.size + 1) 59 #[.int .i64 0, .int .i64 0, .string ⟨#[]⟩, .slice none 0 0] by rw [e0]; exact Rz0.out.alloc _)
        have G0 := Lib.hid (show Gow w0 (w.heap.size + 2) w0.heap.size 59 4 (.slice (some ⟨w.heap.size + 1 + 1, 0, none⟩) 0 0) 0 [] by rw [e0]; exact Gow.made (Row.new' _ _ _ (by simp)) (by omega) (by simp))
        go_wp2_with fail
        rw [← e0]
        clear e0
        go_loopw [8, 36] (fun v i wr => ∃ (j : Nat) (A : Option Addr) (c : Nat), j ≤ t.kids.length ∧ i = .int .i64 j ∧ v = .slice A j c ∧ Hid (Gow wr (w.heap.size + 2) wr.heap.size 59 4 (.slice A j c) j (((t.kids.take j).map (GTy.sub F)).map GTy.toD)) ∧ Hid (Row wr w.heap.size 59 #[.int .i64 t.op, .int .i64 t.n, .string t.s, .slice A1 t.kids.length c1]) ∧ Hid (Row wr (w.heap.size + 1) 59 #[.int .i64 0, .int .i64 0, .string ⟨#[]⟩, .slice none 0 0]) ∧ Below w.heap.size w wr) (fun _ i _ => t.kids.length - (intOf i).toNat)
        case atStart => exact ⟨0, _, _, by omega, by go_num, rfl, G0, HRa0, HRz0, HB0.out⟩
        case round =>
          clear G0 HRa0 HRz0 HB0
          obtain ⟨j, A, c, hj, rfl, rfl, HG, HRa, HRz, hbl⟩ := hrel
          have hsz := hbl.size
          have hzl := HRz.out.lt
          by_cases hlt : j < t.kids.length
          · obtain ⟨b, off, A2, c2, eA, hSb, g0, g1, g2, g3, hat⟩ := GTy.elem (T0.out.below hbl (Nat.le_refl _)).2.2.2 j hlt
            have E1 := Lib.hid (show Below wr.heap.size wr (wr.alloc (.cells #[.int .i64 (t.kids[j]).op, .int .i64 (t.kids[j]).n, .string (t.kids[j]).s, .slice A2 (t.kids[j]).kids.length c2] 59)) from (Below.refl _ _).alloc (Nat.le_refl _) _)
            have HA := Lib.hid (hat.keep (S' := Lt (wr.alloc (.cells #[.int .i64 (t.kids[j]).op, .int .i64 (t.kids[j]).n, .string (t.kids[j]).s, .slice A2 (t.kids[j]).kids.length c2] 59)).heap.size) (w' := wr.alloc (.cells #[.int .i64 (t.kids[j]).op, .int .i64 (t.kids[j]).n, .string (t.kids[j]).s, .slice A2 (t.kids[j]).kids.length c2] 59)) fun q hq => ⟨Nat.lt_of_lt_of_le hq (Nat.le_trans hsz E1.out.size), Below.heap_alloc _ _ _ (Nat.lt_of_lt_of_le hq hsz)⟩)
            have HV2 := Lib.hid (HVs.out.below (show Below w.heap.size w (wr.alloc (.cells #[.int .i64 (t.kids[j]).op, .int .i64 (t.kids[j]).n, .string (t.kids[j]).s, .slice A2 (t.kids[j]).kids.length c2] 59)) from (hbl.alloc hsz _)) (Nat.le_trans hsz E1.out.size))
            have HS2 := Lib.hid (HSl.out.below (show Below w.heap.size w (wr.alloc (.cells #[.int .i64 (t.kids[j]).op, .int .i64 (t.kids[j]).n, .string (t.kids[j]).s, .slice A2 (t.kids[j]).kids.length c2] 59)) from (hbl.alloc hsz _)) (Nat.le_trans hsz E1.out.size))
            clear hat
            subst eA
            go_wp2_with fail
            refine (HH.out j hlt A2 c2 _ HE.out HL.out HV2.out HS2.out HA.out).mono ?_
            rintro e w1 ⟨A3, c3, rfl, how, hb1⟩
            have B1 := Lib.hid ((E1.out.trans (hb1.mono E1.out.size)).alloc (Nat.le_trans E1.out.size hb1.size) (.cells #[.int .i64 ((t.kids[j]).sub F).op, .int .i64 ((t.kids[j]).sub F).n, .string ((t.kids[j]).sub F).s, .slice A3 ((t.kids[j]).sub F).kids.length c3] 59))
            have HG1 := HG.out.below B1.out (Nat.le_refl _)
            have how1 := GTy.own_mk (how.keep (S' := Btw wr.heap.size (w1.alloc (.cells #[.int .i64 ((t.kids[j]).sub F).op, .int .i64 ((t.kids[j]).sub F).n, .string ((t.kids[j]).sub F).s, .slice A3 ((t.kids[j]).sub F).kids.length c3] 59)).heap.size) (w' := w1.alloc (.cells #[.int .i64 ((t.kids[j]).sub F).op, .int .i64 ((t.kids[j]).sub F).n, .string ((t.kids[j]).sub F).s, .slice A3 ((t.kids[j]).sub F).kids.length c3] 59)) fun q hq => ⟨⟨Nat.le_trans E1.out.size hq.1, Nat.lt_of_lt_of_le hq.2 (by simp)⟩, Below.heap_alloc _ _ _ hq.2⟩)
            clear how hb1
            go_wp2_with (first | (at_builtin; refine wpList_append_D (w1.alloc (.cells #[.int .i64 ((t.kids[j]).sub F).op, .int .i64 ((t.kids[j]).sub F).n, .string ((t.kids[j]).sub F).s, .slice A3 ((t.kids[j]).sub F).kids.length c3] 59)) rfl (.tmp 44) (.tmp 46) 57 rfl 59 zTy 4 56 Try.underlying57 (by kernel_rfl) rfl (by omega) (w.heap.size + 2) wr.heap.size _ j _ HG1 ((t.kids[j]).sub F).toD [.int .i64 ((t.kids[j]).sub F).op, .int .i64 ((t.kids[j]).sub F).n, .string ((t.kids[j]).sub F).s, .slice A3 ((t.kids[j]).sub F).kids.length c3] how1 (by omega) B1.out.size rfl (by simp [Value.oneCell']) (by omega) (by omega) 59 rfl (w1.alloc (.cells #[.int .i64 ((t.kids[j]).sub F).op, .int .i64 ((t.kids[j]).sub F).n, .string ((t.kids[j]).sub F).s, .slice A3 ((t.kids[j]).sub F).kids.length c3] 59)).heap.size rfl (by simp [Act.eval]) ?_; intro g cap w2 G2 Bq2 hs2 hg2 hgl2))
            go_roundw
            case rel =>
              have X2 := (Bq2.mono (show w.heap.size ≤ w.heap.size + 2 by omega))
              exact ⟨j + 1, _, _, by omega, by go_num, rfl, Lib.hid (by rw [take_snoc' t.kids j hlt, List.map_append, List.map_append]; exact G2), Lib.hid ((HRa.out.below B1.out (by omega)).below Bq2 (by omega)), Lib.hid ((HRz.out.below B1.out (by omega)).below Bq2 (by omega)), (hbl.trans (B1.out.mono hsz)).trans X2⟩
            case measure => simp [intOf]; omega
          · have hjl : j = t.kids.length := by omega
            obtain ⟨A', c', eV, how⟩ := HG.out.osl
            obtain ⟨rfl, rfl⟩ : A = A' ∧ c = c' := by simpa using eV
            subst hjl
            rw [List.take_length] at how
            clear eV HG hlt hj
            obtain ⟨p0, p1, p2, -⟩ := T0.out
            have hca := fun i => HRa.out.cell i
            have hcz := fun i => HRz.out.cell i
            have hfa := fun i => HRa.out.frozen i
            have hfz := fun i => HRz.out.frozen i
            have B1 := setCells_below hbl w.heap.size 3 (Nat.le_refl _) [.slice A t.kids.length c]
            have BF := setCells_below B1 (w.heap.size + 1) 0 (by omega) [.int .i64 t.op, .int .i64 t.n, .string t.s, .slice A t.kids.length c]
            have SF : (setCells (setCells wr w.heap.size 3 [.slice A t.kids.length c]) (w.heap.size + 1) 0 [.int .i64 t.op, .int .i64 t.n, .string t.s, .slice A t.kids.length c]).heap.size = wr.heap.size := by rw [setCells_size, setCells_size]
            have how2 := how.keep (S' := Btw w.heap.size (setCells (setCells wr w.heap.size 3 [.slice A t.kids.length c]) (w.heap.size + 1) 0 [.int .i64 t.op, .int .i64 t.n, .string t.s, .slice A t.kids.length c]).heap.size) (w' := (setCells (setCells wr w.heap.size 3 [.slice A t.kids.length c]) (w.heap.size + 1) 0 [.int .i64 t.op, .int .i64 t.n, .string t.s, .slice A t.kids.length c])) fun q hq => ⟨⟨by have := hq.1; omega, by rw [SF]; exact hq.2⟩, (setCells_block _ _ _ _ _ (by have := hq.1; omega)).trans (setCells_block _ _ _ _ _ (by have := hq.1; omega))⟩
            have HOW := Lib.hid how2
            have HBF := Lib.hid BF
            have HS := Lib.hid (HN.out)
            clear how how2 BF B1 SF
            go_wp2_with fail
            exact bodyPost_ret (v := .agg #[.int .i64 t.op, .int .i64 t.n, .string t.s, .slice A t.kids.length c]) (by simp [results, Try.results113, go_sem, hca, hcz]) rfl ⟨A, c, by rw [HS.out]; simp [GTy.op, GTy.n, GTy.s, GTy.kids], by rw [HS.out]; exact ⟨p0, p1, p2, HOW.out⟩, HBF.out⟩
      have hk2 : ((t.kids.length : Int) == 0) = true := by rw [beq_iff_eq]; omega
      have HK := Lib.hid hk
      have HO2 := Lib.hid ho2
      clear hk ho2
      rcases instOf_idx (n := t.n) HE.out with ⟨q, hq, hqv, hi, hf⟩ | ⟨hi, hf⟩
      · have HN := Lib.hid (show t.sub F = list[q] from by rw [HF.out]; exact GTy.sub_some HO2.out HK.out hf)
        have hub : (list[q]).bulk ≤ 1048576 := by have := instOf_bulk hf; have := HL.out; omega
        clear hf
        go_enter Try.func113, Try.ntmps113
        go_wp2_with fail
        refine (implIndexInt vars Vl vc t.n _ (HVs.out.below E0.out E0.out.size)).mono ?_
        rintro e w1 ⟨rfl, hb1⟩
        rw [hi]
        clear hi
        have B1 := Lib.hid (E0.out.trans (hb1.mono E0.out.size))
        have Rz1 := Lib.hid (Rz0.out.below hb1 Rz0.out.lt)
        have hql : list.length ≤ 9223372036854775807 := by simpa using HSl.out.len
        obtain ⟨b3, off3, A3, c3, rfl, hSb3, q0, q1, q2, q3, hat⟩ := GTy.elem (HSl.out.below B1.out (Nat.le_refl _)) q hq
        have HA := Lib.hid (show GTy.At w1 (Lt w1.heap.size) A3 c3 (list[q]) from hat.keep fun x hx => ⟨Nat.lt_of_lt_of_le hx B1.out.size, rfl⟩)
        clear hat hb1
        go_wp2_with fail
        refine (implCopyTy' (list[q]) A3 c3 _ hub HA.out).mono ?_
        rintro e w2 ⟨A4, c4, rfl, how, hb2⟩
        have Rz2 := Lib.hid (Rz1.out.below hb2 Rz1.out.lt)
        have hcz := fun i => Rz2.out.cell i
        have hfz := fun i => Rz2.out.frozen i
        have B2 := B1.out.trans (hb2.mono B1.out.size)
        have SF : (setCells w2 (w.heap.size + 1) 0 [.int .i64 (list[q]).op, .int .i64 (list[q]).n, .string (list[q]).s, .slice A4 (list[q]).kids.length c4]).heap.size = w2.heap.size := setCells_size _ _ _ _
        have BF := Lib.hid (setCells_below B2 (w.heap.size + 1) 0 (by omega) [.int .i64 (list[q]).op, .int .i64 (list[q]).n, .string (list[q]).s, .slice A4 (list[q]).kids.length c4])
        have HOW := Lib.hid (how.keep (S' := Btw w.heap.size (setCells w2 (w.heap.size + 1) 0 [.int .i64 (list[q]).op, .int .i64 (list[q]).n, .string (list[q]).s, .slice A4 (list[q]).kids.length c4]).heap.size) (w' := setCells w2 (w.heap.size + 1) 0 [.int .i64 (list[q]).op, .int .i64 (list[q]).n, .string (list[q]).s, .slice A4 (list[q]).kids.length c4]) fun x hx => ⟨⟨Nat.le_trans B1.out.size hx.1, by rw [SF]; exact hx.2⟩, setCells_block _ _ _ _ _ (by have := hx.1; have := Rz1.out.lt; omega)⟩)
        clear how hb2 B2 SF
        go_wp2_with fail
        exact bodyPost_ret (v := .agg #[.int .i64 (list[q]).op, .int .i64 (list[q]).n, .string (list[q]).s, .slice A4 (list[q]).kids.length c4]) (by simp [results, Try.results113, go_sem, hcz]) rfl ⟨A4, c4, by rw [HN.out], by rw [HN.out]; exact HOW.out, BF.out⟩
      · have HN := Lib.hid (show t.sub F = _ from GTy.sub_none (.inr (by rw [HF.out]; exact hf)))
        clear hf
        go_enter Try.func113, Try.ntmps113
        go_wp2_with fail
        refine (implIndexInt vars Vl vc t.n _ (HVs.out.below E0.out E0.out.size)).mono ?_
        rintro e w1 ⟨rfl, hb1⟩
        rw [hi]
        clear hi
        have B1 := Lib.hid (E0.out.trans (hb1.mono E0.out.size))
        have Ra1 := Lib.hid (Ra0.out.below hb1 Ra0.out.lt)
        have Rz1 := Lib.hid (Rz0.out.below hb1 Rz0.out.lt)
        have hs1 := Nat.le_trans S0 hb1.size
        have hca1 := fun i => Ra1.out.cell i
        have hlt1 := Ra1.out.lt
        clear hb1
        obtain ⟨w0, e0⟩ : ∃ w0, w0 = (w1).alloc (.cells #[] 59) := ⟨_, rfl⟩
        have HB0 := Lib.hid (show Below w.heap.size w w0 by rw [e0]; exact B1.out.alloc B1.out.size _)
        have HRa0 := Lib.hid (show Row w0 w.heap.size 59 #[.int .i64 t.op, .int .i64 t.n, .string t.s, .slice A1 t.kids.length c1] by rw [e0]; exact Ra1.out.alloc _)
        have HRz0 := Lib.hid (show Row w0 (w.heap.size + 1) 59 #[.int .i64 0, .int .i64 0, .string ⟨#[]⟩, .slice none 0 0] by rw [e0]; exact Rz1.out.alloc _)
        have G0 := Lib.hid (show Gow w0 (w.heap.size + 2) w0.heap.size 59 4 (.slice (some ⟨(w1).heap.size, 0, none⟩) 0 0) 0 [] by rw [e0]; exact Gow.made (Row.new' _ _ _ (by simp)) hs1 (by simp))
        go_wp2_with fail
        rw [← e0]
        clear e0
        clear hca1
        go_loopw [8, 36] (fun v i wr => ∃ (j : Nat) (A : Option Addr) (c : Nat), j ≤ t.kids.length ∧ i = .int .i64 j ∧ v = .slice A j c ∧ Hid (Gow wr (w.heap.size + 2) wr.heap.size 59 4 (.slice A j c) j (((t.kids.take j).map (GTy.sub F)).map GTy.toD)) ∧ Hid (Row wr w.heap.size 59 #[.int .i64 t.op, .int .i64 t.n, .string t.s, .slice A1 t.kids.length c1]) ∧ Hid (Row wr (w.heap.size + 1) 59 #[.int .i64 0, .int .i64 0, .string ⟨#[]⟩, .slice none 0 0]) ∧ Below w.heap.size w wr) (fun _ i _ => t.kids.length - (intOf i).toNat)
        case atStart => exact ⟨0, _, _, by omega, by go_num, rfl, G0, HRa0, HRz0, HB0.out⟩
        case round =>
          clear G0 HRa0 HRz0 HB0
          obtain ⟨j, A, c, hj, rfl, rfl, HG, HRa, HRz, hbl⟩ := hrel
          have hsz := hbl.size
          have hzl := HRz.out.lt
          by_cases hlt : j < t.kids.length
          · obtain ⟨b, off, A2, c2, eA, hSb, g0, g1, g2, g3, hat⟩ := GTy.elem (T0.out.below hbl (Nat.le_refl _)).2.2.2 j hlt
            have E1 := Lib.hid (show Below wr.heap.size wr (wr.alloc (.cells #[.int .i64 (t.kids[j]).op, .int .i64 (t.kids[j]).n, .string (t.kids[j]).s, .slice A2 (t.kids[j]).kids.length c2] 59)) from (Below.refl _ _).alloc (Nat.le_refl _) _)
            have HA := Lib.hid (hat.keep (S' := Lt (wr.alloc (.cells #[.int .i64 (t.kids[j]).op, .int .i64 (t.kids[j]).n, .string (t.kids[j]).s, .slice A2 (t.kids[j]).kids.length c2] 59)).heap.size) (w' := wr.alloc (.cells #[.int .i64 (t.kids[j]).op, .int .i64 (t.kids[j]).n, .string (t.kids[j]).s, .slice A2 (t.kids[j]).kids.length c2] 59)) fun q hq => ⟨Nat.lt_of_lt_of_le hq (Nat.le_trans hsz E1.out.size), Below.heap_alloc _ _ _ (Nat.lt_of_lt_of_le hq hsz)⟩)
            have HV2 := Lib.hid (HVs.out.below (show Below w.heap.size w (wr.alloc (.cells #[.int .i64 (t.kids[j]).op, .int .i64 (t.kids[j]).n, .string (t.kids[j]).s, .slice A2 (t.kids[j]).kids.length c2] 59)) from (hbl.alloc hsz _)) (Nat.le_trans hsz E1.out.size))
            have HS2 := Lib.hid (HSl.out.below (show Below w.heap.size w (wr.alloc (.cells #[.int .i64 (t.kids[j]).op, .int .i64 (t.kids[j]).n, .string (t.kids[j]).s, .slice A2 (t.kids[j]).kids.length c2] 59)) from (hbl.alloc hsz _)) (Nat.le_trans hsz E1.out.size))
            clear hat
            subst eA
            go_wp2_with fail
            refine (HH.out j hlt A2 c2 _ HE.out HL.out HV2.out HS2.out HA.out).mono ?_
            rintro e w1 ⟨A3, c3, rfl, how, hb1⟩
            have B1 := Lib.hid ((E1.out.trans (hb1.mono E1.out.size)).alloc (Nat.le_trans E1.out.size hb1.size) (.cells #[.int .i64 ((t.kids[j]).sub F).op, .int .i64 ((t.kids[j]).sub F).n, .string ((t.kids[j]).sub F).s, .slice A3 ((t.kids[j]).sub F).kids.length c3] 59))
            have HG1 := HG.out.below B1.out (Nat.le_refl _)
            have how1 := GTy.own_mk (how.keep (S' := Btw wr.heap.size (w1.alloc (.cells #[.int .i64 ((t.kids[j]).sub F).op, .int .i64 ((t.kids[j]).sub F).n, .string ((t.kids[j]).sub F).s, .slice A3 ((t.kids[j]).sub F).kids.length c3] 59)).heap.size) (w' := w1.alloc (.cells #[.int .i64 ((t.kids[j]).sub F).op, .int .i64 ((t.kids[j]).sub F).n, .string ((t.kids[j]).sub F).s, .slice A3 ((t.kids[j]).sub F).kids.length c3] 59)) fun q hq => ⟨⟨Nat.le_trans E1.out.size hq.1, Nat.lt_of_lt_of_le hq.2 (by simp)⟩, Below.heap_alloc _ _ _ hq.2⟩)
            clear how hb1
            go_wp2_with (first | (at_builtin; refine wpList_append_D (w1.alloc (.cells #[.int .i64 ((t.kids[j]).sub F).op, .int .i64 ((t.kids[j]).sub F).n, .string ((t.kids[j]).sub F).s, .slice A3 ((t.kids[j]).sub F).kids.length c3] 59)) rfl (.tmp 44) (.tmp 46) 57 rfl 59 zTy 4 56 Try.underlying57 (by kernel_rfl) rfl (by omega) (w.heap.size + 2) wr.heap.size _ j _ HG1 ((t.kids[j]).sub F).toD [.int .i64 ((t.kids[j]).sub F).op, .int .i64 ((t.kids[j]).sub F).n, .string ((t.kids[j]).sub F).s, .slice A3 ((t.kids[j]).sub F).kids.length c3] how1 (by omega) B1.out.size rfl (by simp [Value.oneCell']) (by omega) (by omega) 59 rfl (w1.alloc (.cells #[.int .i64 ((t.kids[j]).sub F).op, .int .i64 ((t.kids[j]).sub F).n, .string ((t.kids[j]).sub F).s, .slice A3 ((t.kids[j]).sub F).kids.length c3] 59)).heap.size rfl (by simp [Act.eval]) ?_; intro g cap w2 G2 Bq2 hs2 hg2 hgl2))
            go_roundw
            case rel =>
              have X2 := (Bq2.mono (show w.heap.size ≤ w.heap.size + 2 by omega))
              exact ⟨j + 1, _, _, by omega, by go_num, rfl, Lib.hid (by rw [take_snoc' t.kids j hlt, List.map_append, List.map_append]; exact G2), Lib.hid ((HRa.out.below B1.out (by omega)).below Bq2 (by omega)), Lib.hid ((HRz.out.below B1.out (by omega)).below Bq2 (by omega)), (hbl.trans (B1.out.mono hsz)).trans X2⟩
            case measure => simp [intOf]; omega
          · have hjl : j = t.kids.length := by omega
            obtain ⟨A', c', eV, how⟩ := HG.out.osl
            obtain ⟨rfl, rfl⟩ : A = A' ∧ c = c' := by simpa using eV
            subst hjl
            rw [List.take_length] at how
            clear eV HG hlt hj
            obtain ⟨p0, p1, p2, -⟩ := T0.out
            have hca := fun i => HRa.out.cell i
            have hcz := fun i => HRz.out.cell i
            have hfa := fun i => HRa.out.frozen i
            have hfz := fun i => HRz.out.frozen i
            have B1 := setCells_below hbl w.heap.size 3 (Nat.le_refl _) [.slice A t.kids.length c]
            have BF := setCells_below B1 (w.heap.size + 1) 0 (by omega) [.int .i64 t.op, .int .i64 t.n, .string t.s, .slice A t.kids.length c]
            have SF : (setCells (setCells wr w.heap.size 3 [.slice A t.kids.length c]) (w.heap.size + 1) 0 [.int .i64 t.op, .int .i64 t.n, .string t.s, .slice A t.kids.length c]).heap.size = wr.heap.size := by rw [setCells_size, setCells_size]
            have how2 := how.keep (S' := Btw w.heap.size (setCells (setCells wr w.heap.size 3 [.slice A t.kids.length c]) (w.heap.size + 1) 0 [.int .i64 t.op, .int .i64 t.n, .string t.s, .slice A t.kids.length c]).heap.size) (w' := (setCells (setCells wr w.heap.size 3 [.slice A t.kids.length c]) (w.heap.size + 1) 0 [.int .i64 t.op, .int .i64 t.n, .string t.s, .slice A t.kids.length c])) fun q hq => ⟨⟨by have := hq.1; omega, by rw [SF]; exact hq.2⟩, (setCells_block _ _ _ _ _ (by have := hq.1; omega)).trans (setCells_block _ _ _ _ _ (by have := hq.1; omega))⟩
            have HOW := Lib.hid how2
            have HBF := Lib.hid BF
            have HS := Lib.hid (HN.out)
            clear how how2 BF B1 SF
            go_wp2_with fail
            exact bodyPost_ret (v := .agg #[.int .i64 t.op, .int .i64 t.n, .string t.s, .slice A t.kids.length c]) (by simp [results, Try.results113, go_sem, hca, hcz]) rfl ⟨A, c, by rw [HS.out]; simp [GTy.op, GTy.n, GTy.s, GTy.kids], by rw [HS.out]; exact ⟨p0, p1, p2, HOW.out⟩, HBF.out⟩

/-- Instance: what it gives -/
def instV (s : GScheme) (list : List GTy) : Option GTy := if list.length = s.vars.length then some (s.ty.sub (instOf s.vars list)) else none
def zeroT : GTy := .mk 0 0 ⟨#[]⟩ []
def instR (o : Option GTy) : GTy := match o with | some x => x | none => zeroT
def ToInst (o : Option GTy) (w : World) (e : Ending) (w' : World) : Prop := ∃ A1 c1, e = .returned (.tuple #[.agg #[.int .i64 (instR o).op, .int .i64 (instR o).n, .string (instR o).s, .slice A1 (instR o).kids.length c1], .bool o.isSome]) ∧ GTy.Ow w' (Btw w.heap.size w'.heap.size) A1 c1 (instR o) ∧ Below w.heap.size w w'
theorem zeroT_ow (w : World) (S : Nat → Prop) : GTy.Ow w S none 0 zeroT :=
  ⟨wfNat 0 (by omega), wfNat 0 (by omega), Nat.zero_le _, Osl.nil (by unfold maxLen; omega)⟩
theorem instR_bulk (s : GScheme) (list : List GTy) (h1 : s.bulk ≤ 1048576) (h2 : bulkL GTy.bulk list ≤ 1048576) : (instR (instV s list)).bulk ≤ 1099513724929 := by
  unfold instV
  split
  · have hb := s.bulk_eq
    have c := GTy.sub_bulk (instOf s.vars list) (bulkL GTy.bulk list) (fun n u h => instOf_bulk h) (s.ty.bulk + 1) s.ty (by omega)
    have d : (s.ty.bulk + 1) * (bulkL GTy.bulk list + 1) ≤ 1048577 * 1048577 := Nat.mul_le_mul (by omega) (by omega)
    simp only [instR]
    omega
  · exact Nat.zero_le _

end Go.Proofs.Ytgbcdfeflgnogaa
