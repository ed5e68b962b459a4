/- Instance: a type with others in place of vars, in the program and in the reference. Conditions: none but a bound on the sizes. -/
import Derived.Test.YtnjindgpmacjmaaApply
import Derived.Test.YtnjindgpmacjmaaAppS
import Derived.Test.YtnjindgpmacjmaaInt
import Derived.Test.YtnjindgpmacjmaaGScheme
import Derived.Deep.RegionLaw
namespace Go.Proofs.Ytnjindgpmacjmaa
open Go.RowKit
set_option linter.unusedVariables false
set_option linter.unusedSimpArgs false
set_option maxHeartbeats 1000000

/-- what stands for a var, by two lists -/
def instOf : List Int → List GTy → Int → Option GTy
  | v :: vs, t :: ts, n => if (n == v) = true then some t else instOf vs ts n
  | _, _, _ => none
theorem instOf_idx {n : Int} : ∀ {vs : List Int} {ts : List GTy}, vs.length = ts.length → (∃ j, ∃ h : j < ts.length, j < vs.length ∧ idxI (fun x : Int => n == x) vs = (j : Int) ∧ instOf vs ts n = some ts[j]) ∨ (idxI (fun x : Int => n == x) vs = -1 ∧ instOf vs ts n = none)
  | [], [], _ => .inr ⟨rfl, rfl⟩
  | [], _ :: _, h => by simp at h
  | _ :: _, [], h => by simp at h
  | v :: vs, t :: ts, h => by
    cases hx : (n == v) with
    | true => exact .inl ⟨0, by simp, by simp, by simp [idxI, hx], by simp only [instOf, hx]; rfl⟩
    | false =>
      rcases instOf_idx (n := n) (vs := vs) (ts := ts) (by simpa using h) with ⟨j, h1, h2, e1, e2⟩ | ⟨e1, e2⟩
      · refine .inl ⟨j + 1, by simpa using h1, by simpa using h2, ?_, ?_⟩
        · simp only [idxI, hx]; rw [e1]; simp; omega
        · simp only [instOf, hx]; simpa using e2
      · refine .inr ⟨?_, ?_⟩
        · simp only [idxI, hx]; rw [e1]; simp
        · simp only [instOf, hx]; simpa using e2
theorem instOf_bulk {n : Int} {u : GTy} : ∀ {vs : List Int} {ts : List GTy}, instOf vs ts n = some u → u.bulk ≤ bulkL GTy.bulk ts
  | [], _, h => by simp [instOf] at h
  | _ :: _, [], h => by simp [instOf] at h
  | v :: vs, t :: ts, h => by
    simp only [instOf] at h
    simp only [bulkL]
    split at h
    · cases h; omega
    · have := instOf_bulk h; omega
def zipB (vs : List Int) (ts : List GTy) : List GBind := List.zipWith (fun v t => ⟨v, t⟩) vs ts
theorem bindOf_zip (n : Int) : ∀ (vs : List Int) (ts : List GTy), bindOf (zipB vs ts) n = instOf vs ts n
  | [], _ => rfl
  | _ :: _, [] => rfl
  | v :: vs, t :: ts => by
    have ih := bindOf_zip n vs ts
    have hc : (v == n) = (n == v) := by rw [Bool.eq_iff_iff, beq_iff_eq, beq_iff_eq]; exact eq_comm
    simp only [zipB, List.zipWith_cons_cons, bindOf, List.find?_cons, instOf, hc] at ih ⊢
    cases hx : (n == v) <;> simp_all
theorem zipB_bulk : ∀ (vs : List Int) (ts : List GTy), bulkL GBind.bulk (zipB vs ts) ≤ bulkL GTy.bulk ts
  | [], _ => by simp [zipB, bulkL]
  | _ :: _, [] => by simp [zipB, bulkL]
  | v :: vs, t :: ts => by
    have ih := zipB_bulk vs ts
    simp only [zipB, List.zipWith_cons_cons, bulkL, GBind.bulk] at ih ⊢
    omega
theorem zipB_length {vs : List Int} {ts : List GTy} (h : vs.length = ts.length) : (zipB vs ts).length = vs.length := by simp [zipB, h]
theorem zipB_take {vs : List Int} {ts : List GTy} (h : vs.length = ts.length) (j : Nat) (h1 : j < vs.length) (h2 : j < ts.length) : (zipB vs ts).take (j + 1) = (zipB vs ts).take j ++ [⟨vs[j], ts[j]⟩] := by
  rw [List.take_succ_eq_append_getElem (by rw [zipB_length h]; exact h1)]
  simp [zipB]

theorem implIndexInt (l : List Int) (A : Option Addr) (c : Nat) (n : Int) (w : World) (hs : Sl w (Lt w.heap.size) 1 A c (l.map (D.num .i64))) :
    Calls Try.prog 143 #[.slice A l.length c, .int .i64 n] w fun e w' => e = .returned (.int .i64 (idxI (fun x : Int => n == x) l)) ∧ Below w.heap.size w w' := by
  have hlen : l.length ≤ 9223372036854775807 := by simpa using hs.len
  have S0 := Lib.hid hs
  clear hs
  go_enter Try.func143, Try.ntmps143
  go_wp2_with fail
  go_loopw [8] (fun i wr => ∃ (j : Nat), j ≤ l.length ∧ i = .int .i64 j ∧ Hid (noneTo (fun x : Int => n == x) l j) ∧ Below w.heap.size w wr) (fun i _ => l.length - (intOf i).toNat)
  case atStart => exact ⟨0, by omega, by go_num, Lib.hid (noneTo_zero _ _), Below.refl _ _⟩
  case round =>
    obtain ⟨j, hj, rfl, HN, hbl⟩ := hrel
    by_cases hlt : j < l.length
    · obtain ⟨b, off, rfl, hSb, g0, _⟩ := int_elem (S0.out.below hbl (Nat.le_refl _)) j hlt
      cases he : (n == l[j]) with
      | true =>
        have HV := Lib.hid (idxI_at HN.out hlt he)
        go_wp2_with fail
        go_ret
        exact ⟨ret_int HV.out.symm, hbl⟩
      | false =>
        have HN2 := Lib.hid (noneTo_succ HN.out hlt he)
        go_wp2_with fail
        go_roundw
        case rel => exact ⟨j + 1, by omega, by go_num, HN2, hbl⟩
        case measure => simp [intOf]; omega
    · have hjl : j = l.length := by omega
      have HV := Lib.hid (idxI_none (hjl ▸ HN.out))
      clear hjl
      go_wp2_with fail
      go_ret
      exact ⟨ret_int HV.out.symm, hbl⟩

set_option maxRecDepth 20000 in
theorem implInst (k : Nat) : ∀ (vars : List Int) (Vl : Option Addr) (vc : Nat) (list : List GTy) (Tl : Option Addr) (tc : Nat) (t : GTy) (A1 : Option Addr) (c1 : Nat) (w : World), t.bulk < k → t.bulk ≤ 1048576 → vars.length = list.length → bulkL GTy.bulk list ≤ 1048576 → Sl w (Lt w.heap.size) 1 Vl vc (vars.map (D.num .i64)) → Sl w (Lt w.heap.size) 4 Tl tc (list.map GTy.toD) → GTy.At w (Lt w.heap.size) A1 c1 t →
    Calls Try.prog 99 #[.agg #[.int .i64 t.op, .int .i64 t.n, .string t.s, .slice A1 t.kids.length c1], .slice Vl vars.length vc, .slice Tl list.length tc] w (ToTy (t.sub (instOf vars list)) w) := by
  induction k with
  | zero => intros; omega
  | succ k ih =>
    intro vars Vl vc list Tl tc t A1 c1 w hk h1 he hl hv hs hat
    have hbe := t.bulk_eq
    have hlen : t.kids.length ≤ 1048576 := by have := bulkL_len GTy.bulk t.kids; omega
    obtain ⟨F, hF⟩ : ∃ F, F = instOf vars list := ⟨_, rfl⟩
    have HF := Lib.hid hF
    have HH := Lib.hid (fun (j : Nat) (h : j < t.kids.length) (A1 : Option Addr) (c1 : Nat) (w : World) => ih vars Vl vc list Tl tc t.kids[j] A1 c1 w (by have := bulkL_mem GTy.bulk t.kids _ (List.getElem_mem h); omega) (by have := bulkL_mem GTy.bulk t.kids _ (List.getElem_mem h); omega))
    rw [← hF] at HH ⊢
    have HSl := Lib.hid hs
    have HVs := Lib.hid hv
    have HL := Lib.hid hl
    have HE := Lib.hid he
    have T0 := Lib.hid hat
    clear ih hbe hk h1 hat hF hs hv hl he
    have E0 := Lib.hid (show Below w.heap.size w ((w.alloc (.cells #[.int .i64 t.op, .int .i64 t.n, .string t.s, .slice A1 t.kids.length c1] 64)).alloc (.cells #[.int .i64 0, .int .i64 0, .string ⟨#[]⟩, .slice none 0 0] 64)) from ((Below.refl _ _).alloc (Nat.le_refl _) _).alloc (by simp) _)
    have S0 : w.heap.size + 2 ≤ ((w.alloc (.cells #[.int .i64 t.op, .int .i64 t.n, .string t.s, .slice A1 t.kids.length c1] 64)).alloc (.cells #[.int .i64 0, .int .i64 0, .string ⟨#[]⟩, .slice none 0 0] 64)).heap.size := by simp
    have Ra0 := Lib.hid ((Row.new' w 64 #[.int .i64 t.op, .int .i64 t.n, .string t.s, .slice A1 t.kids.length c1] (g := w.heap.size) rfl).alloc (.cells #[.int .i64 0, .int .i64 0, .string ⟨#[]⟩, .slice none 0 0] 64))
    have Rz0 := Lib.hid (Row.new' (w.alloc (.cells #[.int .i64 t.op, .int .i64 t.n, .string t.s, .slice A1 t.kids.length c1] 64)) 64 #[.int .i64 0, .int .i64 0, .string ⟨#[]⟩, .slice none 0 0] (g := w.heap.size + 1) (by simp))
    cases o2 : (t.op == 2)
    · have ho2 : ¬ t.op = 2 := by simpa using o2
      have HN := Lib.hid (show t.sub F = _ from GTy.sub_none (.inl (fun e => ho2 e.1)))
      clear ho2
      go_enter Try.func99, Try.ntmps99
      obtain ⟨w0, e0⟩ : ∃ w0, w0 = ((w.alloc (.cells #[.int .i64 t.op, .int .i64 t.n, .string t.s, .slice A1 t.kids.length c1] 64)).alloc (.cells #[.int .i64 0, .int .i64 0, .string ⟨#[]⟩, .slice none 0 0] 64)).alloc (.cells #[] 64) := ⟨_, rfl⟩
      have HB0 := Lib.hid (show Below w.heap.size w w0 by rw [e0]; exact E0.out.alloc E0.out.size _)
      have HRa0 := Lib.hid (show Row w0 w.heap.size 64 #[.int .i64 t.op, .int .i64 t.n, .string t.s, .slice A1 t.kids.length c1] by rw [e0]; exact Ra0.out.alloc _)
      have HRz0 := Lib.hid (show Row w0 (w.heap.size + 1) 64 #[.int .i64 0, .int .i64 0, .string ⟨#[]⟩, .slice none 0 0] by rw [e0]; exact Rz0.out.alloc _)
      have G0 := Lib.hid (show Gow w0 (w.heap.size + 2) w0.heap.size 64 4 (.slice (some ⟨w.heap.size + 1 + 1, 0, none⟩) 0 0) 0 [] by rw [e0]; exact Gow.made (Row.new' _ _ _ (by simp)) (by omega) (by simp))
      go_wp2_with fail
      rw [← e0]
      clear e0
      go_loopw [8, 36] (fun v i wr => ∃ (j : Nat) (A : Option Addr) (c : Nat), j ≤ t.kids.length ∧ i = .int .i64 j ∧ v = .slice A j c ∧ Hid (Gow wr (w.heap.size + 2) wr.heap.size 64 4 (.slice A j c) j (((t.kids.take j).map (GTy.sub F)).map GTy.toD)) ∧ Hid (Row wr w.heap.size 64 #[.int .i64 t.op, .int .i64 t.n, .string t.s, .slice A1 t.kids.length c1]) ∧ Hid (Row wr (w.heap.size + 1) 64 #[.int .i64 0, .int .i64 0, .string ⟨#[]⟩, .slice none 0 0]) ∧ Below w.heap.size w wr) (fun _ i _ => t.kids.length - (intOf i).toNat)
      case atStart => exact ⟨0, _, _, by omega, by go_num, rfl, G0, HRa0, HRz0, HB0.out⟩
      case round =>
        clear G0 HRa0 HRz0 HB0
        obtain ⟨j, A, c, hj, rfl, rfl, HG, HRa, HRz, hbl⟩ := hrel
        have hsz := hbl.size
        have hzl := HRz.out.lt
        by_cases hlt : j < t.kids.length
        · obtain ⟨b, off, A2, c2, eA, hSb, g0, g1, g2, g3, hat⟩ := GTy.elem (T0.out.below hbl (Nat.le_refl _)).2.2.2 j hlt
          have E1 := Lib.hid (show Below wr.heap.size wr (wr.alloc (.cells #[.int .i64 (t.kids[j]).op, .int .i64 (t.kids[j]).n, .string (t.kids[j]).s, .slice A2 (t.kids[j]).kids.length c2] 64)) from (Below.refl _ _).alloc (Nat.le_refl _) _)
          have HA := Lib.hid (hat.keep (S' := Lt (wr.alloc (.cells #[.int .i64 (t.kids[j]).op, .int .i64 (t.kids[j]).n, .string (t.kids[j]).s, .slice A2 (t.kids[j]).kids.length c2] 64)).heap.size) (w' := wr.alloc (.cells #[.int .i64 (t.kids[j]).op, .int .i64 (t.kids[j]).n, .string (t.kids[j]).s, .slice A2 (t.kids[j]).kids.length c2] 64)) fun q hq => ⟨Nat.lt_of_lt_of_le hq (Nat.le_trans hsz E1.out.size), Below.heap_alloc _ _ _ (Nat.lt_of_lt_of_le hq hsz)⟩)
          have HV2 := Lib.hid (HVs.out.below (show Below w.heap.size w (wr.alloc (.cells #[.int .i64 (t.kids[j]).op, .int .i64 (t.kids[j]).n, .string (t.kids[j]).s, .slice A2 (t.kids[j]).kids.length c2] 64)) from (hbl.alloc hsz _)) (Nat.le_trans hsz E1.out.size))
          have HS2 := Lib.hid (HSl.out.below (show Below w.heap.size w (wr.alloc (.cells #[.int .i64 (t.kids[j]).op, .int .i64 (t.kids[j]).n, .string (t.kids[j]).s, .slice A2 (t.kids[j]).kids.length c2] 64)) from (hbl.alloc hsz _)) (Nat.le_trans hsz E1.out.size))
          clear hat
          subst eA
          go_wp2_with fail
          refine (HH.out j hlt A2 c2 _ HE.out HL.out HV2.out HS2.out HA.out).mono ?_
          rintro e w1 ⟨A3, c3, rfl, how, hb1⟩
          have B1 := Lib.hid ((E1.out.trans (hb1.mono E1.out.size)).alloc (Nat.le_trans E1.out.size hb1.size) (.cells #[.int .i64 ((t.kids[j]).sub F).op, .int .i64 ((t.kids[j]).sub F).n, .string ((t.kids[j]).sub F).s, .slice A3 ((t.kids[j]).sub F).kids.length c3] 64))
          have HG1 := HG.out.below B1.out (Nat.le_refl _)
          have how1 := GTy.own_mk (how.keep (S' := Btw wr.heap.size (w1.alloc (.cells #[.int .i64 ((t.kids[j]).sub F).op, .int .i64 ((t.kids[j]).sub F).n, .string ((t.kids[j]).sub F).s, .slice A3 ((t.kids[j]).sub F).kids.length c3] 64)).heap.size) (w' := w1.alloc (.cells #[.int .i64 ((t.kids[j]).sub F).op, .int .i64 ((t.kids[j]).sub F).n, .string ((t.kids[j]).sub F).s, .slice A3 ((t.kids[j]).sub F).kids.length c3] 64)) fun q hq => ⟨⟨Nat.le_trans E1.out.size hq.1, Nat.lt_of_lt_of_le hq.2 (by simp)⟩, Below.heap_alloc _ _ _ hq.2⟩)
          clear how hb1
          go_wp2_with (first | (at_builtin; refine wpList_append_D (w1.alloc (.cells #[.int .i64 ((t.kids[j]).sub F).op, .int .i64 ((t.kids[j]).sub F).n, .string ((t.kids[j]).sub F).s, .slice A3 ((t.kids[j]).sub F).kids.length c3] 64)) rfl (.tmp 44) (.tmp 46) 62 rfl 64 zTy 4 56 Try.underlying62 (by kernel_rfl) rfl (by omega) (w.heap.size + 2) wr.heap.size _ j _ HG1 ((t.kids[j]).sub F).toD [.int .i64 ((t.kids[j]).sub F).op, .int .i64 ((t.kids[j]).sub F).n, .string ((t.kids[j]).sub F).s, .slice A3 ((t.kids[j]).sub F).kids.length c3] how1 (by omega) B1.out.size rfl (by simp [Value.oneCell']) (by omega) (by omega) 64 rfl (w1.alloc (.cells #[.int .i64 ((t.kids[j]).sub F).op, .int .i64 ((t.kids[j]).sub F).n, .string ((t.kids[j]).sub F).s, .slice A3 ((t.kids[j]).sub F).kids.length c3] 64)).heap.size rfl (by simp [Act.eval]) ?_; intro g cap w2 G2 Bq2 hs2 hg2 hgl2))
          go_roundw
          case rel =>
            have X2 := (Bq2.mono (show w.heap.size ≤ w.heap.size + 2 by omega))
            exact ⟨j + 1, _, _, by omega, by go_num, rfl, Lib.hid (by rw [take_snoc' t.kids j hlt, List.map_append, List.map_append]; exact G2), Lib.hid ((HRa.out.below B1.out (by omega)).below Bq2 (by omega)), Lib.hid ((HRz.out.below B1.out (by omega)).below Bq2 (by omega)), (hbl.trans (B1.out.mono hsz)).trans X2⟩
          case measure => simp [intOf]; omega
        · have hjl : j = t.kids.length := by omega
          obtain ⟨A', c', eV, how⟩ := HG.out.osl
          obtain ⟨rfl, rfl⟩ : A = A' ∧ c = c' := by simpa using eV
          subst hjl
          rw [List.take_length] at how
          clear eV HG hlt hj
          obtain ⟨p0, p1, p2, -⟩ := T0.out
          have hca := fun i => HRa.out.cell i
          have hcz := fun i => HRz.out.cell i
          have hfa := fun i => HRa.out.frozen i
          have hfz := fun i => HRz.out.frozen i
          have B1 := setCells_below hbl w.heap.size 3 (Nat.le_refl _) [.slice A t.kids.length c]
          have BF := setCells_below B1 (w.heap.size + 1) 0 (by omega) [.int .i64 t.op, .int .i64 t.n, .string t.s, .slice A t.kids.length c]
          have SF : (setCells (setCells wr w.heap.size 3 [.slice A t.kids.length c]) (w.heap.size + 1) 0 [.int .i64 t.op, .int .i64 t.n, .string t.s, .slice A t.kids.length c]).heap.size = wr.heap.size := by rw [setCells_size, setCells_size]
          have how2 := how.keep (S' := Btw w.heap.size (setCells (setCells wr w.heap.size 3 [.slice A t.kids.length c]) (w.heap.size + 1) 0 [.int .i64 t.op, .int .i64 t.n, .string t.s, .slice A t.kids.length c]).heap.size) (w' := (setCells (setCells wr w.heap.size 3 [.slice A t.kids.length c]) (w.heap.size + 1) 0 [.int .i64 t.op, .int .i64 t.n, .string t.s, .slice A t.kids.length c])) fun q hq => ⟨⟨by have := hq.1; omega, by rw [SF]; exact hq.2⟩, (setCells_block _ _ _ _ _ (by have := hq.1; omega)).trans (setCells_block _ _ _ _ _ (by have := hq.1; omega))⟩
          have HOW := Lib.hid how2
          have HBF := Lib.hid BF
          have HS := Lib.hid (HN.out)
          clear how how2 BF B1 SF
          go_wp2_with fail
          exact bodyPost_ret (v := .agg #[.int .i64 t.op, .int .i64 t.n, .string t.s, .slice A t.kids.length c]) (by simp [results, Try.results99, go_sem, hca, hcz]) rfl ⟨A, c, by rw [HS.out]; simp [GTy.op, GTy.n, GTy.s, GTy.kids], by rw [HS.out]; exact ⟨p0, p1, p2, HOW.out⟩, HBF.out⟩
    · have ho2 : t.op = 2 := by simpa using o2
      by_cases hk : t.kids.length = 0
      rotate_left
      · have hk2 : ((t.kids.length : Int) == 0) = false := by rw [beq_eq_false_iff_ne]; omega
        have HN := Lib.hid (show t.sub F = _ from GTy.sub_none (.inl (fun e => hk e.2)))
        clear ho2 hk
        go_enter Try.func99, Try.ntmps99
        obtain ⟨w0, e0⟩ : ∃ w0, w0 = ((w.alloc (.cells #[.int .i64 t.op, .int .i64 t.n, .string t.s, .slice A1 t.kids.length c1] 64)).alloc (.cells #[.int .i64 0, .int .i64 0, .string ⟨#[]⟩, .slice none 0 0] 64)).alloc (.cells #[] 64) := ⟨_, rfl⟩
        have HB0 := Lib.hid (show Below w.heap.size w w0 by rw [e0]; exact E0.out.alloc E0.out.size _)
        have HRa0 := Lib.hid (show Row w0 w.heap.size 64 #[.int .i64 t.op, .int .i64 t.n, .string t.s, .slice A1 t.kids.length c1] by rw [e0]; exact Ra0.out.alloc _)
        have HRz0 := Lib.hid (show Row w0 (w.heap.size + 1) 64 #[.int .i64 0, .int .i64 0, .string ⟨#[]⟩, .slice none 0 0] by rw [e0]; exact Rz0.out.alloc _)
        have G0 := Lib.hid (show Gow w0 (w.heap.size + 2) w0.heap.size 64 4 (.slice (some ⟨w.heap.size + 1 + 1, 0, none⟩) 0 0) 0 [] by rw [e0]; exact Gow.made (Row.new' _ _ _ (by simp)) (by omega) (by simp))
        go_wp2_with fail
        rw [← e0]
        clear e0
        go_loopw [8, 36] (fun v i wr => ∃ (j : Nat) (A : Option Addr) (c : Nat), j ≤ t.kids.length ∧ i = .int .i64 j ∧ v = .slice A j c ∧ Hid (Gow wr (w.heap.size + 2) wr.heap.size 64 4 (.slice A j c) j (((t.kids.take j).map (GTy.sub F)).map GTy.toD)) ∧ Hid (Row wr w.heap.size 64 #[.int .i64 t.op, .int .i64 t.n, .string t.s, .slice A1 t.kids.length c1]) ∧ Hid (Row wr (w.heap.size + 1) 64 #[.int .i64 0, .int .i64 0, .string ⟨#[]⟩, .slice none 0 0]) ∧ Below w.heap.size w wr) (fun _ i _ => t.kids.length - (intOf i).toNat)
        case atStart => exact ⟨0, _, _, by omega, by go_num, rfl, G0, HRa0, HRz0, HB0.out⟩
        case round =>
          clear G0 HRa0 HRz0 HB0
          obtain ⟨j, A, c, hj, rfl, rfl, HG, HRa, HRz, hbl⟩ := hrel
          have hsz := hbl.size
          have hzl := HRz.out.lt
          by_cases hlt : j < t.kids.length
          · obtain ⟨b, off, A2, c2, eA, hSb, g0, g1, g2, g3, hat⟩ := GTy.elem (T0.out.below hbl (Nat.le_refl _)).2.2.2 j hlt
            have E1 := Lib.hid (show Below wr.heap.size wr (wr.alloc (.cells #[.int .i64 (t.kids[j]).op, .int .i64 (t.kids[j]).n, .string (t.kids[j]).s, .slice A2 (t.kids[j]).kids.length c2] 64)) from (Below.refl _ _).alloc (Nat.le_refl _) _)
            have HA := Lib.hid (hat.keep (S' := Lt (wr.alloc (.cells #[.int .i64 (t.kids[j]).op, .int .i64 (t.kids[j]).n, .string (t.kids[j]).s, .slice A2 (t.kids[j]).kids.length c2] 64)).heap.size) (w' := wr.alloc (.cells #[.int .i64 (t.kids[j]).op, .int .i64 (t.kids[j]).n, .string (t.kids[j]).s, .slice A2 (t.kids[j]).kids.length c2] 64)) fun q hq => ⟨Nat.lt_of_lt_of_le hq (Nat.le_trans hsz E1.out.size), Below.heap_alloc _ _ _ (Nat.lt_of_lt_of_le hq hsz)⟩)
            have HV2 := Lib.hid (HVs.out.below (show Below w.heap.size w (wr.alloc (.cells #[.int .i64 (t.kids[j]).op, .int .i64 (t.kids[j]).n, .string (t.kids[j]).s, .slice A2 (t.kids[j]).kids.length c2] 64)) from (hbl.alloc hsz _)) (Nat.le_trans hsz E1.out.size))
            have HS2 := Lib.hid (HSl.out.below (show Below w.heap.size w (wr.alloc (.cells #[.int .i64 (t.kids[j]).op, .int .i64 (t.kids[j]).n, .string (t.kids[j]).s, .slice A2 (t.kids[j]).kids.length c2] 64)) from (hbl.alloc hsz _)) (Nat.le_trans hsz E1.out.size))
            clear hat
            subst eA
            go_wp2_with fail
            refine (HH.out j hlt A2 c2 _ HE.out HL.out HV2.out HS2.out HA.out).mono ?_
            rintro e w1 ⟨A3, c3, rfl, how, hb1⟩
            have B1 := Lib.hid ((E1.out.trans (hb1.mono E1.out.size)).alloc (Nat.le_trans E1.out.size hb1.size) (.cells #[.int .i64 ((t.kids[j]).sub F).op, .int .i64 ((t.kids[j]).sub F).n, .string ((t.kids[j]).sub F).s, .slice A3 ((t.kids[j]).sub F).kids.length c3] 64))
            have HG1 := HG.out.below B1.out (Nat.le_refl _)
            have how1 := GTy.own_mk (how.keep (S' := Btw wr.heap.size (w1.alloc (.cells #[.int .i64 ((t.kids[j]).sub F).op, .int .i64 ((t.kids[j]).sub F).n, .string ((t.kids[j]).sub F).s, .slice A3 ((t.kids[j]).sub F).kids.length c3] 64)).heap.size) (w' := w1.alloc (.cells #[.int .i64 ((t.kids[j]).sub F).op, .int .i64 ((t.kids[j]).sub F).n, .string ((t.kids[j]).sub F).s, .slice A3 ((t.kids[j]).sub F).kids.length c3] 64)) fun q hq => ⟨⟨Nat.le_trans E1.out.size hq.1, Nat.lt_of_lt_of_le hq.2 (by simp)⟩, Below.heap_alloc _ _ _ hq.2⟩)
            clear how hb1
            go_wp2_with (first | (at_builtin; refine wpList_append_D (w1.alloc (.cells #[.int .i64 ((t.kids[j]).sub F).op, .int .i64 ((t.kids[j]).sub F).n, .string ((t.kids[j]).sub F).s, .slice A3 ((t.kids[j]).sub F).kids.length c3] 64)) rfl (.tmp 44) (.tmp 46) 62 rfl 64 zTy 4 56 Try.underlying62 (by kernel_rfl) rfl (by omega) (w.heap.size + 2) wr.heap.size _ j _ HG1 ((t.kids[j]).sub F).toD [.int .i64 ((t.kids[j]).sub F).op, .int .i64 ((t.kids[j]).sub F).n, .string ((t.kids[j]).sub F).s, .slice A3 ((t.kids[j]).sub F).kids.length c3] how1 (by omega) B1.out.size rfl (by simp [Value.oneCell']) (by omega) (by omega) 64 rfl (w1.alloc (.cells #[.int .i64 ((t.kids[j]).sub F).op, .int .i64 ((t.kids[j]).sub F).n, .string ((t.kids[j]).sub F).s, .slice A3 ((t.kids[j]).sub F).kids.length c3] 64)).heap.size rfl (by simp [Act.eval]) ?_; intro g cap w2 G2 Bq2 hs2 hg2 hgl2))
            go_roundw
            case rel =>
              have X2 := (Bq2.mono (show w.heap.size ≤ w.heap.size + 2 by omega))
              exact ⟨j + 1, _, _, by omega, by go_num, rfl, Lib.hid (by rw [take_snoc' t.kids j hlt, List.map_append, List.map_append]; exact G2), Lib.hid ((HRa.out.below B1.out (by omega)).below Bq2 (by omega)), Lib.hid ((HRz.out.below B1.out (by omega)).below Bq2 (by omega)), (hbl.trans (B1.out.mono hsz)).trans X2⟩
            case measure => simp [intOf]; omega
          · have hjl : j = t.kids.length := by omega
            obtain ⟨A', c', eV, how⟩ := HG.out.osl
            obtain ⟨rfl, rfl⟩ : A = A' ∧ c = c' := by simpa using eV
            subst hjl
            rw [List.take_length] at how
            clear eV HG hlt hj
            obtain ⟨p0, p1, p2, -⟩ := T0.out
            have hca := fun i => HRa.out.cell i
            have hcz := fun i => HRz.out.cell i
            have hfa := fun i => HRa.out.frozen i
            have hfz := fun i => HRz.out.frozen i
            have B1 := setCells_below hbl w.heap.size 3 (Nat.le_refl _) [.slice A t.kids.length c]
            have BF := setCells_below B1 (w.heap.size + 1) 0 (by omega) [.int .i64 t.op, .int .i64 t.n, .string t.s, .slice A t.kids.length c]
            have SF : (setCells (setCells wr w.heap.size 3 [.slice A t.kids.length c]) (w.heap.size + 1) 0 [.int .i64 t.op, .int .i64 t.n, .string t.s, .slice A t.kids.length c]).heap.size = wr.heap.size := by rw [setCells_size, setCells_size]
            have how2 := how.keep (S' := Btw w.heap.size (setCells (setCells wr w.heap.size 3 [.slice A t.kids.length c]) (w.heap.size + 1) 0 [.int .i64 t.op, .int .i64 t.n, .string t.s, .slice A t.kids.length c]).heap.size) (w' := (setCells (setCells wr w.heap.size 3 [.slice A t.kids.length c]) (w.heap.size + 1) 0 [.int .i64 t.op, .int .i64 t.n, .string t.s, .slice A t.kids.length c])) fun q hq => ⟨⟨by have := hq.1; omega, by rw [SF]; exact hq.2⟩, (setCells_block _ _ _ _ _ (by have := hq.1; omega)).trans (setCells_block _ _ _ _ _ (by have := hq.1; omega))⟩
            have HOW := Lib.hid how2
            have HBF := Lib.hid BF
            have HS := Lib.hid (HN.out)
            clear how how2 BF B1 SF
            go_wp2_with fail
            exact bodyPost_ret (v := .agg #[.int .i64 t.op, .int .i64 t.n, .string t.s, .slice A t.kids.length c]) (by simp [results, Try.results99, go_sem, hca, hcz]) rfl ⟨A, c, by rw [HS.out]; simp [GTy.op, GTy.n, GTy.s, GTy.kids], by rw [HS.out]; exact ⟨p0, p1, p2, HOW.out⟩, HBF.out⟩
      have hk2 : ((t.kids.length : Int) == 0) = true := by rw [beq_iff_eq]; omega
      have HK := Lib.hid hk
      have HO2 := Lib.hid ho2
      clear hk ho2
      rcases instOf_idx (n := t.n) HE.out with ⟨q, hq, hqv, hi, hf⟩ | ⟨hi, hf⟩
      · have HN := Lib.hid (show t.sub F = list[q] from by rw [HF.out]; exact GTy.sub_some HO2.out HK.out hf)
        have hub : (list[q]).bulk ≤ 1048576 := by have := instOf_bulk hf; have := HL.out; omega
        clear hf
        go_enter Try.func99, Try.ntmps99
        go_wp2_with fail
        refine (implIndexInt vars Vl vc t.n _ (HVs.out.below E0.out E0.out.size)).mono ?_
        rintro e w1 ⟨rfl, hb1⟩
        rw [hi]
        clear hi
        have B1 := Lib.hid (E0.out.trans (hb1.mono E0.out.size))
        have Rz1 := Lib.hid (Rz0.out.below hb1 Rz0.out.lt)
        have hql : list.length ≤ 9223372036854775807 := by simpa using HSl.out.len
        obtain ⟨b3, off3, A3, c3, rfl, hSb3, q0, q1, q2, q3, hat⟩ := GTy.elem (HSl.out.below B1.out (Nat.le_refl _)) q hq
        have HA := Lib.hid (show GTy.At w1 (Lt w1.heap.size) A3 c3 (list[q]) from hat.keep fun x hx => ⟨Nat.lt_of_lt_of_le hx B1.out.size, rfl⟩)
        clear hat hb1
        go_wp2_with fail
        refine (implCopyTy' (list[q]) A3 c3 _ hub HA.out).mono ?_
        rintro e w2 ⟨A4, c4, rfl, how, hb2⟩
        have Rz2 := Lib.hid (Rz1.out.below hb2 Rz1.out.lt)
        have hcz := fun i => Rz2.out.cell i
        have hfz := fun i => Rz2.out.frozen i
        have B2 := B1.out.trans (hb2.mono B1.out.size)
        have SF : (setCells w2 (w.heap.size + 1) 0 [.int .i64 (list[q]).op, .int .i64 (list[q]).n, .string (list[q]).s, .slice A4 (list[q]).kids.length c4]).heap.size = w2.heap.size := setCells_size _ _ _ _
        have BF := Lib.hid (setCells_below B2 (w.heap.size + 1) 0 (by omega) [.int .i64 (list[q]).op, .int .i64 (list[q]).n, .string (list[q]).s, .slice A4 (list[q]).kids.length c4])
        have HOW := Lib.hid (how.keep (S' := Btw w.heap.size (setCells w2 (w.heap.size + 1) 0 [.int .i64 (list[q]).op, .int .i64 (list[q]).n, .string (list[q]).s, .slice A4 (list[q]).kids.length c4]).heap.size) (w' := setCells w2 (w.heap.size + 1) 0 [.int .i64 (list[q]).op, .int .i64 (list[q]).n, .string (list[q]).s, .slice A4 (list[q]).kids.length c4]) fun x hx => ⟨⟨Nat.le_trans B1.out.size hx.1, by rw [SF]; exact hx.2⟩, setCells_block _ _ _ _ _ (by have := hx.1; have := Rz1.out.lt; omega)⟩)
        clear how hb2 B2 SF
        go_wp2_with fail
        exact bodyPost_ret (v := .agg #[.int .i64 (list[q]).op, .int .i64 (list[q]).n, .string (list[q]).s, .slice A4 (list[q]).kids.length c4]) (by simp [results, Try.results99, go_sem, hcz]) rfl ⟨A4, c4, by rw [HN.out], by rw [HN.out]; exact HOW.out, BF.out⟩
      · have HN := Lib.hid (show t.sub F = _ from GTy.sub_none (.inr (by rw [HF.out]; exact hf)))
        clear hf
        go_enter Try.func99, Try.ntmps99
        go_wp2_with fail
        refine (implIndexInt vars Vl vc t.n _ (HVs.out.below E0.out E0.out.size)).mono ?_
        rintro e w1 ⟨rfl, hb1⟩
        rw [hi]
        clear hi
        have B1 := Lib.hid (E0.out.trans (hb1.mono E0.out.size))
        have Ra1 := Lib.hid (Ra0.out.below hb1 Ra0.out.lt)
        have Rz1 := Lib.hid (Rz0.out.below hb1 Rz0.out.lt)
        have hs1 := Nat.le_trans S0 hb1.size
        have hca1 := fun i => Ra1.out.cell i
        have hlt1 := Ra1.out.lt
        clear hb1
        obtain ⟨w0, e0⟩ : ∃ w0, w0 = (w1).alloc (.cells #[] 64) := ⟨_, rfl⟩
        have HB0 := Lib.hid (show Below w.heap.size w w0 by rw [e0]; exact B1.out.alloc B1.out.size _)
        have HRa0 := Lib.hid (show Row w0 w.heap.size 64 #[.int .i64 t.op, .int .i64 t.n, .string t.s, .slice A1 t.kids.length c1] by rw [e0]; exact Ra1.out.alloc _)
        have HRz0 := Lib.hid (show Row w0 (w.heap.size + 1) 64 #[.int .i64 0, .int .i64 0, .string ⟨#[]⟩, .slice none 0 0] by rw [e0]; exact Rz1.out.alloc _)
        have G0 := Lib.hid (show Gow w0 (w.heap.size + 2) w0.heap.size 64 4 (.slice (some ⟨(w1).heap.size, 0, none⟩) 0 0) 0 [] by rw [e0]; exact Gow.made (Row.new' _ _ _ (by simp)) hs1 (by simp))
        go_wp2_with fail
        rw [← e0]
        clear e0
        clear hca1
        go_loopw [8, 36] (fun v i wr => ∃ (j : Nat) (A : Option Addr) (c : Nat), j ≤ t.kids.length ∧ i = .int .i64 j ∧ v = .slice A j c ∧ Hid (Gow wr (w.heap.size + 2) wr.heap.size 64 4 (.slice A j c) j (((t.kids.take j).map (GTy.sub F)).map GTy.toD)) ∧ Hid (Row wr w.heap.size 64 #[.int .i64 t.op, .int .i64 t.n, .string t.s, .slice A1 t.kids.length c1]) ∧ Hid (Row wr (w.heap.size + 1) 64 #[.int .i64 0, .int .i64 0, .string ⟨#[]⟩, .slice none 0 0]) ∧ Below w.heap.size w wr) (fun _ i _ => t.kids.length - (intOf i).toNat)
        case atStart => exact ⟨0, _, _, by omega, by go_num, rfl, G0, HRa0, HRz0, HB0.out⟩
        case round =>
          clear G0 HRa0 HRz0 HB0
          obtain ⟨j, A, c, hj, rfl, rfl, HG, HRa, HRz, hbl⟩ := hrel
          have hsz := hbl.size
          have hzl := HRz.out.lt
          by_cases hlt : j < t.kids.length
          · obtain ⟨b, off, A2, c2, eA, hSb, g0, g1, g2, g3, hat⟩ := GTy.elem (T0.out.below hbl (Nat.le_refl _)).2.2.2 j hlt
            have E1 := Lib.hid (show Below wr.heap.size wr (wr.alloc (.cells #[.int .i64 (t.kids[j]).op, .int .i64 (t.kids[j]).n, .string (t.kids[j]).s, .slice A2 (t.kids[j]).kids.length c2] 64)) from (Below.refl _ _).alloc (Nat.le_refl _) _)
            have HA := Lib.hid (hat.keep (S' := Lt (wr.alloc (.cells #[.int .i64 (t.kids[j]).op, .int .i64 (t.kids[j]).n, .string (t.kids[j]).s, .slice A2 (t.kids[j]).kids.length c2] 64)).heap.size) (w' := wr.alloc (.cells #[.int .i64 (t.kids[j]).op, .int .i64 (t.kids[j]).n, .string (t.kids[j]).s, .slice A2 (t.kids[j]).kids.length c2] 64)) fun q hq => ⟨Nat.lt_of_lt_of_le hq (Nat.le_trans hsz E1.out.size), Below.heap_alloc _ _ _ (Nat.lt_of_lt_of_le hq hsz)⟩)
            have HV2 := Lib.hid (HVs.out.below (show Below w.heap.size w (wr.alloc (.cells #[.int .i64 (t.kids[j]).op, .int .i64 (t.kids[j]).n, .string (t.kids[j]).s, .slice A2 (t.kids[j]).kids.length c2] 64)) from (hbl.alloc hsz _)) (Nat.le_trans hsz E1.out.size))
            have HS2 := Lib.hid (HSl.out.below (show Below w.heap.size w (wr.alloc (.cells #[.int .i64 (t.kids[j]).op, .int .i64 (t.kids[j]).n, .string (t.kids[j]).s, .slice A2 (t.kids[j]).kids.length c2] 64)) from (hbl.alloc hsz _)) (Nat.le_trans hsz E1.out.size))
            clear hat
            subst eA
            go_wp2_with fail
            refine (HH.out j hlt A2 c2 _ HE.out HL.out HV2.out HS2.out HA.out).mono ?_
            rintro e w1 ⟨A3, c3, rfl, how, hb1⟩
            have B1 := Lib.hid ((E1.out.trans (hb1.mono E1.out.size)).alloc (Nat.le_trans E1.out.size hb1.size) (.cells #[.int .i64 ((t.kids[j]).sub F).op, .int .i64 ((t.kids[j]).sub F).n, .string ((t.kids[j]).sub F).s, .slice A3 ((t.kids[j]).sub F).kids.length c3] 64))
            have HG1 := HG.out.below B1.out (Nat.le_refl _)
            have how1 := GTy.own_mk (how.keep (S' := Btw wr.heap.size (w1.alloc (.cells #[.int .i64 ((t.kids[j]).sub F).op, .int .i64 ((t.kids[j]).sub F).n, .string ((t.kids[j]).sub F).s, .slice A3 ((t.kids[j]).sub F).kids.length c3] 64)).heap.size) (w' := w1.alloc (.cells #[.int .i64 ((t.kids[j]).sub F).op, .int .i64 ((t.kids[j]).sub F).n, .string ((t.kids[j]).sub F).s, .slice A3 ((t.kids[j]).sub F).kids.length c3] 64)) fun q hq => ⟨⟨Nat.le_trans E1.out.size hq.1, Nat.lt_of_lt_of_le hq.2 (by simp)⟩, Below.heap_alloc _ _ _ hq.2⟩)
            clear how hb1
            go_wp2_with (first | (at_builtin; refine wpList_append_D (w1.alloc (.cells #[.int .i64 ((t.kids[j]).sub F).op, .int .i64 ((t.kids[j]).sub F).n, .string ((t.kids[j]).sub F).s, .slice A3 ((t.kids[j]).sub F).kids.length c3] 64)) rfl (.tmp 44) (.tmp 46) 62 rfl 64 zTy 4 56 Try.underlying62 (by kernel_rfl) rfl (by omega) (w.heap.size + 2) wr.heap.size _ j _ HG1 ((t.kids[j]).sub F).toD [.int .i64 ((t.kids[j]).sub F).op, .int .i64 ((t.kids[j]).sub F).n, .string ((t.kids[j]).sub F).s, .slice A3 ((t.kids[j]).sub F).kids.length c3] how1 (by omega) B1.out.size rfl (by simp [Value.oneCell']) (by omega) (by omega) 64 rfl (w1.alloc (.cells #[.int .i64 ((t.kids[j]).sub F).op, .int .i64 ((t.kids[j]).sub F).n, .string ((t.kids[j]).sub F).s, .slice A3 ((t.kids[j]).sub F).kids.length c3] 64)).heap.size rfl (by simp [Act.eval]) ?_; intro g cap w2 G2 Bq2 hs2 hg2 hgl2))
            go_roundw
            case rel =>
              have X2 := (Bq2.mono (show w.heap.size ≤ w.heap.size + 2 by omega))
              exact ⟨j + 1, _, _, by omega, by go_num, rfl, Lib.hid (by rw [take_snoc' t.kids j hlt, List.map_append, List.map_append]; exact G2), Lib.hid ((HRa.out.below B1.out (by omega)).below Bq2 (by omega)), Lib.hid ((HRz.out.below B1.out (by omega)).below Bq2 (by omega)), (hbl.trans (B1.out.mono hsz)).trans X2⟩
            case measure => simp [intOf]; omega
          · have hjl : j = t.kids.length := by omega
            obtain ⟨A', c', eV, how⟩ := HG.out.osl
            obtain ⟨rfl, rfl⟩ : A = A' ∧ c = c' := by simpa using eV
            subst hjl
            rw [List.take_length] at how
            clear eV HG hlt hj
            obtain ⟨p0, p1, p2, -⟩ := T0.out
            have hca := fun i => HRa.out.cell i
            have hcz := fun i => HRz.out.cell i
            have hfa := fun i => HRa.out.frozen i
            have hfz := fun i => HRz.out.frozen i
            have B1 := setCells_below hbl w.heap.size 3 (Nat.le_refl _) [.slice A t.kids.length c]
            have BF := setCells_below B1 (w.heap.size + 1) 0 (by omega) [.int .i64 t.op, .int .i64 t.n, .string t.s, .slice A t.kids.length c]
            have SF : (setCells (setCells wr w.heap.size 3 [.slice A t.kids.length c]) (w.heap.size + 1) 0 [.int .i64 t.op, .int .i64 t.n, .string t.s, .slice A t.kids.length c]).heap.size = wr.heap.size := by rw [setCells_size, setCells_size]
            have how2 := how.keep (S' := Btw w.heap.size (setCells (setCells wr w.heap.size 3 [.slice A t.kids.length c]) (w.heap.size + 1) 0 [.int .i64 t.op, .int .i64 t.n, .string t.s, .slice A t.kids.length c]).heap.size) (w' := (setCells (setCells wr w.heap.size 3 [.slice A t.kids.length c]) (w.heap.size + 1) 0 [.int .i64 t.op, .int .i64 t.n, .string t.s, .slice A t.kids.length c])) fun q hq => ⟨⟨by have := hq.1; omega, by rw [SF]; exact hq.2⟩, (setCells_block _ _ _ _ _ (by have := hq.1; omega)).trans (setCells_block _ _ _ _ _ (by have := hq.1; omega))⟩
            have HOW := Lib.hid how2
            have HBF := Lib.hid BF
            have HS := Lib.hid (HN.out)
            clear how how2 BF B1 SF
            go_wp2_with fail
            exact bodyPost_ret (v := .agg #[.int .i64 t.op, .int .i64 t.n, .string t.s, .slice A t.kids.length c]) (by simp [results, Try.results99, go_sem, hca, hcz]) rfl ⟨A, c, by rw [HS.out]; simp [GTy.op, GTy.n, GTy.s, GTy.kids], by rw [HS.out]; exact ⟨p0, p1, p2, HOW.out⟩, HBF.out⟩

set_option maxRecDepth 20000 in
theorem specWith (vars : List Int) (Vl : Option Addr) (vc : Nat) (list : List GTy) (Tl : Option Addr) (tc : Nat) (t : GTy) (A1 : Option Addr) (c1 : Nat) (w : World) (h1 : t.bulk ≤ 1048576) (he : vars.length = list.length) (hl : bulkL GTy.bulk list ≤ 1048576)
    (hv : Sl w (Lt w.heap.size) 1 Vl vc (vars.map (D.num .i64))) (hs : Sl w (Lt w.heap.size) 4 Tl tc (list.map GTy.toD)) (hat : GTy.At w (Lt w.heap.size) A1 c1 t) :
    Calls Try.prog 120 #[.agg #[.int .i64 t.op, .int .i64 t.n, .string t.s, .slice A1 t.kids.length c1], .slice Vl vars.length vc, .slice Tl list.length tc] w (ToTy (t.sub (instOf vars list)) w) := by
  have hlen : list.length ≤ 1048576 := by have := bulkL_len GTy.bulk list; omega
  have HVs := Lib.hid hv
  have HSl := Lib.hid hs
  have HAT := Lib.hid hat
  have HE := Lib.hid he
  have HF := Lib.hid (show GTy.sub (bindOf (zipB vars list)) t = GTy.sub (instOf vars list) t from by rw [show bindOf (zipB vars list) = instOf vars list from funext fun n => bindOf_zip n vars list])
  have HZ := Lib.hid (Nat.le_trans (zipB_bulk vars list) hl)
  have hlv : vars.length ≤ 1048576 := by omega
  clear hv hs hat he
  obtain ⟨w0, e0⟩ : ∃ w0, w0 = ((w.alloc (.cells #[.int .i64 t.op, .int .i64 t.n, .string t.s, .slice A1 t.kids.length c1] 64)).alloc (.cells #[.int .i64 0, .int .i64 0, .string ⟨#[]⟩, .slice none 0 0] 64)).alloc (.cells #[] 147) := ⟨_, rfl⟩
  have B0 := Lib.hid (show Below w.heap.size w w0 by rw [e0]; exact (((Below.refl _ _).alloc (Nat.le_refl _) _).alloc (by simp) _).alloc (by simp; omega) _)
  have S0 : w0.heap.size = w.heap.size + 3 := by rw [e0]; simp
  have Ra0 := Lib.hid (show Row w0 w.heap.size 64 #[.int .i64 t.op, .int .i64 t.n, .string t.s, .slice A1 t.kids.length c1] by rw [e0]; exact ((Row.new' _ _ _ rfl).alloc _).alloc _)
  have Rz0 := Lib.hid (show Row w0 (w.heap.size + 1) 64 #[.int .i64 0, .int .i64 0, .string ⟨#[]⟩, .slice none 0 0] by rw [e0]; exact (Row.new' _ _ _ (by simp)).alloc _)
  have Re0 : Row w0 (w.heap.size + 1 + 1) 147 #[] := by rw [e0]; exact Row.new' _ _ _ (by simp)
  have G0 := Lib.hid (Gsh.made (B := w.heap.size + 2) (size := 5) Re0 (by omega))
  have hs0 : w.heap.size + 2 ≤ w0.heap.size := by omega
  clear S0 Re0
  go_enter Try.func120, Try.ntmps120
  go_wp2_with fail
  rw [← e0]
  clear e0
  go_loopw [7, 8] (fun v i wr => ∃ (j : Nat) (A : Option Addr) (c : Nat), j ≤ vars.length ∧ i = .int .i64 j ∧ v = .slice A j c ∧ Hid (Gsh wr (w.heap.size + 2) 147 5 (.slice A j c) j (((zipB vars list).take j).map GBind.toD)) ∧ Hid (Row wr w.heap.size 64 #[.int .i64 t.op, .int .i64 t.n, .string t.s, .slice A1 t.kids.length c1]) ∧ Hid (Row wr (w.heap.size + 1) 64 #[.int .i64 0, .int .i64 0, .string ⟨#[]⟩, .slice none 0 0]) ∧ w.heap.size + 2 ≤ wr.heap.size ∧ Below w.heap.size w wr) (fun _ i _ => vars.length - (intOf i).toNat)
  case atStart => exact ⟨0, _, _, by omega, by go_num, rfl, G0, Ra0, Rz0, hs0, B0.out⟩
  case round =>
    clear G0 Ra0 Rz0 hs0 B0
    obtain ⟨j, A, c, hj, rfl, rfl, HG, HRa, HRz, hs2, hbl⟩ := hrel
    have hsz := hbl.size
    by_cases hlt : j < vars.length
    · have hlt2 : j < list.length := by have := HE.out; omega
      obtain ⟨b, off, eA, hSb, g0, gw⟩ := int_elem (HVs.out.below hbl (Nat.le_refl _)) j hlt
      obtain ⟨b2, off2, A2, c2, eB, hSb2, q0, q1, q2, q3, hat⟩ := GTy.elem (HSl.out.below hbl (Nat.le_refl _)) j hlt2
      have HD := Lib.hid (show (GBind.mk vars[j] list[j]).toD.rd wr (Lt (w.heap.size + 2)) [.int .i64 vars[j], .int .i64 (list[j]).op, .int .i64 (list[j]).n, .string (list[j]).s, .slice A2 (list[j]).kids.length c2] from GBind.rd_mk ⟨gw, hat.keep fun x hx => ⟨Nat.lt_of_lt_of_le hx (by omega), rfl⟩⟩)
      have HZT := Lib.hid (zipB_take HE.out j hlt hlt2)
      subst eA eB
      clear hat gw
      go_wp2_with fail
      have HG1 := Lib.hid (show Gsh wr.drew (w.heap.size + 2) 147 5 (.slice A j c) j (((zipB vars list).take j).map GBind.toD) from HG.out.below (show Below wr.heap.size wr wr.drew from (Below.refl _ _).drew) hs2)
      have HD1 := Lib.hid (show (GBind.mk vars[j] list[j]).toD.rd wr.drew (Lt (w.heap.size + 2)) [.int .i64 vars[j], .int .i64 (list[j]).op, .int .i64 (list[j]).n, .string (list[j]).s, .slice A2 (list[j]).kids.length c2] from D.rd_keep (w := wr) (w' := wr.drew) (S := Lt (w.heap.size + 2)) (S' := Lt (w.heap.size + 2)) (fun x hx => ⟨hx, rfl⟩) _ _ HD.out)
      go_region_law (first
        | (refine step_append_S wr.drew rfl (.tmp 22) (.tmp 32) 89 rfl 147 (.agg #[.int .i64 0, .int .i64 0, .int .i64 0, .string ⟨#[]⟩, .slice none 0 0]) 5 64 Try.underlying89 (by kernel_rfl) rfl (by omega) (w.heap.size + 2) _ j _ HG1.out (GBind.mk vars[j] list[j]).toD [.int .i64 vars[j], .int .i64 (list[j]).op, .int .i64 (list[j]).n, .string (list[j]).s, .slice A2 (list[j]).kids.length c2] HD1.out hs2 rfl (by simp [Value.oneCell']) (by omega) (by omega) 147 rfl wr.heap.size rfl rfl ?_
           intro g cap w2 G2 Bq2 hs3 hg2 hgl2))
      all_goals
        go_wp2_with fail
        go_roundw
        case rel =>
          have X2 := hbl.drew.trans (Bq2.mono (show w.heap.size ≤ w.heap.size + 2 by omega))
          exact ⟨j + 1, _, _, by omega, by go_num, rfl, Lib.hid (by rw [HZT.out, List.map_append]; exact G2), Lib.hid (Row.below (w := wr.drew) HRa.out Bq2 (by omega)), Lib.hid (Row.below (w := wr.drew) HRz.out Bq2 (by omega)), Nat.le_trans hs2 hs3, X2⟩
        case measure => simp [intOf]; omega
    · have hjl : j = vars.length := by omega
      have hlt2 : ¬ j < list.length := by have := HE.out; omega
      subst hjl
      have hG := HG.out
      rw [show (zipB vars list).take vars.length = zipB vars list from by rw [← zipB_length HE.out, List.take_length]] at hG
      obtain ⟨A', c', eV, hsl⟩ := hG.sl hs2
      obtain ⟨rfl, rfl⟩ : A = A' ∧ c = c' := by simpa using eV
      have HSB := Lib.hid hsl
      have hzl := zipB_length HE.out
      have hca := fun i => HRa.out.cell i
      clear hG eV hsl HG
      have HAP := Lib.hid (specApply (t.bulk + 1) (zipB vars list) A c t A1 c1 wr (by omega) h1 HZ.out HSB.out (HAT.out.below hbl hsz))
      rw [hzl] at HAP
      clear hzl
      go_wp2_with fail
      refine HAP.out.mono ?_
      rintro e w2 ⟨A4, c4, rfl, how, hb2⟩
      have Rz2 := Lib.hid (HRz.out.below hb2 HRz.out.lt)
      have hcz := fun i => Rz2.out.cell i
      have hfz := fun i => Rz2.out.frozen i
      have B2 := hbl.trans (hb2.mono hsz)
      rw [HF.out] at how ⊢
      have SF : (setCells w2 (w.heap.size + 1) 0 [.int .i64 (t.sub (instOf vars list)).op, .int .i64 (t.sub (instOf vars list)).n, .string (t.sub (instOf vars list)).s, .slice A4 (t.sub (instOf vars list)).kids.length c4]).heap.size = w2.heap.size := setCells_size _ _ _ _
      have BF := Lib.hid (setCells_below B2 (w.heap.size + 1) 0 (by omega) [.int .i64 (t.sub (instOf vars list)).op, .int .i64 (t.sub (instOf vars list)).n, .string (t.sub (instOf vars list)).s, .slice A4 (t.sub (instOf vars list)).kids.length c4])
      have HOW := Lib.hid (how.keep (S' := Btw w.heap.size (setCells w2 (w.heap.size + 1) 0 [.int .i64 (t.sub (instOf vars list)).op, .int .i64 (t.sub (instOf vars list)).n, .string (t.sub (instOf vars list)).s, .slice A4 (t.sub (instOf vars list)).kids.length c4]).heap.size) (w' := setCells w2 (w.heap.size + 1) 0 [.int .i64 (t.sub (instOf vars list)).op, .int .i64 (t.sub (instOf vars list)).n, .string (t.sub (instOf vars list)).s, .slice A4 (t.sub (instOf vars list)).kids.length c4]) fun x hx => ⟨⟨Nat.le_trans hsz hx.1, by rw [SF]; exact hx.2⟩, setCells_block _ _ _ _ _ (by have := hx.1; omega)⟩)
      clear how hb2 B2 SF HAP hca
      go_wp2_with fail
      exact bodyPost_ret (v := .agg #[.int .i64 (t.sub (instOf vars list)).op, .int .i64 (t.sub (instOf vars list)).n, .string (t.sub (instOf vars list)).s, .slice A4 (t.sub (instOf vars list)).kids.length c4]) (by simp [results, Try.results120, go_sem, hcz]) rfl ⟨A4, c4, rfl, HOW.out, BF.out⟩

/-- Instance: what it gives -/
def instV (s : GScheme) (list : List GTy) : Option GTy := if list.length = s.vars.length then some (s.ty.sub (instOf s.vars list)) else none
def zeroT : GTy := .mk 0 0 ⟨#[]⟩ []
def instR (o : Option GTy) : GTy := match o with | some x => x | none => zeroT
def ToInst (o : Option GTy) (w : World) (e : Ending) (w' : World) : Prop := ∃ A1 c1, e = .returned (.tuple #[.agg #[.int .i64 (instR o).op, .int .i64 (instR o).n, .string (instR o).s, .slice A1 (instR o).kids.length c1], .bool o.isSome]) ∧ GTy.Ow w' (Btw w.heap.size w'.heap.size) A1 c1 (instR o) ∧ Below w.heap.size w w'
theorem zeroT_ow (w : World) (S : Nat → Prop) : GTy.Ow w S none 0 zeroT :=
  ⟨wfNat 0 (by omega), wfNat 0 (by omega), Nat.zero_le _, Osl.nil (by unfold maxLen; omega)⟩
theorem instR_bulk (s : GScheme) (list : List GTy) (h1 : s.bulk ≤ 1048576) (h2 : bulkL GTy.bulk list ≤ 1048576) : (instR (instV s list)).bulk ≤ 1099513724929 := by
  unfold instV
  split
  · have hb := s.bulk_eq
    have c := GTy.sub_bulk (instOf s.vars list) (bulkL GTy.bulk list) (fun n u h => instOf_bulk h) (s.ty.bulk + 1) s.ty (by omega)
    have d : (s.ty.bulk + 1) * (bulkL GTy.bulk list + 1) ≤ 1048577 * 1048577 := Nat.mul_le_mul (by omega) (by omega)
    simp only [instR]
    omega
  · exact Nat.zero_le _

set_option maxRecDepth 20000 in
theorem specInstance (s : GScheme) (A1 : Option Addr) (c1 : Nat) (A2 : Option Addr) (c2 : Nat) (list : List GTy) (Tl : Option Addr) (tc : Nat) (w : World) (h1 : s.bulk ≤ 1048576) (hl : bulkL GTy.bulk list ≤ 1048576) (hs : GScheme.At w (Lt w.heap.size) A1 c1 A2 c2 s) (ht : Sl w (Lt w.heap.size) 4 Tl tc (list.map GTy.toD)) :
    Calls Try.prog 64 #[.agg #[.slice A1 s.vars.length c1, .int .i64 s.ty.op, .int .i64 s.ty.n, .string s.ty.s, .slice A2 s.ty.kids.length c2], .slice Tl list.length tc] w (ToInst (instV s list) w) := by
  have hbe := s.bulk_eq
  have hsb : s.ty.bulk ≤ 1048576 := by omega
  have hv1 : s.vars.length ≤ 1048576 := by omega
  have hl1 : list.length ≤ 1048576 := by have := bulkL_len GTy.bulk list; omega
  clear hbe
  obtain ⟨w0, e0⟩ : ∃ w0, w0 = (w.alloc (.cells #[.slice A1 s.vars.length c1, .int .i64 s.ty.op, .int .i64 s.ty.n, .string s.ty.s, .slice A2 s.ty.kids.length c2] 102)).alloc (.cells #[.int .i64 0, .int .i64 0, .string ⟨#[]⟩, .slice none 0 0] 64) := ⟨_, rfl⟩
  have B0 := Lib.hid (show Below w.heap.size w w0 by rw [e0]; exact ((Below.refl _ _).alloc (Nat.le_refl _) _).alloc (by simp) _)
  have S0 : w.heap.size + 2 ≤ w0.heap.size := by rw [e0]; simp
  have Ra0 := Lib.hid (show Row w0 w.heap.size 102 #[.slice A1 s.vars.length c1, .int .i64 s.ty.op, .int .i64 s.ty.n, .string s.ty.s, .slice A2 s.ty.kids.length c2] by rw [e0]; exact (Row.new' _ _ _ rfl).alloc _)
  have Rz0 := Lib.hid (show Row w0 (w.heap.size + 1) 64 #[.int .i64 0, .int .i64 0, .string ⟨#[]⟩, .slice none 0 0] by rw [e0]; exact Row.new' _ _ _ (by simp))
  have HAT := hs.below B0.out B0.out.size
  have HV := Lib.hid HAT.1
  have HY := Lib.hid HAT.2
  have HT := Lib.hid (ht.below B0.out B0.out.size)
  have HL := Lib.hid hl
  have hcz := fun i => Rz0.out.cell i
  have hca := fun i => Ra0.out.cell i
  have hfz := fun i => Rz0.out.frozen i
  clear HAT hs ht hl
  by_cases he : list.length = s.vars.length
  · have HI := Lib.hid (show instV s list = some (s.ty.sub (instOf s.vars list)) from if_pos he)
    have HE := Lib.hid he.symm
    have he2 : ((list.length : Int) != (s.vars.length : Int)) = false := by rw [bne_eq_false_iff_eq]; omega
    clear he
    go_enter Try.func64, Try.ntmps64
    go_wp2_with fail
    rw [← e0]
    clear e0
    refine (specWith s.vars A1 c1 list Tl tc s.ty A2 c2 _ hsb HE.out HL.out HV.out HT.out HY.out).mono ?_
    rintro e w2 ⟨A4, c4, rfl, how, hb2⟩
    have Rz2 := Lib.hid (Rz0.out.below hb2 Rz0.out.lt)
    clear hcz hfz hca
    have hcz := fun i => Rz2.out.cell i
    have hfz := fun i => Rz2.out.frozen i
    have B2 := B0.out.trans (hb2.mono B0.out.size)
    have SF : (setCells w2 (w.heap.size + 1) 0 [.int .i64 (s.ty.sub (instOf s.vars list)).op, .int .i64 (s.ty.sub (instOf s.vars list)).n, .string (s.ty.sub (instOf s.vars list)).s, .slice A4 (s.ty.sub (instOf s.vars list)).kids.length c4]).heap.size = w2.heap.size := setCells_size _ _ _ _
    have BF := Lib.hid (setCells_below B2 (w.heap.size + 1) 0 (by omega) [.int .i64 (s.ty.sub (instOf s.vars list)).op, .int .i64 (s.ty.sub (instOf s.vars list)).n, .string (s.ty.sub (instOf s.vars list)).s, .slice A4 (s.ty.sub (instOf s.vars list)).kids.length c4])
    have HOW := Lib.hid (how.keep (S' := Btw w.heap.size (setCells w2 (w.heap.size + 1) 0 [.int .i64 (s.ty.sub (instOf s.vars list)).op, .int .i64 (s.ty.sub (instOf s.vars list)).n, .string (s.ty.sub (instOf s.vars list)).s, .slice A4 (s.ty.sub (instOf s.vars list)).kids.length c4]).heap.size) (w' := setCells w2 (w.heap.size + 1) 0 [.int .i64 (s.ty.sub (instOf s.vars list)).op, .int .i64 (s.ty.sub (instOf s.vars list)).n, .string (s.ty.sub (instOf s.vars list)).s, .slice A4 (s.ty.sub (instOf s.vars list)).kids.length c4]) fun x hx => ⟨⟨Nat.le_trans B0.out.size hx.1, by rw [SF]; exact hx.2⟩, setCells_block _ _ _ _ _ (by have := hx.1; omega)⟩)
    clear how hb2 B2 SF
    go_wp2_with fail
    exact bodyPost_ret (v := .tuple #[.agg #[.int .i64 (s.ty.sub (instOf s.vars list)).op, .int .i64 (s.ty.sub (instOf s.vars list)).n, .string (s.ty.sub (instOf s.vars list)).s, .slice A4 (s.ty.sub (instOf s.vars list)).kids.length c4], .bool true]) (by simp [results, Try.results64, go_sem, hcz]) rfl ⟨A4, c4, by rw [HI.out]; rfl, by rw [HI.out]; exact HOW.out, BF.out⟩
  · have HI := Lib.hid (show instV s list = none from if_neg he)
    have he2 : ((list.length : Int) != (s.vars.length : Int)) = true := by rw [bne_iff_ne]; omega
    clear he
    go_enter Try.func64, Try.ntmps64
    go_wp2_with fail
    rw [← e0]
    exact bodyPost_ret (v := .tuple #[.agg #[.int .i64 0, .int .i64 0, .string ⟨#[]⟩, .slice none 0 0], .bool false]) (by simp [results, Try.results64, go_sem, hcz]) rfl ⟨none, 0, by rw [HI.out]; rfl, by rw [HI.out]; exact zeroT_ow _ _, B0.out⟩

set_option maxRecDepth 20000 in
theorem implInstance (s : GScheme) (A1 : Option Addr) (c1 : Nat) (A2 : Option Addr) (c2 : Nat) (list : List GTy) (Tl : Option Addr) (tc : Nat) (w : World) (h1 : s.bulk ≤ 1048576) (hl : bulkL GTy.bulk list ≤ 1048576) (hs : GScheme.At w (Lt w.heap.size) A1 c1 A2 c2 s) (ht : Sl w (Lt w.heap.size) 4 Tl tc (list.map GTy.toD)) :
    Calls Try.prog 67 #[.agg #[.slice A1 s.vars.length c1, .int .i64 s.ty.op, .int .i64 s.ty.n, .string s.ty.s, .slice A2 s.ty.kids.length c2], .slice Tl list.length tc] w (ToInst (instV s list) w) := by
  have hbe := s.bulk_eq
  have hsb : s.ty.bulk ≤ 1048576 := by omega
  have hv1 : s.vars.length ≤ 1048576 := by omega
  have hl1 : list.length ≤ 1048576 := by have := bulkL_len GTy.bulk list; omega
  clear hbe
  obtain ⟨w0, e0⟩ : ∃ w0, w0 = (w.alloc (.cells #[.slice A1 s.vars.length c1, .int .i64 s.ty.op, .int .i64 s.ty.n, .string s.ty.s, .slice A2 s.ty.kids.length c2] 102)).alloc (.cells #[.int .i64 0, .int .i64 0, .string ⟨#[]⟩, .slice none 0 0] 64) := ⟨_, rfl⟩
  have B0 := Lib.hid (show Below w.heap.size w w0 by rw [e0]; exact ((Below.refl _ _).alloc (Nat.le_refl _) _).alloc (by simp) _)
  have S0 : w.heap.size + 2 ≤ w0.heap.size := by rw [e0]; simp
  have Ra0 := Lib.hid (show Row w0 w.heap.size 102 #[.slice A1 s.vars.length c1, .int .i64 s.ty.op, .int .i64 s.ty.n, .string s.ty.s, .slice A2 s.ty.kids.length c2] by rw [e0]; exact (Row.new' _ _ _ rfl).alloc _)
  have Rz0 := Lib.hid (show Row w0 (w.heap.size + 1) 64 #[.int .i64 0, .int .i64 0, .string ⟨#[]⟩, .slice none 0 0] by rw [e0]; exact Row.new' _ _ _ (by simp))
  have HAT := hs.below B0.out B0.out.size
  have HV := Lib.hid HAT.1
  have HY := Lib.hid HAT.2
  have HT := Lib.hid (ht.below B0.out B0.out.size)
  have HL := Lib.hid hl
  have hcz := fun i => Rz0.out.cell i
  have hca := fun i => Ra0.out.cell i
  have hfz := fun i => Rz0.out.frozen i
  clear HAT hs ht hl
  by_cases he : list.length = s.vars.length
  · have HI := Lib.hid (show instV s list = some (s.ty.sub (instOf s.vars list)) from if_pos he)
    have HE := Lib.hid he.symm
    have he2 : ((list.length : Int) != (s.vars.length : Int)) = false := by rw [bne_eq_false_iff_eq]; omega
    clear he
    go_enter Try.func67, Try.ntmps67
    go_wp2_with fail
    rw [← e0]
    clear e0
    refine (implInst (s.ty.bulk + 1) s.vars A1 c1 list Tl tc s.ty A2 c2 _ (by omega) hsb HE.out HL.out HV.out HT.out HY.out).mono ?_
    rintro e w2 ⟨A4, c4, rfl, how, hb2⟩
    have Rz2 := Lib.hid (Rz0.out.below hb2 Rz0.out.lt)
    clear hcz hfz hca
    have hcz := fun i => Rz2.out.cell i
    have hfz := fun i => Rz2.out.frozen i
    have B2 := B0.out.trans (hb2.mono B0.out.size)
    have SF : (setCells w2 (w.heap.size + 1) 0 [.int .i64 (s.ty.sub (instOf s.vars list)).op, .int .i64 (s.ty.sub (instOf s.vars list)).n, .string (s.ty.sub (instOf s.vars list)).s, .slice A4 (s.ty.sub (instOf s.vars list)).kids.length c4]).heap.size = w2.heap.size := setCells_size _ _ _ _
    have BF := Lib.hid (setCells_below B2 (w.heap.size + 1) 0 (by omega) [.int .i64 (s.ty.sub (instOf s.vars list)).op, .int .i64 (s.ty.sub (instOf s.vars list)).n, .string (s.ty.sub (instOf s.vars list)).s, .slice A4 (s.ty.sub (instOf s.vars list)).kids.length c4])
    have HOW := Lib.hid (how.keep (S' := Btw w.heap.size (setCells w2 (w.heap.size + 1) 0 [.int .i64 (s.ty.sub (instOf s.vars list)).op, .int .i64 (s.ty.sub (instOf s.vars list)).n, .string (s.ty.sub (instOf s.vars list)).s, .slice A4 (s.ty.sub (instOf s.vars list)).kids.length c4]).heap.size) (w' := setCells w2 (w.heap.size + 1) 0 [.int .i64 (s.ty.sub (instOf s.vars list)).op, .int .i64 (s.ty.sub (instOf s.vars list)).n, .string (s.ty.sub (instOf s.vars list)).s, .slice A4 (s.ty.sub (instOf s.vars list)).kids.length c4]) fun x hx => ⟨⟨Nat.le_trans B0.out.size hx.1, by rw [SF]; exact hx.2⟩, setCells_block _ _ _ _ _ (by have := hx.1; omega)⟩)
    clear how hb2 B2 SF
    go_wp2_with fail
    exact bodyPost_ret (v := .tuple #[.agg #[.int .i64 (s.ty.sub (instOf s.vars list)).op, .int .i64 (s.ty.sub (instOf s.vars list)).n, .string (s.ty.sub (instOf s.vars list)).s, .slice A4 (s.ty.sub (instOf s.vars list)).kids.length c4], .bool true]) (by simp [results, Try.results67, go_sem, hcz]) rfl ⟨A4, c4, by rw [HI.out]; rfl, by rw [HI.out]; exact HOW.out, BF.out⟩
  · have HI := Lib.hid (show instV s list = none from if_neg he)
    have he2 : ((list.length : Int) != (s.vars.length : Int)) = true := by rw [bne_iff_ne]; omega
    clear he
    go_enter Try.func67, Try.ntmps67
    go_wp2_with fail
    rw [← e0]
    exact bodyPost_ret (v := .tuple #[.agg #[.int .i64 0, .int .i64 0, .string ⟨#[]⟩, .slice none 0 0], .bool false]) (by simp [results, Try.results67, go_sem, hcz]) rfl ⟨none, 0, by rw [HI.out]; rfl, by rw [HI.out]; exact zeroT_ow _ _, B0.out⟩

end Go.Proofs.Ytnjindgpmacjmaa
