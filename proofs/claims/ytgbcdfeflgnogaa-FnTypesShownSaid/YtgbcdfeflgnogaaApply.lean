/- Apply: what a substitution makes of a type, in the program and in the reference. Conditions: none but a bound on the sizes. -/
import Derived.Test.YtgbcdfeflgnogaaCTy
import Derived.Test.YtgbcdfeflgnogaaABind
import Derived.Test.YtgbcdfeflgnogaaFBind
import Derived.Test.YtgbcdfeflgnogaaSubP
namespace Go.Proofs.Ytgbcdfeflgnogaa
open Go.RowKit
set_option linter.unusedVariables false
set_option linter.unusedSimpArgs false
set_option maxHeartbeats 1000000

theorem specBindAt (l : List GBind) (A : Option Addr) (c : Nat) (n : Int) (w : World) (hs : Sl w (Lt w.heap.size) 5 A c (l.map GBind.toD)) :
    Calls Try.prog 125 #[.slice A l.length c, .int .i64 n] w fun e w' => e = .returned (.int .i64 (idxI (fun b : GBind => b.n == n) l)) ∧ Below w.heap.size w w' := by
  have hlen : l.length ≤ 9223372036854775807 := by simpa using hs.len
  have S0 := Lib.hid hs
  clear hs
  go_enter Try.func125, Try.ntmps125
  go_wp2_with fail
  go_loopw [5] (fun i wr => ∃ (j : Nat), j ≤ l.length ∧ i = .int .i64 j ∧ Hid (noneTo (fun b : GBind => b.n == n) l j) ∧ Below w.heap.size w wr) (fun i _ => l.length - (intOf i).toNat)
  case atStart => exact ⟨0, by omega, by go_num, Lib.hid (noneTo_zero _ _), Below.refl _ _⟩
  case round =>
    obtain ⟨j, hj, rfl, HN, hbl⟩ := hrel
    by_cases hlt : j < l.length
    · obtain ⟨b, off, A1, c1, rfl, hSb, g0, _, _, _, _, _⟩ := GBind.elem (S0.out.below hbl (Nat.le_refl _)) j hlt
      cases he : ((l[j]).n == n) with
      | true =>
        have HV := Lib.hid (idxI_at HN.out hlt he)
        go_wp2_with fail
        go_ret
        exact ⟨ret_int HV.out.symm, hbl⟩
      | false =>
        have HN2 := Lib.hid (noneTo_succ HN.out hlt he)
        go_wp2_with fail
        go_roundw
        case rel => exact ⟨j + 1, by omega, by go_num, HN2, hbl⟩
        case measure => simp [intOf]; omega
    · have hjl : j = l.length := by omega
      have HV := Lib.hid (idxI_none (hjl ▸ HN.out))
      clear hjl
      go_wp2_with fail
      go_ret
      exact ⟨ret_int HV.out.symm, hbl⟩

theorem implBindAt1 (n : Int) (b : Nat) (x : GBind) (A1 : Option Addr) (c1 : Nat) (w : World) (hc : w.cell? ⟨b, 0, none⟩ = some (.int .i64 n)) (hb : b < w.heap.size) :
    Calls Try.prog 210 #[.agg #[.int .i64 x.n, .int .i64 x.ty.op, .int .i64 x.ty.n, .string x.ty.s, .slice A1 x.ty.kids.length c1], .pointer (some ⟨b, 0, none⟩)] w fun e w' => e = .returned (.bool (x.n == n)) ∧ Below w.heap.size w w' := by
  have E : Below w.heap.size w (w.alloc (.cells #[.int .i64 x.n, .int .i64 x.ty.op, .int .i64 x.ty.n, .string x.ty.s, .slice A1 x.ty.kids.length c1] 70)) := (Below.refl _ _).alloc (Nat.le_refl _) _
  have hc2 := (E.cell (p := ⟨b, 0, none⟩) hb).trans hc
  go_enter Try.func210, Try.ntmps210
  go_wp2_with fail
  go_ret
  exact ⟨rfl, E⟩

theorem implBindAt (l : List GBind) (A : Option Addr) (c : Nat) (n : Int) (w : World) (hs : Sl w (Lt w.heap.size) 5 A c (l.map GBind.toD)) :
    Calls Try.prog 122 #[.slice A l.length c, .int .i64 n] w fun e w' => e = .returned (.int .i64 (idxI (fun b : GBind => b.n == n) l)) ∧ Below w.heap.size w w' := by
  have E0 := Lib.hid (show Below w.heap.size w (w.alloc (.cells #[.int .i64 n] 3)) from (Below.refl _ _).alloc (Nat.le_refl _) _)
  have R0 := Lib.hid (Row.new w 3 #[.int .i64 n])
  have S0 := Lib.hid hs
  clear hs
  go_enter Try.func122, Try.ntmps122
  go_wp2_with fail
  refine (indexFuncBind 210 (enters Try.func210 (by kernel_rfl) (by kernel_rfl)) #[.pointer (some ⟨w.heap.size, 0, none⟩)] (fun x => x.n == n) l A c _ (S0.out.below E0.out E0.out.size)
    (fun x hx A2 c2 w2 hb2 hat2 => by
      have R2 := R0.out.below hb2 R0.out.lt
      exact implBindAt1 n w.heap.size x A2 c2 w2 (R2.cell 0) R2.lt)).mono ?_
  rintro e w2 ⟨rfl, hb2⟩
  go_wp2_with fail
  go_ret
  exact ⟨rfl, E0.out.trans (hb2.mono E0.out.size)⟩

set_option maxRecDepth 20000 in
theorem implApply (k : Nat) : ∀ (l : List GBind) (Bl : Option Addr) (bc : Nat) (t : GTy) (A1 : Option Addr) (c1 : Nat) (w : World), t.bulk < k → t.bulk ≤ 1048576 → bulkL GBind.bulk l ≤ 1048576 → Sl w (Lt w.heap.size) 5 Bl bc (l.map GBind.toD) → GTy.At w (Lt w.heap.size) A1 c1 t →
    Calls Try.prog 43 #[.slice Bl l.length bc, .agg #[.int .i64 t.op, .int .i64 t.n, .string t.s, .slice A1 t.kids.length c1]] w (ToTy (t.sub (bindOf l)) w) := by
  induction k with
  | zero => intros; omega
  | succ k ih =>
    intro l Bl bc t A1 c1 w hk h1 hl hs hat
    have hbe := t.bulk_eq
    have hlen : t.kids.length ≤ 1048576 := by have := bulkL_len GTy.bulk t.kids; omega
    obtain ⟨F, hF⟩ : ∃ F, F = bindOf l := ⟨_, rfl⟩
    have HF := Lib.hid hF
    have HH := Lib.hid (fun (j : Nat) (h : j < t.kids.length) (A1 : Option Addr) (c1 : Nat) (w : World) => ih l Bl bc t.kids[j] A1 c1 w (by have := bulkL_mem GTy.bulk t.kids _ (List.getElem_mem h); omega) (by have := bulkL_mem GTy.bulk t.kids _ (List.getElem_mem h); omega))
    rw [← hF] at HH ⊢
    have HSl := Lib.hid hs
    have HL := Lib.hid hl
    have T0 := Lib.hid hat
    clear ih hbe hk h1 hat hF hs hl
    have E0 := Lib.hid (show Below w.heap.size w ((w.alloc (.cells #[.int .i64 t.op, .int .i64 t.n, .string t.s, .slice A1 t.kids.length c1] 59)).alloc (.cells #[.int .i64 0, .int .i64 0, .string ⟨#[]⟩, .slice none 0 0] 59)) from ((Below.refl _ _).alloc (Nat.le_refl _) _).alloc (by simp) _)
    have S0 : w.heap.size + 2 ≤ ((w.alloc (.cells #[.int .i64 t.op, .int .i64 t.n, .string t.s, .slice A1 t.kids.length c1] 59)).alloc (.cells #[.int .i64 0, .int .i64 0, .string ⟨#[]⟩, .slice none 0 0] 59)).heap.size := by simp
    have Ra0 := Lib.hid ((Row.new' w 59 #[.int .i64 t.op, .int .i64 t.n, .string t.s, .slice A1 t.kids.length c1] (g := w.heap.size) rfl).alloc (.cells #[.int .i64 0, .int .i64 0, .string ⟨#[]⟩, .slice none 0 0] 59))
    have Rz0 := Lib.hid (Row.new' (w.alloc (.cells #[.int .i64 t.op, .int .i64 t.n, .string t.s, .slice A1 t.kids.length c1] 59)) 59 #[.int .i64 0, .int .i64 0, .string ⟨#[]⟩, .slice none 0 0] (g := w.heap.size + 1) (by simp))
    cases o2 : (t.op == 2)
    · have ho2 : ¬ t.op = 2 := by simpa using o2
      have HN := Lib.hid (show t.sub F = _ from GTy.sub_none (.inl (fun e => ho2 e.1)))
      clear ho2
      go_enter Try.func43, Try.ntmps43
      obtain ⟨w0, e0⟩ : ∃ w0, w0 = ((w.alloc (.cells #[.int .i64 t.op, .int .i64 t.n, .string t.s, .slice A1 t.kids.length c1] 59)).alloc (.cells #[.int .i64 0, .int .i64 0, .string ⟨#[]⟩, .slice none 0 0] 59)).alloc (.cells #[] 59) := ⟨_, rfl⟩
      have HB0 := Lib.hid (show Below w.heap.size w w0 by rw [e0]; exact E0.out.alloc E0.out.size _)
      have HRa0 := Lib.hid (show Row w0 w.heap.size 59 #[.int .i64 t.op, .int .i64 t.n, .string t.s, .slice A1 t.kids.length c1] by rw [e0]; exact Ra0.out.alloc _)
      have HRz0 := Lib.hid (show Row w0 (w.heap.size + 1) 59 #[.int .i64 0, .int .i64 0, .string ⟨#[]⟩, .slice none 0 0] by rw [e0]; exact Rz0.out.alloc _)
      have G0 := Lib.hid (show Gow w0 (w.heap.size + 2) w0.heap.size 59 4 (.slice (some ⟨w.heap.size + 1 + 1, 0, none⟩) 0 0) 0 [] by rw [e0]; exact Gow.made (Row.new' _ _ _ (by simp)) (by omega) (by simp))
      go_wp2_with fail
      rw [← e0]
      clear e0
      go_loopw [6, 35] (fun v i wr => ∃ (j : Nat) (A : Option Addr) (c : Nat), j ≤ t.kids.length ∧ i = .int .i64 j ∧ v = .slice A j c ∧ Hid (Gow wr (w.heap.size + 2) wr.heap.size 59 4 (.slice A j c) j (((t.kids.take j).map (GTy.sub F)).map GTy.toD)) ∧ Hid (Row wr w.heap.size 59 #[.int .i64 t.op, .int .i64 t.n, .string t.s, .slice A1 t.kids.length c1]) ∧ Hid (Row wr (w.heap.size + 1) 59 #[.int .i64 0, .int .i64 0, .string ⟨#[]⟩, .slice none 0 0]) ∧ Below w.heap.size w wr) (fun _ i _ => t.kids.length - (intOf i).toNat)
      case atStart => exact ⟨0, _, _, by omega, by go_num, rfl, G0, HRa0, HRz0, HB0.out⟩
      case round =>
        clear G0 HRa0 HRz0 HB0
        obtain ⟨j, A, c, hj, rfl, rfl, HG, HRa, HRz, hbl⟩ := hrel
        have hsz := hbl.size
        have hzl := HRz.out.lt
        by_cases hlt : j < t.kids.length
        · obtain ⟨b, off, A2, c2, eA, hSb, g0, g1, g2, g3, hat⟩ := GTy.elem (T0.out.below hbl (Nat.le_refl _)).2.2.2 j hlt
          have E1 := Lib.hid (show Below wr.heap.size wr (wr.alloc (.cells #[.int .i64 (t.kids[j]).op, .int .i64 (t.kids[j]).n, .string (t.kids[j]).s, .slice A2 (t.kids[j]).kids.length c2] 59)) from (Below.refl _ _).alloc (Nat.le_refl _) _)
          have HA := Lib.hid (hat.keep (S' := Lt (wr.alloc (.cells #[.int .i64 (t.kids[j]).op, .int .i64 (t.kids[j]).n, .string (t.kids[j]).s, .slice A2 (t.kids[j]).kids.length c2] 59)).heap.size) (w' := wr.alloc (.cells #[.int .i64 (t.kids[j]).op, .int .i64 (t.kids[j]).n, .string (t.kids[j]).s, .slice A2 (t.kids[j]).kids.length c2] 59)) fun q hq => ⟨Nat.lt_of_lt_of_le hq (Nat.le_trans hsz E1.out.size), Below.heap_alloc _ _ _ (Nat.lt_of_lt_of_le hq hsz)⟩)
          have HS2 := Lib.hid (HSl.out.below (show Below w.heap.size w (wr.alloc (.cells #[.int .i64 (t.kids[j]).op, .int .i64 (t.kids[j]).n, .string (t.kids[j]).s, .slice A2 (t.kids[j]).kids.length c2] 59)) from (hbl.alloc hsz _)) (Nat.le_trans hsz E1.out.size))
          clear hat
          subst eA
          go_wp2_with fail
          refine (HH.out j hlt A2 c2 _ HL.out HS2.out HA.out).mono ?_
          rintro e w1 ⟨A3, c3, rfl, how, hb1⟩
          have B1 := Lib.hid ((E1.out.trans (hb1.mono E1.out.size)).alloc (Nat.le_trans E1.out.size hb1.size) (.cells #[.int .i64 ((t.kids[j]).sub F).op, .int .i64 ((t.kids[j]).sub F).n, .string ((t.kids[j]).sub F).s, .slice A3 ((t.kids[j]).sub F).kids.length c3] 59))
          have HG1 := HG.out.below B1.out (Nat.le_refl _)
          have how1 := GTy.own_mk (how.keep (S' := Btw wr.heap.size (w1.alloc (.cells #[.int .i64 ((t.kids[j]).sub F).op, .int .i64 ((t.kids[j]).sub F).n, .string ((t.kids[j]).sub F).s, .slice A3 ((t.kids[j]).sub F).kids.length c3] 59)).heap.size) (w' := w1.alloc (.cells #[.int .i64 ((t.kids[j]).sub F).op, .int .i64 ((t.kids[j]).sub F).n, .string ((t.kids[j]).sub F).s, .slice A3 ((t.kids[j]).sub F).kids.length c3] 59)) fun q hq => ⟨⟨Nat.le_trans E1.out.size hq.1, Nat.lt_of_lt_of_le hq.2 (by simp)⟩, Below.heap_alloc _ _ _ hq.2⟩)
          clear how hb1
          go_wp2_with (first | (at_builtin; refine wpList_append_D (w1.alloc (.cells #[.int .i64 ((t.kids[j]).sub F).op, .int .i64 ((t.kids[j]).sub F).n, .string ((t.kids[j]).sub F).s, .slice A3 ((t.kids[j]).sub F).kids.length c3] 59)) rfl (.tmp 42) (.tmp 44) 57 rfl 59 zTy 4 56 Try.underlying57 (by kernel_rfl) rfl (by omega) (w.heap.size + 2) wr.heap.size _ j _ HG1 ((t.kids[j]).sub F).toD [.int .i64 ((t.kids[j]).sub F).op, .int .i64 ((t.kids[j]).sub F).n, .string ((t.kids[j]).sub F).s, .slice A3 ((t.kids[j]).sub F).kids.length c3] how1 (by omega) B1.out.size rfl (by simp [Value.oneCell']) (by omega) (by omega) 59 rfl (w1.alloc (.cells #[.int .i64 ((t.kids[j]).sub F).op, .int .i64 ((t.kids[j]).sub F).n, .string ((t.kids[j]).sub F).s, .slice A3 ((t.kids[j]).sub F).kids.length c3] 59)).heap.size rfl (by simp [Act.eval]) ?_; intro g cap w2 G2 Bq2 hs2 hg2 hgl2))
          go_roundw
          case rel =>
            have X2 := (Bq2.mono (show w.heap.size ≤ w.heap.size + 2 by omega))
            exact ⟨j + 1, _, _, by omega, by go_num, rfl, Lib.hid (by rw [take_snoc' t.kids j hlt, List.map_append, List.map_append]; exact G2), Lib.hid ((HRa.out.below B1.out (by omega)).below Bq2 (by omega)), Lib.hid ((HRz.out.below B1.out (by omega)).below Bq2 (by omega)), (hbl.trans (B1.out.mono hsz)).trans X2⟩
          case measure => simp [intOf]; omega
        · have hjl : j = t.kids.length := by omega
          obtain ⟨A', c', eV, how⟩ := HG.out.osl
          obtain ⟨rfl, rfl⟩ : A = A' ∧ c = c' := by simpa using eV
          subst hjl
          rw [List.take_length] at how
          clear eV HG hlt hj
          obtain ⟨p0, p1, p2, -⟩ := T0.out
          have hca := fun i => HRa.out.cell i
          have hcz := fun i => HRz.out.cell i
          have hfa := fun i => HRa.out.frozen i
          have hfz := fun i => HRz.out.frozen i
          have B1 := setCells_below hbl w.heap.size 3 (Nat.le_refl _) [.slice A t.kids.length c]
          have BF := setCells_below B1 (w.heap.size + 1) 0 (by omega) [.int .i64 t.op, .int .i64 t.n, .string t.s, .slice A t.kids.length c]
          have SF : (setCells (setCells wr w.heap.size 3 [.slice A t.kids.length c]) (w.heap.size + 1) 0 [.int .i64 t.op, .int .i64 t.n, .string t.s, .slice A t.kids.length c]).heap.size = wr.heap.size := by rw [setCells_size, setCells_size]
          have how2 := how.keep (S' := Btw w.heap.size (setCells (setCells wr w.heap.size 3 [.slice A t.kids.length c]) (w.heap.size + 1) 0 [.int .i64 t.op, .int .i64 t.n, .string t.s, .slice A t.kids.length c]).heap.size) (w' := (setCells (setCells wr w.heap.size 3 [.slice A t.kids.length c]) (w.heap.size + 1) 0 [.int .i64 t.op, .int .i64 t.n, .string t.s, .slice A t.kids.length c])) fun q hq => ⟨⟨by have := hq.1; omega, by rw [SF]; exact hq.2⟩, (setCells_block _ _ _ _ _ (by have := hq.1; omega)).trans (setCells_block _ _ _ _ _ (by have := hq.1; omega))⟩
          have HOW := Lib.hid how2
          have HBF := Lib.hid BF
          have HS := Lib.hid (HN.out)
          clear how how2 BF B1 SF
          go_wp2_with fail
          exact bodyPost_ret (v := .agg #[.int .i64 t.op, .int .i64 t.n, .string t.s, .slice A t.kids.length c]) (by simp [results, Try.results43, go_sem, hca, hcz]) rfl ⟨A, c, by rw [HS.out]; simp [GTy.op, GTy.n, GTy.s, GTy.kids], by rw [HS.out]; exact ⟨p0, p1, p2, HOW.out⟩, HBF.out⟩
    · have ho2 : t.op = 2 := by simpa using o2
      by_cases hk : t.kids.length = 0
      rotate_left
      · have hk2 : ((t.kids.length : Int) == 0) = false := by rw [beq_eq_false_iff_ne]; omega
        have HN := Lib.hid (show t.sub F = _ from GTy.sub_none (.inl (fun e => hk e.2)))
        clear ho2 hk
        go_enter Try.func43, Try.ntmps43
        obtain ⟨w0, e0⟩ : ∃ w0, w0 = ((w.alloc (.cells #[.int .i64 t.op, .int .i64 t.n, .string t.s, .slice A1 t.kids.length c1] 59)).alloc (.cells #[.int .i64 0, .int .i64 0, .string ⟨#[]⟩, .slice none 0 0] 59)).alloc (.cells #[] 59) := ⟨_, rfl⟩
        have HB0 := Lib.hid (show Below w.heap.size w w0 by rw [e0]; exact E0.out.alloc E0.out.size _)
        have HRa0 := Lib.hid (show Row w0 w.heap.size 59 #[.int .i64 t.op, .int .i64 t.n, .string t.s, .slice A1 t.kids.length c1] by rw [e0]; exact Ra0.out.alloc _)
        have HRz0 := Lib.hid (show Row w0 (w.heap.size + 1) 59 #[.int .i64 0, .int .i64 0, .string ⟨#[]⟩, .slice none 0 0] by rw [e0]; exact Rz0.out.alloc _)
        have G0 := Lib.hid (show Gow w0 (w.heap.size + 2) w0.heap.size 59 4 (.slice (some ⟨w.heap.size + 1 + 1, 0, none⟩) 0 0) 0 [] by rw [e0]; exact Gow.made (Row.new' _ _ _ (by simp)) (by omega) (by simp))
        go_wp2_with fail
        rw [← e0]
        clear e0
        go_loopw [6, 35] (fun v i wr => ∃ (j : Nat) (A : Option Addr) (c : Nat), j ≤ t.kids.length ∧ i = .int .i64 j ∧ v = .slice A j c ∧ Hid (Gow wr (w.heap.size + 2) wr.heap.size 59 4 (.slice A j c) j (((t.kids.take j).map (GTy.sub F)).map GTy.toD)) ∧ Hid (Row wr w.heap.size 59 #[.int .i64 t.op, .int .i64 t.n, .string t.s, .slice A1 t.kids.length c1]) ∧ Hid (Row wr (w.heap.size + 1) 59 #[.int .i64 0, .int .i64 0, .string ⟨#[]⟩, .slice none 0 0]) ∧ Below w.heap.size w wr) (fun _ i _ => t.kids.length - (intOf i).toNat)
        case atStart => exact ⟨0, _, _, by omega, by go_num, rfl, G0, HRa0, HRz0, HB0.out⟩
        case round =>
          clear G0 HRa0 HRz0 HB0
          obtain ⟨j, A, c, hj, rfl, rfl, HG, HRa, HRz, hbl⟩ := hrel
          have hsz := hbl.size
          have hzl := HRz.out.lt
          by_cases hlt : j < t.kids.length
          · obtain ⟨b, off, A2, c2, eA, hSb, g0, g1, g2, g3, hat⟩ := GTy.elem (T0.out.below hbl (Nat.le_refl _)).2.2.2 j hlt
            have E1 := Lib.hid (show Below wr.heap.size wr (wr.alloc (.cells #[.int .i64 (t.kids[j]).op, .int .i64 (t.kids[j]).n, .string (t.kids[j]).s, .slice A2 (t.kids[j]).kids.length c2] 59)) from (Below.refl _ _).alloc (Nat.le_refl _) _)
            have HA := Lib.hid (hat.keep (S' := Lt (wr.alloc (.cells #[.int .i64 (t.kids[j]).op, .int .i64 (t.kids[j]).n, .string (t.kids[j]).s, .slice A2 (t.kids[j]).kids.length c2] 59)).heap.size) (w' := wr.alloc (.cells #[.int .i64 (t.kids[j]).op, .int .i64 (t.kids[j]).n, .string (t.kids[j]).s, .slice A2 (t.kids[j]).kids.length c2] 59)) fun q hq => ⟨Nat.lt_of_lt_of_le hq (Nat.le_trans hsz E1.out.size), Below.heap_alloc _ _ _ (Nat.lt_of_lt_of_le hq hsz)⟩)
            have HS2 := Lib.hid (HSl.out.below (show Below w.heap.size w (wr.alloc (.cells #[.int .i64 (t.kids[j]).op, .int .i64 (t.kids[j]).n, .string (t.kids[j]).s, .slice A2 (t.kids[j]).kids.length c2] 59)) from (hbl.alloc hsz _)) (Nat.le_trans hsz E1.out.size))
            clear hat
            subst eA
            go_wp2_with fail
            refine (HH.out j hlt A2 c2 _ HL.out HS2.out HA.out).mono ?_
            rintro e w1 ⟨A3, c3, rfl, how, hb1⟩
            have B1 := Lib.hid ((E1.out.trans (hb1.mono E1.out.size)).alloc (Nat.le_trans E1.out.size hb1.size) (.cells #[.int .i64 ((t.kids[j]).sub F).op, .int .i64 ((t.kids[j]).sub F).n, .string ((t.kids[j]).sub F).s, .slice A3 ((t.kids[j]).sub F).kids.length c3] 59))
            have HG1 := HG.out.below B1.out (Nat.le_refl _)
            have how1 := GTy.own_mk (how.keep (S' := Btw wr.heap.size (w1.alloc (.cells #[.int .i64 ((t.kids[j]).sub F).op, .int .i64 ((t.kids[j]).sub F).n, .string ((t.kids[j]).sub F).s, .slice A3 ((t.kids[j]).sub F).kids.length c3] 59)).heap.size) (w' := w1.alloc (.cells #[.int .i64 ((t.kids[j]).sub F).op, .int .i64 ((t.kids[j]).sub F).n, .string ((t.kids[j]).sub F).s, .slice A3 ((t.kids[j]).sub F).kids.length c3] 59)) fun q hq => ⟨⟨Nat.le_trans E1.out.size hq.1, Nat.lt_of_lt_of_le hq.2 (by simp)⟩, Below.heap_alloc _ _ _ hq.2⟩)
            clear how hb1
            go_wp2_with (first | (at_builtin; refine wpList_append_D (w1.alloc (.cells #[.int .i64 ((t.kids[j]).sub F).op, .int .i64 ((t.kids[j]).sub F).n, .string ((t.kids[j]).sub F).s, .slice A3 ((t.kids[j]).sub F).kids.length c3] 59)) rfl (.tmp 42) (.tmp 44) 57 rfl 59 zTy 4 56 Try.underlying57 (by kernel_rfl) rfl (by omega) (w.heap.size + 2) wr.heap.size _ j _ HG1 ((t.kids[j]).sub F).toD [.int .i64 ((t.kids[j]).sub F).op, .int .i64 ((t.kids[j]).sub F).n, .string ((t.kids[j]).sub F).s, .slice A3 ((t.kids[j]).sub F).kids.length c3] how1 (by omega) B1.out.size rfl (by simp [Value.oneCell']) (by omega) (by omega) 59 rfl (w1.alloc (.cells #[.int .i64 ((t.kids[j]).sub F).op, .int .i64 ((t.kids[j]).sub F).n, .string ((t.kids[j]).sub F).s, .slice A3 ((t.kids[j]).sub F).kids.length c3] 59)).heap.size rfl (by simp [Act.eval]) ?_; intro g cap w2 G2 Bq2 hs2 hg2 hgl2))
            go_roundw
            case rel =>
              have X2 := (Bq2.mono (show w.heap.size ≤ w.heap.size + 2 by omega))
              exact ⟨j + 1, _, _, by omega, by go_num, rfl, Lib.hid (by rw [take_snoc' t.kids j hlt, List.map_append, List.map_append]; exact G2), Lib.hid ((HRa.out.below B1.out (by omega)).below Bq2 (by omega)), Lib.hid ((HRz.out.below B1.out (by omega)).below Bq2 (by omega)), (hbl.trans (B1.out.mono hsz)).trans X2⟩
            case measure => simp [intOf]; omega
          · have hjl : j = t.kids.length := by omega
            obtain ⟨A', c', eV, how⟩ := HG.out.osl
            obtain ⟨rfl, rfl⟩ : A = A' ∧ c = c' := by simpa using eV
            subst hjl
            rw [List.take_length] at how
            clear eV HG hlt hj
            obtain ⟨p0, p1, p2, -⟩ := T0.out
            have hca := fun i => HRa.out.cell i
            have hcz := fun i => HRz.out.cell i
            have hfa := fun i => HRa.out.frozen i
            have hfz := fun i => HRz.out.frozen i
            have B1 := setCells_below hbl w.heap.size 3 (Nat.le_refl _) [.slice A t.kids.length c]
            have BF := setCells_below B1 (w.heap.size + 1) 0 (by omega) [.int .i64 t.op, .int .i64 t.n, .string t.s, .slice A t.kids.length c]
            have SF : (setCells (setCells wr w.heap.size 3 [.slice A t.kids.length c]) (w.heap.size + 1) 0 [.int .i64 t.op, .int .i64 t.n, .string t.s, .slice A t.kids.length c]).heap.size = wr.heap.size := by rw [setCells_size, setCells_size]
            have how2 := how.keep (S' := Btw w.heap.size (setCells (setCells wr w.heap.size 3 [.slice A t.kids.length c]) (w.heap.size + 1) 0 [.int .i64 t.op, .int .i64 t.n, .string t.s, .slice A t.kids.length c]).heap.size) (w' := (setCells (setCells wr w.heap.size 3 [.slice A t.kids.length c]) (w.heap.size + 1) 0 [.int .i64 t.op, .int .i64 t.n, .string t.s, .slice A t.kids.length c])) fun q hq => ⟨⟨by have := hq.1; omega, by rw [SF]; exact hq.2⟩, (setCells_block _ _ _ _ _ (by have := hq.1; omega)).trans (setCells_block _ _ _ _ _ (by have := hq.1; omega))⟩
            have HOW := Lib.hid how2
            have HBF := Lib.hid BF
            have HS := Lib.hid (HN.out)
            clear how how2 BF B1 SF
            go_wp2_with fail
            exact bodyPost_ret (v := .agg #[.int .i64 t.op, .int .i64 t.n, .string t.s, .slice A t.kids.length c]) (by simp [results, Try.results43, go_sem, hca, hcz]) rfl ⟨A, c, by rw [HS.out]; simp [GTy.op, GTy.n, GTy.s, GTy.kids], by rw [HS.out]; exact ⟨p0, p1, p2, HOW.out⟩, HBF.out⟩
      have hk2 : ((t.kids.length : Int) == 0) = true := by rw [beq_iff_eq]; omega
      have HK := Lib.hid hk
      have HO2 := Lib.hid ho2
      clear hk ho2
      rcases idxI_find (l := l) (n := t.n) with ⟨q, hq, hi, hf⟩ | ⟨hi, hf⟩
      · have HN := Lib.hid (show t.sub F = (l[q]).ty from by rw [HF.out]; exact GTy.sub_some HO2.out HK.out hf)
        have hub : (l[q]).ty.bulk ≤ 1048576 := by have := bindOf_bulk hf; have := HL.out; omega
        clear hf
        go_enter Try.func43, Try.ntmps43
        go_wp2_with fail
        refine (implBindAt l Bl bc t.n _ (HSl.out.below E0.out E0.out.size)).mono ?_
        rintro e w1 ⟨rfl, hb1⟩
        rw [hi]
        clear hi
        have B1 := Lib.hid (E0.out.trans (hb1.mono E0.out.size))
        have Rz1 := Lib.hid (Rz0.out.below hb1 Rz0.out.lt)
        have hql : l.length ≤ 9223372036854775807 := by simpa using HSl.out.len
        obtain ⟨b3, off3, A3, c3, rfl, hSb3, q0, q1, q2, q3, q4, hat⟩ := GBind.elem (HSl.out.below B1.out (Nat.le_refl _)) q hq
        have HA := Lib.hid (show GTy.At w1 (Lt w1.heap.size) A3 c3 (l[q]).ty from hat.2.keep fun x hx => ⟨Nat.lt_of_lt_of_le hx B1.out.size, rfl⟩)
        clear hat hb1
        go_wp2_with fail
        refine (implCopyTy' (l[q]).ty A3 c3 _ hub HA.out).mono ?_
        rintro e w2 ⟨A4, c4, rfl, how, hb2⟩
        have Rz2 := Lib.hid (Rz1.out.below hb2 Rz1.out.lt)
        have hcz := fun i => Rz2.out.cell i
        have hfz := fun i => Rz2.out.frozen i
        have B2 := B1.out.trans (hb2.mono B1.out.size)
        have SF : (setCells w2 (w.heap.size + 1) 0 [.int .i64 (l[q]).ty.op, .int .i64 (l[q]).ty.n, .string (l[q]).ty.s, .slice A4 (l[q]).ty.kids.length c4]).heap.size = w2.heap.size := setCells_size _ _ _ _
        have BF := Lib.hid (setCells_below B2 (w.heap.size + 1) 0 (by omega) [.int .i64 (l[q]).ty.op, .int .i64 (l[q]).ty.n, .string (l[q]).ty.s, .slice A4 (l[q]).ty.kids.length c4])
        have HOW := Lib.hid (how.keep (S' := Btw w.heap.size (setCells w2 (w.heap.size + 1) 0 [.int .i64 (l[q]).ty.op, .int .i64 (l[q]).ty.n, .string (l[q]).ty.s, .slice A4 (l[q]).ty.kids.length c4]).heap.size) (w' := setCells w2 (w.heap.size + 1) 0 [.int .i64 (l[q]).ty.op, .int .i64 (l[q]).ty.n, .string (l[q]).ty.s, .slice A4 (l[q]).ty.kids.length c4]) fun x hx => ⟨⟨Nat.le_trans B1.out.size hx.1, by rw [SF]; exact hx.2⟩, setCells_block _ _ _ _ _ (by have := hx.1; have := Rz1.out.lt; omega)⟩)
        clear how hb2 B2 SF
        go_wp2_with fail
        exact bodyPost_ret (v := .agg #[.int .i64 (l[q]).ty.op, .int .i64 (l[q]).ty.n, .string (l[q]).ty.s, .slice A4 (l[q]).ty.kids.length c4]) (by simp [results, Try.results43, go_sem, hcz]) rfl ⟨A4, c4, by rw [HN.out], by rw [HN.out]; exact HOW.out, BF.out⟩
      · have HN := Lib.hid (show t.sub F = _ from GTy.sub_none (.inr (by rw [HF.out]; exact hf)))
        clear hf
        go_enter Try.func43, Try.ntmps43
        go_wp2_with fail
        refine (implBindAt l Bl bc t.n _ (HSl.out.below E0.out E0.out.size)).mono ?_
        rintro e w1 ⟨rfl, hb1⟩
        rw [hi]
        clear hi
        have B1 := Lib.hid (E0.out.trans (hb1.mono E0.out.size))
        have Ra1 := Lib.hid (Ra0.out.below hb1 Ra0.out.lt)
        have Rz1 := Lib.hid (Rz0.out.below hb1 Rz0.out.lt)
        have hs1 := Nat.le_trans S0 hb1.size
        have hca1 := fun i => Ra1.out.cell i
        have hlt1 := Ra1.out.lt
        clear hb1
        obtain ⟨w0, e0⟩ : ∃ w0, w0 = (w1).alloc (.cells #[] 59) := ⟨_, rfl⟩
        have HB0 := Lib.hid (show Below w.heap.size w w0 by rw [e0]; exact B1.out.alloc B1.out.size _)
        have HRa0 := Lib.hid (show Row w0 w.heap.size 59 #[.int .i64 t.op, .int .i64 t.n, .string t.s, .slice A1 t.kids.length c1] by rw [e0]; exact Ra1.out.alloc _)
        have HRz0 := Lib.hid (show Row w0 (w.heap.size + 1) 59 #[.int .i64 0, .int .i64 0, .string ⟨#[]⟩, .slice none 0 0] by rw [e0]; exact Rz1.out.alloc _)
        have G0 := Lib.hid (show Gow w0 (w.heap.size + 2) w0.heap.size 59 4 (.slice (some ⟨(w1).heap.size, 0, none⟩) 0 0) 0 [] by rw [e0]; exact Gow.made (Row.new' _ _ _ (by simp)) hs1 (by simp))
        go_wp2_with fail
        rw [← e0]
        clear e0
        clear hca1
        go_loopw [6, 35] (fun v i wr => ∃ (j : Nat) (A : Option Addr) (c : Nat), j ≤ t.kids.length ∧ i = .int .i64 j ∧ v = .slice A j c ∧ Hid (Gow wr (w.heap.size + 2) wr.heap.size 59 4 (.slice A j c) j (((t.kids.take j).map (GTy.sub F)).map GTy.toD)) ∧ Hid (Row wr w.heap.size 59 #[.int .i64 t.op, .int .i64 t.n, .string t.s, .slice A1 t.kids.length c1]) ∧ Hid (Row wr (w.heap.size + 1) 59 #[.int .i64 0, .int .i64 0, .string ⟨#[]⟩, .slice none 0 0]) ∧ Below w.heap.size w wr) (fun _ i _ => t.kids.length - (intOf i).toNat)
        case atStart => exact ⟨0, _, _, by omega, by go_num, rfl, G0, HRa0, HRz0, HB0.out⟩
        case round =>
          clear G0 HRa0 HRz0 HB0
          obtain ⟨j, A, c, hj, rfl, rfl, HG, HRa, HRz, hbl⟩ := hrel
          have hsz := hbl.size
          have hzl := HRz.out.lt
          by_cases hlt : j < t.kids.length
          · obtain ⟨b, off, A2, c2, eA, hSb, g0, g1, g2, g3, hat⟩ := GTy.elem (T0.out.below hbl (Nat.le_refl _)).2.2.2 j hlt
            have E1 := Lib.hid (show Below wr.heap.size wr (wr.alloc (.cells #[.int .i64 (t.kids[j]).op, .int .i64 (t.kids[j]).n, .string (t.kids[j]).s, .slice A2 (t.kids[j]).kids.length c2] 59)) from (Below.refl _ _).alloc (Nat.le_refl _) _)
            have HA := Lib.hid (hat.keep (S' := Lt (wr.alloc (.cells #[.int .i64 (t.kids[j]).op, .int .i64 (t.kids[j]).n, .string (t.kids[j]).s, .slice A2 (t.kids[j]).kids.length c2] 59)).heap.size) (w' := wr.alloc (.cells #[.int .i64 (t.kids[j]).op, .int .i64 (t.kids[j]).n, .string (t.kids[j]).s, .slice A2 (t.kids[j]).kids.length c2] 59)) fun q hq => ⟨Nat.lt_of_lt_of_le hq (Nat.le_trans hsz E1.out.size), Below.heap_alloc _ _ _ (Nat.lt_of_lt_of_le hq hsz)⟩)
            have HS2 := Lib.hid (HSl.out.below (show Below w.heap.size w (wr.alloc (.cells #[.int .i64 (t.kids[j]).op, .int .i64 (t.kids[j]).n, .string (t.kids[j]).s, .slice A2 (t.kids[j]).kids.length c2] 59)) from (hbl.alloc hsz _)) (Nat.le_trans hsz E1.out.size))
            clear hat
            subst eA
            go_wp2_with fail
            refine (HH.out j hlt A2 c2 _ HL.out HS2.out HA.out).mono ?_
            rintro e w1 ⟨A3, c3, rfl, how, hb1⟩
            have B1 := Lib.hid ((E1.out.trans (hb1.mono E1.out.size)).alloc (Nat.le_trans E1.out.size hb1.size) (.cells #[.int .i64 ((t.kids[j]).sub F).op, .int .i64 ((t.kids[j]).sub F).n, .string ((t.kids[j]).sub F).s, .slice A3 ((t.kids[j]).sub F).kids.length c3] 59))
            have HG1 := HG.out.below B1.out (Nat.le_refl _)
            have how1 := GTy.own_mk (how.keep (S' := Btw wr.heap.size (w1.alloc (.cells #[.int .i64 ((t.kids[j]).sub F).op, .int .i64 ((t.kids[j]).sub F).n, .string ((t.kids[j]).sub F).s, .slice A3 ((t.kids[j]).sub F).kids.length c3] 59)).heap.size) (w' := w1.alloc (.cells #[.int .i64 ((t.kids[j]).sub F).op, .int .i64 ((t.kids[j]).sub F).n, .string ((t.kids[j]).sub F).s, .slice A3 ((t.kids[j]).sub F).kids.length c3] 59)) fun q hq => ⟨⟨Nat.le_trans E1.out.size hq.1, Nat.lt_of_lt_of_le hq.2 (by simp)⟩, Below.heap_alloc _ _ _ hq.2⟩)
            clear how hb1
            go_wp2_with (first | (at_builtin; refine wpList_append_D (w1.alloc (.cells #[.int .i64 ((t.kids[j]).sub F).op, .int .i64 ((t.kids[j]).sub F).n, .string ((t.kids[j]).sub F).s, .slice A3 ((t.kids[j]).sub F).kids.length c3] 59)) rfl (.tmp 42) (.tmp 44) 57 rfl 59 zTy 4 56 Try.underlying57 (by kernel_rfl) rfl (by omega) (w.heap.size + 2) wr.heap.size _ j _ HG1 ((t.kids[j]).sub F).toD [.int .i64 ((t.kids[j]).sub F).op, .int .i64 ((t.kids[j]).sub F).n, .string ((t.kids[j]).sub F).s, .slice A3 ((t.kids[j]).sub F).kids.length c3] how1 (by omega) B1.out.size rfl (by simp [Value.oneCell']) (by omega) (by omega) 59 rfl (w1.alloc (.cells #[.int .i64 ((t.kids[j]).sub F).op, .int .i64 ((t.kids[j]).sub F).n, .string ((t.kids[j]).sub F).s, .slice A3 ((t.kids[j]).sub F).kids.length c3] 59)).heap.size rfl (by simp [Act.eval]) ?_; intro g cap w2 G2 Bq2 hs2 hg2 hgl2))
            go_roundw
            case rel =>
              have X2 := (Bq2.mono (show w.heap.size ≤ w.heap.size + 2 by omega))
              exact ⟨j + 1, _, _, by omega, by go_num, rfl, Lib.hid (by rw [take_snoc' t.kids j hlt, List.map_append, List.map_append]; exact G2), Lib.hid ((HRa.out.below B1.out (by omega)).below Bq2 (by omega)), Lib.hid ((HRz.out.below B1.out (by omega)).below Bq2 (by omega)), (hbl.trans (B1.out.mono hsz)).trans X2⟩
            case measure => simp [intOf]; omega
          · have hjl : j = t.kids.length := by omega
            obtain ⟨A', c', eV, how⟩ := HG.out.osl
            obtain ⟨rfl, rfl⟩ : A = A' ∧ c = c' := by simpa using eV
            subst hjl
            rw [List.take_length] at how
            clear eV HG hlt hj
            obtain ⟨p0, p1, p2, -⟩ := T0.out
            have hca := fun i => HRa.out.cell i
            have hcz := fun i => HRz.out.cell i
            have hfa := fun i => HRa.out.frozen i
            have hfz := fun i => HRz.out.frozen i
            have B1 := setCells_below hbl w.heap.size 3 (Nat.le_refl _) [.slice A t.kids.length c]
            have BF := setCells_below B1 (w.heap.size + 1) 0 (by omega) [.int .i64 t.op, .int .i64 t.n, .string t.s, .slice A t.kids.length c]
            have SF : (setCells (setCells wr w.heap.size 3 [.slice A t.kids.length c]) (w.heap.size + 1) 0 [.int .i64 t.op, .int .i64 t.n, .string t.s, .slice A t.kids.length c]).heap.size = wr.heap.size := by rw [setCells_size, setCells_size]
            have how2 := how.keep (S' := Btw w.heap.size (setCells (setCells wr w.heap.size 3 [.slice A t.kids.length c]) (w.heap.size + 1) 0 [.int .i64 t.op, .int .i64 t.n, .string t.s, .slice A t.kids.length c]).heap.size) (w' := (setCells (setCells wr w.heap.size 3 [.slice A t.kids.length c]) (w.heap.size + 1) 0 [.int .i64 t.op, .int .i64 t.n, .string t.s, .slice A t.kids.length c])) fun q hq => ⟨⟨by have := hq.1; omega, by rw [SF]; exact hq.2⟩, (setCells_block _ _ _ _ _ (by have := hq.1; omega)).trans (setCells_block _ _ _ _ _ (by have := hq.1; omega))⟩
            have HOW := Lib.hid how2
            have HBF := Lib.hid BF
            have HS := Lib.hid (HN.out)
            clear how how2 BF B1 SF
            go_wp2_with fail
            exact bodyPost_ret (v := .agg #[.int .i64 t.op, .int .i64 t.n, .string t.s, .slice A t.kids.length c]) (by simp [results, Try.results43, go_sem, hca, hcz]) rfl ⟨A, c, by rw [HS.out]; simp [GTy.op, GTy.n, GTy.s, GTy.kids], by rw [HS.out]; exact ⟨p0, p1, p2, HOW.out⟩, HBF.out⟩

set_option maxRecDepth 20000 in
theorem specApply (k : Nat) : ∀ (l : List GBind) (Bl : Option Addr) (bc : Nat) (t : GTy) (A1 : Option Addr) (c1 : Nat) (w : World), t.bulk < k → t.bulk ≤ 1048576 → bulkL GBind.bulk l ≤ 1048576 → Sl w (Lt w.heap.size) 5 Bl bc (l.map GBind.toD) → GTy.At w (Lt w.heap.size) A1 c1 t →
    Calls Try.prog 46 #[.slice Bl l.length bc, .agg #[.int .i64 t.op, .int .i64 t.n, .string t.s, .slice A1 t.kids.length c1]] w (ToTy (t.sub (bindOf l)) w) := by
  induction k with
  | zero => intros; omega
  | succ k ih =>
    intro l Bl bc t A1 c1 w hk h1 hl hs hat
    have hbe := t.bulk_eq
    have hlen : t.kids.length ≤ 1048576 := by have := bulkL_len GTy.bulk t.kids; omega
    obtain ⟨F, hF⟩ : ∃ F, F = bindOf l := ⟨_, rfl⟩
    have HF := Lib.hid hF
    have HH := Lib.hid (fun (j : Nat) (h : j < t.kids.length) (A1 : Option Addr) (c1 : Nat) (w : World) => ih l Bl bc t.kids[j] A1 c1 w (by have := bulkL_mem GTy.bulk t.kids _ (List.getElem_mem h); omega) (by have := bulkL_mem GTy.bulk t.kids _ (List.getElem_mem h); omega))
    rw [← hF] at HH ⊢
    have HSl := Lib.hid hs
    have HL := Lib.hid hl
    have T0 := Lib.hid hat
    clear ih hbe hk h1 hat hF hs hl
    have E0 := Lib.hid (show Below w.heap.size w ((w.alloc (.cells #[.int .i64 t.op, .int .i64 t.n, .string t.s, .slice A1 t.kids.length c1] 59)).alloc (.cells #[.int .i64 0, .int .i64 0, .string ⟨#[]⟩, .slice none 0 0] 59)) from ((Below.refl _ _).alloc (Nat.le_refl _) _).alloc (by simp) _)
    have S0 : w.heap.size + 2 ≤ ((w.alloc (.cells #[.int .i64 t.op, .int .i64 t.n, .string t.s, .slice A1 t.kids.length c1] 59)).alloc (.cells #[.int .i64 0, .int .i64 0, .string ⟨#[]⟩, .slice none 0 0] 59)).heap.size := by simp
    have Ra0 := Lib.hid ((Row.new' w 59 #[.int .i64 t.op, .int .i64 t.n, .string t.s, .slice A1 t.kids.length c1] (g := w.heap.size) rfl).alloc (.cells #[.int .i64 0, .int .i64 0, .string ⟨#[]⟩, .slice none 0 0] 59))
    have Rz0 := Lib.hid (Row.new' (w.alloc (.cells #[.int .i64 t.op, .int .i64 t.n, .string t.s, .slice A1 t.kids.length c1] 59)) 59 #[.int .i64 0, .int .i64 0, .string ⟨#[]⟩, .slice none 0 0] (g := w.heap.size + 1) (by simp))
    cases o2 : (t.op == 2)
    · have ho2 : ¬ t.op = 2 := by simpa using o2
      have HN := Lib.hid (show t.sub F = _ from GTy.sub_none (.inl (fun e => ho2 e.1)))
      clear ho2
      go_enter Try.func46, Try.ntmps46
      obtain ⟨w0, e0⟩ : ∃ w0, w0 = ((w.alloc (.cells #[.int .i64 t.op, .int .i64 t.n, .string t.s, .slice A1 t.kids.length c1] 59)).alloc (.cells #[.int .i64 0, .int .i64 0, .string ⟨#[]⟩, .slice none 0 0] 59)).alloc (.cells #[.int .i64 t.op, .int .i64 t.n, .string t.s, .slice none 0 0] 59) := ⟨_, rfl⟩
      have HB0 := Lib.hid (show Below w.heap.size w w0 by rw [e0]; exact E0.out.alloc E0.out.size _)
      have HRa0 := Lib.hid (show Row w0 w.heap.size 59 #[.int .i64 t.op, .int .i64 t.n, .string t.s, .slice A1 t.kids.length c1] by rw [e0]; exact Ra0.out.alloc _)
      have HRz0 := Lib.hid (show Row w0 (w.heap.size + 1) 59 #[.int .i64 0, .int .i64 0, .string ⟨#[]⟩, .slice none 0 0] by rw [e0]; exact Rz0.out.alloc _)
      have HRo0 := Lib.hid (show Row w0 (w.heap.size + 1 + 1) 59 #[.int .i64 t.op, .int .i64 t.n, .string t.s, .slice none 0 0] by rw [e0]; exact Row.new' _ _ _ (by simp))
      have hs0 : w.heap.size + 1 + 1 + 1 ≤ w0.heap.size := by rw [e0]; simp
      go_wp2_with fail
      rw [← e0]
      clear e0
      go_loopw [7] (fun i wr => ∃ (j : Nat) (A : Option Addr) (c : Nat), j ≤ t.kids.length ∧ i = .int .i64 j ∧ Hid (Gow wr (w.heap.size + 1 + 1 + 1) wr.heap.size 59 4 (.slice A j c) j (((t.kids.take j).map (GTy.sub F)).map GTy.toD)) ∧ Hid (Row wr w.heap.size 59 #[.int .i64 t.op, .int .i64 t.n, .string t.s, .slice A1 t.kids.length c1]) ∧ Hid (Row wr (w.heap.size + 1) 59 #[.int .i64 0, .int .i64 0, .string ⟨#[]⟩, .slice none 0 0]) ∧ Hid (Row wr (w.heap.size + 1 + 1) 59 #[.int .i64 t.op, .int .i64 t.n, .string t.s, .slice A j c]) ∧ w.heap.size + 1 + 1 + 1 ≤ wr.heap.size ∧ Below w.heap.size w wr) (fun i _ => t.kids.length - (intOf i).toNat)
      case atStart => exact ⟨0, none, 0, by omega, by go_num, Lib.hid (Gow.nil _ _ _ _ _), HRa0, HRz0, HRo0, hs0, HB0.out⟩
      case round =>
        clear HRa0 HRz0 HRo0 HB0 hs0
        obtain ⟨j, A, c, hj, rfl, HG, HRa, HRz, HRo, hs3, hbl⟩ := hrel
        have hsz := hbl.size
        have hca := fun i => HRa.out.cell i
        have hco := fun i => HRo.out.cell i
        by_cases hlt : j < t.kids.length
        · obtain ⟨b, off, A2, c2, eA, hSb, g0, g1, g2, g3, hat⟩ := GTy.elem (T0.out.below hbl (Nat.le_refl _)).2.2.2 j hlt
          subst eA
          have hblt : b < wr.heap.size := Nat.lt_of_lt_of_le hSb hsz
          have HA := Lib.hid (hat.keep (S' := Lt wr.drew.heap.size) (w' := wr.drew) fun q hq => ⟨Nat.lt_of_lt_of_le hq hsz, rfl⟩)
          have HS2 := Lib.hid (HSl.out.below (show Below w.heap.size w (wr.drew) from hbl.drew) hsz)
          clear hat
          go_wp2_with fail
          go_region_law (first
            | (refine step_append_D w1 rfl (.tmp 44) (.tmp 52) 57 rfl 59 zTy 4 56 Try.underlying57 (by kernel_rfl) rfl (by omega) (w.heap.size + 1 + 1 + 1) wr.heap.size _ j _ HG1.out ((t.kids[j]).sub F).toD [.int .i64 ((t.kids[j]).sub F).op, .int .i64 ((t.kids[j]).sub F).n, .string ((t.kids[j]).sub F).s, .slice A3 ((t.kids[j]).sub F).kids.length c3] how1.out (by omega) B1.out.size rfl (by simp [Value.oneCell']) (by omega) (by omega) 59 rfl w1.heap.size rfl rfl ?_
               intro g cap w2 G2 Bq2 hs2 hg2 hgl2
               have G3 := Lib.hid G2
               have B2 := Lib.hid Bq2
               have Ro3 := Lib.hid (Ro1.out.below Bq2 (by omega))
               have hco3 := fun i => Ro3.out.cell i
               have hfo3 := fun i => Ro3.out.frozen i
               clear G2 Bq2)
            | (go_simp
               go_at_call 46
               refine (HH.out j hlt A2 c2 _ HL.out HS2.out HA.out).mono ?_
               rintro e w1 ⟨A3, c3, rfl, how, hb1⟩
               have B1 := Lib.hid (((Below.refl wr.heap.size wr).drew).trans hb1)
               have Ra1 := Lib.hid (HRa.out.below B1.out (by omega))
               have Ro1 := Lib.hid (HRo.out.below B1.out (by omega))
               have hca1 := fun i => Ra1.out.cell i
               have hco1 := fun i => Ro1.out.cell i
               have hco2 := Ro1.out.lt
               have HG1 := Lib.hid (HG.out.below B1.out (Nat.le_refl _))
               have how1 := Lib.hid (GTy.own_mk (how.keep (S' := Btw wr.heap.size w1.heap.size) (w' := w1) fun q hq => ⟨hq, rfl⟩))
               clear how hb1))
          all_goals
            go_wp2_with fail
            go_roundw
            case rel =>
              have B3 := (hbl.trans (B1.out.mono hsz)).trans (B2.out.mono (show w.heap.size ≤ w.heap.size + 1 + 1 + 1 by omega))
              refine ⟨j + 1, _, _, by omega, by go_num, Lib.hid (show Gow (w2.setCell ⟨w.heap.size + 1 + 1, 3, none⟩ (.slice (some ⟨g, 0, none⟩) (j + 1) cap)) (w.heap.size + 1 + 1 + 1) (w2.setCell ⟨w.heap.size + 1 + 1, 3, none⟩ (.slice (some ⟨g, 0, none⟩) (j + 1) cap)).heap.size 59 4 (.slice (some ⟨g, 0, none⟩) (j + 1) cap) (j + 1) (((t.kids.take (j + 1)).map (GTy.sub F)).map GTy.toD) from ?_), Lib.hid (((HRa.out.below B1.out (by omega)).below B2.out (by omega)).far (p := ⟨w.heap.size + 1 + 1, 3, none⟩) (by simp <;> omega) _), Lib.hid (((HRz.out.below B1.out (by omega)).below B2.out (by omega)).far (p := ⟨w.heap.size + 1 + 1, 3, none⟩) (by simp <;> omega) _), Lib.hid (Ro3.out.set 3 _), ?_, B3.setCell (p := ⟨w.heap.size + 1 + 1, 3, none⟩) (by simp <;> omega) _⟩
              · rw [take_snoc' t.kids j hlt, List.map_append, List.map_append]
                exact G3.out.keep (by simp [World.setCell]) (fun q hq _ => Below.heap_setCell _ ⟨w.heap.size + 1 + 1, 3, none⟩ _ q (by simp <;> omega))
              · have := B3.size; have := B1.out.size; simp [World.setCell]; omega
            case measure => simp [intOf]; omega
        · have hjl : j = t.kids.length := by omega
          obtain ⟨A', c', eV, how⟩ := HG.out.osl
          obtain ⟨rfl, rfl⟩ : A = A' ∧ c = c' := by simpa using eV
          subst hjl
          rw [List.take_length] at how
          clear eV HG hlt hj hca hco
          obtain ⟨p0, p1, p2, -⟩ := T0.out
          have hca := fun i => HRa.out.cell i
          have hco := fun i => HRo.out.cell i
          have hcz := fun i => HRz.out.cell i
          have hfz := fun i => HRz.out.frozen i
          have BF := setCells_below hbl (w.heap.size + 1) 0 (by omega) [.int .i64 t.op, .int .i64 t.n, .string t.s, .slice A t.kids.length c]
          have SF : (setCells wr (w.heap.size + 1) 0 [.int .i64 t.op, .int .i64 t.n, .string t.s, .slice A t.kids.length c]).heap.size = wr.heap.size := by rw [setCells_size]
          have how2 := how.keep (S' := Btw w.heap.size (setCells wr (w.heap.size + 1) 0 [.int .i64 t.op, .int .i64 t.n, .string t.s, .slice A t.kids.length c]).heap.size) (w' := (setCells wr (w.heap.size + 1) 0 [.int .i64 t.op, .int .i64 t.n, .string t.s, .slice A t.kids.length c])) fun q hq => ⟨⟨by have := hq.1; omega, by rw [SF]; exact hq.2⟩, setCells_block _ _ _ _ _ (by have := hq.1; omega)⟩
          have HOW := Lib.hid how2
          have HBF := Lib.hid BF
          have HS := Lib.hid (HN.out)
          clear how how2 BF SF
          go_wp2_with fail
          exact bodyPost_ret (v := .agg #[.int .i64 t.op, .int .i64 t.n, .string t.s, .slice A t.kids.length c]) (by simp [results, Try.results46, go_sem, hca, hcz, hco]) rfl ⟨A, c, by rw [HS.out]; simp [GTy.op, GTy.n, GTy.s, GTy.kids], by rw [HS.out]; exact ⟨p0, p1, p2, HOW.out⟩, HBF.out⟩
    · have ho2 : t.op = 2 := by simpa using o2
      by_cases hk : t.kids.length = 0
      rotate_left
      · have hk2 : ((t.kids.length : Int) == 0) = false := by rw [beq_eq_false_iff_ne]; omega
        have HN := Lib.hid (show t.sub F = _ from GTy.sub_none (.inl (fun e => hk e.2)))
        clear ho2 hk
        go_enter Try.func46, Try.ntmps46
        obtain ⟨w0, e0⟩ : ∃ w0, w0 = ((w.alloc (.cells #[.int .i64 t.op, .int .i64 t.n, .string t.s, .slice A1 t.kids.length c1] 59)).alloc (.cells #[.int .i64 0, .int .i64 0, .string ⟨#[]⟩, .slice none 0 0] 59)).alloc (.cells #[.int .i64 t.op, .int .i64 t.n, .string t.s, .slice none 0 0] 59) := ⟨_, rfl⟩
        have HB0 := Lib.hid (show Below w.heap.size w w0 by rw [e0]; exact E0.out.alloc E0.out.size _)
        have HRa0 := Lib.hid (show Row w0 w.heap.size 59 #[.int .i64 t.op, .int .i64 t.n, .string t.s, .slice A1 t.kids.length c1] by rw [e0]; exact Ra0.out.alloc _)
        have HRz0 := Lib.hid (show Row w0 (w.heap.size + 1) 59 #[.int .i64 0, .int .i64 0, .string ⟨#[]⟩, .slice none 0 0] by rw [e0]; exact Rz0.out.alloc _)
        have HRo0 := Lib.hid (show Row w0 (w.heap.size + 1 + 1) 59 #[.int .i64 t.op, .int .i64 t.n, .string t.s, .slice none 0 0] by rw [e0]; exact Row.new' _ _ _ (by simp))
        have hs0 : w.heap.size + 1 + 1 + 1 ≤ w0.heap.size := by rw [e0]; simp
        go_wp2_with fail
        rw [← e0]
        clear e0
        go_loopw [7] (fun i wr => ∃ (j : Nat) (A : Option Addr) (c : Nat), j ≤ t.kids.length ∧ i = .int .i64 j ∧ Hid (Gow wr (w.heap.size + 1 + 1 + 1) wr.heap.size 59 4 (.slice A j c) j (((t.kids.take j).map (GTy.sub F)).map GTy.toD)) ∧ Hid (Row wr w.heap.size 59 #[.int .i64 t.op, .int .i64 t.n, .string t.s, .slice A1 t.kids.length c1]) ∧ Hid (Row wr (w.heap.size + 1) 59 #[.int .i64 0, .int .i64 0, .string ⟨#[]⟩, .slice none 0 0]) ∧ Hid (Row wr (w.heap.size + 1 + 1) 59 #[.int .i64 t.op, .int .i64 t.n, .string t.s, .slice A j c]) ∧ w.heap.size + 1 + 1 + 1 ≤ wr.heap.size ∧ Below w.heap.size w wr) (fun i _ => t.kids.length - (intOf i).toNat)
        case atStart => exact ⟨0, none, 0, by omega, by go_num, Lib.hid (Gow.nil _ _ _ _ _), HRa0, HRz0, HRo0, hs0, HB0.out⟩
        case round =>
          clear HRa0 HRz0 HRo0 HB0 hs0
          obtain ⟨j, A, c, hj, rfl, HG, HRa, HRz, HRo, hs3, hbl⟩ := hrel
          have hsz := hbl.size
          have hca := fun i => HRa.out.cell i
          have hco := fun i => HRo.out.cell i
          by_cases hlt : j < t.kids.length
          · obtain ⟨b, off, A2, c2, eA, hSb, g0, g1, g2, g3, hat⟩ := GTy.elem (T0.out.below hbl (Nat.le_refl _)).2.2.2 j hlt
            subst eA
            have hblt : b < wr.heap.size := Nat.lt_of_lt_of_le hSb hsz
            have HA := Lib.hid (hat.keep (S' := Lt wr.drew.heap.size) (w' := wr.drew) fun q hq => ⟨Nat.lt_of_lt_of_le hq hsz, rfl⟩)
            have HS2 := Lib.hid (HSl.out.below (show Below w.heap.size w (wr.drew) from hbl.drew) hsz)
            clear hat
            go_wp2_with fail
            go_region_law (first
              | (refine step_append_D w1 rfl (.tmp 44) (.tmp 52) 57 rfl 59 zTy 4 56 Try.underlying57 (by kernel_rfl) rfl (by omega) (w.heap.size + 1 + 1 + 1) wr.heap.size _ j _ HG1.out ((t.kids[j]).sub F).toD [.int .i64 ((t.kids[j]).sub F).op, .int .i64 ((t.kids[j]).sub F).n, .string ((t.kids[j]).sub F).s, .slice A3 ((t.kids[j]).sub F).kids.length c3] how1.out (by omega) B1.out.size rfl (by simp [Value.oneCell']) (by omega) (by omega) 59 rfl w1.heap.size rfl rfl ?_
                 intro g cap w2 G2 Bq2 hs2 hg2 hgl2
                 have G3 := Lib.hid G2
                 have B2 := Lib.hid Bq2
                 have Ro3 := Lib.hid (Ro1.out.below Bq2 (by omega))
                 have hco3 := fun i => Ro3.out.cell i
                 have hfo3 := fun i => Ro3.out.frozen i
                 clear G2 Bq2)
              | (go_simp
                 go_at_call 46
                 refine (HH.out j hlt A2 c2 _ HL.out HS2.out HA.out).mono ?_
                 rintro e w1 ⟨A3, c3, rfl, how, hb1⟩
                 have B1 := Lib.hid (((Below.refl wr.heap.size wr).drew).trans hb1)
                 have Ra1 := Lib.hid (HRa.out.below B1.out (by omega))
                 have Ro1 := Lib.hid (HRo.out.below B1.out (by omega))
                 have hca1 := fun i => Ra1.out.cell i
                 have hco1 := fun i => Ro1.out.cell i
                 have hco2 := Ro1.out.lt
                 have HG1 := Lib.hid (HG.out.below B1.out (Nat.le_refl _))
                 have how1 := Lib.hid (GTy.own_mk (how.keep (S' := Btw wr.heap.size w1.heap.size) (w' := w1) fun q hq => ⟨hq, rfl⟩))
                 clear how hb1))
            all_goals
              go_wp2_with fail
              go_roundw
              case rel =>
                have B3 := (hbl.trans (B1.out.mono hsz)).trans (B2.out.mono (show w.heap.size ≤ w.heap.size + 1 + 1 + 1 by omega))
                refine ⟨j + 1, _, _, by omega, by go_num, Lib.hid (show Gow (w2.setCell ⟨w.heap.size + 1 + 1, 3, none⟩ (.slice (some ⟨g, 0, none⟩) (j + 1) cap)) (w.heap.size + 1 + 1 + 1) (w2.setCell ⟨w.heap.size + 1 + 1, 3, none⟩ (.slice (some ⟨g, 0, none⟩) (j + 1) cap)).heap.size 59 4 (.slice (some ⟨g, 0, none⟩) (j + 1) cap) (j + 1) (((t.kids.take (j + 1)).map (GTy.sub F)).map GTy.toD) from ?_), Lib.hid (((HRa.out.below B1.out (by omega)).below B2.out (by omega)).far (p := ⟨w.heap.size + 1 + 1, 3, none⟩) (by simp <;> omega) _), Lib.hid (((HRz.out.below B1.out (by omega)).below B2.out (by omega)).far (p := ⟨w.heap.size + 1 + 1, 3, none⟩) (by simp <;> omega) _), Lib.hid (Ro3.out.set 3 _), ?_, B3.setCell (p := ⟨w.heap.size + 1 + 1, 3, none⟩) (by simp <;> omega) _⟩
                · rw [take_snoc' t.kids j hlt, List.map_append, List.map_append]
                  exact G3.out.keep (by simp [World.setCell]) (fun q hq _ => Below.heap_setCell _ ⟨w.heap.size + 1 + 1, 3, none⟩ _ q (by simp <;> omega))
                · have := B3.size; have := B1.out.size; simp [World.setCell]; omega
              case measure => simp [intOf]; omega
          · have hjl : j = t.kids.length := by omega
            obtain ⟨A', c', eV, how⟩ := HG.out.osl
            obtain ⟨rfl, rfl⟩ : A = A' ∧ c = c' := by simpa using eV
            subst hjl
            rw [List.take_length] at how
            clear eV HG hlt hj hca hco
            obtain ⟨p0, p1, p2, -⟩ := T0.out
            have hca := fun i => HRa.out.cell i
            have hco := fun i => HRo.out.cell i
            have hcz := fun i => HRz.out.cell i
            have hfz := fun i => HRz.out.frozen i
            have BF := setCells_below hbl (w.heap.size + 1) 0 (by omega) [.int .i64 t.op, .int .i64 t.n, .string t.s, .slice A t.kids.length c]
            have SF : (setCells wr (w.heap.size + 1) 0 [.int .i64 t.op, .int .i64 t.n, .string t.s, .slice A t.kids.length c]).heap.size = wr.heap.size := by rw [setCells_size]
            have how2 := how.keep (S' := Btw w.heap.size (setCells wr (w.heap.size + 1) 0 [.int .i64 t.op, .int .i64 t.n, .string t.s, .slice A t.kids.length c]).heap.size) (w' := (setCells wr (w.heap.size + 1) 0 [.int .i64 t.op, .int .i64 t.n, .string t.s, .slice A t.kids.length c])) fun q hq => ⟨⟨by have := hq.1; omega, by rw [SF]; exact hq.2⟩, setCells_block _ _ _ _ _ (by have := hq.1; omega)⟩
            have HOW := Lib.hid how2
            have HBF := Lib.hid BF
            have HS := Lib.hid (HN.out)
            clear how how2 BF SF
            go_wp2_with fail
            exact bodyPost_ret (v := .agg #[.int .i64 t.op, .int .i64 t.n, .string t.s, .slice A t.kids.length c]) (by simp [results, Try.results46, go_sem, hca, hcz, hco]) rfl ⟨A, c, by rw [HS.out]; simp [GTy.op, GTy.n, GTy.s, GTy.kids], by rw [HS.out]; exact ⟨p0, p1, p2, HOW.out⟩, HBF.out⟩
      have hk2 : ((t.kids.length : Int) == 0) = true := by rw [beq_iff_eq]; omega
      have HK := Lib.hid hk
      have HO2 := Lib.hid ho2
      clear hk ho2
      rcases idxI_find (l := l) (n := t.n) with ⟨q, hq, hi, hf⟩ | ⟨hi, hf⟩
      · have HN := Lib.hid (show t.sub F = (l[q]).ty from by rw [HF.out]; exact GTy.sub_some HO2.out HK.out hf)
        have hub : (l[q]).ty.bulk ≤ 1048576 := by have := bindOf_bulk hf; have := HL.out; omega
        clear hf
        go_enter Try.func46, Try.ntmps46
        go_wp2_with fail
        refine (specBindAt l Bl bc t.n _ (HSl.out.below E0.out E0.out.size)).mono ?_
        rintro e w1 ⟨rfl, hb1⟩
        rw [hi]
        clear hi
        have B1 := Lib.hid (E0.out.trans (hb1.mono E0.out.size))
        have Rz1 := Lib.hid (Rz0.out.below hb1 Rz0.out.lt)
        have hql : l.length ≤ 9223372036854775807 := by simpa using HSl.out.len
        obtain ⟨b3, off3, A3, c3, rfl, hSb3, q0, q1, q2, q3, q4, hat⟩ := GBind.elem (HSl.out.below B1.out (Nat.le_refl _)) q hq
        have HA := Lib.hid (show GTy.At w1 (Lt w1.heap.size) A3 c3 (l[q]).ty from hat.2.keep fun x hx => ⟨Nat.lt_of_lt_of_le hx B1.out.size, rfl⟩)
        clear hat hb1
        go_wp2_with fail
        refine (specTyCopy' (l[q]).ty A3 c3 _ hub HA.out).mono ?_
        rintro e w2 ⟨A4, c4, rfl, how, hb2⟩
        have Rz2 := Lib.hid (Rz1.out.below hb2 Rz1.out.lt)
        have hcz := fun i => Rz2.out.cell i
        have hfz := fun i => Rz2.out.frozen i
        have B2 := B1.out.trans (hb2.mono B1.out.size)
        have SF : (setCells w2 (w.heap.size + 1) 0 [.int .i64 (l[q]).ty.op, .int .i64 (l[q]).ty.n, .string (l[q]).ty.s, .slice A4 (l[q]).ty.kids.length c4]).heap.size = w2.heap.size := setCells_size _ _ _ _
        have BF := Lib.hid (setCells_below B2 (w.heap.size + 1) 0 (by omega) [.int .i64 (l[q]).ty.op, .int .i64 (l[q]).ty.n, .string (l[q]).ty.s, .slice A4 (l[q]).ty.kids.length c4])
        have HOW := Lib.hid (how.keep (S' := Btw w.heap.size (setCells w2 (w.heap.size + 1) 0 [.int .i64 (l[q]).ty.op, .int .i64 (l[q]).ty.n, .string (l[q]).ty.s, .slice A4 (l[q]).ty.kids.length c4]).heap.size) (w' := setCells w2 (w.heap.size + 1) 0 [.int .i64 (l[q]).ty.op, .int .i64 (l[q]).ty.n, .string (l[q]).ty.s, .slice A4 (l[q]).ty.kids.length c4]) fun x hx => ⟨⟨Nat.le_trans B1.out.size hx.1, by rw [SF]; exact hx.2⟩, setCells_block _ _ _ _ _ (by have := hx.1; have := Rz1.out.lt; omega)⟩)
        clear how hb2 B2 SF
        go_wp2_with fail
        exact bodyPost_ret (v := .agg #[.int .i64 (l[q]).ty.op, .int .i64 (l[q]).ty.n, .string (l[q]).ty.s, .slice A4 (l[q]).ty.kids.length c4]) (by simp [results, Try.results46, go_sem, hcz]) rfl ⟨A4, c4, by rw [HN.out], by rw [HN.out]; exact HOW.out, BF.out⟩
      · have HN := Lib.hid (show t.sub F = _ from GTy.sub_none (.inr (by rw [HF.out]; exact hf)))
        clear hf
        go_enter Try.func46, Try.ntmps46
        go_wp2_with fail
        refine (specBindAt l Bl bc t.n _ (HSl.out.below E0.out E0.out.size)).mono ?_
        rintro e w1 ⟨rfl, hb1⟩
        rw [hi]
        clear hi
        have B1 := Lib.hid (E0.out.trans (hb1.mono E0.out.size))
        have Ra1 := Lib.hid (Ra0.out.below hb1 Ra0.out.lt)
        have Rz1 := Lib.hid (Rz0.out.below hb1 Rz0.out.lt)
        have hs1 := Nat.le_trans S0 hb1.size
        have hca1 := fun i => Ra1.out.cell i
        have hlt1 := Ra1.out.lt
        clear hb1
        obtain ⟨w0, e0⟩ : ∃ w0, w0 = (w1).alloc (.cells #[.int .i64 t.op, .int .i64 t.n, .string t.s, .slice none 0 0] 59) := ⟨_, rfl⟩
        have HB0 := Lib.hid (show Below w.heap.size w w0 by rw [e0]; exact B1.out.alloc B1.out.size _)
        have HRa0 := Lib.hid (show Row w0 w.heap.size 59 #[.int .i64 t.op, .int .i64 t.n, .string t.s, .slice A1 t.kids.length c1] by rw [e0]; exact Ra1.out.alloc _)
        have HRz0 := Lib.hid (show Row w0 (w.heap.size + 1) 59 #[.int .i64 0, .int .i64 0, .string ⟨#[]⟩, .slice none 0 0] by rw [e0]; exact Rz1.out.alloc _)
        have HRo0 := Lib.hid (show Row w0 (w1.heap.size) 59 #[.int .i64 t.op, .int .i64 t.n, .string t.s, .slice none 0 0] by rw [e0]; exact Row.new' _ _ _ (by simp))
        have hs0 : w1.heap.size + 1 ≤ w0.heap.size := by rw [e0]; simp
        go_wp2_with fail
        rw [← e0]
        clear e0
        clear hca1
        go_loopw [7] (fun i wr => ∃ (j : Nat) (A : Option Addr) (c : Nat), j ≤ t.kids.length ∧ i = .int .i64 j ∧ Hid (Gow wr (w1.heap.size + 1) wr.heap.size 59 4 (.slice A j c) j (((t.kids.take j).map (GTy.sub F)).map GTy.toD)) ∧ Hid (Row wr w.heap.size 59 #[.int .i64 t.op, .int .i64 t.n, .string t.s, .slice A1 t.kids.length c1]) ∧ Hid (Row wr (w.heap.size + 1) 59 #[.int .i64 0, .int .i64 0, .string ⟨#[]⟩, .slice none 0 0]) ∧ Hid (Row wr (w1.heap.size) 59 #[.int .i64 t.op, .int .i64 t.n, .string t.s, .slice A j c]) ∧ w1.heap.size + 1 ≤ wr.heap.size ∧ Below w.heap.size w wr) (fun i _ => t.kids.length - (intOf i).toNat)
        case atStart => exact ⟨0, none, 0, by omega, by go_num, Lib.hid (Gow.nil _ _ _ _ _), HRa0, HRz0, HRo0, hs0, HB0.out⟩
        case round =>
          clear HRa0 HRz0 HRo0 HB0 hs0
          obtain ⟨j, A, c, hj, rfl, HG, HRa, HRz, HRo, hs3, hbl⟩ := hrel
          have hsz := hbl.size
          have hca := fun i => HRa.out.cell i
          have hco := fun i => HRo.out.cell i
          by_cases hlt : j < t.kids.length
          · exact absurd hlt (by have := HK.out; omega)
          · have hjl : j = t.kids.length := by omega
            obtain ⟨A', c', eV, how⟩ := HG.out.osl
            obtain ⟨rfl, rfl⟩ : A = A' ∧ c = c' := by simpa using eV
            subst hjl
            rw [List.take_length] at how
            clear eV HG hlt hj hca hco
            obtain ⟨p0, p1, p2, -⟩ := T0.out
            have hca := fun i => HRa.out.cell i
            have hco := fun i => HRo.out.cell i
            have hcz := fun i => HRz.out.cell i
            have hfz := fun i => HRz.out.frozen i
            have BF := setCells_below hbl (w.heap.size + 1) 0 (by omega) [.int .i64 t.op, .int .i64 t.n, .string t.s, .slice A t.kids.length c]
            have SF : (setCells wr (w.heap.size + 1) 0 [.int .i64 t.op, .int .i64 t.n, .string t.s, .slice A t.kids.length c]).heap.size = wr.heap.size := by rw [setCells_size]
            have how2 := how.keep (S' := Btw w.heap.size (setCells wr (w.heap.size + 1) 0 [.int .i64 t.op, .int .i64 t.n, .string t.s, .slice A t.kids.length c]).heap.size) (w' := (setCells wr (w.heap.size + 1) 0 [.int .i64 t.op, .int .i64 t.n, .string t.s, .slice A t.kids.length c])) fun q hq => ⟨⟨by have := hq.1; omega, by rw [SF]; exact hq.2⟩, setCells_block _ _ _ _ _ (by have := hq.1; omega)⟩
            have HOW := Lib.hid how2
            have HBF := Lib.hid BF
            have HS := Lib.hid (HN.out)
            clear how how2 BF SF
            go_wp2_with fail
            exact bodyPost_ret (v := .agg #[.int .i64 t.op, .int .i64 t.n, .string t.s, .slice A t.kids.length c]) (by simp [results, Try.results46, go_sem, hca, hcz, hco]) rfl ⟨A, c, by rw [HS.out]; simp [GTy.op, GTy.n, GTy.s, GTy.kids], by rw [HS.out]; exact ⟨p0, p1, p2, HOW.out⟩, HBF.out⟩

end Go.Proofs.Ytgbcdfeflgnogaa
