/- The bare vars of a type, in the order in which they are met. Conditions: none but a bound on the sizes. -/
import Derived.Test.YtgbcdfeflgnogaaInst
import Derived.Test.YtgbcdfeflgnogaaGrow
namespace Go.Proofs.Ytgbcdfeflgnogaa
open Go.RowKit
set_option linter.unusedVariables false
set_option linter.unusedSimpArgs false
set_option maxHeartbeats 1000000

mutual
/-- the bare vars of a type behind those that were met before -/
def GTy.met : GTy → List Int → List Int | .mk op n s kids, xs => GTy.metL kids (if op = 2 ∧ kids.length = 0 ∧ xs.any (fun x => x == n) = false then xs ++ [n] else xs)
def GTy.metL : List GTy → List Int → List Int | [], xs => xs | t :: r, xs => GTy.metL r (t.met xs)
end
theorem GTy.met_add {t : GTy} {xs : List Int} (h1 : t.op = 2) (h2 : t.kids.length = 0) (h3 : xs.any (fun x => x == t.n) = false) : t.met xs = GTy.metL t.kids (xs ++ [t.n]) := by
  cases t; simp only [GTy.op, GTy.kids, GTy.n] at h1 h2 h3 ⊢; simp only [GTy.met]; rw [if_pos ⟨h1, h2, h3⟩]
theorem GTy.met_keep {t : GTy} {xs : List Int} (h : ¬ (t.op = 2 ∧ t.kids.length = 0 ∧ xs.any (fun x => x == t.n) = false)) : t.met xs = GTy.metL t.kids xs := by
  cases t; simp only [GTy.op, GTy.kids, GTy.n] at h ⊢; simp only [GTy.met]; rw [if_neg h]
theorem GTy.metL_snoc (t : GTy) : ∀ (l : List GTy) (xs : List Int), GTy.metL (l ++ [t]) xs = t.met (GTy.metL l xs)
  | [], xs => by simp only [List.nil_append, GTy.metL]
  | u :: r, xs => by simp only [List.cons_append, GTy.metL]; exact GTy.metL_snoc t r _
theorem GTy.metL_take {l : List GTy} {j : Nat} (h : j < l.length) (xs : List Int) : GTy.metL (l.take (j + 1)) xs = (l[j]).met (GTy.metL (l.take j) xs) := by
  rw [take_snoc' l j h, GTy.metL_snoc]
theorem GTy.met_len (k : Nat) : ∀ (t : GTy) (xs : List Int), t.bulk < k → (t.met xs).length ≤ xs.length + t.bulk + 1 := by
  induction k with
  | zero => intro t xs h; omega
  | succ k ih =>
    intro t xs hk
    have hbe := t.bulk_eq
    have hL : ∀ (l : List GTy) (ys : List Int), (∀ x, x ∈ l → x.bulk < k) → (GTy.metL l ys).length ≤ ys.length + bulkL GTy.bulk l := by
      intro l
      induction l with
      | nil => intro ys _; simp [GTy.metL, bulkL]
      | cons x r ih2 =>
        intro ys hl
        simp only [GTy.metL, bulkL]
        have a := ih x ys (hl x (by simp))
        have b := ih2 (x.met ys) (fun y hy => hl y (by simp [hy]))
        omega
    by_cases hv : t.op = 2 ∧ t.kids.length = 0 ∧ xs.any (fun x => x == t.n) = false
    · have hk0 : t.kids = [] := List.eq_nil_of_length_eq_zero hv.2.1
      rw [GTy.met_add hv.1 hv.2.1 hv.2.2, hk0]
      simp [GTy.metL]
    · rw [GTy.met_keep hv]
      have := hL t.kids xs (fun x hx => by have := bulkL_mem GTy.bulk t.kids x hx; omega)
      omega
theorem GTy.metL_len (l : List GTy) : ∀ (xs : List Int), (GTy.metL l xs).length ≤ xs.length + bulkL GTy.bulk l := by
  induction l with
  | nil => intro xs; simp [GTy.metL, bulkL]
  | cons x r ih =>
    intro xs
    simp only [GTy.metL, bulkL]
    have a := GTy.met_len (x.bulk + 1) x xs (by omega)
    have b := ih (x.met xs)
    omega
theorem bulkL_take {α : Type} (f : α → Nat) (l : List α) {j : Nat} (h : j < l.length) : bulkL f (l.take j) + f l[j] + 1 ≤ bulkL f l := by
  induction l generalizing j with
  | nil => simp at h
  | cons x r ih =>
    cases j with
    | zero => simp [bulkL]; omega
    | succ j => simp only [List.take_succ_cons, bulkL, List.getElem_cons_succ]; have := ih (j := j) (by simpa using h); omega
theorem bulkL_snoc {α : Type} (f : α → Nat) (x : α) : ∀ l : List α, bulkL f (l ++ [x]) = bulkL f l + f x + 1
  | [] => by simp [bulkL]; omega
  | y :: r => by simp only [List.cons_append, bulkL, bulkL_snoc f x r]; omega
theorem met_next {l : List GTy} {j : Nat} (h : j < l.length) {zs : List Int} {n : Nat} (hz : zs.length ≤ n + bulkL GTy.bulk (l.take j)) : ((l[j]).met zs).length ≤ n + bulkL GTy.bulk (l.take (j + 1)) := by
  have := GTy.met_len _ (l[j]) zs (Nat.lt_succ_self _)
  rw [take_snoc' l j h, bulkL_snoc]
  omega
theorem any_at {α : Type} {f : α → Bool} {l : List α} {j : Nat} (h : j < l.length) (he : f l[j] = true) : l.any f = true := List.any_eq_true.2 ⟨l[j], List.getElem_mem h, he⟩
theorem any_none {α : Type} {f : α → Bool} {l : List α} (h : noneTo f l l.length) : l.any f = false := by
  rw [List.any_eq_false]
  intro x hx
  obtain ⟨i, hi, rfl⟩ := List.mem_iff_getElem.1 hx
  rw [h i hi hi]; simp

theorem specIntIn (l : List Int) (A : Option Addr) (c : Nat) (n : Int) (w : World) (hs : Sl w (Lt w.heap.size) 1 A c (l.map (D.num .i64))) :
    Calls Try.prog 205 #[.slice A l.length c, .int .i64 n] w fun e w' => e = .returned (.bool (l.any fun x => x == n)) ∧ Below w.heap.size w w' := by
  have hlen : l.length ≤ 9223372036854775807 := by simpa using hs.len
  have S0 := Lib.hid hs
  clear hs
  go_enter Try.func205, Try.ntmps205
  go_wp2_with fail
  go_loopw [5] (fun i wr => ∃ (j : Nat), j ≤ l.length ∧ i = .int .i64 j ∧ Hid (noneTo (fun x : Int => x == n) l j) ∧ Below w.heap.size w wr) (fun i _ => l.length - (intOf i).toNat)
  case atStart => exact ⟨0, by omega, by go_num, Lib.hid (noneTo_zero _ _), Below.refl _ _⟩
  case round =>
    obtain ⟨j, hj, rfl, HN, hbl⟩ := hrel
    by_cases hlt : j < l.length
    · obtain ⟨b, off, rfl, hSb, g0, _⟩ := int_elem (S0.out.below hbl (Nat.le_refl _)) j hlt
      cases he : (l[j] == n) with
      | true =>
        have HV := Lib.hid (any_at (f := fun x : Int => x == n) hlt he)
        go_wp2_with fail
        go_ret
        exact ⟨ret_bool HV.out.symm, hbl⟩
      | false =>
        have HN2 := Lib.hid (noneTo_succ HN.out hlt he)
        go_wp2_with fail
        go_roundw
        case rel => exact ⟨j + 1, by omega, by go_num, HN2, hbl⟩
        case measure => simp [intOf]; omega
    · have hjl : j = l.length := by omega
      have HV := Lib.hid (any_none (hjl ▸ HN.out))
      clear hjl
      go_wp2_with fail
      go_ret
      exact ⟨ret_bool HV.out.symm, hbl⟩
theorem any_flip (l : List Int) (n : Int) : (l.any fun x => n == x) = l.any fun x => x == n := by
  congr 1; funext x; rw [Bool.eq_iff_iff, beq_iff_eq, beq_iff_eq]; exact eq_comm
theorem implIntIn (l : List Int) (A : Option Addr) (c : Nat) (n : Int) (w : World) (hs : Sl w (Lt w.heap.size) 1 A c (l.map (D.num .i64))) :
    Calls Try.prog 203 #[.slice A l.length c, .int .i64 n] w fun e w' => e = .returned (.bool (l.any fun x => x == n)) ∧ Below w.heap.size w w' := by
  have HS := Lib.hid hs
  clear hs
  have HI : (decide ((idxI (fun x : Int => n == x) l) ≥ 0)) = l.any fun x => x == n := by
    rw [← any_flip]
    cases ha : l.any fun x => n == x with
    | true => have := idxI_any_true ha; simpa using this
    | false => rw [idxI_any_false ha]; rfl
  have HID := Lib.hid HI
  clear HI
  go_enter Try.func203, Try.ntmps203
  go_wp2_with fail
  refine (implIndexInt l A c n _ HS.out).mono ?_
  rintro e w1 ⟨rfl, hb1⟩
  go_wp2_with fail
  go_ret
  exact ⟨ret_bool HID.out, hb1⟩

set_option maxRecDepth 20000 in
theorem specMet (B k : Nat) : ∀ (t : GTy) (A1 : Option Addr) (c1 : Nat) (xs : List Int) (Vl : Option Addr) (vc : Nat) (w : World), t.bulk < k → xs.length + t.bulk ≤ 1048576 → B ≤ w.heap.size → Gsh w B 3 1 (.slice Vl xs.length vc) xs.length (xs.map (D.num .i64)) → GTy.At w (Lt B) A1 c1 t →
    Calls Try.prog 116 #[.agg #[.int .i64 t.op, .int .i64 t.n, .string t.s, .slice A1 t.kids.length c1], .slice Vl xs.length vc] w (Grows (D.num .i64) 3 1 B (t.met xs) (.slice Vl xs.length vc) w) := by
  induction k with
  | zero => intros; omega
  | succ k ih =>
    intro t A1 c1 xs Vl vc w hk h1 hB hg hat
    have hbe := t.bulk_eq
    have hlen : t.kids.length ≤ 1048576 := by have := bulkL_len GTy.bulk t.kids; omega
    have hxl : xs.length ≤ 1048576 := by omega
    have HKB := Lib.hid (fun (j : Nat) (h : j < t.kids.length) => bulkL_take GTy.bulk t.kids h)
    have HH := Lib.hid (fun (j : Nat) (h : j < t.kids.length) (A1 : Option Addr) (c1 : Nat) => ih t.kids[j] A1 c1)
    have HBE := Lib.hid hbe
    have HKK := Lib.hid hk
    have H1 := Lib.hid h1
    have T0 := Lib.hid hat
    obtain ⟨w0, e0⟩ : ∃ w0, w0 = w.alloc (.cells #[.int .i64 t.op, .int .i64 t.n, .string t.s, .slice A1 t.kids.length c1] 59) := ⟨_, rfl⟩
    have E0 := Lib.hid (show Below w.heap.size w w0 by rw [e0]; exact (Below.refl _ _).alloc (Nat.le_refl _) _)
    have Ra0 := Lib.hid (show Row w0 w.heap.size 59 #[.int .i64 t.op, .int .i64 t.n, .string t.s, .slice A1 t.kids.length c1] by rw [e0]; exact Row.new' _ _ _ rfl)
    have G0 := Lib.hid (hg.below E0.out hB)
    have GF := Lib.hid (show Gr w w0 (.slice Vl xs.length vc) (.slice Vl xs.length vc) from Gr.of_below E0.out)
    have hne0 : (Value.slice Vl xs.length vc).ownBlock ≠ some w.heap.size := fun e => by have := (hg.own _ e).2; omega
    have hBo := Lib.hid (fun g h => (hg.own g h).1)
    have S0 : w0.heap.size = w.heap.size + 1 := by rw [e0]; simp
    clear ih hbe hk h1 hat hg
    cases o2 : (t.op == 2)
    · have ho2 : ¬ t.op = 2 := by simpa using o2
      have HM := Lib.hid (GTy.met_keep (t := t) (xs := xs) fun h => ho2 h.1)
      clear ho2
      go_enter Try.func116, Try.ntmps116
      go_wp2_with fail
      rw [← e0]
      clear e0
      go_loopw [1, 5] (fun v i wr => ∃ (j : Nat) (zs : List Int) (A : Option Addr) (c : Nat), j ≤ t.kids.length ∧ i = .int .i64 j ∧ v = .slice A zs.length c ∧ Hid (zs = GTy.metL (t.kids.take j) xs) ∧ Hid (Gsh wr B 3 1 (.slice A zs.length c) zs.length (zs.map (D.num .i64))) ∧ Hid (Gr w wr (.slice Vl xs.length vc) (.slice A zs.length c)) ∧ (Value.slice A zs.length c).ownBlock ≠ some w.heap.size ∧ Hid (Row wr w.heap.size 59 #[.int .i64 t.op, .int .i64 t.n, .string t.s, .slice A1 t.kids.length c1]) ∧ zs.length ≤ xs.length + bulkL GTy.bulk (t.kids.take j)) (fun _ i _ => t.kids.length - (intOf i).toNat)
      case atStart => exact ⟨0, _, _, _, by omega, by go_num, rfl, Lib.hid (by simp [GTy.metL]), G0, GF, hne0, Ra0, by simp [bulkL]⟩
      case round =>
        obtain ⟨j, zs, A, c, hj, rfl, rfl, HZ, HG, HGr, hne, HRa, hzl⟩ := hrel
        have HB := Lib.hid (HGr.out.below hB hBo.out)
        have hca := fun i => HRa.out.cell i
        have hsz := HGr.out.size
        have hra := HRa.out.lt
        by_cases hlt : j < t.kids.length
        · obtain ⟨b, off, A2, c2, eA, hSb, g0, g1, g2, g3, hatk⟩ := GTy.elem (T0.out.below HB.out (Nat.le_refl _)).2.2.2 j hlt
          have HA := Lib.hid hatk
          have hbj := HKB.out j hlt
          subst eA
          clear hatk
          go_wp2_with fail
          refine (HH.out j hlt A2 c2 zs A c _ (by have := HKK.out; have := HBE.out; omega) (by have := H1.out; have := HBE.out; skip; omega) (by omega) HG.out HA.out).mono ?_
          rintro e w1 ⟨A3, c3, rfl, hG1, hGr1⟩
          have HG1 := Lib.hid hG1
          have HGr1 := Lib.hid hGr1
          clear hG1 hGr1
          go_wp2_with fail
          go_roundw
          case rel => exact ⟨j + 1, _, A3, c3, by omega, by go_num, rfl, Lib.hid (by rw [GTy.metL_take hlt, ← HZ.out]), HG1, Lib.hid (HGr.out.trans HGr1.out), HGr1.out.ne hne hra, Lib.hid (HGr1.out.row HRa.out hne), met_next hlt hzl⟩
          case measure => simp [intOf]; omega
        · have hjl : j = t.kids.length := by omega
          have HY := Lib.hid (show zs = t.met xs from by rw [HM.out, HZ.out, hjl, List.take_length])
          clear hjl
          go_wp2_with fail
          go_ret
          rw [← HY.out]
          exact ⟨A, c, rfl, HG.out, HGr.out⟩
    · have ho2 : t.op = 2 := by simpa using o2
      by_cases hk : t.kids.length = 0
      rotate_left
      · have hk2 : ((t.kids.length : Int) == 0) = false := by rw [beq_eq_false_iff_ne]; omega
        have HM := Lib.hid (GTy.met_keep (t := t) (xs := xs) fun h => hk h.2.1)
        clear ho2 hk
        go_enter Try.func116, Try.ntmps116
        go_wp2_with fail
        rw [← e0]
        clear e0
        go_loopw [1, 5] (fun v i wr => ∃ (j : Nat) (zs : List Int) (A : Option Addr) (c : Nat), j ≤ t.kids.length ∧ i = .int .i64 j ∧ v = .slice A zs.length c ∧ Hid (zs = GTy.metL (t.kids.take j) xs) ∧ Hid (Gsh wr B 3 1 (.slice A zs.length c) zs.length (zs.map (D.num .i64))) ∧ Hid (Gr w wr (.slice Vl xs.length vc) (.slice A zs.length c)) ∧ (Value.slice A zs.length c).ownBlock ≠ some w.heap.size ∧ Hid (Row wr w.heap.size 59 #[.int .i64 t.op, .int .i64 t.n, .string t.s, .slice A1 t.kids.length c1]) ∧ zs.length ≤ xs.length + bulkL GTy.bulk (t.kids.take j)) (fun _ i _ => t.kids.length - (intOf i).toNat)
        case atStart => exact ⟨0, _, _, _, by omega, by go_num, rfl, Lib.hid (by simp [GTy.metL]), G0, GF, hne0, Ra0, by simp [bulkL]⟩
        case round =>
          obtain ⟨j, zs, A, c, hj, rfl, rfl, HZ, HG, HGr, hne, HRa, hzl⟩ := hrel
          have HB := Lib.hid (HGr.out.below hB hBo.out)
          have hca := fun i => HRa.out.cell i
          have hsz := HGr.out.size
          have hra := HRa.out.lt
          by_cases hlt : j < t.kids.length
          · obtain ⟨b, off, A2, c2, eA, hSb, g0, g1, g2, g3, hatk⟩ := GTy.elem (T0.out.below HB.out (Nat.le_refl _)).2.2.2 j hlt
            have HA := Lib.hid hatk
            have hbj := HKB.out j hlt
            subst eA
            clear hatk
            go_wp2_with fail
            refine (HH.out j hlt A2 c2 zs A c _ (by have := HKK.out; have := HBE.out; omega) (by have := H1.out; have := HBE.out; skip; omega) (by omega) HG.out HA.out).mono ?_
            rintro e w1 ⟨A3, c3, rfl, hG1, hGr1⟩
            have HG1 := Lib.hid hG1
            have HGr1 := Lib.hid hGr1
            clear hG1 hGr1
            go_wp2_with fail
            go_roundw
            case rel => exact ⟨j + 1, _, A3, c3, by omega, by go_num, rfl, Lib.hid (by rw [GTy.metL_take hlt, ← HZ.out]), HG1, Lib.hid (HGr.out.trans HGr1.out), HGr1.out.ne hne hra, Lib.hid (HGr1.out.row HRa.out hne), met_next hlt hzl⟩
            case measure => simp [intOf]; omega
          · have hjl : j = t.kids.length := by omega
            have HY := Lib.hid (show zs = t.met xs from by rw [HM.out, HZ.out, hjl, List.take_length])
            clear hjl
            go_wp2_with fail
            go_ret
            rw [← HY.out]
            exact ⟨A, c, rfl, HG.out, HGr.out⟩
      have hk2 : ((t.kids.length : Int) == 0) = true := by rw [beq_iff_eq]; omega
      have HK := Lib.hid hk
      clear hk
      cases ha : xs.any (fun x => x == t.n)
      · skip
        have HM := Lib.hid (GTy.met_add (t := t) (xs := xs) ho2 HK.out ha)
        clear ho2
        have HSL := Lib.hid (show Sl w0 (Lt w0.heap.size) 1 Vl vc (xs.map (D.num .i64)) from by obtain ⟨A, c, e, h⟩ := G0.out.sl (by omega); cases e; exact h)
        have hca0 := fun i => Ra0.out.cell i
        go_enter Try.func116, Try.ntmps116
        go_wp2_with fail
        rw [← e0]
        clear e0
        refine (specIntIn xs Vl vc t.n w0 HSL.out).mono ?_
        rintro e w1 ⟨rfl, hb1⟩
        rw [ha]
        clear ha HSL hca0
        have Ra1 := Lib.hid (Ra0.out.below hb1 Ra0.out.lt)
        have G1 := Lib.hid (G0.out.below hb1 (by omega))
        have GF1 := Lib.hid (GF.out.trans (Gr.of_below hb1))
        have S1 := hb1.size
        clear hb1
        have hca1 := fun i => Ra1.out.cell i
        have hra1 := Ra1.out.lt
        have HD := Lib.hid (show (D.num .i64 t.n).rd w1 (Lt B) [.int .i64 t.n] from D.rd_num.2 ⟨rfl, T0.out.2.1⟩)
        go_wp2_with (first | (at_builtin; refine wpList_append_G w1 rfl (.tmp 22) (.tmp 25) 67 rfl 3 (.int .i64 0) 1 8 Try.underlying67 (by kernel_rfl) rfl (by omega) B (.slice Vl xs.length vc) xs.length _ G1.out (D.num .i64 t.n) [.int .i64 t.n] HD.out (by omega) rfl (by simp [Value.oneCell']) (by omega) (by omega) 3 rfl w1.heap.size rfl rfl ?_; intro g cap w2 G2 hGr2; have hca2 := fun i => (hGr2.row Ra1.out hne0).cell i))
        obtain ⟨ys, hys⟩ : ∃ ys, ys = xs ++ [t.n] := ⟨_, rfl⟩
        have e2 : xs.length + 1 = ys.length := by rw [hys]; simp
        have G2h := Lib.hid (show Gsh w2 B 3 1 (.slice (some ⟨g, 0, none⟩) ys.length cap) ys.length (ys.map (D.num .i64)) from by rw [← e2, hys, List.map_append]; exact G2)
        have GF2 := Lib.hid (show Gr w w2 (.slice Vl xs.length vc) (.slice (some ⟨g, 0, none⟩) ys.length cap) from by rw [← e2]; exact GF1.out.trans hGr2)
        have hne2 : (Value.slice (some ⟨g, 0, none⟩) ys.length cap).ownBlock ≠ some w.heap.size := by rw [← e2]; exact hGr2.ne hne0 hra1
        have Ra2 := Lib.hid (hGr2.row Ra1.out hne0)
        rw [e2]
        have ZL := Lib.hid HK.out
        rw [← hys] at HM
        clear hca1 G2 hGr2 hne0 e2 hys
        clear hca2
        go_loopw [1, 5] (fun v i wr => ∃ (j : Nat) (zs : List Int) (A : Option Addr) (c : Nat), j ≤ t.kids.length ∧ i = .int .i64 j ∧ v = .slice A zs.length c ∧ Hid (zs = GTy.metL (t.kids.take j) ys) ∧ Hid (Gsh wr B 3 1 (.slice A zs.length c) zs.length (zs.map (D.num .i64))) ∧ Hid (Gr w wr (.slice Vl xs.length vc) (.slice A zs.length c)) ∧ (Value.slice A zs.length c).ownBlock ≠ some w.heap.size ∧ Hid (Row wr w.heap.size 59 #[.int .i64 t.op, .int .i64 t.n, .string t.s, .slice A1 t.kids.length c1]) ∧ zs.length ≤ ys.length + bulkL GTy.bulk (t.kids.take j)) (fun _ i _ => t.kids.length - (intOf i).toNat)
        case atStart => exact ⟨0, _, _, _, by omega, by go_num, rfl, Lib.hid (by simp [GTy.metL]), G2h, GF2, hne2, Ra2, by simp [bulkL]⟩
        case round =>
          obtain ⟨j, zs, A, c, hj, rfl, rfl, HZ, HG, HGr, hne, HRa, hzl⟩ := hrel
          have HB := Lib.hid (HGr.out.below hB hBo.out)
          have hca := fun i => HRa.out.cell i
          have hsz := HGr.out.size
          have hra := HRa.out.lt
          by_cases hlt : j < t.kids.length
          · obtain ⟨b, off, A2, c2, eA, hSb, g0, g1, g2, g3, hatk⟩ := GTy.elem (T0.out.below HB.out (Nat.le_refl _)).2.2.2 j hlt
            have HA := Lib.hid hatk
            have hbj := HKB.out j hlt
            subst eA
            clear hatk
            go_wp2_with fail
            refine (HH.out j hlt A2 c2 zs A c _ (by have := HKK.out; have := HBE.out; omega) (by have := H1.out; have := HBE.out; have := ZL.out; omega) (by omega) HG.out HA.out).mono ?_
            rintro e w1 ⟨A3, c3, rfl, hG1, hGr1⟩
            have HG1 := Lib.hid hG1
            have HGr1 := Lib.hid hGr1
            clear hG1 hGr1
            go_wp2_with fail
            go_roundw
            case rel => exact ⟨j + 1, _, A3, c3, by omega, by go_num, rfl, Lib.hid (by rw [GTy.metL_take hlt, ← HZ.out]), HG1, Lib.hid (HGr.out.trans HGr1.out), HGr1.out.ne hne hra, Lib.hid (HGr1.out.row HRa.out hne), met_next hlt hzl⟩
            case measure => simp [intOf]; omega
          · have hjl : j = t.kids.length := by omega
            have HY := Lib.hid (show zs = t.met xs from by rw [HM.out, HZ.out, hjl, List.take_length])
            clear hjl
            go_wp2_with fail
            go_ret
            rw [← HY.out]
            exact ⟨A, c, rfl, HG.out, HGr.out⟩
      · skip
        have HM := Lib.hid (GTy.met_keep (t := t) (xs := xs) fun h => by have := h.2.2; rw [ha] at this; cases this)
        clear ho2
        have HSL := Lib.hid (show Sl w0 (Lt w0.heap.size) 1 Vl vc (xs.map (D.num .i64)) from by obtain ⟨A, c, e, h⟩ := G0.out.sl (by omega); cases e; exact h)
        have hca0 := fun i => Ra0.out.cell i
        go_enter Try.func116, Try.ntmps116
        go_wp2_with fail
        rw [← e0]
        clear e0
        refine (specIntIn xs Vl vc t.n w0 HSL.out).mono ?_
        rintro e w1 ⟨rfl, hb1⟩
        rw [ha]
        clear ha HSL hca0
        have Ra1 := Lib.hid (Ra0.out.below hb1 Ra0.out.lt)
        have G1 := Lib.hid (G0.out.below hb1 (by omega))
        have GF1 := Lib.hid (GF.out.trans (Gr.of_below hb1))
        have S1 := hb1.size
        clear hb1
        have hca1 := fun i => Ra1.out.cell i
        go_wp2_with fail
        clear hca1
        go_loopw [1, 5] (fun v i wr => ∃ (j : Nat) (zs : List Int) (A : Option Addr) (c : Nat), j ≤ t.kids.length ∧ i = .int .i64 j ∧ v = .slice A zs.length c ∧ Hid (zs = GTy.metL (t.kids.take j) xs) ∧ Hid (Gsh wr B 3 1 (.slice A zs.length c) zs.length (zs.map (D.num .i64))) ∧ Hid (Gr w wr (.slice Vl xs.length vc) (.slice A zs.length c)) ∧ (Value.slice A zs.length c).ownBlock ≠ some w.heap.size ∧ Hid (Row wr w.heap.size 59 #[.int .i64 t.op, .int .i64 t.n, .string t.s, .slice A1 t.kids.length c1]) ∧ zs.length ≤ xs.length + bulkL GTy.bulk (t.kids.take j)) (fun _ i _ => t.kids.length - (intOf i).toNat)
        case atStart => exact ⟨0, _, _, _, by omega, by go_num, rfl, Lib.hid (by simp [GTy.metL]), G1, GF1, hne0, Ra1, by simp [bulkL]⟩
        case round =>
          obtain ⟨j, zs, A, c, hj, rfl, rfl, HZ, HG, HGr, hne, HRa, hzl⟩ := hrel
          have HB := Lib.hid (HGr.out.below hB hBo.out)
          have hca := fun i => HRa.out.cell i
          have hsz := HGr.out.size
          have hra := HRa.out.lt
          by_cases hlt : j < t.kids.length
          · obtain ⟨b, off, A2, c2, eA, hSb, g0, g1, g2, g3, hatk⟩ := GTy.elem (T0.out.below HB.out (Nat.le_refl _)).2.2.2 j hlt
            have HA := Lib.hid hatk
            have hbj := HKB.out j hlt
            subst eA
            clear hatk
            go_wp2_with fail
            refine (HH.out j hlt A2 c2 zs A c _ (by have := HKK.out; have := HBE.out; omega) (by have := H1.out; have := HBE.out; skip; omega) (by omega) HG.out HA.out).mono ?_
            rintro e w1 ⟨A3, c3, rfl, hG1, hGr1⟩
            have HG1 := Lib.hid hG1
            have HGr1 := Lib.hid hGr1
            clear hG1 hGr1
            go_wp2_with fail
            go_roundw
            case rel => exact ⟨j + 1, _, A3, c3, by omega, by go_num, rfl, Lib.hid (by rw [GTy.metL_take hlt, ← HZ.out]), HG1, Lib.hid (HGr.out.trans HGr1.out), HGr1.out.ne hne hra, Lib.hid (HGr1.out.row HRa.out hne), met_next hlt hzl⟩
            case measure => simp [intOf]; omega
          · have hjl : j = t.kids.length := by omega
            have HY := Lib.hid (show zs = t.met xs from by rw [HM.out, HZ.out, hjl, List.take_length])
            clear hjl
            go_wp2_with fail
            go_ret
            rw [← HY.out]
            exact ⟨A, c, rfl, HG.out, HGr.out⟩

set_option maxRecDepth 20000 in
theorem implMet (B k : Nat) : ∀ (t : GTy) (A1 : Option Addr) (c1 : Nat) (xs : List Int) (Vl : Option Addr) (vc : Nat) (w : World), t.bulk < k → xs.length + t.bulk ≤ 1048576 → B ≤ w.heap.size → Gsh w B 3 1 (.slice Vl xs.length vc) xs.length (xs.map (D.num .i64)) → GTy.At w (Lt B) A1 c1 t →
    Calls Try.prog 111 #[.agg #[.int .i64 t.op, .int .i64 t.n, .string t.s, .slice A1 t.kids.length c1], .slice Vl xs.length vc] w (Grows (D.num .i64) 3 1 B (t.met xs) (.slice Vl xs.length vc) w) := by
  induction k with
  | zero => intros; omega
  | succ k ih =>
    intro t A1 c1 xs Vl vc w hk h1 hB hg hat
    have hbe := t.bulk_eq
    have hlen : t.kids.length ≤ 1048576 := by have := bulkL_len GTy.bulk t.kids; omega
    have hxl : xs.length ≤ 1048576 := by omega
    have HKB := Lib.hid (fun (j : Nat) (h : j < t.kids.length) => bulkL_take GTy.bulk t.kids h)
    have HH := Lib.hid (fun (j : Nat) (h : j < t.kids.length) (A1 : Option Addr) (c1 : Nat) => ih t.kids[j] A1 c1)
    have HBE := Lib.hid hbe
    have HKK := Lib.hid hk
    have H1 := Lib.hid h1
    have T0 := Lib.hid hat
    obtain ⟨w0, e0⟩ : ∃ w0, w0 = w.alloc (.cells #[.int .i64 t.op, .int .i64 t.n, .string t.s, .slice A1 t.kids.length c1] 59) := ⟨_, rfl⟩
    have E0 := Lib.hid (show Below w.heap.size w w0 by rw [e0]; exact (Below.refl _ _).alloc (Nat.le_refl _) _)
    have Ra0 := Lib.hid (show Row w0 w.heap.size 59 #[.int .i64 t.op, .int .i64 t.n, .string t.s, .slice A1 t.kids.length c1] by rw [e0]; exact Row.new' _ _ _ rfl)
    have G0 := Lib.hid (hg.below E0.out hB)
    have GF := Lib.hid (show Gr w w0 (.slice Vl xs.length vc) (.slice Vl xs.length vc) from Gr.of_below E0.out)
    have hne0 : (Value.slice Vl xs.length vc).ownBlock ≠ some w.heap.size := fun e => by have := (hg.own _ e).2; omega
    have hBo := Lib.hid (fun g h => (hg.own g h).1)
    have S0 : w0.heap.size = w.heap.size + 1 := by rw [e0]; simp
    clear ih hbe hk h1 hat hg
    cases o2 : (t.op == 2)
    · have ho2 : ¬ t.op = 2 := by simpa using o2
      have HM := Lib.hid (GTy.met_keep (t := t) (xs := xs) fun h => ho2 h.1)
      clear ho2
      go_enter Try.func111, Try.ntmps111
      go_wp2_with fail
      rw [← e0]
      clear e0
      go_loopw [1, 31] (fun v i wr => ∃ (j : Nat) (zs : List Int) (A : Option Addr) (c : Nat), j ≤ t.kids.length ∧ i = .int .i64 j ∧ v = .slice A zs.length c ∧ Hid (zs = GTy.metL (t.kids.take j) xs) ∧ Hid (Gsh wr B 3 1 (.slice A zs.length c) zs.length (zs.map (D.num .i64))) ∧ Hid (Gr w wr (.slice Vl xs.length vc) (.slice A zs.length c)) ∧ (Value.slice A zs.length c).ownBlock ≠ some w.heap.size ∧ Hid (Row wr w.heap.size 59 #[.int .i64 t.op, .int .i64 t.n, .string t.s, .slice A1 t.kids.length c1]) ∧ zs.length ≤ xs.length + bulkL GTy.bulk (t.kids.take j)) (fun _ i _ => t.kids.length - (intOf i).toNat)
      case atStart => exact ⟨0, _, _, _, by omega, by go_num, rfl, Lib.hid (by simp [GTy.metL]), G0, GF, hne0, Ra0, by simp [bulkL]⟩
      case round =>
        obtain ⟨j, zs, A, c, hj, rfl, rfl, HZ, HG, HGr, hne, HRa, hzl⟩ := hrel
        have HB := Lib.hid (HGr.out.below hB hBo.out)
        have hca := fun i => HRa.out.cell i
        have hsz := HGr.out.size
        have hra := HRa.out.lt
        by_cases hlt : j < t.kids.length
        · obtain ⟨b, off, A2, c2, eA, hSb, g0, g1, g2, g3, hatk⟩ := GTy.elem (T0.out.below HB.out (Nat.le_refl _)).2.2.2 j hlt
          have HA := Lib.hid hatk
          have hbj := HKB.out j hlt
          subst eA
          clear hatk
          go_wp2_with fail
          have HE := Lib.hid (show Below wr.heap.size wr (wr.alloc (.cells #[.int .i64 (t.kids[j]).op, .int .i64 (t.kids[j]).n, .string (t.kids[j]).s, .slice A2 (t.kids[j]).kids.length c2] 59)) from (Below.refl _ _).alloc (Nat.le_refl _) _)
          have HS1 : (wr.alloc (.cells #[.int .i64 (t.kids[j]).op, .int .i64 (t.kids[j]).n, .string (t.kids[j]).s, .slice A2 (t.kids[j]).kids.length c2] 59)).heap.size = wr.heap.size + 1 := by simp
          refine (HH.out j hlt A2 c2 zs A c _ (by have := HKK.out; have := HBE.out; omega) (by have := H1.out; have := HBE.out; skip; omega) (by omega) (HG.out.below HE.out (by omega)) (HA.out.below (HE.out.mono (by omega)) (Nat.le_refl _))).mono ?_
          rintro e w1 ⟨A3, c3, rfl, hG1, hGr1⟩
          have HG1 := Lib.hid hG1
          have HGr1 := Lib.hid ((Gr.of_below (v := .slice A zs.length c) HE.out).trans hGr1)
          clear hG1 hGr1
          go_wp2_with fail
          go_roundw
          case rel => exact ⟨j + 1, _, A3, c3, by omega, by go_num, rfl, Lib.hid (by rw [GTy.metL_take hlt, ← HZ.out]), HG1, Lib.hid (HGr.out.trans HGr1.out), HGr1.out.ne hne hra, Lib.hid (HGr1.out.row HRa.out hne), met_next hlt hzl⟩
          case measure => simp [intOf]; omega
        · have hjl : j = t.kids.length := by omega
          have HY := Lib.hid (show zs = t.met xs from by rw [HM.out, HZ.out, hjl, List.take_length])
          clear hjl
          go_wp2_with fail
          go_ret
          rw [← HY.out]
          exact ⟨A, c, rfl, HG.out, HGr.out⟩
    · have ho2 : t.op = 2 := by simpa using o2
      by_cases hk : t.kids.length = 0
      rotate_left
      · have hk2 : ((t.kids.length : Int) == 0) = false := by rw [beq_eq_false_iff_ne]; omega
        have HM := Lib.hid (GTy.met_keep (t := t) (xs := xs) fun h => hk h.2.1)
        clear ho2 hk
        go_enter Try.func111, Try.ntmps111
        go_wp2_with fail
        rw [← e0]
        clear e0
        go_loopw [1, 31] (fun v i wr => ∃ (j : Nat) (zs : List Int) (A : Option Addr) (c : Nat), j ≤ t.kids.length ∧ i = .int .i64 j ∧ v = .slice A zs.length c ∧ Hid (zs = GTy.metL (t.kids.take j) xs) ∧ Hid (Gsh wr B 3 1 (.slice A zs.length c) zs.length (zs.map (D.num .i64))) ∧ Hid (Gr w wr (.slice Vl xs.length vc) (.slice A zs.length c)) ∧ (Value.slice A zs.length c).ownBlock ≠ some w.heap.size ∧ Hid (Row wr w.heap.size 59 #[.int .i64 t.op, .int .i64 t.n, .string t.s, .slice A1 t.kids.length c1]) ∧ zs.length ≤ xs.length + bulkL GTy.bulk (t.kids.take j)) (fun _ i _ => t.kids.length - (intOf i).toNat)
        case atStart => exact ⟨0, _, _, _, by omega, by go_num, rfl, Lib.hid (by simp [GTy.metL]), G0, GF, hne0, Ra0, by simp [bulkL]⟩
        case round =>
          obtain ⟨j, zs, A, c, hj, rfl, rfl, HZ, HG, HGr, hne, HRa, hzl⟩ := hrel
          have HB := Lib.hid (HGr.out.below hB hBo.out)
          have hca := fun i => HRa.out.cell i
          have hsz := HGr.out.size
          have hra := HRa.out.lt
          by_cases hlt : j < t.kids.length
          · obtain ⟨b, off, A2, c2, eA, hSb, g0, g1, g2, g3, hatk⟩ := GTy.elem (T0.out.below HB.out (Nat.le_refl _)).2.2.2 j hlt
            have HA := Lib.hid hatk
            have hbj := HKB.out j hlt
            subst eA
            clear hatk
            go_wp2_with fail
            have HE := Lib.hid (show Below wr.heap.size wr (wr.alloc (.cells #[.int .i64 (t.kids[j]).op, .int .i64 (t.kids[j]).n, .string (t.kids[j]).s, .slice A2 (t.kids[j]).kids.length c2] 59)) from (Below.refl _ _).alloc (Nat.le_refl _) _)
            have HS1 : (wr.alloc (.cells #[.int .i64 (t.kids[j]).op, .int .i64 (t.kids[j]).n, .string (t.kids[j]).s, .slice A2 (t.kids[j]).kids.length c2] 59)).heap.size = wr.heap.size + 1 := by simp
            refine (HH.out j hlt A2 c2 zs A c _ (by have := HKK.out; have := HBE.out; omega) (by have := H1.out; have := HBE.out; skip; omega) (by omega) (HG.out.below HE.out (by omega)) (HA.out.below (HE.out.mono (by omega)) (Nat.le_refl _))).mono ?_
            rintro e w1 ⟨A3, c3, rfl, hG1, hGr1⟩
            have HG1 := Lib.hid hG1
            have HGr1 := Lib.hid ((Gr.of_below (v := .slice A zs.length c) HE.out).trans hGr1)
            clear hG1 hGr1
            go_wp2_with fail
            go_roundw
            case rel => exact ⟨j + 1, _, A3, c3, by omega, by go_num, rfl, Lib.hid (by rw [GTy.metL_take hlt, ← HZ.out]), HG1, Lib.hid (HGr.out.trans HGr1.out), HGr1.out.ne hne hra, Lib.hid (HGr1.out.row HRa.out hne), met_next hlt hzl⟩
            case measure => simp [intOf]; omega
          · have hjl : j = t.kids.length := by omega
            have HY := Lib.hid (show zs = t.met xs from by rw [HM.out, HZ.out, hjl, List.take_length])
            clear hjl
            go_wp2_with fail
            go_ret
            rw [← HY.out]
            exact ⟨A, c, rfl, HG.out, HGr.out⟩
      have hk2 : ((t.kids.length : Int) == 0) = true := by rw [beq_iff_eq]; omega
      have HK := Lib.hid hk
      clear hk
      cases ha : xs.any (fun x => x == t.n)
      · skip
        have HM := Lib.hid (GTy.met_add (t := t) (xs := xs) ho2 HK.out ha)
        clear ho2
        have HSL := Lib.hid (show Sl w0 (Lt w0.heap.size) 1 Vl vc (xs.map (D.num .i64)) from by obtain ⟨A, c, e, h⟩ := G0.out.sl (by omega); cases e; exact h)
        have hca0 := fun i => Ra0.out.cell i
        go_enter Try.func111, Try.ntmps111
        go_wp2_with fail
        rw [← e0]
        clear e0
        refine (implIntIn xs Vl vc t.n w0 HSL.out).mono ?_
        rintro e w1 ⟨rfl, hb1⟩
        rw [ha]
        clear ha HSL hca0
        have Ra1 := Lib.hid (Ra0.out.below hb1 Ra0.out.lt)
        have G1 := Lib.hid (G0.out.below hb1 (by omega))
        have GF1 := Lib.hid (GF.out.trans (Gr.of_below hb1))
        have S1 := hb1.size
        clear hb1
        have hca1 := fun i => Ra1.out.cell i
        have hra1 := Ra1.out.lt
        have HD := Lib.hid (show (D.num .i64 t.n).rd w1 (Lt B) [.int .i64 t.n] from D.rd_num.2 ⟨rfl, T0.out.2.1⟩)
        go_wp2_with (first | (at_builtin; refine wpList_append_G w1 rfl (.tmp 23) (.tmp 26) 67 rfl 3 (.int .i64 0) 1 8 Try.underlying67 (by kernel_rfl) rfl (by omega) B (.slice Vl xs.length vc) xs.length _ G1.out (D.num .i64 t.n) [.int .i64 t.n] HD.out (by omega) rfl (by simp [Value.oneCell']) (by omega) (by omega) 3 rfl w1.heap.size rfl rfl ?_; intro g cap w2 G2 hGr2; have hca2 := fun i => (hGr2.row Ra1.out hne0).cell i))
        obtain ⟨ys, hys⟩ : ∃ ys, ys = xs ++ [t.n] := ⟨_, rfl⟩
        have e2 : xs.length + 1 = ys.length := by rw [hys]; simp
        have G2h := Lib.hid (show Gsh w2 B 3 1 (.slice (some ⟨g, 0, none⟩) ys.length cap) ys.length (ys.map (D.num .i64)) from by rw [← e2, hys, List.map_append]; exact G2)
        have GF2 := Lib.hid (show Gr w w2 (.slice Vl xs.length vc) (.slice (some ⟨g, 0, none⟩) ys.length cap) from by rw [← e2]; exact GF1.out.trans hGr2)
        have hne2 : (Value.slice (some ⟨g, 0, none⟩) ys.length cap).ownBlock ≠ some w.heap.size := by rw [← e2]; exact hGr2.ne hne0 hra1
        have Ra2 := Lib.hid (hGr2.row Ra1.out hne0)
        rw [e2]
        have ZL := Lib.hid HK.out
        rw [← hys] at HM
        clear hca1 G2 hGr2 hne0 e2 hys
        clear hca2
        go_loopw [1, 31] (fun v i wr => ∃ (j : Nat) (zs : List Int) (A : Option Addr) (c : Nat), j ≤ t.kids.length ∧ i = .int .i64 j ∧ v = .slice A zs.length c ∧ Hid (zs = GTy.metL (t.kids.take j) ys) ∧ Hid (Gsh wr B 3 1 (.slice A zs.length c) zs.length (zs.map (D.num .i64))) ∧ Hid (Gr w wr (.slice Vl xs.length vc) (.slice A zs.length c)) ∧ (Value.slice A zs.length c).ownBlock ≠ some w.heap.size ∧ Hid (Row wr w.heap.size 59 #[.int .i64 t.op, .int .i64 t.n, .string t.s, .slice A1 t.kids.length c1]) ∧ zs.length ≤ ys.length + bulkL GTy.bulk (t.kids.take j)) (fun _ i _ => t.kids.length - (intOf i).toNat)
        case atStart => exact ⟨0, _, _, _, by omega, by go_num, rfl, Lib.hid (by simp [GTy.metL]), G2h, GF2, hne2, Ra2, by simp [bulkL]⟩
        case round =>
          obtain ⟨j, zs, A, c, hj, rfl, rfl, HZ, HG, HGr, hne, HRa, hzl⟩ := hrel
          have HB := Lib.hid (HGr.out.below hB hBo.out)
          have hca := fun i => HRa.out.cell i
          have hsz := HGr.out.size
          have hra := HRa.out.lt
          by_cases hlt : j < t.kids.length
          · obtain ⟨b, off, A2, c2, eA, hSb, g0, g1, g2, g3, hatk⟩ := GTy.elem (T0.out.below HB.out (Nat.le_refl _)).2.2.2 j hlt
            have HA := Lib.hid hatk
            have hbj := HKB.out j hlt
            subst eA
            clear hatk
            go_wp2_with fail
            have HE := Lib.hid (show Below wr.heap.size wr (wr.alloc (.cells #[.int .i64 (t.kids[j]).op, .int .i64 (t.kids[j]).n, .string (t.kids[j]).s, .slice A2 (t.kids[j]).kids.length c2] 59)) from (Below.refl _ _).alloc (Nat.le_refl _) _)
            have HS1 : (wr.alloc (.cells #[.int .i64 (t.kids[j]).op, .int .i64 (t.kids[j]).n, .string (t.kids[j]).s, .slice A2 (t.kids[j]).kids.length c2] 59)).heap.size = wr.heap.size + 1 := by simp
            refine (HH.out j hlt A2 c2 zs A c _ (by have := HKK.out; have := HBE.out; omega) (by have := H1.out; have := HBE.out; have := ZL.out; omega) (by omega) (HG.out.below HE.out (by omega)) (HA.out.below (HE.out.mono (by omega)) (Nat.le_refl _))).mono ?_
            rintro e w1 ⟨A3, c3, rfl, hG1, hGr1⟩
            have HG1 := Lib.hid hG1
            have HGr1 := Lib.hid ((Gr.of_below (v := .slice A zs.length c) HE.out).trans hGr1)
            clear hG1 hGr1
            go_wp2_with fail
            go_roundw
            case rel => exact ⟨j + 1, _, A3, c3, by omega, by go_num, rfl, Lib.hid (by rw [GTy.metL_take hlt, ← HZ.out]), HG1, Lib.hid (HGr.out.trans HGr1.out), HGr1.out.ne hne hra, Lib.hid (HGr1.out.row HRa.out hne), met_next hlt hzl⟩
            case measure => simp [intOf]; omega
          · have hjl : j = t.kids.length := by omega
            have HY := Lib.hid (show zs = t.met xs from by rw [HM.out, HZ.out, hjl, List.take_length])
            clear hjl
            go_wp2_with fail
            go_ret
            rw [← HY.out]
            exact ⟨A, c, rfl, HG.out, HGr.out⟩
      · skip
        have HM := Lib.hid (GTy.met_keep (t := t) (xs := xs) fun h => by have := h.2.2; rw [ha] at this; cases this)
        clear ho2
        have HSL := Lib.hid (show Sl w0 (Lt w0.heap.size) 1 Vl vc (xs.map (D.num .i64)) from by obtain ⟨A, c, e, h⟩ := G0.out.sl (by omega); cases e; exact h)
        have hca0 := fun i => Ra0.out.cell i
        go_enter Try.func111, Try.ntmps111
        go_wp2_with fail
        rw [← e0]
        clear e0
        refine (implIntIn xs Vl vc t.n w0 HSL.out).mono ?_
        rintro e w1 ⟨rfl, hb1⟩
        rw [ha]
        clear ha HSL hca0
        have Ra1 := Lib.hid (Ra0.out.below hb1 Ra0.out.lt)
        have G1 := Lib.hid (G0.out.below hb1 (by omega))
        have GF1 := Lib.hid (GF.out.trans (Gr.of_below hb1))
        have S1 := hb1.size
        clear hb1
        have hca1 := fun i => Ra1.out.cell i
        go_wp2_with fail
        clear hca1
        go_loopw [1, 31] (fun v i wr => ∃ (j : Nat) (zs : List Int) (A : Option Addr) (c : Nat), j ≤ t.kids.length ∧ i = .int .i64 j ∧ v = .slice A zs.length c ∧ Hid (zs = GTy.metL (t.kids.take j) xs) ∧ Hid (Gsh wr B 3 1 (.slice A zs.length c) zs.length (zs.map (D.num .i64))) ∧ Hid (Gr w wr (.slice Vl xs.length vc) (.slice A zs.length c)) ∧ (Value.slice A zs.length c).ownBlock ≠ some w.heap.size ∧ Hid (Row wr w.heap.size 59 #[.int .i64 t.op, .int .i64 t.n, .string t.s, .slice A1 t.kids.length c1]) ∧ zs.length ≤ xs.length + bulkL GTy.bulk (t.kids.take j)) (fun _ i _ => t.kids.length - (intOf i).toNat)
        case atStart => exact ⟨0, _, _, _, by omega, by go_num, rfl, Lib.hid (by simp [GTy.metL]), G1, GF1, hne0, Ra1, by simp [bulkL]⟩
        case round =>
          obtain ⟨j, zs, A, c, hj, rfl, rfl, HZ, HG, HGr, hne, HRa, hzl⟩ := hrel
          have HB := Lib.hid (HGr.out.below hB hBo.out)
          have hca := fun i => HRa.out.cell i
          have hsz := HGr.out.size
          have hra := HRa.out.lt
          by_cases hlt : j < t.kids.length
          · obtain ⟨b, off, A2, c2, eA, hSb, g0, g1, g2, g3, hatk⟩ := GTy.elem (T0.out.below HB.out (Nat.le_refl _)).2.2.2 j hlt
            have HA := Lib.hid hatk
            have hbj := HKB.out j hlt
            subst eA
            clear hatk
            go_wp2_with fail
            have HE := Lib.hid (show Below wr.heap.size wr (wr.alloc (.cells #[.int .i64 (t.kids[j]).op, .int .i64 (t.kids[j]).n, .string (t.kids[j]).s, .slice A2 (t.kids[j]).kids.length c2] 59)) from (Below.refl _ _).alloc (Nat.le_refl _) _)
            have HS1 : (wr.alloc (.cells #[.int .i64 (t.kids[j]).op, .int .i64 (t.kids[j]).n, .string (t.kids[j]).s, .slice A2 (t.kids[j]).kids.length c2] 59)).heap.size = wr.heap.size + 1 := by simp
            refine (HH.out j hlt A2 c2 zs A c _ (by have := HKK.out; have := HBE.out; omega) (by have := H1.out; have := HBE.out; skip; omega) (by omega) (HG.out.below HE.out (by omega)) (HA.out.below (HE.out.mono (by omega)) (Nat.le_refl _))).mono ?_
            rintro e w1 ⟨A3, c3, rfl, hG1, hGr1⟩
            have HG1 := Lib.hid hG1
            have HGr1 := Lib.hid ((Gr.of_below (v := .slice A zs.length c) HE.out).trans hGr1)
            clear hG1 hGr1
            go_wp2_with fail
            go_roundw
            case rel => exact ⟨j + 1, _, A3, c3, by omega, by go_num, rfl, Lib.hid (by rw [GTy.metL_take hlt, ← HZ.out]), HG1, Lib.hid (HGr.out.trans HGr1.out), HGr1.out.ne hne hra, Lib.hid (HGr1.out.row HRa.out hne), met_next hlt hzl⟩
            case measure => simp [intOf]; omega
          · have hjl : j = t.kids.length := by omega
            have HY := Lib.hid (show zs = t.met xs from by rw [HM.out, HZ.out, hjl, List.take_length])
            clear hjl
            go_wp2_with fail
            go_ret
            rw [← HY.out]
            exact ⟨A, c, rfl, HG.out, HGr.out⟩

end Go.Proofs.Ytgbcdfeflgnogaa
