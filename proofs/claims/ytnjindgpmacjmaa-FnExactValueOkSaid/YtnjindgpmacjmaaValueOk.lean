/- ValueOk: whether a value is right, in the program and in the reference. Conditions: none but a bound on the size. -/
import Derived.Test.YtnjindgpmacjmaaConOf
import Derived.Test.YtnjindgpmacjmaaWithin
import Derived.Test.YtnjindgpmacjmaaDeepVal
namespace Go.Proofs.Ytnjindgpmacjmaa
open Go.RowKit
set_option linter.unusedVariables false
set_option linter.unusedSimpArgs false
set_option maxHeartbeats 1000000

/-- how many arguments the con takes that bears a name -/
def conArgs (l : List GData) (s : ByteArray) : Option Nat := match conOf s l 0 with
  | some (j, k) => match l[j]? with
    | some d => match d.cons[k]? with
      | some c => some c.args.length
      | none => none
    | none => none
  | none => none
/-- is one value right by itself, with so many kids -/
def val1 (l : List GData) (kind n : Int) (s : ByteArray) (k : Nat) : Bool :=
  if kind = 1 then decide (-1073741824 ≤ n ∧ n ≤ 1073741823) && (s.toList.isEmpty && k == 0)
  else if kind = 3 then n == 0 && (s.toList.isEmpty && k == 0)
  else if kind = 2 then n == 0 && conArgs l s == some k else false

mutual
/-- is a value right, however deep? -/
def GValue.okS (l : List GData) : GValue → Bool | .mk kind n s kids => val1 l kind n s kids.length && GValue.okSL l kids
def GValue.okSL (l : List GData) : List GValue → Bool | [] => true | t :: r => t.okS l && GValue.okSL l r
end
theorem GValue.okS_eq (l : List GData) (t : GValue) : t.okS l = (val1 l t.kind t.n t.s t.kids.length && GValue.okSL l t.kids) := by
  cases t; simp only [GValue.okS, GValue.kind, GValue.n, GValue.s, GValue.kids]

theorem tagIn_lt {s : ByteArray} : ∀ {l : List GCon} {n m : Nat}, tagIn s l n = some m → n ≤ m ∧ m < n + l.length
  | [], _, _, h => by simp [tagIn] at h
  | c :: r, n, m, h => by
    simp only [tagIn] at h
    split at h
    · cases h; simp
    · have := tagIn_lt h; simp; omega
theorem conOf_lt {s : ByteArray} : ∀ {l : List GData} {n j k : Nat}, conOf s l n = some (j, k) → n ≤ j ∧ ∃ d, l[j - n]? = some d ∧ k < d.cons.length
  | [], _, _, _, h => by simp [conOf] at h
  | d :: r, n, j, k, h => by
    simp only [conOf] at h
    cases hc : tagIn s d.cons 0 with
    | some k' =>
      rw [hc] at h
      simp only [Option.some.injEq, Prod.mk.injEq] at h
      obtain ⟨rfl, rfl⟩ := h
      have := tagIn_lt hc
      exact ⟨Nat.le_refl _, d, by simp, by omega⟩
    | none =>
      rw [hc] at h
      obtain ⟨h1, d', h2, h3⟩ := conOf_lt h
      refine ⟨by omega, d', ?_, h3⟩
      rw [show j - n = (j - (n + 1)) + 1 from by omega]
      simpa using h2
theorem conArgs_some {l : List GData} {s : ByteArray} {j k : Nat} (h : conOf s l 0 = some (j, k)) : ∃ (hj : j < l.length) (hk : k < l[j].cons.length), conArgs l s = some (l[j].cons[k]).args.length := by
  obtain ⟨_, d, hd, hk⟩ := conOf_lt h
  obtain ⟨hj, e⟩ := List.getElem?_eq_some_iff.1 hd
  simp only [Nat.sub_zero] at hj e
  subst e
  refine ⟨hj, hk, ?_⟩
  unfold conArgs
  rw [h]
  simp [List.getElem?_eq_getElem hj, List.getElem?_eq_getElem hk]
theorem conArgs_none {l : List GData} {s : ByteArray} (h : conOf s l 0 = none) : conArgs l s = none := by
  unfold conArgs; rw [h]

/-- the first j kids are right -/
theorem okSL_drop {l : List GData} {ks : List GValue} {j : Nat} (h : j < ks.length) : GValue.okSL l (ks.drop j) = (ks[j].okS l && GValue.okSL l (ks.drop (j + 1))) := by
  rw [List.drop_eq_getElem_cons h, GValue.okSL]

/-- the end of a value's check: its kids are right, what is left is the node itself -/
def valEnd (l : List GData) (t : GValue) : Bool := val1 l t.kind t.n t.s t.kids.length

set_option maxRecDepth 20000 in
theorem specValue (k : Nat) : ∀ (l : List GData) (A : Option Addr) (c : Nat) (t : GValue) (A1 : Option Addr) (c1 : Nat) (w : World), t.bulk < k → Sl w (Lt w.heap.size) 3 A c (l.map GData.toD) → GValue.At w (Lt w.heap.size) A1 c1 t →
    Calls Try.prog 129 #[.slice A l.length c, .agg #[.int .i64 t.kind, .int .i64 t.n, .string t.s, .slice A1 t.kids.length c1]] w fun e w' => e = .returned (.bool (t.okS l)) ∧ Below w.heap.size w w' := by
  induction k with
  | zero => intro l A c t A1 c1 w h; omega
  | succ k ih =>
    intro l A c t A1 c1 w hk0 hs ht
    have hlen : t.kids.length ≤ 9223372036854775807 := by simpa using ht.2.2.2.len
    have hlen2 : l.length ≤ 9223372036854775807 := by simpa using hs.len
    have hte := Lib.hid (t.okS_eq l)
    have hbe := t.bulk_eq
    have S0 := Lib.hid hs
    have T0 := Lib.hid ht
    have hmem : Hid (∀ j (h : j < t.kids.length), (t.kids[j]).bulk < k) := Lib.hid (fun j h => by have := bulkL_mem GValue.bulk t.kids _ (List.getElem_mem h); omega)
    clear hs ht hbe hk0
    have E0 := Lib.hid (show Below w.heap.size w (w.alloc (.cells #[.int .i64 t.kind, .int .i64 t.n, .string t.s, .slice A1 t.kids.length c1] 29)) from (Below.refl _ _).alloc (Nat.le_refl _) _)
    have R0 := Lib.hid (Row.new w 29 #[.int .i64 t.kind, .int .i64 t.n, .string t.s, .slice A1 t.kids.length c1])
    go_enter Try.func129, Try.ntmps129
    go_wp2_with fail
    go_loopw [5] (fun i wr => ∃ (j : Nat), j ≤ t.kids.length ∧ i = .int .i64 j ∧ Hid (GValue.okSL l t.kids = GValue.okSL l (t.kids.drop j)) ∧ Hid (Row wr w.heap.size 29 #[.int .i64 t.kind, .int .i64 t.n, .string t.s, .slice A1 t.kids.length c1]) ∧ Below w.heap.size w wr) (fun i _ => t.kids.length - (intOf i).toNat)
    case atStart => exact ⟨0, by omega, by go_num, Lib.hid rfl, R0, E0.out⟩
    case round =>
      clear R0 E0
      obtain ⟨j, hj, rfl, HT, HR, hbl⟩ := hrel
      have hsz := hbl.size
      have hR := fun i => HR.out.cell i
      have hRl := HR.out.lt
      by_cases hlt : j < t.kids.length
      · obtain ⟨b, off, A2, c2, rfl, hSb, g0, g1, g2, g3, hat⟩ := GValue.elem (T0.out.below hbl (Nat.le_refl _)).2.2.2 j hlt
        have HB := Lib.hid (hmem.out j hlt)
        have HA := Lib.hid (hat.keep (S' := Lt wr.heap.size) (w' := wr) fun b hb => ⟨Nat.lt_of_lt_of_le hb hsz, rfl⟩)
        have HS := Lib.hid (S0.out.below hbl hsz)
        clear hat
        go_wp2_with fail
        refine (ih l A c (t.kids[j]) A2 c2 _ HB.out HS.out HA.out).mono ?_
        rintro e w1 ⟨rfl, hb1⟩
        have B1 := Lib.hid (hbl.trans (hb1.mono hsz))
        have R1 := Lib.hid (HR.out.below hb1 hRl)
        clear hb1
        have hd := okSL_drop (l := l) hlt
        cases hok : (t.kids[j]).okS l with
        | false =>
          have HF := Lib.hid (show t.okS l = false by rw [hte.out, HT.out, hd, hok]; simp)
          clear hd hok
          go_wp2_with fail
          go_ret
          exact ⟨ret_bool HF.out.symm, B1.out⟩
        | true =>
          have HT2 := Lib.hid (HT.out.trans (hd.trans (by rw [hok, Bool.true_and])))
          clear hd hok
          go_wp2_with fail
          go_roundw
          case rel => exact ⟨j + 1, by omega, by go_num, HT2, R1, B1.out⟩
          case measure => simp [intOf]; omega
      · have hjl : j = t.kids.length := by omega
        have HV := Lib.hid (show t.okS l = val1 l t.kind t.n t.s t.kids.length by rw [hte.out, HT.out, hjl, List.drop_length, GValue.okSL, Bool.and_true])
        clear hjl
        cases o1 : (t.kind == 1)
        · skip
          cases o3 : (t.kind == 3)
          · skip
            cases o2 : (t.kind == 2)
            · skip
              have hv := Lib.hid (show val1 l t.kind t.n t.s t.kids.length = false from by
                unfold val1; simp only [beq_iff_eq, beq_eq_false_iff_ne, ne_eq] at o1 o3 o2; simp [o1, o3, o2])
              go_wp2
              go_ret
              exact ⟨ret_bool (by rw [HV.out, hv.out]), hbl⟩
            · skip
              cases hc : conOf t.s l 0 with
              | none =>
                have hv := Lib.hid (show val1 l t.kind t.n t.s t.kids.length = false from by
                  unfold val1; simp only [beq_iff_eq, beq_eq_false_iff_ne, ne_eq] at o1 o3 o2; simp [o1, o3, o2, conArgs_none hc])
                have e1 : (conI (conOf t.s l 0)).1 = -1 := by rw [hc]; rfl
                have e2 : (conI (conOf t.s l 0)).2 = -1 := by rw [hc]; rfl
                have HS := Lib.hid (S0.out.below hbl hsz)
                go_wp2_with fail
                refine (specConOf l A c t.s _ HS.out).mono ?_
                rintro e w2 ⟨rfl, hb2⟩
                have B2 := Lib.hid (hbl.trans (hb2.mono hsz))
                have R2 := Lib.hid (HR.out.below hb2 hRl)
                rw [e1, e2]
                clear hb2 hc e1 e2 hR hRl
                have hR := fun i => R2.out.cell i
                cases a : (t.n == 0)
                all_goals
                  go_wp2_with fail
                  go_quiet (fail)
                  go_wp2_with fail
                  go_ret
                  exact ⟨ret_bool (by rw [HV.out, hv.out]), belowN B2.out _⟩
              | some jk =>
                obtain ⟨j', k'⟩ := jk
                obtain ⟨hj', hk', hca⟩ := conArgs_some hc
                have e1 : (conI (conOf t.s l 0)).1 = (j' : Int) := by rw [hc]; rfl
                have e2 : (conI (conOf t.s l 0)).2 = (k' : Int) := by rw [hc]; rfl
                have HS := Lib.hid (S0.out.below hbl hsz)
                have HCA := Lib.hid hca
                clear hca
                go_wp2_with fail
                refine (specConOf l A c t.s _ HS.out).mono ?_
                rintro e w2 ⟨rfl, hb2⟩
                have B2 := Lib.hid (hbl.trans (hb2.mono hsz))
                have R2 := Lib.hid (HR.out.below hb2 hRl)
                rw [e1, e2]
                clear hb2 hc e1 e2 hR hRl
                have hR := fun i => R2.out.cell i
                obtain ⟨b, off, A2, c2, rfl, hSb, g0, g1, g2, hat⟩ := GData.elem (S0.out.below B2.out (Nat.le_refl _)) j' hj'
                have hcl : (l[j']).cons.length ≤ 9223372036854775807 := by simpa using hat.2.2.len
                obtain ⟨b2, off2, A3, c3, rfl, hSb2, p0, p1, hat2⟩ := GCon.elem hat.2.2 k' hk'
                have hal : ((l[j']).cons[k']).args.length ≤ 9223372036854775807 := by simpa using hat2.2.len
                clear hat hat2 g0 g1 p0
                cases a : (t.n == 0)
                · have hv := Lib.hid (show val1 l t.kind t.n t.s t.kids.length = false from by
                    unfold val1; simp only [beq_iff_eq, beq_eq_false_iff_ne, ne_eq] at o1 o3 o2 a; simp [o1, o3, o2, a])
                  go_wp2_with fail
                  go_quiet (fail)
                  go_wp2_with fail
                  go_ret
                  exact ⟨ret_bool (by rw [HV.out, hv.out]), belowN B2.out _⟩
                · by_cases hk : ((l[j']).cons[k']).args.length = t.kids.length
                  · have hk2 : ((((l[j']).cons[k']).args.length : Int) == (t.kids.length : Int)) = true := by rw [beq_iff_eq]; omega
                    have hv := Lib.hid (show val1 l t.kind t.n t.s t.kids.length = true from by
                      unfold val1; rw [HCA.out]; simp only [beq_iff_eq, beq_eq_false_iff_ne, ne_eq] at o1 o3 o2 a; simp [o1, o3, o2, a, hk])
                    clear hk
                    go_wp2_with fail
                    go_quiet (fail)
                    go_wp2_with fail
                    go_ret
                    exact ⟨ret_bool (by rw [HV.out, hv.out]), belowN B2.out _⟩
                  · have hk2 : ((((l[j']).cons[k']).args.length : Int) == (t.kids.length : Int)) = false := by rw [beq_eq_false_iff_ne]; omega
                    have hv := Lib.hid (show val1 l t.kind t.n t.s t.kids.length = false from by
                      unfold val1; rw [HCA.out]; simp only [beq_iff_eq, beq_eq_false_iff_ne, ne_eq] at o1 o3 o2 a; simp [o1, o3, o2, a, hk])
                    clear hk
                    go_wp2_with fail
                    go_quiet (fail)
                    go_wp2_with fail
                    go_ret
                    exact ⟨ret_bool (by rw [HV.out, hv.out]), belowN B2.out _⟩
          · skip
            cases a : (t.n == 0)
            · skip
              have hv := Lib.hid (show val1 l t.kind t.n t.s t.kids.length = false from by
                unfold val1; simp only [beq_iff_eq, beq_eq_false_iff_ne, ne_eq] at o1 o3 a; simp [o1, o3, a])
              go_wp2
              go_ret
              exact ⟨ret_bool (by rw [HV.out, hv.out]), hbl⟩
            · skip
              cases b : (t.s.toList.isEmpty)
              · skip
                have hv := Lib.hid (show val1 l t.kind t.n t.s t.kids.length = false from by
                  unfold val1; simp only [beq_iff_eq, beq_eq_false_iff_ne, ne_eq] at o1 o3 a b; simp [o1, o3, a, b])
                go_wp2
                go_ret
                exact ⟨ret_bool (by rw [HV.out, hv.out]), hbl⟩
              · skip
                by_cases hk : t.kids.length = 0
                · have hk2 : ((t.kids.length : Int) == 0) = true := by rw [beq_iff_eq]; omega
                  have hv := Lib.hid (show val1 l t.kind t.n t.s t.kids.length = true from by
                    unfold val1; simp only [beq_iff_eq, beq_eq_false_iff_ne, ne_eq] at o1 o3 a b; simp [o1, o3, a, b, hk])
                  clear hk
                  go_wp2
                  go_ret
                  exact ⟨ret_bool (by rw [HV.out, hv.out]), hbl⟩
                · have hk2 : ((t.kids.length : Int) == 0) = false := by rw [beq_eq_false_iff_ne]; omega
                  have hv := Lib.hid (show val1 l t.kind t.n t.s t.kids.length = false from by
                    unfold val1; simp only [beq_iff_eq, beq_eq_false_iff_ne, ne_eq] at o1 o3 a b; simp [o1, o3, a, b, hk])
                  clear hk
                  go_wp2
                  go_ret
                  exact ⟨ret_bool (by rw [HV.out, hv.out]), hbl⟩
        · skip
          by_cases h : -1073741824 ≤ t.n
          · by_cases h' : t.n ≤ 1073741823
            · skip
              cases b : (t.s.toList.isEmpty)
              · skip
                have hv := Lib.hid (show val1 l t.kind t.n t.s t.kids.length = false from by
                  unfold val1; simp only [beq_iff_eq, beq_eq_false_iff_ne, ne_eq] at o1 b; simp [o1, h, h', b])
                go_wp2
                go_ret
                exact ⟨ret_bool (by rw [HV.out, hv.out]), hbl⟩
              · skip
                by_cases hk : t.kids.length = 0
                · have hk2 : ((t.kids.length : Int) == 0) = true := by rw [beq_iff_eq]; omega
                  have hv := Lib.hid (show val1 l t.kind t.n t.s t.kids.length = true from by
                    unfold val1; simp only [beq_iff_eq, beq_eq_false_iff_ne, ne_eq] at o1 b; simp [o1, h, h', b, hk])
                  clear hk
                  go_wp2
                  go_ret
                  exact ⟨ret_bool (by rw [HV.out, hv.out]), hbl⟩
                · have hk2 : ((t.kids.length : Int) == 0) = false := by rw [beq_eq_false_iff_ne]; omega
                  have hv := Lib.hid (show val1 l t.kind t.n t.s t.kids.length = false from by
                    unfold val1; simp only [beq_iff_eq, beq_eq_false_iff_ne, ne_eq] at o1 b; simp [o1, h, h', b, hk])
                  clear hk
                  go_wp2
                  go_ret
                  exact ⟨ret_bool (by rw [HV.out, hv.out]), hbl⟩
            · skip
              have hv := Lib.hid (show val1 l t.kind t.n t.s t.kids.length = false from by
                unfold val1; simp only [beq_iff_eq, beq_eq_false_iff_ne, ne_eq] at o1; simp [o1, h, h'])
              go_wp2
              go_ret
              exact ⟨ret_bool (by rw [HV.out, hv.out]), hbl⟩
          · skip
            have hv := Lib.hid (show val1 l t.kind t.n t.s t.kids.length = false from by
              unfold val1; simp only [beq_iff_eq, beq_eq_false_iff_ne, ne_eq] at o1; simp [o1, h])
            go_wp2
            go_ret
            exact ⟨ret_bool (by rw [HV.out, hv.out]), hbl⟩

/-- ValueOk, for a depth of so many -/
def vB (l : List GData) (t : GValue) (r : Nat) : Bool := decide (t.deep ≤ r) && t.okS l
def vBL (l : List GData) (ks : List GValue) (r : Nat) : Bool := decide (GValue.deepL ks ≤ r) && GValue.okSL l ks
theorem vBL_drop {l : List GData} {ks : List GValue} {r j : Nat} (h : j < ks.length) : vBL l (ks.drop j) r = (vB l ks[j] r && vBL l (ks.drop (j + 1)) r) := by
  unfold vBL vB
  rw [List.drop_eq_getElem_cons h, GValue.okSL, GValue.deepL]
  by_cases h1 : (ks[j]).deep ≤ r <;> by_cases h2 : GValue.deepL (ks.drop (j + 1)) ≤ r
  all_goals simp only [Nat.max_le, h1, h2, and_self, and_true, and_false, true_and, false_and, decide_true, decide_false, Bool.true_and, Bool.false_and, Bool.and_false]
theorem vB_zero {l : List GData} {t : GValue} : vB l t 0 = false := by
  unfold vB; have := t.deep_eq; rw [decide_eq_false (by omega)]; rfl
theorem vB_bad {l : List GData} {t : GValue} {r : Nat} (h : val1 l t.kind t.n t.s t.kids.length = false) : vB l t r = false := by
  unfold vB; rw [t.okS_eq, h]; simp
theorem vB_leaf {l : List GData} {t : GValue} {r : Nat} (h : val1 l t.kind t.n t.s t.kids.length = true) (hk : t.kids.length = 0) : vB l t (r + 1) = true := by
  have hk' : t.kids = [] := List.eq_nil_of_length_eq_zero hk
  unfold vB
  rw [t.okS_eq, h, t.deep_eq, hk']
  simp [GValue.deepL, GValue.okSL]
theorem vB_con {l : List GData} {t : GValue} {r : Nat} (h : val1 l t.kind t.n t.s t.kids.length = true) : vB l t (r + 1) = vBL l t.kids r := by
  unfold vB vBL
  rw [t.okS_eq, h, t.deep_eq, Bool.true_and]
  congr 1
  rw [decide_eq_decide]; omega

theorem specValueOk (l : List GData) (A : Option Addr) (c : Nat) (t : GValue) (A1 : Option Addr) (c1 : Nat) (w : World) (hb : t.bulk ≤ 1048576) (hs : Sl w (Lt w.heap.size) 3 A c (l.map GData.toD)) (ht : GValue.At w (Lt w.heap.size) A1 c1 t) :
    Calls Try.prog 74 #[.slice A l.length c, .agg #[.int .i64 t.kind, .int .i64 t.n, .string t.s, .slice A1 t.kids.length c1]] w fun e w' => e = .returned (.bool (vB l t 200)) ∧ Below w.heap.size w w' := by
  have hd := t.deep_bulk
  have E : Below w.heap.size w (w.alloc (.cells #[.int .i64 t.kind, .int .i64 t.n, .string t.s, .slice A1 t.kids.length c1] 29)) := (Below.refl _ _).alloc (Nat.le_refl _) _
  by_cases h : t.deep ≤ 200
  · have HV := Lib.hid (show vB l t 200 = t.okS l by unfold vB; rw [decide_eq_true h, Bool.true_and])
    have hI : (t.deep : Int) ≤ 200 := by omega
    go_enter Try.func74, Try.ntmps74
    go_wp2_with fail
    refine (specDeepVal _ t A1 c1 _ (Nat.le_refl _) (by omega) (ht.below E E.size)).mono ?_
    rintro e w1 ⟨rfl, hb1⟩
    have B1 := E.trans (hb1.mono E.size)
    have R1 := Lib.hid ((Row.new w 29 #[.int .i64 t.kind, .int .i64 t.n, .string t.s, .slice A1 t.kids.length c1]).below hb1 (Row.new w 29 #[.int .i64 t.kind, .int .i64 t.n, .string t.s, .slice A1 t.kids.length c1]).lt)
    have hR := fun i => R1.out.cell i
    go_wp2_with fail
    refine (specValue (t.bulk + 1) l A c t A1 c1 _ (by omega) (hs.below B1 B1.size) (ht.below B1 B1.size)).mono ?_
    rintro e w2 ⟨rfl, hb2⟩
    go_wp2_with fail
    go_ret
    exact ⟨ret_bool HV.out.symm, B1.trans (hb2.mono B1.size)⟩
  · have HV := Lib.hid (show vB l t 200 = false by unfold vB; rw [decide_eq_false h]; rfl)
    have hI : decide ((t.deep : Int) ≤ 200) = false := decide_eq_false (by omega)
    go_enter Try.func74, Try.ntmps74
    go_wp2_with fail
    refine (specDeepVal _ t A1 c1 _ (Nat.le_refl _) (by omega) (ht.below E E.size)).mono ?_
    rintro e w1 ⟨rfl, hb1⟩
    have B1 := E.trans (hb1.mono E.size)
    have R1 := Lib.hid ((Row.new w 29 #[.int .i64 t.kind, .int .i64 t.n, .string t.s, .slice A1 t.kids.length c1]).below hb1 (Row.new w 29 #[.int .i64 t.kind, .int .i64 t.n, .string t.s, .slice A1 t.kids.length c1]).lt)
    have hR := fun i => R1.out.cell i
    go_wp2_with fail
    go_ret
    exact ⟨ret_bool HV.out.symm, B1⟩

set_option maxRecDepth 20000 in
theorem implValue (k : Nat) : ∀ (l : List GData) (A : Option Addr) (c : Nat) (t : GValue) (A1 : Option Addr) (c1 : Nat) (r : Nat) (w : World), t.bulk < k → r ≤ 200 → Sl w (Lt w.heap.size) 3 A c (l.map GData.toD) → GValue.At w (Lt w.heap.size) A1 c1 t →
    Calls Try.prog 130 #[.slice A l.length c, .agg #[.int .i64 t.kind, .int .i64 t.n, .string t.s, .slice A1 t.kids.length c1], .int .i64 r] w fun e w' => e = .returned (.bool (vB l t r)) ∧ Below w.heap.size w w' := by
  induction k with
  | zero => intro l A c t A1 c1 r w h; omega
  | succ k ih =>
    intro l A c t A1 c1 r w hk0 hr hs ht
    have hlen : t.kids.length ≤ 9223372036854775807 := by simpa using ht.2.2.2.len
    have hlen2 : l.length ≤ 9223372036854775807 := by simpa using hs.len
    have hbe := t.bulk_eq
    have S0 := Lib.hid hs
    have T0 := Lib.hid ht
    have hmem : Hid (∀ j (h : j < t.kids.length), (t.kids[j]).bulk < k) := Lib.hid (fun j h => by have := bulkL_mem GValue.bulk t.kids _ (List.getElem_mem h); omega)
    clear hs ht hbe hk0
    have E0 := Lib.hid (show Below w.heap.size w (w.alloc (.cells #[.int .i64 t.kind, .int .i64 t.n, .string t.s, .slice A1 t.kids.length c1] 29)) from (Below.refl _ _).alloc (Nat.le_refl _) _)
    have R0 := Lib.hid (Row.new w 29 #[.int .i64 t.kind, .int .i64 t.n, .string t.s, .slice A1 t.kids.length c1])
    match r, hr with
    | 0, _ =>
      go_enter Try.func130, Try.ntmps130
      go_wp2_with fail
      go_ret
      exact ⟨ret_bool vB_zero.symm, E0.out⟩
    | r + 1, hr =>
      cases o1 : (t.kind == 1)
      · skip
        cases o3 : (t.kind == 3)
        · skip
          cases o2 : (t.kind == 2)
          · skip
            have hv := Lib.hid (show val1 l t.kind t.n t.s t.kids.length = false from by
              unfold val1; simp only [beq_iff_eq, beq_eq_false_iff_ne, ne_eq] at o1 o3 o2; simp [o1, o3, o2])
            go_enter Try.func130, Try.ntmps130
            go_wp2
            go_ret
            exact ⟨ret_bool (vB_bad hv.out).symm, E0.out⟩
          · skip
            cases hc : conOf t.s l 0 with
            | none =>
              have hv := Lib.hid (show val1 l t.kind t.n t.s t.kids.length = false from by
                unfold val1; simp only [beq_iff_eq, beq_eq_false_iff_ne, ne_eq] at o1 o3 o2; simp [o1, o3, o2, conArgs_none hc])
              have e1 : (conI (conOf t.s l 0)).1 = -1 := by rw [hc]; rfl
              have e2 : (conI (conOf t.s l 0)).2 = -1 := by rw [hc]; rfl
              go_enter Try.func130, Try.ntmps130
              go_wp2_with fail
              refine (implConOf l A c t.s _ (S0.out.below E0.out E0.out.size)).mono ?_
              rintro e w2 ⟨rfl, hb2⟩
              have B2 := Lib.hid (E0.out.trans (hb2.mono E0.out.size))
              have R2 := Lib.hid (R0.out.below hb2 R0.out.lt)
              rw [e1, e2]
              clear hb2 hc e1 e2
              have hR := fun i => R2.out.cell i
              cases a : (t.n == 0)
              all_goals
                have a' := (show (t.n != 0) = _ from by rw [bne, a])
                go_wp2_with fail
                go_quiet (fail)
                go_wp2_with fail
                go_ret
                exact ⟨ret_bool (vB_bad hv.out).symm, belowN B2.out _⟩
            | some jk =>
              obtain ⟨j', k'⟩ := jk
              obtain ⟨hj', hk', hca⟩ := conArgs_some hc
              have e1 : (conI (conOf t.s l 0)).1 = (j' : Int) := by rw [hc]; rfl
              have e2 : (conI (conOf t.s l 0)).2 = (k' : Int) := by rw [hc]; rfl
              have HCA := Lib.hid hca
              clear hca
              go_enter Try.func130, Try.ntmps130
              go_wp2_with fail
              refine (implConOf l A c t.s _ (S0.out.below E0.out E0.out.size)).mono ?_
              rintro e w2 ⟨rfl, hb2⟩
              have B2 := Lib.hid (E0.out.trans (hb2.mono E0.out.size))
              have R2 := Lib.hid (R0.out.below hb2 R0.out.lt)
              rw [e1, e2]
              clear hb2 hc e1 e2
              have hR := fun i => R2.out.cell i
              obtain ⟨b, off, A2, c2, rfl, hSb, g0, g1, g2, hat⟩ := GData.elem (S0.out.below B2.out (Nat.le_refl _)) j' hj'
              have hcl : (l[j']).cons.length ≤ 9223372036854775807 := by simpa using hat.2.2.len
              obtain ⟨b2, off2, A3, c3, rfl, hSb2, p0, p1, hat2⟩ := GCon.elem hat.2.2 k' hk'
              have hal : ((l[j']).cons[k']).args.length ≤ 9223372036854775807 := by simpa using hat2.2.len
              clear hat hat2 g0 g1 p0
              cases a : (t.n == 0)
              · have hv := Lib.hid (show val1 l t.kind t.n t.s t.kids.length = false from by
                  unfold val1; simp only [beq_iff_eq, beq_eq_false_iff_ne, ne_eq] at o1 o3 o2 a; simp [o1, o3, o2, a])
                have a' : (t.n != 0) = true := by rw [bne, a]; rfl
                go_wp2_with fail
                go_quiet (fail)
                go_wp2_with fail
                go_ret
                exact ⟨ret_bool (vB_bad hv.out).symm, belowN B2.out _⟩
              · have a' : (t.n != 0) = false := by rw [bne, a]; rfl
                by_cases hk : ((l[j']).cons[k']).args.length = t.kids.length
                rotate_left
                · have hk2 : ((((l[j']).cons[k']).args.length : Int) != (t.kids.length : Int)) = true := by rw [bne_iff_ne]; omega
                  have hv := Lib.hid (show val1 l t.kind t.n t.s t.kids.length = false from by
                    unfold val1; rw [HCA.out]; simp only [beq_iff_eq, beq_eq_false_iff_ne, ne_eq] at o1 o3 o2 a; simp [o1, o3, o2, a, hk])
                  clear hk
                  go_wp2_with fail
                  go_quiet (fail)
                  go_wp2_with fail
                  go_ret
                  exact ⟨ret_bool (vB_bad hv.out).symm, belowN B2.out _⟩
                have hk2 : ((((l[j']).cons[k']).args.length : Int) != (t.kids.length : Int)) = false := by rw [bne_eq_false_iff_eq]; omega
                have hv := Lib.hid (show val1 l t.kind t.n t.s t.kids.length = true from by
                  unfold val1; rw [HCA.out]; simp only [beq_iff_eq, beq_eq_false_iff_ne, ne_eq] at o1 o3 o2 a; simp [o1, o3, o2, a, hk])
                have HV := Lib.hid (vB_con (r := r) hv.out)
                clear hk
                go_wp2_with fail
                go_quiet (fail)
                go_wp2_with fail
                go_loopw [82] (fun i wr => ∃ (j : Nat), j ≤ t.kids.length ∧ i = .int .i64 j ∧ Hid (vB l t (r + 1) = vBL l (t.kids.drop j) r) ∧ Below w.heap.size w wr) (fun i _ => t.kids.length - (intOf i).toNat)
                case atStart => exact ⟨0, by omega, by go_num, HV, belowN B2.out _⟩
                case round =>
                  clear B2 R2 hR g2 p1
                  obtain ⟨j, hj, rfl, HT, hbl⟩ := hrel
                  have hsz := hbl.size
                  by_cases hlt : j < t.kids.length
                  · obtain ⟨b4, off4, A4, c4, rfl, hSb4, q0, q1, q2, q3, hat⟩ := GValue.elem (T0.out.below hbl (Nat.le_refl _)).2.2.2 j hlt
                    have HB := Lib.hid (hmem.out j hlt)
                    have E4 := Lib.hid (show Below w.heap.size w (wr.alloc (.cells #[.int .i64 (t.kids[j]).kind, .int .i64 (t.kids[j]).n, .string (t.kids[j]).s, .slice A4 (t.kids[j]).kids.length c4] 29)) from hbl.alloc hsz _)
                    have HA := Lib.hid (hat.keep (S' := Lt (wr.alloc (.cells #[.int .i64 (t.kids[j]).kind, .int .i64 (t.kids[j]).n, .string (t.kids[j]).s, .slice A4 (t.kids[j]).kids.length c4] 29)).heap.size) (w' := wr.alloc (.cells #[.int .i64 (t.kids[j]).kind, .int .i64 (t.kids[j]).n, .string (t.kids[j]).s, .slice A4 (t.kids[j]).kids.length c4] 29)) fun b hb => ⟨Nat.lt_of_lt_of_le hb E4.out.size, Below.heap_alloc _ _ _ (Nat.lt_of_lt_of_le hb hsz)⟩)
                    have HS := Lib.hid (S0.out.below E4.out E4.out.size)
                    clear hat
                    go_wp2_with fail
                    refine (ih l _ c (t.kids[j]) A4 c4 r _ HB.out (by omega) HS.out HA.out).mono ?_
                    rintro e w1 ⟨rfl, hb1⟩
                    have B1 := Lib.hid (E4.out.trans (hb1.mono E4.out.size))
                    clear hb1
                    have hd := vBL_drop (l := l) (r := r) hlt
                    cases hok : vB l t.kids[j] r with
                    | false =>
                      have HF := Lib.hid (show vB l t (r + 1) = false by rw [HT.out, hd, hok]; simp)
                      clear hd hok
                      go_wp2_with fail
                      go_ret
                      exact ⟨ret_bool HF.out.symm, B1.out⟩
                    | true =>
                      have HT2 := Lib.hid (HT.out.trans (hd.trans (by rw [hok, Bool.true_and])))
                      clear hd hok
                      go_wp2_with fail
                      go_roundw
                      case rel => exact ⟨j + 1, by omega, by go_num, HT2, B1.out⟩
                      case measure => simp [intOf]; omega
                  · have hjl : j = t.kids.length := by omega
                    have HV := Lib.hid (show vB l t (r + 1) = true by rw [HT.out, hjl, List.drop_length]; simp [vBL, GValue.deepL, GValue.okSL])
                    clear hjl
                    go_wp2_with fail
                    go_ret
                    exact ⟨ret_bool HV.out.symm, hbl⟩
        · skip
          cases a : (t.n == 0)
          · skip
            have hv := Lib.hid (show val1 l t.kind t.n t.s t.kids.length = false from by
              unfold val1; simp only [beq_iff_eq, beq_eq_false_iff_ne, ne_eq] at o1 o3 a; simp [o1, o3, a])
            go_enter Try.func130, Try.ntmps130
            go_wp2
            go_ret
            exact ⟨ret_bool (vB_bad hv.out).symm, E0.out⟩
          · skip
            cases b : (t.s.toList.isEmpty)
            · skip
              have hv := Lib.hid (show val1 l t.kind t.n t.s t.kids.length = false from by
                unfold val1; simp only [beq_iff_eq, beq_eq_false_iff_ne, ne_eq] at o1 o3 a b; simp [o1, o3, a, b])
              go_enter Try.func130, Try.ntmps130
              go_wp2
              go_ret
              exact ⟨ret_bool (vB_bad hv.out).symm, E0.out⟩
            · skip
              by_cases hk : t.kids.length = 0
              · have hk2 : ((t.kids.length : Int) == 0) = true := by rw [beq_iff_eq]; omega
                have hv := Lib.hid (show val1 l t.kind t.n t.s t.kids.length = true from by
                  unfold val1; simp only [beq_iff_eq, beq_eq_false_iff_ne, ne_eq] at o1 o3 a b; simp [o1, o3, a, b, hk])
                have Hk := Lib.hid hk
                clear hk
                go_enter Try.func130, Try.ntmps130
                go_wp2
                go_ret
                exact ⟨ret_bool (vB_leaf hv.out Hk.out).symm, E0.out⟩
              · have hk2 : ((t.kids.length : Int) == 0) = false := by rw [beq_eq_false_iff_ne]; omega
                have hv := Lib.hid (show val1 l t.kind t.n t.s t.kids.length = false from by
                  unfold val1; simp only [beq_iff_eq, beq_eq_false_iff_ne, ne_eq] at o1 o3 a b; simp [o1, o3, a, b, hk])
                clear hk
                go_enter Try.func130, Try.ntmps130
                go_wp2
                go_ret
                exact ⟨ret_bool (vB_bad hv.out).symm, E0.out⟩
      · skip
        by_cases h : -1073741824 ≤ t.n
        · by_cases h' : t.n ≤ 1073741823
          · skip
            cases b : (t.s.toList.isEmpty)
            · skip
              have hv := Lib.hid (show val1 l t.kind t.n t.s t.kids.length = false from by
                unfold val1; simp only [beq_iff_eq, beq_eq_false_iff_ne, ne_eq] at o1 b; simp [o1, h, h', b])
              go_enter Try.func130, Try.ntmps130
              go_wp2
              go_ret
              exact ⟨ret_bool (vB_bad hv.out).symm, E0.out⟩
            · skip
              by_cases hk : t.kids.length = 0
              · have hk2 : ((t.kids.length : Int) == 0) = true := by rw [beq_iff_eq]; omega
                have hv := Lib.hid (show val1 l t.kind t.n t.s t.kids.length = true from by
                  unfold val1; simp only [beq_iff_eq, beq_eq_false_iff_ne, ne_eq] at o1 b; simp [o1, h, h', b, hk])
                have Hk := Lib.hid hk
                clear hk
                go_enter Try.func130, Try.ntmps130
                go_wp2
                go_ret
                exact ⟨ret_bool (vB_leaf hv.out Hk.out).symm, E0.out⟩
              · have hk2 : ((t.kids.length : Int) == 0) = false := by rw [beq_eq_false_iff_ne]; omega
                have hv := Lib.hid (show val1 l t.kind t.n t.s t.kids.length = false from by
                  unfold val1; simp only [beq_iff_eq, beq_eq_false_iff_ne, ne_eq] at o1 b; simp [o1, h, h', b, hk])
                clear hk
                go_enter Try.func130, Try.ntmps130
                go_wp2
                go_ret
                exact ⟨ret_bool (vB_bad hv.out).symm, E0.out⟩
          · skip
            have hv := Lib.hid (show val1 l t.kind t.n t.s t.kids.length = false from by
              unfold val1; simp only [beq_iff_eq, beq_eq_false_iff_ne, ne_eq] at o1; simp [o1, h, h'])
            go_enter Try.func130, Try.ntmps130
            go_wp2
            go_ret
            exact ⟨ret_bool (vB_bad hv.out).symm, E0.out⟩
        · skip
          have hv := Lib.hid (show val1 l t.kind t.n t.s t.kids.length = false from by
            unfold val1; simp only [beq_iff_eq, beq_eq_false_iff_ne, ne_eq] at o1; simp [o1, h])
          go_enter Try.func130, Try.ntmps130
          go_wp2
          go_ret
          exact ⟨ret_bool (vB_bad hv.out).symm, E0.out⟩

theorem implValueOk (l : List GData) (A : Option Addr) (c : Nat) (t : GValue) (A1 : Option Addr) (c1 : Nat) (w : World) (hs : Sl w (Lt w.heap.size) 3 A c (l.map GData.toD)) (ht : GValue.At w (Lt w.heap.size) A1 c1 t) :
    Calls Try.prog 75 #[.slice A l.length c, .agg #[.int .i64 t.kind, .int .i64 t.n, .string t.s, .slice A1 t.kids.length c1]] w fun e w' => e = .returned (.bool (vB l t 200)) ∧ Below w.heap.size w w' := by
  have E : Below w.heap.size w (w.alloc (.cells #[.int .i64 t.kind, .int .i64 t.n, .string t.s, .slice A1 t.kids.length c1] 29)) := (Below.refl _ _).alloc (Nat.le_refl _) _
  have H := implValue (t.bulk + 1) l A c t A1 c1 200 _ (by omega) (by omega) (hs.below E E.size) (ht.below E E.size)
  rw [show ((200 : Nat) : Int) = 200 from rfl] at H
  go_enter Try.func75, Try.ntmps75
  go_wp2_with fail
  refine H.mono ?_
  rintro e w1 ⟨rfl, hb1⟩
  go_wp2_with fail
  go_ret
  exact ⟨rfl, E.trans (hb1.mono E.size)⟩
end Go.Proofs.Ytnjindgpmacjmaa
