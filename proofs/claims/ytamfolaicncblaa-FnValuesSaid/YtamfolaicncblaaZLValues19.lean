/- Texts of the claim LValues in one: ConOf DeepVal ValueOk Fits. Conditions: none but bounds on sizes. -/
import Derived.Test.YtamfolaicncblaaZLValues18
import Derived.Test.YtamfolaicncblaaRows
import Derived.Test.YtamfolaicncblaaZLValues0
import Derived.Test.YtamfolaicncblaaZLValues5
import Derived.Lib.Hide
import Derived.Test.YtamfolaicncblaaZLValues14
import Derived.Test.YtamfolaicncblaaZLValues3
import Derived.Test.YtamfolaicncblaaZLValues2
import Derived.StillTailTactics
namespace Go.Proofs.Ytamfolaicncblaa
set_option maxRecDepth 20000
set_option linter.unusedVariables false
set_option linter.unusedSimpArgs false
open Go.RowKit
set_option maxHeartbeats 1000000
theorem ret_ii {a b c d : Int} (h : a = b) (h2 : c = d) : Ending.returned (.tuple #[.int .i64 a, .int .i64 c]) = .returned (.tuple #[.int .i64 b, .int .i64 d]) := by rw [h, h2]
def conOf (s : ByteArray) : List GData → Nat → Option (Nat × Nat)
 | [], _ => none
 | d :: r, j => match tagIn s d.cons 0 with
  | some k => some (j, k)
  | none => conOf s r (j + 1)
def conI : Option (Nat × Nat) → Int × Int
 | some (j, k) => (j, k)
 | none => (-1, -1)
theorem conOf_hit {s : ByteArray} {l : List GData} {j n m : Nat} (h : j < l.length) (e : tagIn s l[j].cons 0 = some m) : conOf s (l.drop j) n = some (n, m) := by
 rw [List.drop_eq_getElem_cons h, conOf, e]
theorem conOf_miss {s : ByteArray} {l : List GData} {j n : Nat} (h : j < l.length) (e : tagIn s l[j].cons 0 = none) : conOf s (l.drop j) n = conOf s (l.drop (j + 1)) (n + 1) := by
 rw [List.drop_eq_getElem_cons h, conOf, e]
theorem specConOf (l : List GData) (A : Option Addr) (c : Nat) (s : ByteArray) (w : World) (hs : Sl w (Lt w.heap.size) 3 A c (l.map GData.toD)) :
 Calls Try.prog 29 #[.slice A l.length c, .string s] w fun e w' => e = .returned (.tuple #[.int .i64 (conI (conOf s l 0)).1, .int .i64 (conI (conOf s l 0)).2]) ∧ Below w.heap.size w w' := by
 have hlen : l.length ≤ 9223372036854775807 := by simpa using hs.len
 have S0 := LH hs
 clear hs
 go_enter Try.func29, Try.ntmps29
 go_wp2_with fail
 go_loopw [6] (fun i wr => ∃ (j : Nat), j ≤ l.length ∧ i = .int .i64 j ∧ Hid (conOf s l 0 = conOf s (l.drop j) j) ∧ Below w.heap.size w wr) (fun i _ => l.length - (intOf i).toNat)
 case atStart => exact ⟨0, by omega, by go_num, LH rfl, Below.refl _ _⟩
 case round =>
  obtain ⟨j, hj, rfl, HT, hbl⟩ := hrel
  have hsz := hbl.size
  by_cases hlt : j < l.length
  ·
   obtain ⟨b, off, A1, c1, rfl, hSb, g0, g1, g2, hat⟩ := GData.elem (S0.out.below hbl (Nat.le_refl _)) j hlt
   have hcl : (l[j]).cons.length ≤ 9223372036854775807 := by simpa using hat.2.2.len
   clear hat
   go_wp2_with fail
   go_loopw [7] (fun i wr2 => ∃ (k : Nat), k ≤ (l[j]).cons.length ∧ i = .int .i64 k ∧ Hid (tagIn s (l[j]).cons 0 = tagIn s ((l[j]).cons.drop k) k) ∧ Below w.heap.size w wr2) (fun i _ => (l[j]).cons.length - (intOf i).toNat)
   case atStart => exact ⟨0, by omega, by go_num, LH rfl, hbl⟩
   case round =>
    obtain ⟨k, hk, rfl, HI, hbk⟩ := hrel
    obtain ⟨b', off', A1', c1', eA, hSb', q0, q1, q2, hat'⟩ := GData.elem (S0.out.below hbk (Nat.le_refl _)) j hlt
    obtain ⟨rfl, rfl⟩ : b = b' ∧ off = off' := by simpa using eA
    by_cases hkt : k < (l[j]).cons.length
    ·
     obtain ⟨b2, off2, A2, c2, rfl, hSb2, p0, p1, hat2⟩ := GCon.elem hat'.2.2 k hkt
     by_cases he : ((l[j]).cons[k]).name = s
     · have HV := LH (show conOf s l 0 = some (j, k) from HT.out.trans (conOf_hit hlt (HI.out.trans (tagIn_hit hkt he))))
       have hbe : (((l[j]).cons[k]).name.toList == s.toList) = true := by rw [he]; simp
       clear he
       go_wp2_with fail
       go_ret2
       exact ⟨ret_ii (by rw [HV.out]; rfl) (by rw [HV.out]; rfl), hbk⟩
     · have HI2 := LH (HI.out.trans (tagIn_miss hkt he))
       have hbe : (((l[j]).cons[k]).name.toList == s.toList) = false := name_ne he
       clear he
       go_wp2_with fail
       go_roundw
       case rel => exact ⟨k + 1, by omega, by go_num, HI2, hbk⟩
       case measure => simp [intOf]; omega
    · have hkl : k = (l[j]).cons.length := by omega
      have HO := LH (conOf_miss (s := s) (n := j) hlt (HI.out.trans (by rw [hkl, List.drop_length]; rfl)))
      go_wp2_with fail
      go_roundw
      case rel => exact ⟨j + 1, by omega, by go_num, LH (HT.out.trans HO.out), hbk⟩
      case measure => simp [intOf]; omega
  ·
   have hjl : j = l.length := by omega
   have Hj := LH hjl
   clear hjl
   go_wp2_with fail
   go_ret2
   exact ⟨ret_ii (by rw [HT.out, Hj.out, List.drop_length]; rfl) (by rw [HT.out, Hj.out, List.drop_length]; rfl), hbl⟩
theorem idxI_tagIn (s : ByteArray) (l : List GCon) (n : Nat) : (match tagIn s l n with | some k => idxI (fun x : GCon => x.name.toList == s.toList) l = (k : Int) - n ∧ n ≤ k | none => idxI (fun x : GCon => x.name.toList == s.toList) l = -1) := by
 induction l generalizing n with
 | nil => simp [tagIn, idxI]
 | cons x r ih =>
  by_cases h : x.name = s
  · have e : (x.name.toList == s.toList) = true := by rw [h]; simp
    simp [tagIn, idxI, h]
  ·
   have e := name_ne h
   have := ih (n + 1)
   simp only [tagIn, idxI, if_neg h, e]
   cases hc : tagIn s r (n + 1) <;> rw [hc] at this <;> simp only at this ⊢
   · rw [this]; rfl
   · rw [if_neg (by simp), if_neg (by omega)]; omega
theorem implConOf1 (s : ByteArray) (b : Nat) (x : GCon) (A1 : Option Addr) (c1 : Nat) (w : World) (hc : w.cell? ⟨b, 0, none⟩ = some (.string s)) (hb : b < w.heap.size) :
 Calls Try.prog 42 #[.agg #[.string x.name, .slice A1 x.args.length c1], .pointer (some ⟨b, 0, none⟩)] w fun e w' => e = .returned (.bool (x.name.toList == s.toList)) ∧ Below w.heap.size w w' := by
 have E : Below w.heap.size w (w.alloc (.cells #[.string x.name, .slice A1 x.args.length c1] 60)) := (Below.refl _ _).alloc (Nat.le_refl _) _
 have hc2 := (E.cell (p := ⟨b, 0, none⟩) hb).trans hc
 go_enter Try.func42, Try.ntmps42
 go_wp2_with fail
 go_ret
 exact ⟨rfl, E⟩
theorem implConOf (l : List GData) (A : Option Addr) (c : Nat) (s : ByteArray) (w : World) (hs : Sl w (Lt w.heap.size) 3 A c (l.map GData.toD)) :
 Calls Try.prog 26 #[.slice A l.length c, .string s] w fun e w' => e = .returned (.tuple #[.int .i64 (conI (conOf s l 0)).1, .int .i64 (conI (conOf s l 0)).2]) ∧ Below w.heap.size w w' := by
 have hlen : l.length ≤ 9223372036854775807 := by simpa using hs.len
 have S0 := LH hs
 clear hs
 have E0 := LH (show Below w.heap.size w (w.alloc (.cells #[.string s] 9)) from (Below.refl _ _).alloc (Nat.le_refl _) _)
 have R0 := LH (Row.new w 9 #[.string s])
 go_enter Try.func26, Try.ntmps26
 go_wp2_with fail
 go_loopw [11] (fun i wr => ∃ (j : Nat), j ≤ l.length ∧ i = .int .i64 j ∧ Hid (conOf s l 0 = conOf s (l.drop j) j) ∧ Hid (Row wr w.heap.size 9 #[.string s]) ∧ Below w.heap.size w wr) (fun i _ => l.length - (intOf i).toNat)
 case atStart => exact ⟨0, by omega, by go_num, LH rfl, R0, E0.out⟩
 case round =>
  obtain ⟨j, hj, rfl, HT, HR, hbl⟩ := hrel
  have hsz := hbl.size
  by_cases hlt : j < l.length
  ·
   obtain ⟨b, off, A1, c1, rfl, hSb, g0, g1, g2, hat⟩ := GData.elem (S0.out.below hbl (Nat.le_refl _)) j hlt
   have S1 := LH hat.2.2
   have hcl : (l[j]).cons.length ≤ 9223372036854775807 := by simpa using hat.2.2.len
   clear hat
   have HX := LH (idxI_tagIn s (l[j]).cons 0)
   go_wp2_with fail
   refine (indexFuncCon 42 (enters Try.func42 (by kernel_rfl) (by kernel_rfl)) #[.pointer (some ⟨w.heap.size, 0, none⟩)] (fun x => x.name.toList == s.toList) (l[j]).cons A1 c1 _ (S1.out.keep (fun k hk => ⟨Nat.lt_of_lt_of_le (Nat.lt_of_lt_of_le hk hsz) (by simp), Below.heap_alloc _ _ _ (Nat.lt_of_lt_of_le hk hsz)⟩))
     (fun x hx A2 c2 w2 hb2 hat2 => by
       have R2 := (HR.out.alloc _).below hb2 (HR.out.alloc _).lt
       exact implConOf1 s w.heap.size x A2 c2 w2 (R2.cell 0) R2.lt)).mono ?_
   rintro e w2 ⟨rfl, hb2⟩
   have B2 := LH ((hbl.alloc hsz _).trans (hb2.mono (hbl.alloc hsz _).size))
   have R3 := LH ((HR.out.alloc _).below hb2 (HR.out.alloc _).lt)
   clear hb2
   have hx := HX.out
   cases hct : tagIn s (l[j]).cons 0 with
   | some k =>
    rw [hct] at hx
    obtain ⟨hx1, _⟩ := hx
    have hx2 : idxI (fun x : GCon => x.name.toList == s.toList) (l[j]).cons = (k : Int) := by simpa using hx1
    have HV := LH (HT.out.trans (conOf_hit (n := j) hlt hct))
    rw [hx2]
    clear hx1 hx2 hct
    go_wp2_with fail
    go_ret2
    exact ⟨ret_ii (by rw [HV.out]; rfl) (by rw [HV.out]; rfl), B2.out⟩
   | none =>
    rw [hct] at hx
    have hx2 : idxI (fun x : GCon => x.name.toList == s.toList) (l[j]).cons = -1 := hx
    have HV := LH (HT.out.trans (conOf_miss (n := j) hlt hct))
    rw [hx2]
    clear hx hx2 hct
    go_wp2_with fail
    go_roundw
    case rel => exact ⟨j + 1, by omega, by go_num, HV, R3, B2.out⟩
    case measure => simp [intOf]; omega
  ·
   have hjl : j = l.length := by omega
   have Hj := LH hjl
   clear hjl
   go_wp2_with fail
   go_ret2
   exact ⟨ret_ii (by rw [HT.out, Hj.out, List.drop_length]; rfl) (by rw [HT.out, Hj.out, List.drop_length]; rfl), hbl⟩
set_option maxHeartbeats 400000
mutual
def GValue.deep : GValue → Nat | .mk _ _ _ kids => GValue.deepL kids + 1
def GValue.deepL : List GValue → Nat | [] => 0 | t :: r => max t.deep (GValue.deepL r)
end
theorem GValue.deep_eq (t : GValue) : t.deep = GValue.deepL t.kids + 1 := by cases t; simp only [GValue.deep, GValue.kids]
theorem GValue.deepL_take (l : List GValue) (i : Nat) (h : i < l.length) : GValue.deepL (l.take (i + 1)) = max (GValue.deepL (l.take i)) (l[i]).deep := by
 induction l generalizing i with
 | nil => simp at h
 | cons t r ih =>
  match i with
  | 0 => simp [GValue.deepL]
  | i + 1 => simp only [List.take_succ_cons, GValue.deepL, List.getElem_cons_succ]; rw [ih i (by simpa using h)]; omega
theorem GValue.deepL_le (l : List GValue) (i : Nat) : GValue.deepL (l.take i) ≤ GValue.deepL l := by
 induction l generalizing i with
 | nil => simp
 | cons t r ih =>
  match i with
  | 0 => simp [GValue.deepL]
  | i + 1 => simp only [List.take_succ_cons, GValue.deepL]; have := ih i; omega
mutual
theorem GValue.deep_bulk : ∀ t : GValue, t.deep ≤ t.bulk + 1
 | .mk kind n s kids => by simp only [GValue.deep, GValue.bulk]; have := GValue.deepL_bulk kids; omega
theorem GValue.deepL_bulk : ∀ l : List GValue, GValue.deepL l ≤ GValue.bulks l
 | [] => by simp [GValue.deepL]
 | t :: r => by simp only [GValue.deepL, GValue.bulks]; have := GValue.deep_bulk t; have := GValue.deepL_bulk r; omega
end
theorem specDeepVal (k : Nat) : ∀ (t : GValue) (A1 : Option Addr) (c1 : Nat) (w : World), t.deep ≤ k → t.deep ≤ 4611686018427387904 → GValue.At w (Lt w.heap.size) A1 c1 t →
 Calls Try.prog 18 #[.agg #[.int .i64 t.kind, .int .i64 t.n, .string t.s, .slice A1 t.kids.length c1]] w fun e w' => e = .returned (.int .i64 t.deep) ∧ Below w.heap.size w w' := by
 induction k with
 | zero => intro t A1 c1 w h; rw [GValue.deep_eq] at h; omega
 | succ k ih =>
  intro t A1 c1 w hk hb ht
  obtain ⟨-, -, -, hs⟩ := id ht
  have hlen : t.kids.length ≤ 9223372036854775807 := by simpa using hs.len
  go_enter Try.func18, Try.ntmps18
  go_wp2_with fail
  go_loopw [3, 4] (fun n i wr => ∃ j : Nat, j ≤ t.kids.length ∧ i = .int .i64 j ∧ n = .int .i64 (GValue.deepL (t.kids.take j)) ∧ Below w.heap.size w wr ∧ Row wr w.heap.size 26 #[.int .i64 t.kind, .int .i64 t.n, .string t.s, .slice A1 t.kids.length c1]) (fun _ i _ => t.kids.length - (intOf i).toNat)
  case atStart => exact ⟨0, by omega, by go_num, by simp [GValue.deepL], (Below.refl _ _).alloc (Nat.le_refl _) _, Row.new _ _ _⟩
  case round =>
   obtain ⟨j, hj, rfl, rfl, hbl, hrow⟩ := hrel
   have hsz := hbl.size
   have hgl := hrow.lt
   have hc := fun i => hrow.cell i
   by_cases hlt : j < t.kids.length
   ·
    have htr := GValue.elem (hs.below hbl (Nat.le_refl _)) j hlt
    obtain ⟨b, off, A'1, c'1, rfl, hSb, g0, g1, g2, g3, hat⟩ := htr
    have hs1 := GValue.deepL_take t.kids j hlt
    have hs2 := GValue.deepL_le t.kids (j + 1)
    have hs3 := t.deep_eq
    have Hs := LH hs1
    have hs4 : GValue.deepL (t.kids.take j) + 0 ≤ 4611686018427387904 := by omega
    have hs5 : (t.kids[j]).deep ≤ k := by omega
    have hs6 : (t.kids[j]).deep ≤ 4611686018427387904 := by omega
    clear hs1 hs2 hs3
    go_wp2_with fail
    refine (ih _ _ _ _ hs5 hs6 (hat.below (Below.refl _ _) (by omega))).mono ?_
    rintro e w1 ⟨rfl, hb1⟩
    go_wp2_with fail
    refine (specMax _ _ _).mono ?_
    rintro e w2 ⟨rfl, rfl⟩
    go_wp2_with fail
    all_goals
     go_roundw
     case rel => exact ⟨j + 1, by omega, by go_num, by rw [Hs.out]; congr 1; omega, hbl.trans (hb1.mono hsz), hrow.below hb1 hgl⟩
     case measure => simp [intOf]; omega
   ·
    have hjl : j = t.kids.length := by omega
    have Hj := LH hjl
    clear hjl
    have hbd := t.deep_eq
    have hbd2 := GValue.deepL_le t.kids j
    have hbd3 : GValue.deepL (t.kids.take j) ≤ 4611686018427387904 := by omega
    clear hbd hbd2
    go_wp2_with fail
    go_ret
    exact ⟨ret_int (by rw [t.deep_eq, Hj.out, List.take_length]; simp), hbl⟩
set_option maxHeartbeats 1000000
def conArgs (l : List GData) (s : ByteArray) : Option Nat := match conOf s l 0 with
 | some (j, k) => match l[j]? with
  | some d => match d.cons[k]? with
   | some c => some c.args.length
   | none => none
  | none => none
 | none => none
def val1 (l : List GData) (kind n : Int) (s : ByteArray) (k : Nat) : Bool :=
 if kind = 1 then decide (-1073741824 ≤ n ∧ n ≤ 1073741823) && (s.toList.isEmpty && k == 0)
 else if kind = 3 then n == 0 && (s.toList.isEmpty && k == 0)
 else if kind = 2 then n == 0 && conArgs l s == some k else false
mutual
def GValue.okS (l : List GData) : GValue → Bool | .mk kind n s kids => val1 l kind n s kids.length && GValue.okSL l kids
def GValue.okSL (l : List GData) : List GValue → Bool | [] => true | t :: r => t.okS l && GValue.okSL l r
end
theorem GValue.okS_eq (l : List GData) (t : GValue) : t.okS l = (val1 l t.kind t.n t.s t.kids.length && GValue.okSL l t.kids) := by
 cases t; simp only [GValue.okS, GValue.kind, GValue.n, GValue.s, GValue.kids]
theorem tagIn_lt {s : ByteArray} : ∀ {l : List GCon} {n m : Nat}, tagIn s l n = some m → n ≤ m ∧ m < n + l.length
 | [], _, _, h => by simp [tagIn] at h
 | c :: r, n, m, h => by
  simp only [tagIn] at h
  split at h
  · cases h; simp
  · have := tagIn_lt h; simp; omega
theorem conOf_lt {s : ByteArray} : ∀ {l : List GData} {n j k : Nat}, conOf s l n = some (j, k) → n ≤ j ∧ ∃ d, l[j - n]? = some d ∧ k < d.cons.length
 | [], _, _, _, h => by simp [conOf] at h
 | d :: r, n, j, k, h => by
  simp only [conOf] at h
  cases hc : tagIn s d.cons 0 with
  | some k' =>
   rw [hc] at h
   simp only [Option.some.injEq, Prod.mk.injEq] at h
   obtain ⟨rfl, rfl⟩ := h
   have := tagIn_lt hc
   exact ⟨Nat.le_refl _, d, by simp, by omega⟩
  | none =>
   rw [hc] at h
   obtain ⟨h1, d', h2, h3⟩ := conOf_lt h
   refine ⟨by omega, d', ?_, h3⟩
   rw [show j - n = (j - (n + 1)) + 1 from by omega]
   simpa using h2
theorem conArgs_some {l : List GData} {s : ByteArray} {j k : Nat} (h : conOf s l 0 = some (j, k)) : ∃ (hj : j < l.length) (hk : k < l[j].cons.length), conArgs l s = some (l[j].cons[k]).args.length := by
 obtain ⟨_, d, hd, hk⟩ := conOf_lt h
 obtain ⟨hj, e⟩ := List.getElem?_eq_some_iff.1 hd
 simp only [Nat.sub_zero] at hj e
 subst e
 refine ⟨hj, hk, ?_⟩
 unfold conArgs
 rw [h]
 simp [List.getElem?_eq_getElem hj, List.getElem?_eq_getElem hk]
theorem conArgs_none {l : List GData} {s : ByteArray} (h : conOf s l 0 = none) : conArgs l s = none := by
 unfold conArgs; rw [h]
theorem okSL_drop {l : List GData} {ks : List GValue} {j : Nat} (h : j < ks.length) : GValue.okSL l (ks.drop j) = (ks[j].okS l && GValue.okSL l (ks.drop (j + 1))) := by
 rw [List.drop_eq_getElem_cons h, GValue.okSL]
theorem specValue (k : Nat) : ∀ (l : List GData) (A : Option Addr) (c : Nat) (t : GValue) (A1 : Option Addr) (c1 : Nat) (w : World), t.bulk < k → Sl w (Lt w.heap.size) 3 A c (l.map GData.toD) → GValue.At w (Lt w.heap.size) A1 c1 t →
 Calls Try.prog 19 #[.slice A l.length c, .agg #[.int .i64 t.kind, .int .i64 t.n, .string t.s, .slice A1 t.kids.length c1]] w fun e w' => e = .returned (.bool (t.okS l)) ∧ Below w.heap.size w w' := by
 induction k with
 | zero => intro l A c t A1 c1 w h; omega
 | succ k ih =>
  intro l A c t A1 c1 w hk0 hs ht
  have hlen : t.kids.length ≤ 9223372036854775807 := by simpa using ht.2.2.2.len
  have hlen2 : l.length ≤ 9223372036854775807 := by simpa using hs.len
  have hte := LH (t.okS_eq l)
  have hbe := t.bulk_eq
  have S0 := LH hs
  have T0 := LH ht
  have hmem : Hid (∀ j (h : j < t.kids.length), (t.kids[j]).bulk < k) := LH (fun j h => by have := bulkL_mem GValue.bulk t.kids _ (List.getElem_mem h); omega)
  clear hs ht hbe hk0
  have E0 := LH (show Below w.heap.size w (w.alloc (.cells #[.int .i64 t.kind, .int .i64 t.n, .string t.s, .slice A1 t.kids.length c1] 26)) from (Below.refl _ _).alloc (Nat.le_refl _) _)
  have R0 := LH (Row.new w 26 #[.int .i64 t.kind, .int .i64 t.n, .string t.s, .slice A1 t.kids.length c1])
  go_enter Try.func19, Try.ntmps19
  go_wp2_with fail
  go_loopw [5] (fun i wr => ∃ (j : Nat), j ≤ t.kids.length ∧ i = .int .i64 j ∧ Hid (GValue.okSL l t.kids = GValue.okSL l (t.kids.drop j)) ∧ Hid (Row wr w.heap.size 26 #[.int .i64 t.kind, .int .i64 t.n, .string t.s, .slice A1 t.kids.length c1]) ∧ Below w.heap.size w wr) (fun i _ => t.kids.length - (intOf i).toNat)
  case atStart => exact ⟨0, by omega, by go_num, LH rfl, R0, E0.out⟩
  case round =>
   clear R0 E0
   obtain ⟨j, hj, rfl, HT, HR, hbl⟩ := hrel
   have hsz := hbl.size
   have hR := fun i => HR.out.cell i
   have hRl := HR.out.lt
   by_cases hlt : j < t.kids.length
   ·
    obtain ⟨b, off, A2, c2, rfl, hSb, g0, g1, g2, g3, hat⟩ := GValue.elem (T0.out.below hbl (Nat.le_refl _)).2.2.2 j hlt
    have HB := LH (hmem.out j hlt)
    have HA := LH (hat.keep (S' := Lt wr.heap.size) (w' := wr) fun b hb => ⟨Nat.lt_of_lt_of_le hb hsz, rfl⟩)
    have HS := LH (S0.out.below hbl hsz)
    clear hat
    go_wp2_with fail
    refine (ih l A c (t.kids[j]) A2 c2 _ HB.out HS.out HA.out).mono ?_
    rintro e w1 ⟨rfl, hb1⟩
    have B1 := LH (hbl.trans (hb1.mono hsz))
    have R1 := LH (HR.out.below hb1 hRl)
    clear hb1
    have hd := okSL_drop (l := l) hlt
    cases hok : (t.kids[j]).okS l with
    | false =>
     have HF := LH (show t.okS l = false by rw [hte.out, HT.out, hd, hok]; simp)
     clear hd hok
     go_wp2_with fail
     go_ret
     exact ⟨ret_bool HF.out.symm, B1.out⟩
    | true =>
     have HT2 := LH (HT.out.trans (hd.trans (by rw [hok, Bool.true_and])))
     clear hd hok
     go_wp2_with fail
     go_roundw
     case rel => exact ⟨j + 1, by omega, by go_num, HT2, R1, B1.out⟩
     case measure => simp [intOf]; omega
   ·
    have hjl : j = t.kids.length := by omega
    have HV := LH (show t.okS l = val1 l t.kind t.n t.s t.kids.length by rw [hte.out, HT.out, hjl, List.drop_length, GValue.okSL, Bool.and_true])
    clear hjl
    cases o1 : (t.kind == 1)
    ·
     skip
     cases o3 : (t.kind == 3)
     ·
      skip
      cases o2 : (t.kind == 2)
      · skip
        have hv := LH (show val1 l t.kind t.n t.s t.kids.length = false from by
          unfold val1; simp only [beq_iff_eq, beq_eq_false_iff_ne, ne_eq] at o1 o3 o2; simp [o1, o3, o2])
        go_wp2
        go_ret
        exact ⟨ret_bool (by rw [HV.out, hv.out]), hbl⟩
      ·
       skip
       cases hc : conOf t.s l 0 with
       | none =>
        have hv := LH (show val1 l t.kind t.n t.s t.kids.length = false from by
          unfold val1; simp only [beq_iff_eq, beq_eq_false_iff_ne, ne_eq] at o1 o3 o2; simp [o1, o3, o2, conArgs_none hc])
        have e1 : (conI (conOf t.s l 0)).1 = -1 := by rw [hc]; rfl
        have e2 : (conI (conOf t.s l 0)).2 = -1 := by rw [hc]; rfl
        have HS := LH (S0.out.below hbl hsz)
        go_wp2_with fail
        refine (specConOf l A c t.s _ HS.out).mono ?_
        rintro e w2 ⟨rfl, hb2⟩
        have B2 := LH (hbl.trans (hb2.mono hsz))
        have R2 := LH (HR.out.below hb2 hRl)
        rw [e1, e2]
        clear hb2 hc e1 e2 hR hRl
        have hR := fun i => R2.out.cell i
        cases a : (t.n == 0)
        all_goals
         go_wp2_with fail
         go_quiet (fail)
         go_wp2_with fail
         go_ret
         exact ⟨ret_bool (by rw [HV.out, hv.out]), belowN B2.out _⟩
       | some jk =>
        obtain ⟨j', k'⟩ := jk
        obtain ⟨hj', hk', hca⟩ := conArgs_some hc
        have e1 : (conI (conOf t.s l 0)).1 = (j' : Int) := by rw [hc]; rfl
        have e2 : (conI (conOf t.s l 0)).2 = (k' : Int) := by rw [hc]; rfl
        have HS := LH (S0.out.below hbl hsz)
        have HCA := LH hca
        clear hca
        go_wp2_with fail
        refine (specConOf l A c t.s _ HS.out).mono ?_
        rintro e w2 ⟨rfl, hb2⟩
        have B2 := LH (hbl.trans (hb2.mono hsz))
        have R2 := LH (HR.out.below hb2 hRl)
        rw [e1, e2]
        clear hb2 hc e1 e2 hR hRl
        have hR := fun i => R2.out.cell i
        obtain ⟨b, off, A2, c2, rfl, hSb, g0, g1, g2, hat⟩ := GData.elem (S0.out.below B2.out (Nat.le_refl _)) j' hj'
        have hcl : (l[j']).cons.length ≤ 9223372036854775807 := by simpa using hat.2.2.len
        obtain ⟨b2, off2, A3, c3, rfl, hSb2, p0, p1, hat2⟩ := GCon.elem hat.2.2 k' hk'
        have hal : ((l[j']).cons[k']).args.length ≤ 9223372036854775807 := by simpa using hat2.2.len
        clear hat hat2 g0 g1 p0
        cases a : (t.n == 0)
        · have hv := LH (show val1 l t.kind t.n t.s t.kids.length = false from by
            unfold val1; simp only [beq_iff_eq, beq_eq_false_iff_ne, ne_eq] at o1 o3 o2 a; simp [o1, o3, o2, a])
          go_wp2_with fail
          go_quiet (fail)
          go_wp2_with fail
          go_ret
          exact ⟨ret_bool (by rw [HV.out, hv.out]), belowN B2.out _⟩
        ·
         by_cases hk : ((l[j']).cons[k']).args.length = t.kids.length
         · have hk2 : ((((l[j']).cons[k']).args.length : Int) == (t.kids.length : Int)) = true := by rw [beq_iff_eq]; omega
           have hv := LH (show val1 l t.kind t.n t.s t.kids.length = true from by
             unfold val1; rw [HCA.out]; simp only [beq_iff_eq, beq_eq_false_iff_ne, ne_eq] at o1 o3 o2 a; simp [o1, o3, o2, a, hk])
           clear hk
           go_wp2_with fail
           go_quiet (fail)
           go_wp2_with fail
           go_ret
           exact ⟨ret_bool (by rw [HV.out, hv.out]), belowN B2.out _⟩
         · have hk2 : ((((l[j']).cons[k']).args.length : Int) == (t.kids.length : Int)) = false := by rw [beq_eq_false_iff_ne]; omega
           have hv := LH (show val1 l t.kind t.n t.s t.kids.length = false from by
             unfold val1; rw [HCA.out]; simp only [beq_iff_eq, beq_eq_false_iff_ne, ne_eq] at o1 o3 o2 a; simp [o1, o3, o2, a, hk])
           clear hk
           go_wp2_with fail
           go_quiet (fail)
           go_wp2_with fail
           go_ret
           exact ⟨ret_bool (by rw [HV.out, hv.out]), belowN B2.out _⟩
     ·
      skip
      cases a : (t.n == 0)
      · skip
        have hv := LH (show val1 l t.kind t.n t.s t.kids.length = false from by
          unfold val1; simp only [beq_iff_eq, beq_eq_false_iff_ne, ne_eq] at o1 o3 a; simp [o1, o3, a])
        go_wp2
        go_ret
        exact ⟨ret_bool (by rw [HV.out, hv.out]), hbl⟩
      ·
       skip
       cases b : (t.s.toList.isEmpty)
       · skip
         have hv := LH (show val1 l t.kind t.n t.s t.kids.length = false from by
           unfold val1; simp only [beq_iff_eq, beq_eq_false_iff_ne, ne_eq] at o1 o3 a b; simp [o1, o3, a, b])
         go_wp2
         go_ret
         exact ⟨ret_bool (by rw [HV.out, hv.out]), hbl⟩
       ·
        skip
        by_cases hk : t.kids.length = 0
        · have hk2 : ((t.kids.length : Int) == 0) = true := by rw [beq_iff_eq]; omega
          have hv := LH (show val1 l t.kind t.n t.s t.kids.length = true from by
            unfold val1; simp only [beq_iff_eq, beq_eq_false_iff_ne, ne_eq] at o1 o3 a b; simp [o1, o3, a, b, hk])
          clear hk
          go_wp2
          go_ret
          exact ⟨ret_bool (by rw [HV.out, hv.out]), hbl⟩
        · have hk2 : ((t.kids.length : Int) == 0) = false := by rw [beq_eq_false_iff_ne]; omega
          have hv := LH (show val1 l t.kind t.n t.s t.kids.length = false from by
            unfold val1; simp only [beq_iff_eq, beq_eq_false_iff_ne, ne_eq] at o1 o3 a b; simp [o1, o3, a, b, hk])
          clear hk
          go_wp2
          go_ret
          exact ⟨ret_bool (by rw [HV.out, hv.out]), hbl⟩
    ·
     skip
     by_cases h : -1073741824 ≤ t.n
     ·
      by_cases h' : t.n ≤ 1073741823
      ·
       skip
       cases b : (t.s.toList.isEmpty)
       · skip
         have hv := LH (show val1 l t.kind t.n t.s t.kids.length = false from by
           unfold val1; simp only [beq_iff_eq, beq_eq_false_iff_ne, ne_eq] at o1 b; simp [o1, h, h', b])
         go_wp2
         go_ret
         exact ⟨ret_bool (by rw [HV.out, hv.out]), hbl⟩
       ·
        skip
        by_cases hk : t.kids.length = 0
        · have hk2 : ((t.kids.length : Int) == 0) = true := by rw [beq_iff_eq]; omega
          have hv := LH (show val1 l t.kind t.n t.s t.kids.length = true from by
            unfold val1; simp only [beq_iff_eq, beq_eq_false_iff_ne, ne_eq] at o1 b; simp [o1, h, h', b, hk])
          clear hk
          go_wp2
          go_ret
          exact ⟨ret_bool (by rw [HV.out, hv.out]), hbl⟩
        · have hk2 : ((t.kids.length : Int) == 0) = false := by rw [beq_eq_false_iff_ne]; omega
          have hv := LH (show val1 l t.kind t.n t.s t.kids.length = false from by
            unfold val1; simp only [beq_iff_eq, beq_eq_false_iff_ne, ne_eq] at o1 b; simp [o1, h, h', b, hk])
          clear hk
          go_wp2
          go_ret
          exact ⟨ret_bool (by rw [HV.out, hv.out]), hbl⟩
      · skip
        have hv := LH (show val1 l t.kind t.n t.s t.kids.length = false from by
          unfold val1; simp only [beq_iff_eq, beq_eq_false_iff_ne, ne_eq] at o1; simp [o1, h, h'])
        go_wp2
        go_ret
        exact ⟨ret_bool (by rw [HV.out, hv.out]), hbl⟩
     · skip
       have hv := LH (show val1 l t.kind t.n t.s t.kids.length = false from by
         unfold val1; simp only [beq_iff_eq, beq_eq_false_iff_ne, ne_eq] at o1; simp [o1, h])
       go_wp2
       go_ret
       exact ⟨ret_bool (by rw [HV.out, hv.out]), hbl⟩
def vB (l : List GData) (t : GValue) (r : Nat) : Bool := decide (t.deep ≤ r) && t.okS l
def vBL (l : List GData) (ks : List GValue) (r : Nat) : Bool := decide (GValue.deepL ks ≤ r) && GValue.okSL l ks
theorem vBL_drop {l : List GData} {ks : List GValue} {r j : Nat} (h : j < ks.length) : vBL l (ks.drop j) r = (vB l ks[j] r && vBL l (ks.drop (j + 1)) r) := by
 unfold vBL vB
 rw [List.drop_eq_getElem_cons h, GValue.okSL, GValue.deepL]
 by_cases h1 : (ks[j]).deep ≤ r <;> by_cases h2 : GValue.deepL (ks.drop (j + 1)) ≤ r
 all_goals simp only [Nat.max_le, h1, h2, and_self, and_true, and_false, true_and, false_and, decide_true, decide_false, Bool.true_and, Bool.false_and, Bool.and_false]
theorem vB_zero {l : List GData} {t : GValue} : vB l t 0 = false := by
 unfold vB; have := t.deep_eq; rw [decide_eq_false (by omega)]; rfl
theorem vB_bad {l : List GData} {t : GValue} {r : Nat} (h : val1 l t.kind t.n t.s t.kids.length = false) : vB l t r = false := by
 unfold vB; rw [t.okS_eq, h]; simp
theorem vB_leaf {l : List GData} {t : GValue} {r : Nat} (h : val1 l t.kind t.n t.s t.kids.length = true) (hk : t.kids.length = 0) : vB l t (r + 1) = true := by
 have hk' : t.kids = [] := List.eq_nil_of_length_eq_zero hk
 unfold vB
 rw [t.okS_eq, h, t.deep_eq, hk']
 simp [GValue.deepL, GValue.okSL]
theorem vB_con {l : List GData} {t : GValue} {r : Nat} (h : val1 l t.kind t.n t.s t.kids.length = true) : vB l t (r + 1) = vBL l t.kids r := by
 unfold vB vBL
 rw [t.okS_eq, h, t.deep_eq, Bool.true_and]
 congr 1
 rw [decide_eq_decide]; omega
theorem specValueOk (l : List GData) (A : Option Addr) (c : Nat) (t : GValue) (A1 : Option Addr) (c1 : Nat) (w : World) (hb : t.bulk ≤ 1048576) (hs : Sl w (Lt w.heap.size) 3 A c (l.map GData.toD)) (ht : GValue.At w (Lt w.heap.size) A1 c1 t) :
 Calls Try.prog 10 #[.slice A l.length c, .agg #[.int .i64 t.kind, .int .i64 t.n, .string t.s, .slice A1 t.kids.length c1]] w fun e w' => e = .returned (.bool (vB l t 200)) ∧ Below w.heap.size w w' := by
 have hd := t.deep_bulk
 have E : Below w.heap.size w (w.alloc (.cells #[.int .i64 t.kind, .int .i64 t.n, .string t.s, .slice A1 t.kids.length c1] 26)) := (Below.refl _ _).alloc (Nat.le_refl _) _
 by_cases h : t.deep ≤ 200
 ·
  have HV := LH (show vB l t 200 = t.okS l by unfold vB; rw [decide_eq_true h, Bool.true_and])
  have hI : (t.deep : Int) ≤ 200 := by omega
  go_enter Try.func10, Try.ntmps10
  go_wp2_with fail
  refine (specDeepVal _ t A1 c1 _ (Nat.le_refl _) (by omega) (ht.below E E.size)).mono ?_
  rintro e w1 ⟨rfl, hb1⟩
  have B1 := E.trans (hb1.mono E.size)
  have R1 := LH ((Row.new w 26 #[.int .i64 t.kind, .int .i64 t.n, .string t.s, .slice A1 t.kids.length c1]).below hb1 (Row.new w 26 #[.int .i64 t.kind, .int .i64 t.n, .string t.s, .slice A1 t.kids.length c1]).lt)
  have hR := fun i => R1.out.cell i
  go_wp2_with fail
  refine (specValue (t.bulk + 1) l A c t A1 c1 _ (by omega) (hs.below B1 B1.size) (ht.below B1 B1.size)).mono ?_
  rintro e w2 ⟨rfl, hb2⟩
  go_wp2_with fail
  go_ret
  exact ⟨ret_bool HV.out.symm, B1.trans (hb2.mono B1.size)⟩
 ·
  have HV := LH (show vB l t 200 = false by unfold vB; rw [decide_eq_false h]; rfl)
  have hI : decide ((t.deep : Int) ≤ 200) = false := decide_eq_false (by omega)
  go_enter Try.func10, Try.ntmps10
  go_wp2_with fail
  refine (specDeepVal _ t A1 c1 _ (Nat.le_refl _) (by omega) (ht.below E E.size)).mono ?_
  rintro e w1 ⟨rfl, hb1⟩
  have B1 := E.trans (hb1.mono E.size)
  have R1 := LH ((Row.new w 26 #[.int .i64 t.kind, .int .i64 t.n, .string t.s, .slice A1 t.kids.length c1]).below hb1 (Row.new w 26 #[.int .i64 t.kind, .int .i64 t.n, .string t.s, .slice A1 t.kids.length c1]).lt)
  have hR := fun i => R1.out.cell i
  go_wp2_with fail
  go_ret
  exact ⟨ret_bool HV.out.symm, B1⟩
theorem implValue (k : Nat) : ∀ (l : List GData) (A : Option Addr) (c : Nat) (t : GValue) (A1 : Option Addr) (c1 : Nat) (r : Nat) (w : World), t.bulk < k → r ≤ 200 → Sl w (Lt w.heap.size) 3 A c (l.map GData.toD) → GValue.At w (Lt w.heap.size) A1 c1 t →
 Calls Try.prog 17 #[.slice A l.length c, .agg #[.int .i64 t.kind, .int .i64 t.n, .string t.s, .slice A1 t.kids.length c1], .int .i64 r] w fun e w' => e = .returned (.bool (vB l t r)) ∧ Below w.heap.size w w' := by
 induction k with
 | zero => intro l A c t A1 c1 r w h; omega
 | succ k ih =>
  intro l A c t A1 c1 r w hk0 hr hs ht
  have hlen : t.kids.length ≤ 9223372036854775807 := by simpa using ht.2.2.2.len
  have hlen2 : l.length ≤ 9223372036854775807 := by simpa using hs.len
  have hbe := t.bulk_eq
  have S0 := LH hs
  have T0 := LH ht
  have hmem : Hid (∀ j (h : j < t.kids.length), (t.kids[j]).bulk < k) := LH (fun j h => by have := bulkL_mem GValue.bulk t.kids _ (List.getElem_mem h); omega)
  clear hs ht hbe hk0
  have E0 := LH (show Below w.heap.size w (w.alloc (.cells #[.int .i64 t.kind, .int .i64 t.n, .string t.s, .slice A1 t.kids.length c1] 26)) from (Below.refl _ _).alloc (Nat.le_refl _) _)
  have R0 := LH (Row.new w 26 #[.int .i64 t.kind, .int .i64 t.n, .string t.s, .slice A1 t.kids.length c1])
  match r, hr with
  | 0, _ =>
   go_enter Try.func17, Try.ntmps17
   go_wp2_with fail
   go_ret
   exact ⟨ret_bool vB_zero.symm, E0.out⟩
  | r + 1, hr =>
   cases o1 : (t.kind == 1)
   ·
    skip
    cases o3 : (t.kind == 3)
    ·
     skip
     cases o2 : (t.kind == 2)
     · skip
       have hv := LH (show val1 l t.kind t.n t.s t.kids.length = false from by
         unfold val1; simp only [beq_iff_eq, beq_eq_false_iff_ne, ne_eq] at o1 o3 o2; simp [o1, o3, o2])
       go_enter Try.func17, Try.ntmps17
       go_wp2
       go_ret
       exact ⟨ret_bool (vB_bad hv.out).symm, E0.out⟩
     ·
      skip
      cases hc : conOf t.s l 0 with
      | none =>
       have hv := LH (show val1 l t.kind t.n t.s t.kids.length = false from by
         unfold val1; simp only [beq_iff_eq, beq_eq_false_iff_ne, ne_eq] at o1 o3 o2; simp [o1, o3, o2, conArgs_none hc])
       have e1 : (conI (conOf t.s l 0)).1 = -1 := by rw [hc]; rfl
       have e2 : (conI (conOf t.s l 0)).2 = -1 := by rw [hc]; rfl
       go_enter Try.func17, Try.ntmps17
       go_wp2_with fail
       refine (implConOf l A c t.s _ (S0.out.below E0.out E0.out.size)).mono ?_
       rintro e w2 ⟨rfl, hb2⟩
       have B2 := LH (E0.out.trans (hb2.mono E0.out.size))
       have R2 := LH (R0.out.below hb2 R0.out.lt)
       rw [e1, e2]
       clear hb2 hc e1 e2
       have hR := fun i => R2.out.cell i
       cases a : (t.n == 0)
       all_goals
        have a' := (show (t.n != 0) = _ from by rw [bne, a])
        go_wp2_with fail
        go_quiet (fail)
        go_wp2_with fail
        go_ret
        exact ⟨ret_bool (vB_bad hv.out).symm, belowN B2.out _⟩
      | some jk =>
       obtain ⟨j', k'⟩ := jk
       obtain ⟨hj', hk', hca⟩ := conArgs_some hc
       have e1 : (conI (conOf t.s l 0)).1 = (j' : Int) := by rw [hc]; rfl
       have e2 : (conI (conOf t.s l 0)).2 = (k' : Int) := by rw [hc]; rfl
       have HCA := LH hca
       clear hca
       go_enter Try.func17, Try.ntmps17
       go_wp2_with fail
       refine (implConOf l A c t.s _ (S0.out.below E0.out E0.out.size)).mono ?_
       rintro e w2 ⟨rfl, hb2⟩
       have B2 := LH (E0.out.trans (hb2.mono E0.out.size))
       have R2 := LH (R0.out.below hb2 R0.out.lt)
       rw [e1, e2]
       clear hb2 hc e1 e2
       have hR := fun i => R2.out.cell i
       obtain ⟨b, off, A2, c2, rfl, hSb, g0, g1, g2, hat⟩ := GData.elem (S0.out.below B2.out (Nat.le_refl _)) j' hj'
       have hcl : (l[j']).cons.length ≤ 9223372036854775807 := by simpa using hat.2.2.len
       obtain ⟨b2, off2, A3, c3, rfl, hSb2, p0, p1, hat2⟩ := GCon.elem hat.2.2 k' hk'
       have hal : ((l[j']).cons[k']).args.length ≤ 9223372036854775807 := by simpa using hat2.2.len
       clear hat hat2 g0 g1 p0
       cases a : (t.n == 0)
       · have hv := LH (show val1 l t.kind t.n t.s t.kids.length = false from by
           unfold val1; simp only [beq_iff_eq, beq_eq_false_iff_ne, ne_eq] at o1 o3 o2 a; simp [o1, o3, o2, a])
         have a' : (t.n != 0) = true := by rw [bne, a]; rfl
         go_wp2_with fail
         go_quiet (fail)
         go_wp2_with fail
         go_ret
         exact ⟨ret_bool (vB_bad hv.out).symm, belowN B2.out _⟩
       ·
        have a' : (t.n != 0) = false := by rw [bne, a]; rfl
        by_cases hk : ((l[j']).cons[k']).args.length = t.kids.length
        rotate_left
        · have hk2 : ((((l[j']).cons[k']).args.length : Int) != (t.kids.length : Int)) = true := by rw [bne_iff_ne]; omega
          have hv := LH (show val1 l t.kind t.n t.s t.kids.length = false from by
            unfold val1; rw [HCA.out]; simp only [beq_iff_eq, beq_eq_false_iff_ne, ne_eq] at o1 o3 o2 a; simp [o1, o3, o2, a, hk])
          clear hk
          go_wp2_with fail
          go_quiet (fail)
          go_wp2_with fail
          go_ret
          exact ⟨ret_bool (vB_bad hv.out).symm, belowN B2.out _⟩
        have hk2 : ((((l[j']).cons[k']).args.length : Int) != (t.kids.length : Int)) = false := by rw [bne_eq_false_iff_eq]; omega
        have hv := LH (show val1 l t.kind t.n t.s t.kids.length = true from by
          unfold val1; rw [HCA.out]; simp only [beq_iff_eq, beq_eq_false_iff_ne, ne_eq] at o1 o3 o2 a; simp [o1, o3, o2, a, hk])
        have HV := LH (vB_con (r := r) hv.out)
        clear hk
        go_wp2_with fail
        go_quiet (fail)
        go_wp2_with fail
        go_loopw [82] (fun i wr => ∃ (j : Nat), j ≤ t.kids.length ∧ i = .int .i64 j ∧ Hid (vB l t (r + 1) = vBL l (t.kids.drop j) r) ∧ Below w.heap.size w wr) (fun i _ => t.kids.length - (intOf i).toNat)
        case atStart => exact ⟨0, by omega, by go_num, HV, belowN B2.out _⟩
        case round =>
         clear B2 R2 hR g2 p1
         obtain ⟨j, hj, rfl, HT, hbl⟩ := hrel
         have hsz := hbl.size
         by_cases hlt : j < t.kids.length
         ·
          obtain ⟨b4, off4, A4, c4, rfl, hSb4, q0, q1, q2, q3, hat⟩ := GValue.elem (T0.out.below hbl (Nat.le_refl _)).2.2.2 j hlt
          have HB := LH (hmem.out j hlt)
          have E4 := LH (show Below w.heap.size w (wr.alloc (.cells #[.int .i64 (t.kids[j]).kind, .int .i64 (t.kids[j]).n, .string (t.kids[j]).s, .slice A4 (t.kids[j]).kids.length c4] 26)) from hbl.alloc hsz _)
          have HA := LH (hat.keep (S' := Lt (wr.alloc (.cells #[.int .i64 (t.kids[j]).kind, .int .i64 (t.kids[j]).n, .string (t.kids[j]).s, .slice A4 (t.kids[j]).kids.length c4] 26)).heap.size) (w' := wr.alloc (.cells #[.int .i64 (t.kids[j]).kind, .int .i64 (t.kids[j]).n, .string (t.kids[j]).s, .slice A4 (t.kids[j]).kids.length c4] 26)) fun b hb => ⟨Nat.lt_of_lt_of_le hb E4.out.size, Below.heap_alloc _ _ _ (Nat.lt_of_lt_of_le hb hsz)⟩)
          have HS := LH (S0.out.below E4.out E4.out.size)
          clear hat
          go_wp2_with fail
          refine (ih l _ c (t.kids[j]) A4 c4 r _ HB.out (by omega) HS.out HA.out).mono ?_
          rintro e w1 ⟨rfl, hb1⟩
          have B1 := LH (E4.out.trans (hb1.mono E4.out.size))
          clear hb1
          have hd := vBL_drop (l := l) (r := r) hlt
          cases hok : vB l t.kids[j] r with
          | false =>
           have HF := LH (show vB l t (r + 1) = false by rw [HT.out, hd, hok]; simp)
           clear hd hok
           go_wp2_with fail
           go_ret
           exact ⟨ret_bool HF.out.symm, B1.out⟩
          | true =>
           have HT2 := LH (HT.out.trans (hd.trans (by rw [hok, Bool.true_and])))
           clear hd hok
           go_wp2_with fail
           go_roundw
           case rel => exact ⟨j + 1, by omega, by go_num, HT2, B1.out⟩
           case measure => simp [intOf]; omega
         · have hjl : j = t.kids.length := by omega
           have HV := LH (show vB l t (r + 1) = true by rw [HT.out, hjl, List.drop_length]; simp [vBL, GValue.deepL, GValue.okSL])
           clear hjl
           go_wp2_with fail
           go_ret
           exact ⟨ret_bool HV.out.symm, hbl⟩
    ·
     skip
     cases a : (t.n == 0)
     · skip
       have hv := LH (show val1 l t.kind t.n t.s t.kids.length = false from by
         unfold val1; simp only [beq_iff_eq, beq_eq_false_iff_ne, ne_eq] at o1 o3 a; simp [o1, o3, a])
       go_enter Try.func17, Try.ntmps17
       go_wp2
       go_ret
       exact ⟨ret_bool (vB_bad hv.out).symm, E0.out⟩
     ·
      skip
      cases b : (t.s.toList.isEmpty)
      · skip
        have hv := LH (show val1 l t.kind t.n t.s t.kids.length = false from by
          unfold val1; simp only [beq_iff_eq, beq_eq_false_iff_ne, ne_eq] at o1 o3 a b; simp [o1, o3, a, b])
        go_enter Try.func17, Try.ntmps17
        go_wp2
        go_ret
        exact ⟨ret_bool (vB_bad hv.out).symm, E0.out⟩
      ·
       skip
       by_cases hk : t.kids.length = 0
       · have hk2 : ((t.kids.length : Int) == 0) = true := by rw [beq_iff_eq]; omega
         have hv := LH (show val1 l t.kind t.n t.s t.kids.length = true from by
           unfold val1; simp only [beq_iff_eq, beq_eq_false_iff_ne, ne_eq] at o1 o3 a b; simp [o1, o3, a, b, hk])
         have Hk := LH hk
         clear hk
         go_enter Try.func17, Try.ntmps17
         go_wp2
         go_ret
         exact ⟨ret_bool (vB_leaf hv.out Hk.out).symm, E0.out⟩
       · have hk2 : ((t.kids.length : Int) == 0) = false := by rw [beq_eq_false_iff_ne]; omega
         have hv := LH (show val1 l t.kind t.n t.s t.kids.length = false from by
           unfold val1; simp only [beq_iff_eq, beq_eq_false_iff_ne, ne_eq] at o1 o3 a b; simp [o1, o3, a, b, hk])
         clear hk
         go_enter Try.func17, Try.ntmps17
         go_wp2
         go_ret
         exact ⟨ret_bool (vB_bad hv.out).symm, E0.out⟩
   ·
    skip
    by_cases h : -1073741824 ≤ t.n
    ·
     by_cases h' : t.n ≤ 1073741823
     ·
      skip
      cases b : (t.s.toList.isEmpty)
      · skip
        have hv := LH (show val1 l t.kind t.n t.s t.kids.length = false from by
          unfold val1; simp only [beq_iff_eq, beq_eq_false_iff_ne, ne_eq] at o1 b; simp [o1, h, h', b])
        go_enter Try.func17, Try.ntmps17
        go_wp2
        go_ret
        exact ⟨ret_bool (vB_bad hv.out).symm, E0.out⟩
      ·
       skip
       by_cases hk : t.kids.length = 0
       · have hk2 : ((t.kids.length : Int) == 0) = true := by rw [beq_iff_eq]; omega
         have hv := LH (show val1 l t.kind t.n t.s t.kids.length = true from by
           unfold val1; simp only [beq_iff_eq, beq_eq_false_iff_ne, ne_eq] at o1 b; simp [o1, h, h', b, hk])
         have Hk := LH hk
         clear hk
         go_enter Try.func17, Try.ntmps17
         go_wp2
         go_ret
         exact ⟨ret_bool (vB_leaf hv.out Hk.out).symm, E0.out⟩
       · have hk2 : ((t.kids.length : Int) == 0) = false := by rw [beq_eq_false_iff_ne]; omega
         have hv := LH (show val1 l t.kind t.n t.s t.kids.length = false from by
           unfold val1; simp only [beq_iff_eq, beq_eq_false_iff_ne, ne_eq] at o1 b; simp [o1, h, h', b, hk])
         clear hk
         go_enter Try.func17, Try.ntmps17
         go_wp2
         go_ret
         exact ⟨ret_bool (vB_bad hv.out).symm, E0.out⟩
     · skip
       have hv := LH (show val1 l t.kind t.n t.s t.kids.length = false from by
         unfold val1; simp only [beq_iff_eq, beq_eq_false_iff_ne, ne_eq] at o1; simp [o1, h, h'])
       go_enter Try.func17, Try.ntmps17
       go_wp2
       go_ret
       exact ⟨ret_bool (vB_bad hv.out).symm, E0.out⟩
    · skip
      have hv := LH (show val1 l t.kind t.n t.s t.kids.length = false from by
        unfold val1; simp only [beq_iff_eq, beq_eq_false_iff_ne, ne_eq] at o1; simp [o1, h])
      go_enter Try.func17, Try.ntmps17
      go_wp2
      go_ret
      exact ⟨ret_bool (vB_bad hv.out).symm, E0.out⟩
theorem implValueOk (l : List GData) (A : Option Addr) (c : Nat) (t : GValue) (A1 : Option Addr) (c1 : Nat) (w : World) (hs : Sl w (Lt w.heap.size) 3 A c (l.map GData.toD)) (ht : GValue.At w (Lt w.heap.size) A1 c1 t) :
 Calls Try.prog 9 #[.slice A l.length c, .agg #[.int .i64 t.kind, .int .i64 t.n, .string t.s, .slice A1 t.kids.length c1]] w fun e w' => e = .returned (.bool (vB l t 200)) ∧ Below w.heap.size w w' := by
 have E : Below w.heap.size w (w.alloc (.cells #[.int .i64 t.kind, .int .i64 t.n, .string t.s, .slice A1 t.kids.length c1] 26)) := (Below.refl _ _).alloc (Nat.le_refl _) _
 have H := implValue (t.bulk + 1) l A c t A1 c1 200 _ (by omega) (by omega) (hs.below E E.size) (ht.below E E.size)
 rw [show ((200 : Nat) : Int) = 200 from rfl] at H
 go_enter Try.func9, Try.ntmps9
 go_wp2_with fail
 refine H.mono ?_
 rintro e w1 ⟨rfl, hb1⟩
 go_wp2_with fail
 go_ret
 exact ⟨rfl, E.trans (hb1.mono E.size)⟩
mutual
def fitsB : GNode → GValue → Bool
 | .mk op n s _ kids, .mk kind n2 s2 kids2 => if op = 17 ∨ op = 18 then true else if op = 19 then kind == 1 && n2 == n else if op = 20 then (kind == 2 && s2.toList == s.toList) && fitsL kids kids2 else false
def fitsL : List GNode → List GValue → Bool
 | [], [] => true
 | a :: r, b :: r2 => fitsB a b && fitsL r r2
 | [], _ :: _ => false
 | _ :: _, [] => false
end
theorem fitsB_eq (p : GNode) (v : GValue) : fitsB p v = if p.op = 17 ∨ p.op = 18 then true else if p.op = 19 then v.kind == 1 && v.n == p.n else if p.op = 20 then (v.kind == 2 && v.s.toList == p.s.toList) && fitsL p.kids v.kids else false := by
 cases p; cases v; simp only [fitsB, GNode.op, GNode.n, GNode.s, GNode.kids, GValue.kind, GValue.n, GValue.s, GValue.kids]; rfl
theorem fitsL_len : ∀ {l : List GNode} {l2 : List GValue}, l.length ≠ l2.length → fitsL l l2 = false
 | [], [], h => by simp at h
 | [], _ :: _, _ => by simp [fitsL]
 | _ :: _, [], _ => by simp [fitsL]
 | a :: r, b :: r2, h => by
  simp only [fitsL]
  rw [fitsL_len (l := r) (l2 := r2) (by simpa using h)]
  simp
theorem fitsL_false : ∀ {l : List GNode} {l2 : List GValue} (i : Nat) (h1 : i < l.length) (h2 : i < l2.length), fitsB l[i] l2[i] = false → fitsL l l2 = false
 | [], _, i, h1, _, _ => by simp at h1
 | _ :: _, [], i, _, h2, _ => by simp at h2
 | a :: r, b :: r2, 0, _, _, h => by simp only [fitsL]; simp only [List.getElem_cons_zero] at h; rw [h]; rfl
 | a :: r, b :: r2, i + 1, h1, h2, h => by
  simp only [fitsL]
  rw [fitsL_false (l := r) (l2 := r2) i (by simpa using h1) (by simpa using h2) (by simpa using h)]
  simp
theorem fitsL_true : ∀ {l : List GNode} {l2 : List GValue}, l.length = l2.length → (∀ i (h1 : i < l.length) (h2 : i < l2.length), fitsB l[i] l2[i] = true) → fitsL l l2 = true
 | [], [], _, _ => by simp [fitsL]
 | [], _ :: _, h, _ => by simp at h
 | _ :: _, [], h, _ => by simp at h
 | a :: r, b :: r2, h, hi => by
  simp only [fitsL]
  rw [fitsL_true (l := r) (l2 := r2) (by simpa using h) (fun i h1 h2 => hi (i + 1) (by simpa using h1) (by simpa using h2))]
  have := hi 0 (by simp) (by simp)
  simp only [List.getElem_cons_zero] at this
  rw [this]; rfl
theorem implFits (k : Nat) : ∀ (p : GNode) (v : GValue) (A1 : Option Addr) (c1 : Nat) (B1 : Option Addr) (d1 : Nat) (w : World), p.bulk < k → GNode.At w (Lt w.heap.size) A1 c1 p → GValue.At w (Lt w.heap.size) B1 d1 v →
 Calls Try.prog 11 #[.agg #[.int .i64 p.op, .int .i64 p.n, .string p.s, .string p.t, .slice A1 p.kids.length c1], .agg #[.int .i64 v.kind, .int .i64 v.n, .string v.s, .slice B1 v.kids.length d1]] w fun e w' => e = .returned (.bool (fitsB p v)) ∧ Below w.heap.size w w' := by
 induction k with
 | zero => intro p v A1 c1 B1 d1 w h; omega
 | succ k ih =>
  intro p v A1 c1 B1 d1 w hk ha hb
  obtain ⟨-, -, -, -, hs⟩ := id ha
  obtain ⟨-, -, -, hs2⟩ := id hb
  have hlen : p.kids.length ≤ 9223372036854775807 := by simpa using hs.len
  have hlen2 : v.kids.length ≤ 9223372036854775807 := by simpa using hs2.len
  have hse := LH (fitsB_eq p v)
  have hbe := p.bulk_eq
  have E : Below w.heap.size w ((w.alloc (.cells #[.int .i64 p.op, .int .i64 p.n, .string p.s, .string p.t, .slice A1 p.kids.length c1] 36)).alloc (.cells #[.int .i64 v.kind, .int .i64 v.n, .string v.s, .slice B1 v.kids.length d1] 26)) := ((Below.refl _ _).alloc (Nat.le_refl _) _).alloc (by simp) _
  cases o1 : (p.op == 17)
  rotate_left
  · have x1 := LH (beq_iff_eq.1 o1)
    go_enter Try.func11, Try.ntmps11
    go_wp2_with fail
    go_ret
    exact ⟨ret_bool (by rw [hse.out]; rw [if_pos (.inl x1.out)]), E⟩
  cases o2 : (p.op == 18)
  rotate_left
  · have x2 := LH (beq_iff_eq.1 o2)
    go_enter Try.func11, Try.ntmps11
    go_wp2_with fail
    go_ret
    exact ⟨ret_bool (by rw [hse.out]; rw [if_pos (.inr x2.out)]), E⟩
  have x1 := LH (show ¬ (p.op = 17 ∨ p.op = 18) from by simp only [beq_eq_false_iff_ne, ne_eq] at o1 o2; omega)
  cases o3 : (p.op == 19)
  rotate_left
  ·
   have x3 := LH (beq_iff_eq.1 o3)
   cases y1 : (v.kind == 1)
   · skip
     go_enter Try.func11, Try.ntmps11
     go_wp2_with fail
     go_ret
     exact ⟨ret_bool (by rw [hse.out]; rw [if_neg x1.out, if_pos x3.out, y1]; rfl), E⟩
   ·
    cases y2 : (v.n == p.n)
    · skip
      go_enter Try.func11, Try.ntmps11
      go_wp2_with fail
      go_ret
      exact ⟨ret_bool (by rw [hse.out]; rw [if_neg x1.out, if_pos x3.out, y1, y2]; rfl), E⟩
    · skip
      go_enter Try.func11, Try.ntmps11
      go_wp2_with fail
      go_ret
      exact ⟨ret_bool (by rw [hse.out]; rw [if_neg x1.out, if_pos x3.out, y1, y2]; rfl), E⟩
  have x3 := LH (show ¬ (p.op = 19) from by simpa using o3)
  cases o4 : (p.op == 20)
  · have x4 := LH (show ¬ (p.op = 20) from by simpa using o4)
    go_enter Try.func11, Try.ntmps11
    go_wp2_with fail
    go_ret
    exact ⟨ret_bool (by rw [hse.out]; rw [if_neg x1.out, if_neg x3.out, if_neg x4.out]), E⟩
  have x4 := LH (beq_iff_eq.1 o4)
  cases y1 : (v.kind == 2)
  · have z1 : (v.kind != 2) = true := by rw [bne, y1]; rfl
    go_enter Try.func11, Try.ntmps11
    go_wp2_with fail
    go_ret
    exact ⟨ret_bool (by rw [hse.out]; rw [if_neg x1.out, if_neg x3.out, if_pos x4.out, y1]; rfl), E⟩
  have z1 : (v.kind != 2) = false := by rw [bne, y1]; rfl
  cases y2 : (v.s.toList == p.s.toList)
  · have z2 : (v.s.toList != p.s.toList) = true := by rw [bne, y2]; rfl
    go_enter Try.func11, Try.ntmps11
    go_wp2_with fail
    go_ret
    exact ⟨ret_bool (by rw [hse.out]; rw [if_neg x1.out, if_neg x3.out, if_pos x4.out, y1, y2]; rfl), E⟩
  have z2 : (v.s.toList != p.s.toList) = false := by rw [bne, y2]; rfl
  by_cases hl : p.kids.length = v.kids.length
  rotate_left
  ·
   have e1 : (v.kids.length != p.kids.length) = true := by rw [bne_iff_ne]; omega
   have e2 : ((v.kids.length : Int) != (p.kids.length : Int)) = true := by rw [bne_iff_ne]; omega
   have hr := LH (fitsL_len hl)
   clear hl
   go_enter Try.func11, Try.ntmps11
   go_wp2_with fail
   go_ret
   exact ⟨ret_bool (by rw [hse.out]; rw [if_neg x1.out, if_neg x3.out, if_pos x4.out, y1, y2, hr.out]; rfl), E⟩
  have e1 : (v.kids.length != p.kids.length) = false := by rw [bne_eq_false_iff_eq]; omega
  have e2 : ((v.kids.length : Int) != (p.kids.length : Int)) = false := by rw [bne_eq_false_iff_eq]; omega
  have Hl := LH hl
  have hle : p.kids.length ≤ v.kids.length := by omega
  have hle2 : v.kids.length ≤ p.kids.length := by omega
  clear hl
  have Ra := LH ((Row.new w 36 #[.int .i64 p.op, .int .i64 p.n, .string p.s, .string p.t, .slice A1 p.kids.length c1]).alloc (.cells #[.int .i64 v.kind, .int .i64 v.n, .string v.s, .slice B1 v.kids.length d1] 26))
  have Rb := LH (Row.new' (w.alloc (.cells #[.int .i64 p.op, .int .i64 p.n, .string p.s, .string p.t, .slice A1 p.kids.length c1] 36)) 26 #[.int .i64 v.kind, .int .i64 v.n, .string v.s, .slice B1 v.kids.length d1] (g := w.heap.size + 1) (by simp))
  go_enter Try.func11, Try.ntmps11
  go_wp2_with fail
  go_loopw [48] (fun i wr => ∃ j : Nat, j ≤ p.kids.length ∧ i = .int .i64 j ∧ (∀ i (h1 : i < p.kids.length) (h2 : i < v.kids.length), i < j → fitsB p.kids[i] v.kids[i] = true) ∧ Below w.heap.size w wr ∧ Row wr w.heap.size 36 #[.int .i64 p.op, .int .i64 p.n, .string p.s, .string p.t, .slice A1 p.kids.length c1] ∧ Row wr (w.heap.size + 1) 26 #[.int .i64 v.kind, .int .i64 v.n, .string v.s, .slice B1 v.kids.length d1]) (fun i _ => p.kids.length - (intOf i).toNat)
  case atStart => exact ⟨0, by omega, by go_num, fun i _ _ h => by omega, E, Ra.out, Rb.out⟩
  case round =>
   clear Ra Rb E
   obtain ⟨j, hj, rfl, hall, hbl, ra, rb⟩ := hrel
   have Hall := LH hall
   clear hall
   have hsz := hbl.size
   have hca := fun i => ra.cell i
   have hcb := fun i => rb.cell i
   have hla := ra.lt
   have hlb := rb.lt
   by_cases hlt : j < p.kids.length
   ·
    have hlt2 : j < v.kids.length := by omega
    have htr := GNode.elem (hs.below hbl (Nat.le_refl _)) j hlt
    obtain ⟨bk, off, A2, c2, rfl, hSb, q0, q1, q2, q3, q4, hat⟩ := htr
    have htr := GValue.elem (hs2.below hbl (Nat.le_refl _)) j hlt2
    obtain ⟨bk', off', B2, d2, rfl, hSb', q0', q1', q2', q3', hat'⟩ := htr
    have hmem : p.kids[j] ∈ p.kids := List.getElem_mem hlt
    have hlt3 : (p.kids[j]).bulk < k := by have := bulkL_mem GNode.bulk p.kids _ hmem; omega
    have hb1' : bk < wr.heap.size := Nat.lt_of_lt_of_le hSb hsz
    have hb2' : bk' < wr.heap.size := Nat.lt_of_lt_of_le hSb' hsz
    have E2 : Below wr.heap.size wr (wr.alloc (.cells #[.int .i64 p.kids[j].op, .int .i64 p.kids[j].n, .string p.kids[j].s, .string p.kids[j].t, .slice A2 p.kids[j].kids.length c2] 36)) := (Below.refl _ _).alloc (Nat.le_refl _) _
    have hat1 := hat.below (B' := (wr.alloc (.cells #[.int .i64 p.kids[j].op, .int .i64 p.kids[j].n, .string p.kids[j].s, .string p.kids[j].t, .slice A2 p.kids[j].kids.length c2] 36)).heap.size) (E2.mono hsz) (by simp; omega)
    have hat1' := hat'.below (B' := (wr.alloc (.cells #[.int .i64 p.kids[j].op, .int .i64 p.kids[j].n, .string p.kids[j].s, .string p.kids[j].t, .slice A2 p.kids[j].kids.length c2] 36)).heap.size) (E2.mono hsz) (by simp; omega)
    have rn := Row.new wr 36 #[.int .i64 p.kids[j].op, .int .i64 p.kids[j].n, .string p.kids[j].s, .string p.kids[j].t, .slice A2 p.kids[j].kids.length c2]
    have ra0 := ra.alloc (.cells #[.int .i64 p.kids[j].op, .int .i64 p.kids[j].n, .string p.kids[j].s, .string p.kids[j].t, .slice A2 p.kids[j].kids.length c2] 36)
    have rb0 := rb.alloc (.cells #[.int .i64 p.kids[j].op, .int .i64 p.kids[j].n, .string p.kids[j].s, .string p.kids[j].t, .slice A2 p.kids[j].kids.length c2] 36)
    have B3 := hbl.trans (E2.mono hsz)
    go_wp2_with fail
    have q0x := hat1'
    generalize hwx : (wr.alloc (.cells #[.int .i64 p.kids[j].op, .int .i64 p.kids[j].n, .string p.kids[j].s, .string p.kids[j].t, .slice A2 p.kids[j].kids.length c2] 36)) = wx at *
    have hrn := fun i => rn.cell i
    have hra := fun i => ra0.cell i
    have hrb := fun i => rb0.cell i
    have p0' := (World.cell?_of_block (a := ⟨bk', off' + j * 4, none⟩) (E2.block bk' hb2')).trans q0'
    have p1' := (World.cell?_of_block (a := ⟨bk', off' + j * 4 + 1, none⟩) (E2.block bk' hb2')).trans q1'
    have p2' := (World.cell?_of_block (a := ⟨bk', off' + j * 4 + 2, none⟩) (E2.block bk' hb2')).trans q2'
    have p3' := (World.cell?_of_block (a := ⟨bk', off' + j * 4 + 3, none⟩) (E2.block bk' hb2')).trans q3'
    have Rn := LH rn
    have Ra := LH ra0
    have Rb := LH rb0
    clear hwx rn ra0 rb0 ra rb q0x hca hcb q0 q1 q2 q3 q4 q0' q1' q2' q3'
    refine wp_region_still_tail 6 (by kernel_rfl) (by kernel_rfl) ?_
    simp only [List.take_succ_cons, List.take_zero, List.drop_succ_cons, List.drop_zero]
    change wpStill _ _ wx.drew (fun a' => wpList _ _ _ _ a' wx.drew) _ _
    iterate 6 still_step
    refine wpStill_nil ?_
    go_wp2_with fail
    refine (ih _ _ _ _ _ _ wx.drew hlt3 (hat1.keep fun b hb => ⟨hb, rfl⟩) (hat1'.keep fun b hb => ⟨hb, rfl⟩)).mono ?_
    rintro e w1 ⟨rfl, hb1⟩
    have BB := B3.drew.trans (hb1.mono B3.size)
    have ra1 := LH (Row.below (w := wx.drew) Ra.out hb1 Ra.out.lt)
    have rb1 := LH (Row.below (w := wx.drew) Rb.out hb1 Rb.out.lt)
    cases he : fitsB p.kids[j] v.kids[j]
    · have hr := LH (fitsL_false j hlt hlt2 he)
      go_wp2_with fail
      go_ret
      exact ⟨ret_bool (by rw [hse.out, if_neg x1.out, if_neg x3.out, if_pos x4.out, y1, y2, hr.out]; rfl), BB⟩
    ·
     have he2 := LH he
     clear he
     go_wp2_with fail
     go_roundw
     case rel => exact ⟨j + 1, by omega, by go_num, fun i h1 h2 hi => by
       rcases Nat.lt_or_ge i j with h | h
       · exact Hall.out i h1 h2 h
       · obtain rfl : i = j := by omega
         exact he2.out, BB, ra1.out, rb1.out⟩
     case measure => simp [intOf]; omega
   · have hjl : j = p.kids.length := by omega
     have Hj := LH hjl
     clear hjl
     go_wp2_with fail
     go_ret
     exact ⟨ret_bool (by rw [hse.out, if_neg x1.out, if_neg x3.out, if_pos x4.out, y1, y2, fitsL_true Hl.out (fun i h1 h2 => Hall.out i h1 h2 (by rw [Hj.out]; exact h1))]; rfl), hbl⟩
end Go.Proofs.Ytamfolaicncblaa
