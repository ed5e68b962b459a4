/- ConOf: the place of a con: which data, which of its cons. Conditions: none. -/
import Derived.Test.YtgbcdfeflgnogaaConTag
import Derived.Test.YtgbcdfeflgnogaaFCon
namespace Go.Proofs.Ytgbcdfeflgnogaa
open Go.RowKit
set_option linter.unusedVariables false
set_option linter.unusedSimpArgs false
set_option maxHeartbeats 1000000

theorem ret_ii {a b c d : Int} (h : a = b) (h2 : c = d) : Ending.returned (.tuple #[.int .i64 a, .int .i64 c]) = .returned (.tuple #[.int .i64 b, .int .i64 d]) := by rw [h, h2]

/-- which data, from number j on, and which con of it, bears a name -/
def conOf (s : ByteArray) : List GData → Nat → Option (Nat × Nat)
  | [], _ => none
  | d :: r, j => match tagIn s d.cons 0 with
    | some k => some (j, k)
    | none => conOf s r (j + 1)
def conI : Option (Nat × Nat) → Int × Int
  | some (j, k) => (j, k)
  | none => (-1, -1)
theorem conOf_hit {s : ByteArray} {l : List GData} {j n m : Nat} (h : j < l.length) (e : tagIn s l[j].cons 0 = some m) : conOf s (l.drop j) n = some (n, m) := by
  rw [List.drop_eq_getElem_cons h, conOf, e]
theorem conOf_miss {s : ByteArray} {l : List GData} {j n : Nat} (h : j < l.length) (e : tagIn s l[j].cons 0 = none) : conOf s (l.drop j) n = conOf s (l.drop (j + 1)) (n + 1) := by
  rw [List.drop_eq_getElem_cons h, conOf, e]

set_option maxRecDepth 20000 in
theorem specConOf (l : List GData) (A : Option Addr) (c : Nat) (s : ByteArray) (w : World) (hs : Sl w (Lt w.heap.size) 3 A c (l.map GData.toD)) :
    Calls Try.prog 215 #[.slice A l.length c, .string s] w fun e w' => e = .returned (.tuple #[.int .i64 (conI (conOf s l 0)).1, .int .i64 (conI (conOf s l 0)).2]) ∧ Below w.heap.size w w' := by
  have hlen : l.length ≤ 9223372036854775807 := by simpa using hs.len
  have S0 := Lib.hid hs
  clear hs
  go_enter Try.func215, Try.ntmps215
  go_wp2_with fail
  go_loopw [6] (fun i wr => ∃ (j : Nat), j ≤ l.length ∧ i = .int .i64 j ∧ Hid (conOf s l 0 = conOf s (l.drop j) j) ∧ Below w.heap.size w wr) (fun i _ => l.length - (intOf i).toNat)
  case atStart => exact ⟨0, by omega, by go_num, Lib.hid rfl, Below.refl _ _⟩
  case round =>
    obtain ⟨j, hj, rfl, HT, hbl⟩ := hrel
    have hsz := hbl.size
    by_cases hlt : j < l.length
    · obtain ⟨b, off, A1, c1, rfl, hSb, g0, g1, g2, hat⟩ := GData.elem (S0.out.below hbl (Nat.le_refl _)) j hlt
      have hcl : (l[j]).cons.length ≤ 9223372036854775807 := by simpa using hat.2.2.len
      clear hat
      go_wp2_with fail
      go_loopw [7] (fun i wr2 => ∃ (k : Nat), k ≤ (l[j]).cons.length ∧ i = .int .i64 k ∧ Hid (tagIn s (l[j]).cons 0 = tagIn s ((l[j]).cons.drop k) k) ∧ Below w.heap.size w wr2) (fun i _ => (l[j]).cons.length - (intOf i).toNat)
      case atStart => exact ⟨0, by omega, by go_num, Lib.hid rfl, hbl⟩
      case round =>
        obtain ⟨k, hk, rfl, HI, hbk⟩ := hrel
        obtain ⟨b', off', A1', c1', eA, hSb', q0, q1, q2, hat'⟩ := GData.elem (S0.out.below hbk (Nat.le_refl _)) j hlt
        obtain ⟨rfl, rfl⟩ : b = b' ∧ off = off' := by simpa using eA
        by_cases hkt : k < (l[j]).cons.length
        · obtain ⟨b2, off2, A2, c2, rfl, hSb2, p0, p1, hat2⟩ := GCon.elem hat'.2.2 k hkt
          by_cases he : ((l[j]).cons[k]).name = s
          · have HV := Lib.hid (show conOf s l 0 = some (j, k) from HT.out.trans (conOf_hit hlt (HI.out.trans (tagIn_hit hkt he))))
            have hbe : (((l[j]).cons[k]).name.toList == s.toList) = true := by rw [he]; simp
            clear he
            go_wp2_with fail
            go_ret2
            exact ⟨ret_ii (by rw [HV.out]; rfl) (by rw [HV.out]; rfl), hbk⟩
          · have HI2 := Lib.hid (HI.out.trans (tagIn_miss hkt he))
            have hbe : (((l[j]).cons[k]).name.toList == s.toList) = false := name_ne he
            clear he
            go_wp2_with fail
            go_roundw
            case rel => exact ⟨k + 1, by omega, by go_num, HI2, hbk⟩
            case measure => simp [intOf]; omega
        · have hkl : k = (l[j]).cons.length := by omega
          have HO := Lib.hid (conOf_miss (s := s) (n := j) hlt (HI.out.trans (by rw [hkl, List.drop_length]; rfl)))
          go_wp2_with fail
          go_roundw
          case rel => exact ⟨j + 1, by omega, by go_num, Lib.hid (HT.out.trans HO.out), hbk⟩
          case measure => simp [intOf]; omega
    · have hjl : j = l.length := by omega
      have Hj := Lib.hid hjl
      clear hjl
      go_wp2_with fail
      go_ret2
      exact ⟨ret_ii (by rw [HT.out, Hj.out, List.drop_length]; rfl) (by rw [HT.out, Hj.out, List.drop_length]; rfl), hbl⟩

/-- the con that bears a name, found by a predicate -/
theorem idxI_tagIn (s : ByteArray) (l : List GCon) (n : Nat) : (match tagIn s l n with | some k => idxI (fun x : GCon => x.name.toList == s.toList) l = (k : Int) - n ∧ n ≤ k | none => idxI (fun x : GCon => x.name.toList == s.toList) l = -1) := by
  induction l generalizing n with
  | nil => simp [tagIn, idxI]
  | cons x r ih =>
    by_cases h : x.name = s
    · have e : (x.name.toList == s.toList) = true := by rw [h]; simp
      simp [tagIn, idxI, h]
    · have e := name_ne h
      have := ih (n + 1)
      simp only [tagIn, idxI, if_neg h, e]
      cases hc : tagIn s r (n + 1) <;> rw [hc] at this <;> simp only at this ⊢
      · rw [this]; rfl
      · rw [if_neg (by simp), if_neg (by omega)]; omega

/-- the closure of ConOf: does a con bear the name -/
theorem implConOf1 (s : ByteArray) (b : Nat) (x : GCon) (A1 : Option Addr) (c1 : Nat) (w : World) (hc : w.cell? ⟨b, 0, none⟩ = some (.string s)) (hb : b < w.heap.size) :
    Calls Try.prog 272 #[.agg #[.string x.name, .slice A1 x.args.length c1], .pointer (some ⟨b, 0, none⟩)] w fun e w' => e = .returned (.bool (x.name.toList == s.toList)) ∧ Below w.heap.size w w' := by
  have E : Below w.heap.size w (w.alloc (.cells #[.string x.name, .slice A1 x.args.length c1] 140)) := (Below.refl _ _).alloc (Nat.le_refl _) _
  have hc2 := (E.cell (p := ⟨b, 0, none⟩) hb).trans hc
  go_enter Try.func272, Try.ntmps272
  go_wp2_with fail
  go_ret
  exact ⟨rfl, E⟩

set_option maxRecDepth 20000 in
theorem implConOf (l : List GData) (A : Option Addr) (c : Nat) (s : ByteArray) (w : World) (hs : Sl w (Lt w.heap.size) 3 A c (l.map GData.toD)) :
    Calls Try.prog 218 #[.slice A l.length c, .string s] w fun e w' => e = .returned (.tuple #[.int .i64 (conI (conOf s l 0)).1, .int .i64 (conI (conOf s l 0)).2]) ∧ Below w.heap.size w w' := by
  have hlen : l.length ≤ 9223372036854775807 := by simpa using hs.len
  have S0 := Lib.hid hs
  clear hs
  have E0 := Lib.hid (show Below w.heap.size w (w.alloc (.cells #[.string s] 9)) from (Below.refl _ _).alloc (Nat.le_refl _) _)
  have R0 := Lib.hid (Row.new w 9 #[.string s])
  go_enter Try.func218, Try.ntmps218
  go_wp2_with fail
  go_loopw [11] (fun i wr => ∃ (j : Nat), j ≤ l.length ∧ i = .int .i64 j ∧ Hid (conOf s l 0 = conOf s (l.drop j) j) ∧ Hid (Row wr w.heap.size 9 #[.string s]) ∧ Below w.heap.size w wr) (fun i _ => l.length - (intOf i).toNat)
  case atStart => exact ⟨0, by omega, by go_num, Lib.hid rfl, R0, E0.out⟩
  case round =>
    obtain ⟨j, hj, rfl, HT, HR, hbl⟩ := hrel
    have hsz := hbl.size
    by_cases hlt : j < l.length
    · obtain ⟨b, off, A1, c1, rfl, hSb, g0, g1, g2, hat⟩ := GData.elem (S0.out.below hbl (Nat.le_refl _)) j hlt
      have S1 := Lib.hid hat.2.2
      have hcl : (l[j]).cons.length ≤ 9223372036854775807 := by simpa using hat.2.2.len
      clear hat
      have HX := Lib.hid (idxI_tagIn s (l[j]).cons 0)
      go_wp2_with fail
      refine (indexFuncCon 272 (enters Try.func272 (by kernel_rfl) (by kernel_rfl)) #[.pointer (some ⟨w.heap.size, 0, none⟩)] (fun x => x.name.toList == s.toList) (l[j]).cons A1 c1 _ (S1.out.keep (fun k hk => ⟨Nat.lt_of_lt_of_le (Nat.lt_of_lt_of_le hk hsz) (by simp), Below.heap_alloc _ _ _ (Nat.lt_of_lt_of_le hk hsz)⟩))
        (fun x hx A2 c2 w2 hb2 hat2 => by
          have R2 := (HR.out.alloc _).below hb2 (HR.out.alloc _).lt
          exact implConOf1 s w.heap.size x A2 c2 w2 (R2.cell 0) R2.lt)).mono ?_
      rintro e w2 ⟨rfl, hb2⟩
      have B2 := Lib.hid ((hbl.alloc hsz _).trans (hb2.mono (hbl.alloc hsz _).size))
      have R3 := Lib.hid ((HR.out.alloc _).below hb2 (HR.out.alloc _).lt)
      clear hb2
      have hx := HX.out
      cases hct : tagIn s (l[j]).cons 0 with
      | some k =>
        rw [hct] at hx
        obtain ⟨hx1, _⟩ := hx
        have hx2 : idxI (fun x : GCon => x.name.toList == s.toList) (l[j]).cons = (k : Int) := by simpa using hx1
        have HV := Lib.hid (HT.out.trans (conOf_hit (n := j) hlt hct))
        rw [hx2]
        clear hx1 hx2 hct
        go_wp2_with fail
        go_ret2
        exact ⟨ret_ii (by rw [HV.out]; rfl) (by rw [HV.out]; rfl), B2.out⟩
      | none =>
        rw [hct] at hx
        have hx2 : idxI (fun x : GCon => x.name.toList == s.toList) (l[j]).cons = -1 := hx
        have HV := Lib.hid (HT.out.trans (conOf_miss (n := j) hlt hct))
        rw [hx2]
        clear hx hx2 hct
        go_wp2_with fail
        go_roundw
        case rel => exact ⟨j + 1, by omega, by go_num, HV, R3, B2.out⟩
        case measure => simp [intOf]; omega
    · have hjl : j = l.length := by omega
      have Hj := Lib.hid hjl
      clear hjl
      go_wp2_with fail
      go_ret2
      exact ⟨ret_ii (by rw [HT.out, Hj.out, List.drop_length]; rfl) (by rw [HT.out, Hj.out, List.drop_length]; rfl), hbl⟩

end Go.Proofs.Ytgbcdfeflgnogaa
