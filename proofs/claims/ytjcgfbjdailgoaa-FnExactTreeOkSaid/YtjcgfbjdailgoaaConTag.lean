/- ConTag. Conditions: what the list holds is at most 1048576. -/
import Derived.Test.YtjcgfbjdailgoaaRows
import Derived.Test.YtjcgfbjdailgoaaPw
import Derived.Test.YtjcgfbjdailgoaaGData
import Derived.Lib.Hide
namespace Go.Proofs.Ytjcgfbjdailgoaa
open Go.RowKit
set_option linter.unusedVariables false
set_option linter.unusedSimpArgs false
set_option maxHeartbeats 1000000

theorem name_ne {a b : ByteArray} (h : ¬ a = b) : (a.toList == b.toList) = false := by
  rw [beq_eq_false_iff_ne]; intro e; apply h; rw [ByteArray.toList_eq, ByteArray.toList_eq] at e; exact ByteArray.ext (Array.toList_inj.1 e)

/-- the tag of a con among the cons of one data; n: how many came before -/
def tagIn (s : ByteArray) : List GCon → Nat → Option Nat
  | [], _ => none
  | c :: r, n => if c.name = s then some n else tagIn s r (n + 1)
/-- the tag of a con -/
def tagOf (s : ByteArray) : List GData → Nat → Option Nat
  | [], _ => none
  | d :: r, n => match tagIn s d.cons n with
    | some x => some x
    | none => tagOf s r (n + d.cons.length)
def tagI : Option Nat → Int
  | some n => n
  | none => -1
/-- how many cons there are -/
def consN : List GData → Nat | [] => 0 | d :: r => d.cons.length + consN r

theorem tagIn_hit {s : ByteArray} {l : List GCon} {k n : Nat} (h : k < l.length) (e : l[k].name = s) : tagIn s (l.drop k) n = some n := by
  rw [List.drop_eq_getElem_cons h, tagIn, if_pos e]
theorem tagIn_miss {s : ByteArray} {l : List GCon} {k n : Nat} (h : k < l.length) (e : ¬ l[k].name = s) : tagIn s (l.drop k) n = tagIn s (l.drop (k + 1)) (n + 1) := by
  rw [List.drop_eq_getElem_cons h, tagIn, if_neg e]
theorem tagOf_hit {s : ByteArray} {l : List GData} {j n m : Nat} (h : j < l.length) (e : tagIn s l[j].cons n = some m) : tagOf s (l.drop j) n = some m := by
  rw [List.drop_eq_getElem_cons h, tagOf, e]
theorem tagOf_miss {s : ByteArray} {l : List GData} {j n : Nat} (h : j < l.length) (e : tagIn s l[j].cons n = none) : tagOf s (l.drop j) n = tagOf s (l.drop (j + 1)) (n + l[j].cons.length) := by
  rw [List.drop_eq_getElem_cons h, tagOf, e]
theorem consN_drop {l : List GData} {j : Nat} (h : j < l.length) : consN (l.drop j) = l[j].cons.length + consN (l.drop (j + 1)) := by
  rw [List.drop_eq_getElem_cons h, consN]
theorem consN_bulk (l : List GData) : consN l ≤ bulkL GData.bulk l := by
  induction l with
  | nil => simp [consN]
  | cons t r ih =>
    simp only [consN, bulkL]
    have := bulkL_len GCon.bulk t.cons
    have e := t.bulk_eq
    omega

set_option maxRecDepth 20000 in
theorem specConTag (l : List GData) (A : Option Addr) (c : Nat) (s : ByteArray) (w : World) (hm : consN l ≤ 1048576) (hs : Sl w (Lt w.heap.size) 3 A c (l.map GData.toD)) :
    Calls Try.prog 175 #[.slice A l.length c, .string s] w fun e w' => e = .returned (.int .i64 (tagI (tagOf s l 0))) ∧ Below w.heap.size w w' := by
  have hlen : l.length ≤ 9223372036854775807 := by simpa using hs.len
  have S0 := Lib.hid hs
  clear hs
  go_enter Try.func175, Try.ntmps175
  go_wp2_with fail
  go_loopw [5, 6] (fun n i wr => ∃ (j m : Nat), j ≤ l.length ∧ i = .int .i64 j ∧ n = .int .i64 m ∧ Hid (tagOf s l 0 = tagOf s (l.drop j) m) ∧ m + consN (l.drop j) ≤ 1048576 ∧ Below w.heap.size w wr) (fun _ i _ => l.length - (intOf i).toNat)
  case atStart => exact ⟨0, 0, by omega, by go_num, by go_num, Lib.hid rfl, by simpa using hm, Below.refl _ _⟩
  case round =>
    obtain ⟨j, m, hj, rfl, rfl, HT, hbd, hbl⟩ := hrel
    have hsz := hbl.size
    by_cases hlt : j < l.length
    · obtain ⟨b, off, A1, c1, rfl, hSb, g0, g1, g2, hat⟩ := GData.elem (S0.out.below hbl (Nat.le_refl _)) j hlt
      have S1 := Lib.hid hat.2.2
      have hcl : (l[j]).cons.length ≤ 9223372036854775807 := by simpa using hat.2.2.len
      have hcd := consN_drop hlt
      have hbd1 : m + (l[j]).cons.length ≤ 1048576 := by omega
      have hbd2 : (m + (l[j]).cons.length) + consN (l.drop (j + 1)) ≤ 1048576 := by omega
      clear hcd hat
      go_wp2_with fail
      go_loopw [5, 7] (fun n i wr2 => ∃ (k : Nat), k ≤ (l[j]).cons.length ∧ i = .int .i64 k ∧ n = .int .i64 ((m + k : Nat) : Int) ∧ Hid (tagIn s (l[j]).cons m = tagIn s ((l[j]).cons.drop k) (m + k)) ∧ Below w.heap.size w wr2) (fun _ i _ => (l[j]).cons.length - (intOf i).toNat)
      case atStart => exact ⟨0, by omega, by go_num, by go_num, Lib.hid rfl, hbl⟩
      case round =>
        obtain ⟨k, hk, rfl, rfl, HI, hbk⟩ := hrel
        obtain ⟨b', off', A1', c1', eA, hSb', q0, q1, q2, hat'⟩ := GData.elem (S0.out.below hbk (Nat.le_refl _)) j hlt
        obtain ⟨rfl, rfl⟩ : b = b' ∧ off = off' := by simpa using eA
        by_cases hkt : k < (l[j]).cons.length
        · obtain ⟨b2, off2, A2, c2, rfl, hSb2, p0, p1, hat2⟩ := GCon.elem hat'.2.2 k hkt
          by_cases he : ((l[j]).cons[k]).name = s
          · have HV := Lib.hid (show tagOf s l 0 = some (m + k) from HT.out.trans (tagOf_hit hlt (HI.out.trans (tagIn_hit hkt he))))
            have hbe : (((l[j]).cons[k]).name.toList == s.toList) = true := by rw [he]; simp
            clear he
            go_wp2_with fail
            go_ret
            exact ⟨ret_int (by rw [HV.out]; rfl), hbk⟩
          · have HI2 := Lib.hid (HI.out.trans (tagIn_miss hkt he))
            have hbe : (((l[j]).cons[k]).name.toList == s.toList) = false := name_ne he
            clear he
            go_wp2_with fail
            go_roundw
            case rel => exact ⟨k + 1, by omega, by go_num, by go_num, HI2, hbk⟩
            case measure => simp [intOf]; omega
        · have hkl : k = (l[j]).cons.length := by omega
          have HO := Lib.hid (tagOf_miss (s := s) (n := m) hlt (HI.out.trans (by rw [hkl, List.drop_length]; rfl)))
          have Hk := Lib.hid hkl
          clear hkl
          go_wp2_with fail
          go_roundw
          case rel => exact ⟨j + 1, m + k, by omega, by go_num, by go_num, Lib.hid (by rw [Hk.out]; exact HT.out.trans HO.out), by rw [Hk.out]; exact hbd2, hbk⟩
          case measure => simp [intOf]; omega
    · have hjl : j = l.length := by omega
      have Hj := Lib.hid hjl
      clear hjl
      go_wp2_with fail
      go_ret
      exact ⟨ret_int (by rw [HT.out, Hj.out, List.drop_length]; rfl), hbl⟩
set_option maxRecDepth 20000 in
theorem implConTag (l : List GData) (A : Option Addr) (c : Nat) (s : ByteArray) (w : World) (hm : consN l ≤ 1048576) (hs : Sl w (Lt w.heap.size) 3 A c (l.map GData.toD)) :
    Calls Try.prog 179 #[.slice A l.length c, .string s] w fun e w' => e = .returned (.int .i64 (tagI (tagOf s l 0))) ∧ Below w.heap.size w w' := by
  have hlen : l.length ≤ 9223372036854775807 := by simpa using hs.len
  have S0 := Lib.hid hs
  clear hs
  go_enter Try.func179, Try.ntmps179
  go_wp2_with fail
  go_loopw [5, 12] (fun n i wr => ∃ (j m : Nat), j ≤ l.length ∧ i = .int .i64 j ∧ n = .int .i64 m ∧ Hid (tagOf s l 0 = tagOf s (l.drop j) m) ∧ m + consN (l.drop j) ≤ 1048576 ∧ Below w.heap.size w wr) (fun _ i _ => l.length - (intOf i).toNat)
  case atStart => exact ⟨0, 0, by omega, by go_num, by go_num, Lib.hid rfl, by simpa using hm, Below.refl _ _⟩
  case round =>
    obtain ⟨j, m, hj, rfl, rfl, HT, hbd, hbl⟩ := hrel
    have hsz := hbl.size
    by_cases hlt : j < l.length
    · obtain ⟨b, off, A1, c1, rfl, hSb, g0, g1, g2, hat⟩ := GData.elem (S0.out.below hbl (Nat.le_refl _)) j hlt
      have S1 := Lib.hid hat.2.2
      have hcl : (l[j]).cons.length ≤ 9223372036854775807 := by simpa using hat.2.2.len
      have hcd := consN_drop hlt
      have hbd1 : m + (l[j]).cons.length ≤ 1048576 := by omega
      have hbd2 : (m + (l[j]).cons.length) + consN (l.drop (j + 1)) ≤ 1048576 := by omega
      clear hcd hat
      go_wp2_with fail
      go_loopw [5, 19] (fun n i wr2 => ∃ (k : Nat), k ≤ (l[j]).cons.length ∧ i = .int .i64 k ∧ n = .int .i64 ((m + k : Nat) : Int) ∧ Hid (tagIn s (l[j]).cons m = tagIn s ((l[j]).cons.drop k) (m + k)) ∧ Hid (Sl wr2 (Lt w.heap.size) 2 A1 c1 ((l[j]).cons.map GCon.toD)) ∧ Below w.heap.size w wr2) (fun _ i _ => (l[j]).cons.length - (intOf i).toNat)
      case atStart => exact ⟨0, by omega, by go_num, by go_num, Lib.hid rfl, Lib.hid (S1.out.below ((Below.refl _ _).alloc hsz _) (Nat.le_refl _)), hbl.alloc hsz _⟩
      case round =>
        obtain ⟨k, hk, rfl, rfl, HI, S2, hbk⟩ := hrel
        have hsz2 := hbk.size
        by_cases hkt : k < (l[j]).cons.length
        · obtain ⟨b2, off2, A2, c2, rfl, hSb2, p0, p1, hat2⟩ := GCon.elem S2.out k hkt
          by_cases he : ((l[j]).cons[k]).name = s
          · have HV := Lib.hid (show tagOf s l 0 = some (m + k) from HT.out.trans (tagOf_hit hlt (HI.out.trans (tagIn_hit hkt he))))
            have hbe : (((l[j]).cons[k]).name.toList == s.toList) = true := by rw [he]; simp
            clear he
            go_wp2_with fail
            go_ret
            exact ⟨ret_int (by rw [HV.out]; rfl), hbk.alloc hsz2 _⟩
          · have HI2 := Lib.hid (HI.out.trans (tagIn_miss hkt he))
            have hbe : (((l[j]).cons[k]).name.toList == s.toList) = false := name_ne he
            clear he
            go_wp2_with fail
            go_roundw
            case rel => exact ⟨k + 1, by omega, by go_num, by go_num, HI2, Lib.hid (S2.out.below ((Below.refl _ _).alloc hsz2 _) (Nat.le_refl _)), hbk.alloc hsz2 _⟩
            case measure => simp [intOf]; omega
        · have hkl : k = (l[j]).cons.length := by omega
          have HO := Lib.hid (tagOf_miss (s := s) (n := m) hlt (HI.out.trans (by rw [hkl, List.drop_length]; rfl)))
          have Hk := Lib.hid hkl
          clear hkl
          go_wp2_with fail
          go_roundw
          case rel => exact ⟨j + 1, m + k, by omega, by go_num, by go_num, Lib.hid (by rw [Hk.out]; exact HT.out.trans HO.out), by rw [Hk.out]; exact hbd2, hbk⟩
          case measure => simp [intOf]; omega
    · have hjl : j = l.length := by omega
      have Hj := Lib.hid hjl
      clear hjl
      go_wp2_with fail
      go_ret
      exact ⟨ret_int (by rw [HT.out, Hj.out, List.drop_length]; rfl), hbl⟩
end Go.Proofs.Ytjcgfbjdailgoaa
