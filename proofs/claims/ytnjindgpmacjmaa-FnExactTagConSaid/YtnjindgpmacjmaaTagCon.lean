/- TagCon: which con bears a tag: its data, its place there. Conditions: what the list holds is at most 1048576, the tag is a number of 64 bits. -/
import Derived.Test.YtnjindgpmacjmaaConOf
import Derived.Test.YtnjindgpmacjmaaWithin
namespace Go.Proofs.Ytnjindgpmacjmaa
open Go.RowKit
set_option linter.unusedVariables false
set_option linter.unusedSimpArgs false
set_option maxHeartbeats 1000000

/-- which data, from number j on, has the tag t; n: how many cons came before -/
def tagCon (t : Int) : List GData → Nat → Nat → Int × Int
  | [], _, _ => (-1, -1)
  | d :: r, n, j => if (n : Int) ≤ t ∧ t - n < d.cons.length then ((j : Int), t - n) else tagCon t r (n + d.cons.length) (j + 1)
theorem tagCon_hit {t : Int} {l : List GData} {j n : Nat} (h : j < l.length) (e : (n : Int) ≤ t ∧ t - n < (l[j].cons.length : Int)) : tagCon t (l.drop j) n j = ((j : Int), t - n) := by
  rw [List.drop_eq_getElem_cons h, tagCon, if_pos e]
theorem tagCon_miss {t : Int} {l : List GData} {j n : Nat} (h : j < l.length) (e : ¬ ((n : Int) ≤ t ∧ t - n < (l[j].cons.length : Int))) : tagCon t (l.drop j) n j = tagCon t (l.drop (j + 1)) (n + l[j].cons.length) (j + 1) := by
  rw [List.drop_eq_getElem_cons h, tagCon, if_neg e]
theorem tagCon_lt {t : Int} {l : List GData} {n j : Nat} (h : t < n) : tagCon t l n j = (-1, -1) := by
  induction l generalizing n j with
  | nil => rfl
  | cons d r ih => rw [tagCon, if_neg (by omega), ih (by omega)]

set_option maxRecDepth 20000 in
theorem specTagCon (l : List GData) (A : Option Addr) (c : Nat) (t : Int) (w : World) (ht1 : -9223372036854775808 ≤ t) (ht2 : t ≤ 9223372036854775807) (hm : consN l ≤ 1048576) (hs : Sl w (Lt w.heap.size) 3 A c (l.map GData.toD)) :
    Calls Try.prog 31 #[.slice A l.length c, .int .i64 t] w fun e w' => e = .returned (.tuple #[.int .i64 (tagCon t l 0 0).1, .int .i64 (tagCon t l 0 0).2]) ∧ Below w.heap.size w w' := by
  have hlen : l.length ≤ 9223372036854775807 := by simpa using hs.len
  have S0 := Lib.hid hs
  clear hs
  go_enter Try.func31, Try.ntmps31
  go_wp2_with fail
  go_loopw [6, 7] (fun n i wr => ∃ (j m : Nat), j ≤ l.length ∧ i = .int .i64 j ∧ n = .int .i64 m ∧ Hid (tagCon t l 0 0 = tagCon t (l.drop j) m j) ∧ m + consN (l.drop j) ≤ 1048576 ∧ Below w.heap.size w wr) (fun _ i _ => l.length - (intOf i).toNat)
  case atStart => exact ⟨0, 0, by omega, by go_num, by go_num, Lib.hid rfl, by simpa using hm, Below.refl _ _⟩
  case round =>
    obtain ⟨j, m, hj, rfl, rfl, HT, hbd, hbl⟩ := hrel
    have hsz := hbl.size
    by_cases hlt : j < l.length
    · obtain ⟨b, off, A1, c1, rfl, hSb, g0, g1, g2, hat⟩ := GData.elem (S0.out.below hbl (Nat.le_refl _)) j hlt
      have hcl : (l[j]).cons.length ≤ 9223372036854775807 := by simpa using hat.2.2.len
      have hcd := consN_drop hlt
      have hbd1 : m + (l[j]).cons.length ≤ 1048576 := by omega
      have hbd2 : (m + (l[j]).cons.length) + consN (l.drop (j + 1)) ≤ 1048576 := by omega
      clear hcd hat
      by_cases h1 : (m : Int) ≤ t
      · by_cases h2 : t - m < ((l[j]).cons.length : Int)
        · have HV := Lib.hid (HT.out.trans (tagCon_hit hlt ⟨h1, h2⟩))
          go_wp2_with fail
          go_ret2
          exact ⟨ret_ii (by rw [HV.out]) (by rw [HV.out]), hbl⟩
        · have HV := Lib.hid (HT.out.trans (tagCon_miss hlt (fun e => h2 e.2)))
          have h3 : decide (t - m < ((l[j]).cons.length : Int)) = false := by simpa using h2
          go_wp2_with fail
          go_roundw
          case rel => exact ⟨j + 1, m + (l[j]).cons.length, by omega, by go_num, by go_num, HV, hbd2, hbl⟩
          case measure => simp [intOf]; omega
      · have HV := Lib.hid (HT.out.trans (tagCon_miss hlt (fun e => h1 e.1)))
        have h3 : decide ((m : Int) ≤ t) = false := by simpa using h1
        go_wp2_with fail
        go_roundw
        case rel => exact ⟨j + 1, m + (l[j]).cons.length, by omega, by go_num, by go_num, HV, hbd2, hbl⟩
        case measure => simp [intOf]; omega
    · have hjl : j = l.length := by omega
      have Hj := Lib.hid hjl
      clear hjl
      go_wp2_with fail
      go_ret2
      exact ⟨ret_ii (by rw [HT.out, Hj.out, List.drop_length]; rfl) (by rw [HT.out, Hj.out, List.drop_length]; rfl), hbl⟩

set_option maxRecDepth 20000 in
theorem implTagConNeg (l : List GData) (A : Option Addr) (c : Nat) (t : Int) (w : World) (ht1 : -9223372036854775808 ≤ t) (ht2 : t < 0) (hm : consN l ≤ 1048576) (hs : Sl w (Lt w.heap.size) 3 A c (l.map GData.toD)) :
    Calls Try.prog 33 #[.slice A l.length c, .int .i64 t] w fun e w' => e = .returned (.tuple #[.int .i64 (-1), .int .i64 (-1)]) ∧ Below w.heap.size w w' := by
  have hlen : l.length ≤ 9223372036854775807 := by simpa using hs.len
  have S0 := Lib.hid hs
  clear hs
  go_enter Try.func33, Try.ntmps33
  go_wp2_with fail
  go_loopw [1, 10] (fun n i wr => ∃ (j : Nat) (x : Int), j ≤ l.length ∧ i = .int .i64 j ∧ n = .int .i64 x ∧ consN (l.drop j) ≤ 1048576 ∧ (-9223372036854775808 ≤ x ∧ x < 0 ∨ 4611686018427387904 + (consN (l.drop j) : Int) ≤ x ∧ x ≤ 9223372036854775807) ∧ Below w.heap.size w wr) (fun _ i _ => l.length - (intOf i).toNat)
  case atStart => exact ⟨0, t, by omega, by go_num, by go_num, by simpa using hm, .inl ⟨ht1, ht2⟩, Below.refl _ _⟩
  case round =>
    obtain ⟨j, x, hj, rfl, rfl, hbd, hx, hbl⟩ := hrel
    have hsz := hbl.size
    by_cases hlt : j < l.length
    · obtain ⟨b, off, A1, c1, rfl, hSb, g0, g1, g2, hat⟩ := GData.elem (S0.out.below hbl (Nat.le_refl _)) j hlt
      have hcl : (l[j]).cons.length ≤ 9223372036854775807 := by simpa using hat.2.2.len
      have hcd := consN_drop hlt
      have hbd1 : (l[j]).cons.length ≤ 1048576 := by omega
      have hbd2 : consN (l.drop (j + 1)) ≤ 1048576 := by omega
      have hI : inB x 0 (((l[j]).cons.length : Int) - 1) = false := inB_false (by omega)
      clear hat
      go_wp2_with fail
      refine (implWithin _ _ _ _).mono ?_
      rintro e w2 ⟨rfl, rfl⟩
      rw [hI]
      rcases hx with ⟨hx1, hx2⟩ | ⟨hx1, hx2⟩
      · by_cases hx3 : -9223372036854775808 ≤ x - ((l[j]).cons.length : Int)
        · have hx4 : x - ((l[j]).cons.length : Int) < 0 := by omega
          go_wp2_with fail
          go_ret2
          exact ⟨rfl, hbl.alloc hsz _⟩
        · have hw : wrap64 (x - ((l[j]).cons.length : Int)) = x - ((l[j]).cons.length : Int) + 18446744073709551616 := by unfold wrap64; omega
          have hx4 : decide (wrap64 (x - ((l[j]).cons.length : Int)) < 0) = false := by rw [hw]; simp; omega
          go_wp2_with fail
          go_roundw
          case rel => exact ⟨j + 1, x - ((l[j]).cons.length : Int) + 18446744073709551616, by omega, by go_num, by rw [hw], hbd2, .inr ⟨by omega, by omega⟩, hbl.alloc hsz _⟩
          case measure => simp [intOf]; omega
      · have hx4 : decide (x - ((l[j]).cons.length : Int) < 0) = false := by simp; omega
        go_wp2_with fail
        go_roundw
        case rel => exact ⟨j + 1, x - ((l[j]).cons.length : Int), by omega, by go_num, by go_num, hbd2, .inr ⟨by omega, by omega⟩, hbl.alloc hsz _⟩
        case measure => simp [intOf]; omega
    · go_wp2_with fail
      go_ret2
      exact ⟨rfl, hbl⟩

set_option maxRecDepth 20000 in
theorem implTagConPos (l : List GData) (A : Option Addr) (c : Nat) (t : Int) (w : World) (ht1 : 0 ≤ t) (ht2 : t ≤ 9223372036854775807) (hm : consN l ≤ 1048576) (hs : Sl w (Lt w.heap.size) 3 A c (l.map GData.toD)) :
    Calls Try.prog 33 #[.slice A l.length c, .int .i64 t] w fun e w' => e = .returned (.tuple #[.int .i64 (tagCon t l 0 0).1, .int .i64 (tagCon t l 0 0).2]) ∧ Below w.heap.size w w' := by
  have hlen : l.length ≤ 9223372036854775807 := by simpa using hs.len
  have S0 := Lib.hid hs
  clear hs
  go_enter Try.func33, Try.ntmps33
  go_wp2_with fail
  go_loopw [1, 10] (fun n i wr => ∃ (j m : Nat), j ≤ l.length ∧ i = .int .i64 j ∧ n = .int .i64 (t - m) ∧ Hid (tagCon t l 0 0 = tagCon t (l.drop j) m j) ∧ (m : Int) ≤ t ∧ m + consN (l.drop j) ≤ 1048576 ∧ Below w.heap.size w wr) (fun _ i _ => l.length - (intOf i).toNat)
  case atStart => exact ⟨0, 0, by omega, by go_num, by go_num, Lib.hid rfl, by omega, by simpa using hm, Below.refl _ _⟩
  case round =>
    obtain ⟨j, m, hj, rfl, rfl, HT, hmt, hbd, hbl⟩ := hrel
    have hsz := hbl.size
    by_cases hlt : j < l.length
    · obtain ⟨b, off, A1, c1, rfl, hSb, g0, g1, g2, hat⟩ := GData.elem (S0.out.below hbl (Nat.le_refl _)) j hlt
      have hcl : (l[j]).cons.length ≤ 9223372036854775807 := by simpa using hat.2.2.len
      have hcd := consN_drop hlt
      have hbd1 : m + (l[j]).cons.length ≤ 1048576 := by omega
      have hbd2 : (m + (l[j]).cons.length) + consN (l.drop (j + 1)) ≤ 1048576 := by omega
      clear hat hcd
      go_wp2_with fail
      refine (implWithin _ _ _ _).mono ?_
      rintro e w2 ⟨rfl, rfl⟩
      by_cases h2 : t - m < ((l[j]).cons.length : Int)
      · have HV := Lib.hid (HT.out.trans (tagCon_hit hlt ⟨hmt, h2⟩))
        rw [inB_true ⟨by omega, by omega⟩]
        go_wp2_with fail
        go_ret2
        exact ⟨ret_ii (by rw [HV.out]) (by rw [HV.out]), hbl.alloc hsz _⟩
      · have HV := Lib.hid (HT.out.trans (tagCon_miss hlt (fun e => h2 e.2)))
        rw [inB_false (by omega)]
        by_cases h3 : t - m - ((l[j]).cons.length : Int) < 0
        · omega
        · have h4 : decide (t - m - ((l[j]).cons.length : Int) < 0) = false := by simpa using h3
          go_wp2_with fail
          go_roundw
          case rel => exact ⟨j + 1, m + (l[j]).cons.length, by omega, by go_num, by go_num, HV, by omega, hbd2, hbl.alloc hsz _⟩
          case measure => simp [intOf]; omega
    · have hjl : j = l.length := by omega
      have Hj := Lib.hid hjl
      clear hjl
      go_wp2_with fail
      go_ret2
      exact ⟨ret_ii (by rw [HT.out, Hj.out, List.drop_length]; rfl) (by rw [HT.out, Hj.out, List.drop_length]; rfl), hbl⟩

theorem implTagCon (l : List GData) (A : Option Addr) (c : Nat) (t : Int) (w : World) (ht1 : -9223372036854775808 ≤ t) (ht2 : t ≤ 9223372036854775807) (hm : consN l ≤ 1048576) (hs : Sl w (Lt w.heap.size) 3 A c (l.map GData.toD)) :
    Calls Try.prog 33 #[.slice A l.length c, .int .i64 t] w fun e w' => e = .returned (.tuple #[.int .i64 (tagCon t l 0 0).1, .int .i64 (tagCon t l 0 0).2]) ∧ Below w.heap.size w w' := by
  rcases Int.lt_or_le t 0 with h | h
  · have e : tagCon t l 0 0 = (-1, -1) := tagCon_lt (by simpa using h)
    rw [e]
    exact implTagConNeg l A c t w ht1 h hm hs
  · exact implTagConPos l A c t w h ht2 hm hs

end Go.Proofs.Ytnjindgpmacjmaa
