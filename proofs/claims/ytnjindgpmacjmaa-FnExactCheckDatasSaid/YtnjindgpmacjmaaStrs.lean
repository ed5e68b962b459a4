/- A string among strings: slices.Index and slices.Contains of []string. Conditions: none. -/
import Derived.Test.YtnjindgpmacjmaaRows
import Derived.Test.YtnjindgpmacjmaaPw
import Derived.Test.YtnjindgpmacjmaaMem
import Derived.Lib.Hide
namespace Go.Proofs.Ytnjindgpmacjmaa
open Go.RowKit
set_option linter.unusedVariables false
set_option linter.unusedSimpArgs false
set_option maxHeartbeats 400000

/-- is a string one of a list? -/
def inStrs (l : List ByteArray) (s : ByteArray) : Bool := l.any fun k => k.toList == s.toList

theorem inStrs_take (l : List ByteArray) (s : ByteArray) (j : Nat) (h : j < l.length) : inStrs (l.take (j + 1)) s = (inStrs (l.take j) s || (l[j].toList == s.toList)) := by
  unfold inStrs; rw [take_snoc' l j h]; simp only [List.any_append, List.any_cons, List.any_nil, Bool.or_false]

theorem inStrs_mem {l : List ByteArray} {s : ByteArray} {j : Nat} (h : j < l.length) (he : (l[j].toList == s.toList) = true) : inStrs l s = true := by
  unfold inStrs; rw [List.any_eq_true]; exact ⟨l[j], List.getElem_mem h, he⟩

theorem Sl.strAt {w : World} {S : Nat → Prop} {A : Option Addr} {c : Nat} {l : List ByteArray} (h : Sl w S 1 A c (l.map D.str)) (i : Nat) (hi : i < l.length) :
    ∃ b off, A = some ⟨b, off, none⟩ ∧ S b ∧ w.cell? ⟨b, off + i, none⟩ = some (.string l[i]) ∧ l[i].size ≤ maxLen := by
  obtain ⟨b, off, cs, e, hb, hl, hc, hr⟩ := Sl.get h i (by simpa using hi)
  rw [List.getElem_map] at hr
  obtain ⟨rfl, h1⟩ := D.rd_str.1 hr
  have := hc 0 _ rfl
  exact ⟨b, off, e, hb, by simpa using this, h1⟩

/-- what slices.Index of strings gives back -/
def IdxStr (l : List ByteArray) (s : ByteArray) (w : World) (e : Ending) (w' : World) : Prop := ∃ i : Int, e = .returned (.int .i64 i) ∧ (inStrs l s = true → 0 ≤ i) ∧ (inStrs l s = false → i = -1) ∧ w = w'

theorem slicesIndexStr (l : List ByteArray) (s : ByteArray) (A : Option Addr) (c : Nat) (w : World) (hs : Sl w (Lt w.heap.size) 1 A c (l.map D.str)) :
    Calls Try.prog 168 #[.slice A l.length c, .string s] w (IdxStr l s w) := by
  have hlen : l.length ≤ 9223372036854775807 := by simpa using hs.len
  go_enter Try.func168, Try.ntmps168
  go_wp2_with fail
  go_loop [8] (fun i => ∃ (j : Nat), j ≤ l.length ∧ i = .int .i64 j ∧ inStrs (l.take j) s = false) (fun i => l.length - (intOf i).toNat)
  case atStart => exact ⟨0, by omega, by go_num, by simp [inStrs]⟩
  case round =>
    obtain ⟨j, hj, rfl, hn⟩ := hrel
    have Hn := Lib.hid hn
    clear hn
    by_cases hlt : j < l.length
    · obtain ⟨b, off, rfl, hSb, g0, k0⟩ := hs.strAt j hlt
      cases he : (l[j].toList == s.toList)
      · have hst := Lib.hid (inStrs_take l s j hlt)
        have he2 := Lib.hid he
        have he3 : (s.toList == l[j].toList) = false := by rw [← he]; exact Bool.beq_comm
        clear he
        go_wp2_with fail
        go_round
        case rel => exact ⟨j + 1, by omega, by go_num, by rw [hst.out, Hn.out, he2.out]; rfl⟩
        case measure => simp [intOf]; omega
      · have hm := Lib.hid (inStrs_mem hlt he)
        have he3 : (s.toList == l[j].toList) = true := by rw [← he]; exact Bool.beq_comm
        clear he
        go_wp2_with fail
        go_ret
        exact ⟨j, rfl, fun _ => by omega, fun h => (by rw [hm.out] at h; cases h), rfl⟩
    · have hjl : j = l.length := by omega
      have Hj := Lib.hid hjl
      clear hjl
      go_wp2_with fail
      go_ret
      refine ⟨-1, rfl, fun h => ?_, fun _ => rfl, rfl⟩
      have := Hn.out
      rw [Hj.out, List.take_length] at this
      rw [this] at h; cases h

theorem slicesContainsStr (l : List ByteArray) (s : ByteArray) (A : Option Addr) (c : Nat) (w : World) (hs : Sl w (Lt w.heap.size) 1 A c (l.map D.str)) :
    Calls Try.prog 153 #[.slice A l.length c, .string s] w fun e w' => e = .returned (.bool (inStrs l s)) ∧ w = w' := by
  go_enter Try.func153, Try.ntmps153
  go_wp2_with fail
  refine (slicesIndexStr l s A c w hs).mono ?_
  rintro e w1 ⟨i, rfl, h1, h2, rfl⟩
  cases hb : inStrs l s
  · have hi := h2 hb
    subst hi
    clear h1 h2
    have hb2 := Lib.hid hb
    clear hb
    go_wp2_with fail
    go_ret
    exact ⟨ret_bool hb2.out.symm, rfl⟩
  · have hi := h1 hb
    clear h1 h2
    have hb2 := Lib.hid hb
    clear hb
    go_wp2_with fail
    go_ret
    exact ⟨ret_bool hb2.out.symm, rfl⟩

end Go.Proofs.Ytnjindgpmacjmaa
