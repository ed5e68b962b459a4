/- What Keyword gives, in the program and in the reference. Conditions: none. -/
import Derived.Test.YtgbcdfeflgnogaaRows
import Derived.Test.YtgbcdfeflgnogaaPw
import Derived.Test.YtgbcdfeflgnogaaMem
import Derived.Lib.Hide
namespace Go.Proofs.Ytgbcdfeflgnogaa
open Go.RowKit
set_option linter.unusedVariables false
set_option linter.unusedSimpArgs false
set_option maxHeartbeats 400000

/-- is a string one of a list? -/
def inStrs (l : List ByteArray) (s : ByteArray) : Bool := l.any fun k => k.toList == s.toList

theorem inStrs_take (l : List ByteArray) (s : ByteArray) (j : Nat) (h : j < l.length) : inStrs (l.take (j + 1)) s = (inStrs (l.take j) s || (l[j].toList == s.toList)) := by
  unfold inStrs; rw [take_snoc' l j h]; simp only [List.any_append, List.any_cons, List.any_nil, Bool.or_false]

theorem inStrs_mem {l : List ByteArray} {s : ByteArray} {j : Nat} (h : j < l.length) (he : (l[j].toList == s.toList) = true) : inStrs l s = true := by
  unfold inStrs; rw [List.any_eq_true]; exact ⟨l[j], List.getElem_mem h, he⟩

theorem Sl.strAt {w : World} {S : Nat → Prop} {A : Option Addr} {c : Nat} {l : List ByteArray} (h : Sl w S 1 A c (l.map D.str)) (i : Nat) (hi : i < l.length) :
    ∃ b off, A = some ⟨b, off, none⟩ ∧ S b ∧ w.cell? ⟨b, off + i, none⟩ = some (.string l[i]) ∧ l[i].size ≤ maxLen := by
  obtain ⟨b, off, cs, e, hb, hl, hc, hr⟩ := Sl.get h i (by simpa using hi)
  rw [List.getElem_map] at hr
  obtain ⟨rfl, h1⟩ := D.rd_str.1 hr
  have := hc 0 _ rfl
  exact ⟨b, off, e, hb, by simpa using this, h1⟩

theorem specWithin (l : List ByteArray) (s : ByteArray) (A : Option Addr) (c : Nat) (w : World) (hs : Sl w (Lt w.heap.size) 1 A c (l.map D.str)) :
    Calls Try.prog 291 #[.slice A l.length c, .string s] w fun e w' => e = .returned (.bool (inStrs l s)) ∧ w = w' := by
  have hlen : l.length ≤ 9223372036854775807 := by simpa using hs.len
  go_enter Try.func291, Try.ntmps291
  go_wp2_with fail
  go_loop [5] (fun i => ∃ (j : Nat), j ≤ l.length ∧ i = .int .i64 j ∧ inStrs (l.take j) s = false) (fun i => l.length - (intOf i).toNat)
  case atStart => exact ⟨0, by omega, by go_num, by simp [inStrs]⟩
  case round =>
    obtain ⟨j, hj, rfl, hn⟩ := hrel
    have Hn := Lib.hid hn
    clear hn
    by_cases hlt : j < l.length
    · obtain ⟨b, off, rfl, hSb, g0, k0⟩ := hs.strAt j hlt
      cases he : (l[j].toList == s.toList)
      · have hst := Lib.hid (inStrs_take l s j hlt)
        have he2 := Lib.hid he
        go_wp2_with fail
        go_round
        case rel => exact ⟨j + 1, by omega, by go_num, by rw [hst.out, Hn.out, he2.out]; rfl⟩
        case measure => simp [intOf]; omega
      · have hm := Lib.hid (inStrs_mem hlt he)
        go_wp2_with fail
        go_ret
        exact ⟨ret_bool hm.out.symm, rfl⟩
    · have hjl : j = l.length := by omega
      have Hj := Lib.hid hjl
      clear hjl
      go_wp2_with fail
      go_ret
      refine ⟨ret_bool ?_, rfl⟩
      have := Hn.out
      rw [Hj.out, List.take_length] at this
      exact this.symm

/-- what slices.Index of strings gives back -/
def IdxStr (l : List ByteArray) (s : ByteArray) (w : World) (e : Ending) (w' : World) : Prop := ∃ i : Int, e = .returned (.int .i64 i) ∧ (inStrs l s = true → 0 ≤ i) ∧ (inStrs l s = false → i = -1) ∧ w = w'

theorem slicesIndexStr (l : List ByteArray) (s : ByteArray) (A : Option Addr) (c : Nat) (w : World) (hs : Sl w (Lt w.heap.size) 1 A c (l.map D.str)) :
    Calls Try.prog 319 #[.slice A l.length c, .string s] w (IdxStr l s w) := by
  have hlen : l.length ≤ 9223372036854775807 := by simpa using hs.len
  go_enter Try.func319, Try.ntmps319
  go_wp2_with fail
  go_loop [8] (fun i => ∃ (j : Nat), j ≤ l.length ∧ i = .int .i64 j ∧ inStrs (l.take j) s = false) (fun i => l.length - (intOf i).toNat)
  case atStart => exact ⟨0, by omega, by go_num, by simp [inStrs]⟩
  case round =>
    obtain ⟨j, hj, rfl, hn⟩ := hrel
    have Hn := Lib.hid hn
    clear hn
    by_cases hlt : j < l.length
    · obtain ⟨b, off, rfl, hSb, g0, k0⟩ := hs.strAt j hlt
      cases he : (l[j].toList == s.toList)
      · have hst := Lib.hid (inStrs_take l s j hlt)
        have he2 := Lib.hid he
        have he3 : (s.toList == l[j].toList) = false := by rw [← he]; exact Bool.beq_comm
        clear he
        go_wp2_with fail
        go_round
        case rel => exact ⟨j + 1, by omega, by go_num, by rw [hst.out, Hn.out, he2.out]; rfl⟩
        case measure => simp [intOf]; omega
      · have hm := Lib.hid (inStrs_mem hlt he)
        have he3 : (s.toList == l[j].toList) = true := by rw [← he]; exact Bool.beq_comm
        clear he
        go_wp2_with fail
        go_ret
        exact ⟨j, rfl, fun _ => by omega, fun h => (by rw [hm.out] at h; cases h), rfl⟩
    · have hjl : j = l.length := by omega
      have Hj := Lib.hid hjl
      clear hjl
      go_wp2_with fail
      go_ret
      refine ⟨-1, rfl, fun h => ?_, fun _ => rfl, rfl⟩
      have := Hn.out
      rw [Hj.out, List.take_length] at this
      rw [this] at h; cases h

theorem slicesContainsStr (l : List ByteArray) (s : ByteArray) (A : Option Addr) (c : Nat) (w : World) (hs : Sl w (Lt w.heap.size) 1 A c (l.map D.str)) :
    Calls Try.prog 294 #[.slice A l.length c, .string s] w fun e w' => e = .returned (.bool (inStrs l s)) ∧ w = w' := by
  go_enter Try.func294, Try.ntmps294
  go_wp2_with fail
  refine (slicesIndexStr l s A c w hs).mono ?_
  rintro e w1 ⟨i, rfl, h1, h2, rfl⟩
  cases hb : inStrs l s
  · have hi := h2 hb
    subst hi
    clear h1 h2
    have hb2 := Lib.hid hb
    clear hb
    go_wp2_with fail
    go_ret
    exact ⟨ret_bool hb2.out.symm, rfl⟩
  · have hi := h1 hb
    clear h1 h2
    have hb2 := Lib.hid hb
    clear hb
    go_wp2_with fail
    go_ret
    exact ⟨ret_bool hb2.out.symm, rfl⟩

/-- the keywords -/
def kws : List ByteArray := [⟨#[100, 97, 116, 97]⟩, ⟨#[108, 101, 116]⟩, ⟨#[114, 101, 99]⟩, ⟨#[105, 110]⟩, ⟨#[102, 117, 110]⟩, ⟨#[99, 97, 115, 101]⟩, ⟨#[111, 102]⟩, ⟨#[105, 102]⟩, ⟨#[116, 104, 101, 110]⟩, ⟨#[101, 108, 115, 101]⟩, ⟨#[112, 117, 116]⟩]

theorem kws_sl (w : World) (t : TypeId) : Sl (w.alloc (.cells (kws.map Value.string).toArray t)) (Lt (w.heap.size + 1)) 1 (some ⟨w.heap.size, 0, none⟩) 11 (kws.map D.str) := by
  have hr := Row.new w t (kws.map Value.string).toArray
  refine ⟨by decide, by unfold maxLen; omega, .inr ⟨w.heap.size, 0, rfl, by unfold Lt; omega, D.rdR_mk fun i hi => ?_⟩⟩
  have hi' : i < kws.length := by simpa using hi
  refine ⟨[.string kws[i]], rfl, fun j v hj => ?_, ?_⟩
  · match j with
    | 0 =>
      have hv : Value.string kws[i] = v := by simpa using hj
      subst hv
      rw [hr.cell]
      simp [hi']
    | j + 1 => simp at hj
  · rw [List.getElem_map]
    refine D.rd_str.2 ⟨rfl, ?_⟩
    have hall : ∀ k ∈ kws, k.size ≤ maxLen := by
      intro k hk
      have : ∀ k ∈ kws, k.size ≤ 5 := by decide
      have := this k hk
      unfold maxLen; omega
    exact hall _ (List.getElem_mem hi')

theorem specKeyword (s : ByteArray) (w : World) : Calls Try.prog 243 #[.string s] w fun e w' => e = .returned (.bool (inStrs kws s)) ∧ Below w.heap.size w w' := by
  go_enter Try.func243, Try.ntmps243
  go_wp2_with fail
  refine (specWithin kws s _ 11 (w.alloc (.cells (kws.map Value.string).toArray 9)) ((kws_sl w 9).keep fun b hb => ⟨by simpa using hb, rfl⟩)).mono ?_
  rintro e w1 ⟨rfl, rfl⟩
  go_wp2_with fail
  go_ret
  exact ⟨rfl, (Below.refl _ _).alloc (Nat.le_refl _) _⟩

theorem implKeyword (s : ByteArray) (w : World) : Calls Try.prog 248 #[.string s] w fun e w' => e = .returned (.bool (inStrs kws s)) ∧ Below w.heap.size w w' := by
  go_enter Try.func248, Try.ntmps248
  go_wp2_with fail
  refine (slicesContainsStr kws s _ 11 (w.alloc (.cells (kws.map Value.string).toArray 9)) ((kws_sl w 9).keep fun b hb => ⟨by simpa using hb, rfl⟩)).mono ?_
  rintro e w1 ⟨rfl, rfl⟩
  go_wp2_with fail
  go_ret
  exact ⟨rfl, (Below.refl _ _).alloc (Nat.le_refl _) _⟩
end Go.Proofs.Ytgbcdfeflgnogaa
