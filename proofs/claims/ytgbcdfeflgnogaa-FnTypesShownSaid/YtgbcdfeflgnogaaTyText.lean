/- TyText. Conditions: what the type holds is at most 1048576. -/
import Derived.Test.YtgbcdfeflgnogaaRows
import Derived.Test.YtgbcdfeflgnogaaPw
import Derived.Test.YtgbcdfeflgnogaaGTy
import Derived.Lib.Hide
import Derived.Deep.RegionHeld3
namespace Go.Proofs.Ytgbcdfeflgnogaa
open Go.RowKit
set_option linter.unusedVariables false
set_option linter.unusedSimpArgs false
set_option maxHeartbeats 1000000

theorem tnil (a : ByteArray) : a ++ ⟨#[]⟩ = a := by apply ByteArray.ext; simp [ByteArray.data_append]
theorem tnil' (a : ByteArray) : ⟨#[]⟩ ++ a = a := by apply ByteArray.ext; simp [ByteArray.data_append]

/-- texts, a blank ahead of each -/
def spaced : List ByteArray → ByteArray
  | [] => ⟨#[]⟩
  | a :: r => (⟨#[32]⟩ ++ a) ++ spaced r

theorem spaced_take (l : List ByteArray) (i : Nat) (h : i < l.length) : spaced (l.take (i + 1)) = spaced (l.take i) ++ (⟨#[32]⟩ ++ l[i]) := by
  induction l generalizing i with
  | nil => simp at h
  | cons t r ih =>
    match i with
    | 0 => simp [spaced, tnil, tnil']
    | i + 1 => simp only [List.take_succ_cons, spaced, List.getElem_cons_succ]; rw [ih i (by simpa using h), ba_assoc, ba_assoc, ba_assoc]

theorem spaced_le (l : List ByteArray) (i : Nat) : (spaced (l.take i)).size ≤ (spaced l).size := by
  induction l generalizing i with
  | nil => simp
  | cons t r ih =>
    match i with
    | 0 => simp only [List.take_zero, spaced]; exact Nat.zero_le _
    | i + 1 => simp only [List.take_succ_cons, spaced, ByteArray.size_append']; have := ih i; omega

/-- the text of a type, by its kids' texts -/
def tyTextOf (op n : Int) (s : ByteArray) (ks : List ByteArray) : ByteArray :=
  if op = 1 then ⟨#[73, 110, 116]⟩ else if op = 2 then (if n < 0 then ⟨#[63]⟩ else one (97 + n % 26))
  else if op = 3 then (match ks with | [a, b] => ⟨#[40]⟩ ++ a ++ ⟨#[32, 45, 62, 32]⟩ ++ b ++ ⟨#[41]⟩ | _ => ⟨#[63]⟩)
  else if op = 4 then (if ks.length = 0 then s else ⟨#[40]⟩ ++ (s ++ spaced ks) ++ ⟨#[41]⟩) else ⟨#[63]⟩

mutual
/-- a type as text -/
def GTy.text : GTy → ByteArray | .mk op n s kids => tyTextOf op n s (GTy.texts kids)
def GTy.texts : List GTy → List ByteArray | [] => [] | t :: r => t.text :: GTy.texts r
end

theorem GTy.texts_map : ∀ l : List GTy, GTy.texts l = l.map GTy.text
  | [] => rfl
  | t :: r => by simp only [GTy.texts, List.map_cons, GTy.texts_map r]
theorem GTy.text_eq (t : GTy) : t.text = tyTextOf t.op t.n t.s (t.kids.map GTy.text) := by
  cases t; simp only [GTy.text, GTy.texts_map, GTy.op, GTy.n, GTy.s, GTy.kids]

theorem tyTextOf_size (op n : Int) (s : ByteArray) (ks : List ByteArray) (m : Nat) (hs : s.size + 1 ≤ m) (hk : (spaced ks).size + s.size + 10 ≤ m) : (tyTextOf op n s ks).size ≤ m := by
  have e1 : (ByteArray.mk #[73, 110, 116]).size = 3 := rfl
  have e2 : (ByteArray.mk #[63]).size = 1 := rfl
  have e3 : (ByteArray.mk #[40]).size = 1 := rfl
  have e4 : (ByteArray.mk #[41]).size = 1 := rfl
  have e5 : (ByteArray.mk #[32, 45, 62, 32]).size = 4 := rfl
  have e6 : (ByteArray.mk #[32]).size = 1 := rfl
  unfold tyTextOf
  split
  · omega
  split
  · split
    · omega
    · rw [one_size]; omega
  split
  · split
    · simp only [ByteArray.size_append', spaced] at *; omega
    · omega
  split
  · split
    · omega
    · simp only [ByteArray.size_append']; omega
  · omega

mutual
theorem GTy.text_size : ∀ t : GTy, t.text.size + 1 ≤ 25 * (t.bulk + 1)
  | .mk op n s kids => by
    have h1 := GTy.texts_size kids
    simp only [GTy.text, GTy.bulk]
    have := tyTextOf_size op n s (GTy.texts kids) (25 * (s.size + GTy.bulks kids) + 24) (by omega) (by omega)
    omega
theorem GTy.texts_size : ∀ l : List GTy, (spaced (GTy.texts l)).size ≤ 25 * GTy.bulks l
  | [] => by simp only [GTy.texts, spaced]; exact Nat.zero_le _
  | t :: r => by
    have h1 := GTy.text_size t
    have h2 := GTy.texts_size r
    have e1 : (ByteArray.mk #[32]).size = 1 := rfl
    simp only [GTy.texts, spaced, GTy.bulks, ByteArray.size_append']
    omega
end

theorem implLetterT (n : Int) (w : World) (h : 0 ≤ n) (h2 : n ≤ 9223372036854775807) : Calls Try.prog 166 #[.int .i64 n] w fun e w' => e = .returned (.string (one (97 + n % 26))) ∧ w = w' := by
  have he := Lib.hid (encode_one (r := 97 + n % 26) (by omega) (by omega))
  have hb : 0 ≤ n % 26 ∧ n % 26 ≤ 25 := by omega
  go_enter Try.func166, Try.ntmps166
  go_wp2_with fail
  go_ret
  exact ⟨ret_str he.out, rfl⟩

set_option maxRecDepth 20000 in
theorem implTyText (k : Nat) : ∀ (t : GTy) (A1 : Option Addr) (c1 : Nat) (w : World), t.bulk < k → t.bulk ≤ 1048576 → GTy.At w (Lt w.heap.size) A1 c1 t →
    Calls Try.prog 112 #[.agg #[.int .i64 t.op, .int .i64 t.n, .string t.s, .slice A1 t.kids.length c1]] w fun e w' => e = .returned (.string t.text) ∧ Below w.heap.size w w' := by
  induction k with
  | zero => intro t A1 c1 w h; omega
  | succ k ih =>
    intro t A1 c1 w hk hb ht
    obtain ⟨h0, h1, h2, hs⟩ := id ht
    have hn := wf64 h1
    have hte := Lib.hid t.text_eq
    have hcv := fun (w : World) (x : Int) => run_string_one_at (P := Try.prog) w 55 9 5 x Try.underlying55 Try.underlying5 Try.underlying9
    have E : Below w.heap.size w (w.alloc (.cells #[.int .i64 t.op, .int .i64 t.n, .string t.s, .slice A1 t.kids.length c1] 59)) := (Below.refl _ _).alloc (Nat.le_refl _) _
    have hlen : t.kids.length ≤ 9223372036854775807 := by simpa using hs.len
    have hbe := t.bulk_eq
    have hzs : t.s.size ≤ 1048576 := by omega
    have hzL := GTy.texts_size t.kids
    rw [GTy.bulks_eq, GTy.texts_map] at hzL
    have hzL2 : (spaced (t.kids.map GTy.text)).size ≤ 26214400 := by omega
    clear hzL h2
    cases o1 : (t.op == 1)
    rotate_left
    · have x1 := Lib.hid (beq_iff_eq.1 o1)
      go_enter Try.func112, Try.ntmps112
      go_wp2_with fail
      go_ret
      exact ⟨ret_str (by rw [hte.out]; unfold tyTextOf; rw [if_pos x1.out]), E⟩
    have x1 := Lib.hid (show ¬ (t.op = 1) from by simpa using o1)
    cases o2 : (t.op == 2)
    rotate_left
    · have x2 := Lib.hid (beq_iff_eq.1 o2)
      by_cases hneg : t.n < 0
      · skip
        go_enter Try.func112, Try.ntmps112
        go_wp2_with fail
        go_ret
        exact ⟨ret_str (by rw [hte.out]; unfold tyTextOf; rw [if_neg x1.out, if_pos x2.out, if_pos hneg]), E⟩
      · have hge : 0 ≤ t.n := by omega
        go_enter Try.func112, Try.ntmps112
        go_wp2_with fail
        refine (implLetterT t.n _ hge hn.2).mono ?_
        rintro e w1 ⟨rfl, rfl⟩
        go_wp2_with fail
        go_ret
        exact ⟨ret_str (by rw [hte.out]; unfold tyTextOf; rw [if_neg x1.out, if_pos x2.out, if_neg (by omega)]), E⟩
    have x2 := Lib.hid (show ¬ (t.op = 2) from by simpa using o2)
    cases o3 : (t.op == 3)
    rotate_left
    · have x3 := Lib.hid (beq_iff_eq.1 o3)
      by_cases hk2 : t.kids.length = 2
      rotate_left
      · have e1 : (t.kids.length != 2) = true := by rw [bne_iff_ne]; omega
        have e2 : ((t.kids.length : Int) != 2) = true := by rw [bne_iff_ne]; omega
        have e3 : (t.kids.length == 2) = false := by rw [beq_eq_false_iff_ne]; omega
        have e4 : ((t.kids.length : Int) == 2) = false := by rw [beq_eq_false_iff_ne]; omega
        have o4 : (t.op == 4) = false := by rw [beq_eq_false_iff_ne, x3.out]; omega
        have Hk2 := Lib.hid hk2
        clear hk2
        go_enter Try.func112, Try.ntmps112
        go_wp2_with fail
        go_ret
        exact ⟨ret_str (by rw [hte.out]; unfold tyTextOf; rw [if_neg x1.out, if_neg x2.out, if_pos x3.out]; split; (rename_i h; have := congrArg List.length h; simp at this; exact absurd this Hk2.out); rfl), E⟩
      have e1 : (t.kids.length != 2) = false := by rw [bne_eq_false_iff_eq]; omega
      have e2 : ((t.kids.length : Int) != 2) = false := by rw [bne_eq_false_iff_eq]; omega
      have e3 : (t.kids.length == 2) = true := by rw [beq_iff_eq]; omega
      have e4 : ((t.kids.length : Int) == 2) = true := by rw [beq_iff_eq]; omega
      have hk0 : (0 : Int) < (t.kids.length : Int) := by omega
      have hk1 : (1 : Int) < (t.kids.length : Int) := by omega
      have hk0n : 0 < t.kids.length := by omega
      have hk1n : 1 < t.kids.length := by omega
      have hel0 := GTy.elem hs 0 (by omega)
      obtain ⟨b, off, A2, c2, rfl, hSb, g0, g1, g2, g3, hat⟩ := hel0
      have hel1 := GTy.elem hs 1 (by omega)
      obtain ⟨b', off', B2, d2, eb, hSb', g0', g1', g2', g3', hat'⟩ := hel1
      obtain ⟨rfl, rfl⟩ : b = b' ∧ off = off' := by simp only [Option.some.injEq, Addr.mk.injEq, and_true] at eb; exact eb
      obtain ⟨x, hx⟩ : ∃ x, x = t.kids[0] := ⟨_, rfl⟩
      obtain ⟨y, hy⟩ : ∃ y, y = t.kids[1] := ⟨_, rfl⟩
      rw [← hx] at g0 g1 g2 g3 hat
      rw [← hy] at g0' g1' g2' g3' hat'
      simp only [Nat.zero_mul, Nat.one_mul, Nat.add_zero] at g0 g1 g2 g3 g0' g1' g2' g3'
      have hkids : t.kids.map GTy.text = [x.text, y.text] := by
        rw [hx, hy]; apply List.ext_getElem
        · simp [hk2]
        · intro i h1 h2
          match i with
          | 0 => simp
          | 1 => simp
          | i + 2 => simp at h2; omega
      have hxm : x ∈ t.kids := by rw [hx]; exact List.getElem_mem _
      have hym : y ∈ t.kids := by rw [hy]; exact List.getElem_mem _
      have bx : x.bulk < k ∧ x.bulk ≤ 1048576 := by have := bulkL_mem GTy.bulk t.kids _ hxm; omega
      have bY : y.bulk < k ∧ y.bulk ≤ 1048576 := by have := bulkL_mem GTy.bulk t.kids _ hym; omega
      have zx := GTy.text_size x
      have zy := GTy.text_size y
      have zx2 : x.text.size ≤ 26214500 := by omega
      have zy2 : y.text.size ≤ 26214500 := by omega
      have zz1 : ¬ 9223372036854775807 < 1 + x.text.size := by omega
      have zz2 : ¬ 9223372036854775807 < 1 + x.text.size + 4 := by omega
      have zz3 : ¬ 9223372036854775807 < 1 + x.text.size + 4 + y.text.size := by omega
      have zz4 : ¬ 9223372036854775807 < 1 + x.text.size + 4 + y.text.size + 1 := by omega
      have Hkids := Lib.hid hkids
      have Hk2 := Lib.hid hk2
      have hlb : b < w.heap.size := hSb
      have Ra := Lib.hid (Row.new w 59 #[.int .i64 t.op, .int .i64 t.n, .string t.s, .slice (some ⟨b, off, none⟩) t.kids.length c1])
      have hE := Lib.hid E
      clear hx hy hkids hk2 hxm hym zx zy eb
      go_enter Try.func112, Try.ntmps112
      go_wp2_with fail
      have hca : ∀ i, (w.alloc (.cells #[.int .i64 t.op, .int .i64 t.n, .string t.s, .slice (some ⟨b, off, none⟩) t.kids.length c1] 59)).drew.cell? ⟨w.heap.size, i, none⟩ = (#[.int .i64 t.op, .int .i64 t.n, .string t.s, .slice (some ⟨b, off, none⟩) t.kids.length c1] : Array Value)[i]? := fun i => Ra.out.cell i
      have hcb : ∀ o, (w.alloc (.cells #[.int .i64 t.op, .int .i64 t.n, .string t.s, .slice (some ⟨b, off, none⟩) t.kids.length c1] 59)).drew.cell? ⟨b, o, none⟩ = w.cell? ⟨b, o, none⟩ := fun o => hE.out.cell (p := ⟨b, o, none⟩) hlb
      go_region_held3 (fun w' => (∀ i, w'.cell? ⟨w.heap.size, i, none⟩ = (#[.int .i64 t.op, .int .i64 t.n, .string t.s, .slice (some ⟨b, off, none⟩) t.kids.length c1] : Array Value)[i]?) ∧ (∀ o, w'.cell? ⟨b, o, none⟩ = w.cell? ⟨b, o, none⟩))
        (first | exact ⟨hca, hcb⟩ | exact ⟨hca1, hcb1⟩ | exact ⟨hca2, hcb2⟩)
        (first
        | (go_at_call_of 112 x
           refine (ih x A2 c2 _ bx.1 bx.2 (by exact hat.below hE.out.drew hE.out.size)).mono ?_
           rintro e w1 ⟨rfl, hb1⟩
           have BB1 := hE.out.drew.trans (hb1.mono hE.out.size)
           have Ra1 := Lib.hid (Row.below (w := (w.alloc (.cells #[.int .i64 t.op, .int .i64 t.n, .string t.s, .slice (some ⟨b, off, none⟩) t.kids.length c1] 59)).drew) Ra.out hb1 Ra.out.lt)
           have hca1 := fun i => Ra1.out.cell i
           have hcb1 := fun o => BB1.cell (p := ⟨b, o, none⟩) hlb)
        | (go_at_call_of 112 y
           refine (ih y B2 d2 _ bY.1 bY.2 (by exact hat'.below BB1 BB1.size)).mono ?_
           rintro e w2 ⟨rfl, hb2⟩
           have BB2 := BB1.trans (hb2.mono BB1.size)
           have Ra2 := Lib.hid (Row.below Ra1.out hb2 Ra1.out.lt)
           have hca2 := fun i => Ra2.out.cell i
           have hcb2 := fun o => BB2.cell (p := ⟨b, o, none⟩) hlb))
      go_wp2_with fail
      go_ret
      exact ⟨ret_str (by rw [hte.out]; unfold tyTextOf; rw [if_neg x1.out, if_neg x2.out, if_pos x3.out, Hkids.out]), BB2⟩
    have x3 := Lib.hid (show ¬ (t.op = 3) from by simpa using o3)
    cases o4 : (t.op == 4)
    · have x4 := Lib.hid (show ¬ (t.op = 4) from by simpa using o4)
      go_enter Try.func112, Try.ntmps112
      go_wp2_with fail
      go_ret
      exact ⟨ret_str (by rw [hte.out]; unfold tyTextOf; rw [if_neg x1.out, if_neg x2.out, if_neg x3.out, if_neg x4.out]), E⟩
    have x4 := Lib.hid (beq_iff_eq.1 o4)
    go_enter Try.func112, Try.ntmps112
    go_wp2_with fail
    go_loopw [3, 45] (fun n i wr => ∃ j : Nat, j ≤ t.kids.length ∧ i = .int .i64 j ∧ n = .string (t.s ++ spaced ((t.kids.map GTy.text).take j)) ∧ Below w.heap.size w wr ∧ Row wr w.heap.size 59 #[.int .i64 t.op, .int .i64 t.n, .string t.s, .slice A1 t.kids.length c1]) (fun _ i _ => t.kids.length - (intOf i).toNat)
    case atStart => exact ⟨0, by omega, by go_num, by simp [spaced, tnil], E, Row.new _ _ _⟩
    case round =>
      clear E
      obtain ⟨j, hj, rfl, rfl, hbl, hrow⟩ := hrel
      have hsz := hbl.size
      have hgl := hrow.lt
      have hc := fun i => hrow.cell i
      have hzt := spaced_le (t.kids.map GTy.text) j
      by_cases hlt : j < t.kids.length
      · have htr := GTy.elem (hs.below hbl (Nat.le_refl _)) j hlt
        obtain ⟨b, off, A', c', rfl, hSb, g0, g1, g2, g3, hat⟩ := htr
        have hmem : t.kids[j] ∈ t.kids := List.getElem_mem hlt
        have Hs := Lib.hid (spaced_take (t.kids.map GTy.text) j (by simpa using hlt))
        have hs5 : (t.kids[j]).bulk < k ∧ (t.kids[j]).bulk ≤ 1048576 := by have := bulkL_mem GTy.bulk t.kids _ hmem; omega
        have hs6 := GTy.text_size t.kids[j]
        have hs7 : (t.kids[j]).text.size ≤ 26214500 := by omega
        clear hs6
        go_wp2_with fail
        refine (ih _ _ _ _ hs5.1 hs5.2 (hat.below ((Below.refl _ _).alloc (by omega) _) (by simp; omega))).mono ?_
        rintro e w1 ⟨rfl, hb1⟩
        go_wp2_with fail
        go_roundw
        case rel => exact ⟨j + 1, by omega, by go_num, by rw [Hs.out]; simp only [ba_assoc, List.getElem_map], hbl.trans (((Below.refl _ _).alloc hsz _).trans (hb1.mono (by simp; omega))), (hrow.alloc _).below hb1 (by simp; omega)⟩
        case measure => simp [intOf]; omega
      · have hjl : j = t.kids.length := by omega
        have Hj := Lib.hid (show (t.kids.map GTy.text).take j = t.kids.map GTy.text from by rw [hjl]; exact List.take_of_length_le (by simp))
        clear hjl
        by_cases hk0 : t.kids.length = 0
        · have hk0' : ¬ 0 < t.kids.length := by omega
          have Hk0 := Lib.hid hk0
          clear hk0
          go_wp2_with fail
          go_ret
          exact ⟨ret_str (by rw [hte.out]; unfold tyTextOf; rw [if_neg x1.out, if_neg x2.out, if_neg x3.out, if_pos x4.out, if_pos (by simpa using Hk0.out), Hj.out, List.eq_nil_of_length_eq_zero Hk0.out]; simp [spaced, tnil]), hbl⟩
        · have hk0' : 0 < t.kids.length := by omega
          go_wp2_with fail
          go_ret
          exact ⟨ret_str (by rw [hte.out]; unfold tyTextOf; rw [if_neg x1.out, if_neg x2.out, if_neg x3.out, if_pos x4.out, if_neg (by simpa using hk0), Hj.out]), hbl⟩

set_option maxRecDepth 20000 in
theorem specTyText (k : Nat) : ∀ (t : GTy) (A1 : Option Addr) (c1 : Nat) (w : World), t.bulk < k → t.bulk ≤ 1048576 → GTy.At w (Lt w.heap.size) A1 c1 t →
    Calls Try.prog 117 #[.agg #[.int .i64 t.op, .int .i64 t.n, .string t.s, .slice A1 t.kids.length c1]] w fun e w' => e = .returned (.string t.text) ∧ Below w.heap.size w w' := by
  induction k with
  | zero => intro t A1 c1 w h; omega
  | succ k ih =>
    intro t A1 c1 w hk hb ht
    obtain ⟨h0, h1, h2, hs⟩ := id ht
    have hn := wf64 h1
    have hte := Lib.hid t.text_eq
    have hcv := fun (w : World) (x : Int) => run_string_one_at (P := Try.prog) w 55 9 5 x Try.underlying55 Try.underlying5 Try.underlying9
    have E : Below w.heap.size w (w.alloc (.cells #[.int .i64 t.op, .int .i64 t.n, .string t.s, .slice A1 t.kids.length c1] 59)) := (Below.refl _ _).alloc (Nat.le_refl _) _
    have hlen : t.kids.length ≤ 9223372036854775807 := by simpa using hs.len
    have hbe := t.bulk_eq
    have hzs : t.s.size ≤ 1048576 := by omega
    have hzL := GTy.texts_size t.kids
    rw [GTy.bulks_eq, GTy.texts_map] at hzL
    have hzL2 : (spaced (t.kids.map GTy.text)).size ≤ 26214400 := by omega
    clear hzL h2
    cases o1 : (t.op == 1)
    rotate_left
    · have x1 := Lib.hid (beq_iff_eq.1 o1)
      go_enter Try.func117, Try.ntmps117
      go_wp2_with fail
      go_ret
      exact ⟨ret_str (by rw [hte.out]; unfold tyTextOf; rw [if_pos x1.out]), E⟩
    have x1 := Lib.hid (show ¬ (t.op = 1) from by simpa using o1)
    cases o2 : (t.op == 2)
    rotate_left
    · have x2 := Lib.hid (beq_iff_eq.1 o2)
      by_cases hneg : t.n < 0
      · skip
        go_enter Try.func117, Try.ntmps117
        go_wp2_with fail
        go_ret
        exact ⟨ret_str (by rw [hte.out]; unfold tyTextOf; rw [if_neg x1.out, if_pos x2.out, if_pos hneg]), E⟩
      · have hge : 0 ≤ t.n := by omega
        have hneg2 : decide (t.n < 0) = false := by simpa using hge
        have hb26 : 0 ≤ t.n % 26 ∧ t.n % 26 ≤ 25 := by omega
        go_enter Try.func117, Try.ntmps117
        go_wp2_with fail
        go_ret
        exact ⟨ret_str (by rw [hte.out]; unfold tyTextOf; rw [if_neg x1.out, if_pos x2.out, if_neg (by omega)]), E.alloc E.size _⟩
    have x2 := Lib.hid (show ¬ (t.op = 2) from by simpa using o2)
    cases o3 : (t.op == 3)
    rotate_left
    · have x3 := Lib.hid (beq_iff_eq.1 o3)
      by_cases hk2 : t.kids.length = 2
      rotate_left
      · have e1 : (t.kids.length != 2) = true := by rw [bne_iff_ne]; omega
        have e2 : ((t.kids.length : Int) != 2) = true := by rw [bne_iff_ne]; omega
        have e3 : (t.kids.length == 2) = false := by rw [beq_eq_false_iff_ne]; omega
        have e4 : ((t.kids.length : Int) == 2) = false := by rw [beq_eq_false_iff_ne]; omega
        have o4 : (t.op == 4) = false := by rw [beq_eq_false_iff_ne, x3.out]; omega
        have Hk2 := Lib.hid hk2
        clear hk2
        go_enter Try.func117, Try.ntmps117
        go_wp2_with fail
        go_ret
        exact ⟨ret_str (by rw [hte.out]; unfold tyTextOf; rw [if_neg x1.out, if_neg x2.out, if_pos x3.out]; split; (rename_i h; have := congrArg List.length h; simp at this; exact absurd this Hk2.out); rfl), E⟩
      have e1 : (t.kids.length != 2) = false := by rw [bne_eq_false_iff_eq]; omega
      have e2 : ((t.kids.length : Int) != 2) = false := by rw [bne_eq_false_iff_eq]; omega
      have e3 : (t.kids.length == 2) = true := by rw [beq_iff_eq]; omega
      have e4 : ((t.kids.length : Int) == 2) = true := by rw [beq_iff_eq]; omega
      have hk0 : (0 : Int) < (t.kids.length : Int) := by omega
      have hk1 : (1 : Int) < (t.kids.length : Int) := by omega
      have hk0n : 0 < t.kids.length := by omega
      have hk1n : 1 < t.kids.length := by omega
      have hel0 := GTy.elem hs 0 (by omega)
      obtain ⟨b, off, A2, c2, rfl, hSb, g0, g1, g2, g3, hat⟩ := hel0
      have hel1 := GTy.elem hs 1 (by omega)
      obtain ⟨b', off', B2, d2, eb, hSb', g0', g1', g2', g3', hat'⟩ := hel1
      obtain ⟨rfl, rfl⟩ : b = b' ∧ off = off' := by simp only [Option.some.injEq, Addr.mk.injEq, and_true] at eb; exact eb
      obtain ⟨x, hx⟩ : ∃ x, x = t.kids[0] := ⟨_, rfl⟩
      obtain ⟨y, hy⟩ : ∃ y, y = t.kids[1] := ⟨_, rfl⟩
      rw [← hx] at g0 g1 g2 g3 hat
      rw [← hy] at g0' g1' g2' g3' hat'
      simp only [Nat.zero_mul, Nat.one_mul, Nat.add_zero] at g0 g1 g2 g3 g0' g1' g2' g3'
      have hkids : t.kids.map GTy.text = [x.text, y.text] := by
        rw [hx, hy]; apply List.ext_getElem
        · simp [hk2]
        · intro i h1 h2
          match i with
          | 0 => simp
          | 1 => simp
          | i + 2 => simp at h2; omega
      have hxm : x ∈ t.kids := by rw [hx]; exact List.getElem_mem _
      have hym : y ∈ t.kids := by rw [hy]; exact List.getElem_mem _
      have bx : x.bulk < k ∧ x.bulk ≤ 1048576 := by have := bulkL_mem GTy.bulk t.kids _ hxm; omega
      have bY : y.bulk < k ∧ y.bulk ≤ 1048576 := by have := bulkL_mem GTy.bulk t.kids _ hym; omega
      have zx := GTy.text_size x
      have zy := GTy.text_size y
      have zx2 : x.text.size ≤ 26214500 := by omega
      have zy2 : y.text.size ≤ 26214500 := by omega
      have zz1 : ¬ 9223372036854775807 < 1 + x.text.size := by omega
      have zz2 : ¬ 9223372036854775807 < 1 + x.text.size + 4 := by omega
      have zz3 : ¬ 9223372036854775807 < 1 + x.text.size + 4 + y.text.size := by omega
      have zz4 : ¬ 9223372036854775807 < 1 + x.text.size + 4 + y.text.size + 1 := by omega
      have Hkids := Lib.hid hkids
      have Hk2 := Lib.hid hk2
      have hlb : b < w.heap.size := hSb
      have Ra := Lib.hid (Row.new w 59 #[.int .i64 t.op, .int .i64 t.n, .string t.s, .slice (some ⟨b, off, none⟩) t.kids.length c1])
      have hE := Lib.hid E
      clear hx hy hkids hk2 hxm hym zx zy eb
      go_enter Try.func117, Try.ntmps117
      go_wp2_with fail
      have hca : ∀ i, (w.alloc (.cells #[.int .i64 t.op, .int .i64 t.n, .string t.s, .slice (some ⟨b, off, none⟩) t.kids.length c1] 59)).drew.cell? ⟨w.heap.size, i, none⟩ = (#[.int .i64 t.op, .int .i64 t.n, .string t.s, .slice (some ⟨b, off, none⟩) t.kids.length c1] : Array Value)[i]? := fun i => Ra.out.cell i
      have hcb : ∀ o, (w.alloc (.cells #[.int .i64 t.op, .int .i64 t.n, .string t.s, .slice (some ⟨b, off, none⟩) t.kids.length c1] 59)).drew.cell? ⟨b, o, none⟩ = w.cell? ⟨b, o, none⟩ := fun o => hE.out.cell (p := ⟨b, o, none⟩) hlb
      go_region_held3 (fun w' => (∀ i, w'.cell? ⟨w.heap.size, i, none⟩ = (#[.int .i64 t.op, .int .i64 t.n, .string t.s, .slice (some ⟨b, off, none⟩) t.kids.length c1] : Array Value)[i]?) ∧ (∀ o, w'.cell? ⟨b, o, none⟩ = w.cell? ⟨b, o, none⟩))
        (first | exact ⟨hca, hcb⟩ | exact ⟨hca1, hcb1⟩ | exact ⟨hca2, hcb2⟩)
        (first
        | (go_at_call_of 117 x
           refine (ih x A2 c2 _ bx.1 bx.2 (by exact hat.below hE.out.drew hE.out.size)).mono ?_
           rintro e w1 ⟨rfl, hb1⟩
           have BB1 := hE.out.drew.trans (hb1.mono hE.out.size)
           have Ra1 := Lib.hid (Row.below (w := (w.alloc (.cells #[.int .i64 t.op, .int .i64 t.n, .string t.s, .slice (some ⟨b, off, none⟩) t.kids.length c1] 59)).drew) Ra.out hb1 Ra.out.lt)
           have hca1 := fun i => Ra1.out.cell i
           have hcb1 := fun o => BB1.cell (p := ⟨b, o, none⟩) hlb)
        | (go_at_call_of 117 y
           refine (ih y B2 d2 _ bY.1 bY.2 (by exact hat'.below BB1 BB1.size)).mono ?_
           rintro e w2 ⟨rfl, hb2⟩
           have BB2 := BB1.trans (hb2.mono BB1.size)
           have Ra2 := Lib.hid (Row.below Ra1.out hb2 Ra1.out.lt)
           have hca2 := fun i => Ra2.out.cell i
           have hcb2 := fun o => BB2.cell (p := ⟨b, o, none⟩) hlb))
      go_wp2_with fail
      go_ret
      exact ⟨ret_str (by rw [hte.out]; unfold tyTextOf; rw [if_neg x1.out, if_neg x2.out, if_pos x3.out, Hkids.out]), BB2⟩
    have x3 := Lib.hid (show ¬ (t.op = 3) from by simpa using o3)
    cases o4 : (t.op == 4)
    · have x4 := Lib.hid (show ¬ (t.op = 4) from by simpa using o4)
      go_enter Try.func117, Try.ntmps117
      go_wp2_with fail
      go_ret
      exact ⟨ret_str (by rw [hte.out]; unfold tyTextOf; rw [if_neg x1.out, if_neg x2.out, if_neg x3.out, if_neg x4.out]), E⟩
    have x4 := Lib.hid (beq_iff_eq.1 o4)
    go_enter Try.func117, Try.ntmps117
    go_wp2_with fail
    go_loopw [3, 4] (fun n i wr => ∃ j : Nat, j ≤ t.kids.length ∧ i = .int .i64 j ∧ n = .string (t.s ++ spaced ((t.kids.map GTy.text).take j)) ∧ Below w.heap.size w wr ∧ Row wr w.heap.size 59 #[.int .i64 t.op, .int .i64 t.n, .string t.s, .slice A1 t.kids.length c1]) (fun _ i _ => t.kids.length - (intOf i).toNat)
    case atStart => exact ⟨0, by omega, by go_num, by simp [spaced, tnil], E, Row.new _ _ _⟩
    case round =>
      clear E
      obtain ⟨j, hj, rfl, rfl, hbl, hrow⟩ := hrel
      have hsz := hbl.size
      have hgl := hrow.lt
      have hc := fun i => hrow.cell i
      have hzt := spaced_le (t.kids.map GTy.text) j
      by_cases hlt : j < t.kids.length
      · have htr := GTy.elem (hs.below hbl (Nat.le_refl _)) j hlt
        obtain ⟨b, off, A', c', rfl, hSb, g0, g1, g2, g3, hat⟩ := htr
        have hmem : t.kids[j] ∈ t.kids := List.getElem_mem hlt
        have Hs := Lib.hid (spaced_take (t.kids.map GTy.text) j (by simpa using hlt))
        have hs5 : (t.kids[j]).bulk < k ∧ (t.kids[j]).bulk ≤ 1048576 := by have := bulkL_mem GTy.bulk t.kids _ hmem; omega
        have hs6 := GTy.text_size t.kids[j]
        have hs7 : (t.kids[j]).text.size ≤ 26214500 := by omega
        clear hs6
        go_wp2_with fail
        refine (ih _ _ _ _ hs5.1 hs5.2 (hat.below (Below.refl _ _) (by omega))).mono ?_
        rintro e w1 ⟨rfl, hb1⟩
        go_wp2_with fail
        go_roundw
        case rel => exact ⟨j + 1, by omega, by go_num, by rw [Hs.out]; simp only [ba_assoc, List.getElem_map], hbl.trans (hb1.mono hsz), hrow.below hb1 hgl⟩
        case measure => simp [intOf]; omega
      · have hjl : j = t.kids.length := by omega
        have Hj := Lib.hid (show (t.kids.map GTy.text).take j = t.kids.map GTy.text from by rw [hjl]; exact List.take_of_length_le (by simp))
        clear hjl
        by_cases hk0 : t.kids.length = 0
        · have hk0' : ¬ 0 < t.kids.length := by omega
          have Hk0 := Lib.hid hk0
          clear hk0
          go_wp2_with fail
          go_ret
          exact ⟨ret_str (by rw [hte.out]; unfold tyTextOf; rw [if_neg x1.out, if_neg x2.out, if_neg x3.out, if_pos x4.out, if_pos (by simpa using Hk0.out), Hj.out, List.eq_nil_of_length_eq_zero Hk0.out]; simp [spaced, tnil]), hbl⟩
        · have hk0' : 0 < t.kids.length := by omega
          go_wp2_with fail
          go_ret
          exact ⟨ret_str (by rw [hte.out]; unfold tyTextOf; rw [if_neg x1.out, if_neg x2.out, if_neg x3.out, if_pos x4.out, if_neg (by simpa using hk0), Hj.out]), hbl⟩

end Go.Proofs.Ytgbcdfeflgnogaa
