/- Slices of ints: copies, equality, marks. Conditions: none but a bound on the length. -/
import Derived.Test.YtjcgfbjdailgoaaMarkText
namespace Go.Proofs.Ytjcgfbjdailgoaa
open Go.RowKit
set_option linter.unusedVariables false
set_option linter.unusedSimpArgs false
set_option maxHeartbeats 1000000

theorem int_wf {n : Int} (h : (Lit.int .i64 n).wf = true) : -9223372036854775808 ≤ n ∧ n ≤ 9223372036854775807 := by
  simpa [Lit.wf, IntKind.min, IntKind.max, IntKind.signed, IntKind.bits] using h
theorem int_elem {w : World} {S : Nat → Prop} {A : Option Addr} {c : Nat} {l : List Int} (h : Sl w S 1 A c (l.map (D.num .i64))) (i : Nat) (hi : i < l.length) :
    ∃ b off, A = some ⟨b, off, none⟩ ∧ S b ∧ w.cell? ⟨b, off + i, none⟩ = some (.int .i64 l[i]) ∧ (Lit.int .i64 l[i]).wf = true := by
  obtain ⟨b, off, cs, e, hb, hl, hc, hr⟩ := Sl.get h i (by simpa using hi)
  rw [List.getElem_map, D.rd_num] at hr
  obtain ⟨rfl, hw⟩ := hr
  exact ⟨b, off, e, hb, by simpa using hc 0 _ rfl, hw⟩

def ToIntS (l : List Int) (w : World) (e : Ending) (w' : World) : Prop := ∃ A1 c1, e = .returned (.slice A1 l.length c1) ∧ Osl w' (Btw w.heap.size w'.heap.size) 1 A1 c1 (l.map (D.num .i64)) ∧ Below w.heap.size w w'

theorem mkInt (n : Nat) (hn : n ≤ 1048576) (w : World) : (Instr.makeSlice 25 (.int .i64 (n : Int)) (.int .i64 (n : Int))).run Try.prog w = .ok (.slice (some ⟨w.heap.size, 0, none⟩) n n) (w.alloc (.cells (zr (.int .i64 0) 1 n) 3)) :=
  run_mk 25 3 (.int .i64 0) 1 8 Try.underlying25 (by kernel_rfl) n hn (by omega) w
theorem toIntS (l : List Int) (A : Option Addr) (c : Nat) (w : World) (hs : Sl w (Lt w.heap.size) 1 A c (l.map (D.num .i64))) (hl : l.length ≤ 1048576) :
    Calls Try.prog 87 #[.slice A l.length c] w (ToIntS l w) := by
  have hmk := mkInt l.length hl
  have S0 := Lib.hid hs
  clear hs
  go_enter Try.func87, Try.ntmps87
  go_wp2_with fail
  clear hmk
  go_loopw [4] (fun i wr => ∃ (j : Nat) (row : Array Value), j ≤ l.length ∧ i = .int .i64 j ∧ Row wr w.heap.size 3 row ∧ row.size = l.length * 1 ∧
      Hid (D.ownR wr 1 w.heap.size ((l.take j).map (D.num .i64)) (fun b => w.heap.size < b ∧ b < wr.heap.size) 0) ∧ Below w.heap.size w wr) (fun i _ => l.length - (intOf i).toNat)
  case atStart => exact ⟨0, _, by omega, by go_num, Row.new _ _ _, zr_size _ _ _, Lib.hid (by simp [D.ownR]), (Below.refl _ _).alloc (Nat.le_refl _) _⟩
  case round =>
    obtain ⟨j, row, hj, rfl, hrow, hrs, hown, hb⟩ := hrel
    have hsz := hb.size
    have hgl := hrow.lt
    by_cases hlt : j < l.length
    · obtain ⟨b, off, rfl, hSb, g0, gw⟩ := int_elem (S0.out.below hb (Nat.le_refl _)) j hlt
      have HR := Lib.hid hrow
      have hf := fun i => HR.out.frozen i
      obtain ⟨v0, y0⟩ := row_some (row := row) j (by omega)
      have x0 := (HR.out.cell j).trans y0
      have GW := Lib.hid gw
      have hst := fill_step HR.out (j := j) (m := wr.heap.size) (xs := (l.take j).map (D.num .i64)) (size := 1) (x := D.num .i64 l[j]) (cs := [.int .i64 l[j]]) (by simp; omega) (by omega) hgl (Nat.le_refl _) hown.out (D.own_num.2 ⟨rfl, GW.out⟩) rfl
      have hB := setCells_below hb w.heap.size (j * 1) (Nat.le_refl _) [.int .i64 l[j]]
      rw [Nat.mul_one] at hst hB
      have HST := Lib.hid hst
      have HBB := Lib.hid hB
      clear hst hB y0 gw hown hrow
      go_wp2_with fail
      go_roundw
      case rel =>
        obtain ⟨row', p1, p2, p3⟩ := HST.out
        exact ⟨j + 1, row', by omega, by go_num, p1, by omega, Lib.hid (by rw [take_snoc' l j hlt, List.map_append]; exact p3), HBB.out⟩
      case measure => simp [intOf]; omega
    · have hjl : j = l.length := by omega
      have Hj := Lib.hid hjl
      have HR := Lib.hid hrow
      clear hjl hrow
      go_wp2_with fail
      go_ret
      have ho := hown.out
      rw [Hj.out, List.take_length] at ho
      exact ⟨_, _, rfl, fill_end HR.out (Nat.le_refl _) (by simp) (by unfold maxLen; omega) ho, hb⟩

theorem eqIntS' (l : List Int) (A B : Option Addr) (c d : Nat) (w : World) (hs : Sl w (Lt w.heap.size) 1 A c (l.map (D.num .i64))) (hs' : Sl w (Lt w.heap.size) 1 B d (l.map (D.num .i64))) :
    Calls Try.prog 31 #[.slice A l.length c, .slice B l.length d] w fun e w' => e = .returned (.bool true) ∧ Below w.heap.size w w' := by
  have hlen : l.length ≤ 9223372036854775807 := by simpa using hs.len
  have S0 := Lib.hid hs
  have S1 := Lib.hid hs'
  clear hs hs'
  go_enter Try.func31, Try.ntmps31
  go_wp2_with fail
  go_loopw [5] (fun i wr => ∃ (j : Nat), j ≤ l.length ∧ i = .int .i64 j ∧ Below w.heap.size w wr) (fun i _ => l.length - (intOf i).toNat)
  case atStart => exact ⟨0, by omega, by go_num, Below.refl _ _⟩
  case round =>
    obtain ⟨j, hj, rfl, hb⟩ := hrel
    by_cases hlt : j < l.length
    · obtain ⟨b, off, rfl, hSb, g0, _⟩ := int_elem (S0.out.below hb (Nat.le_refl _)) j hlt
      obtain ⟨b', off', rfl, hSb', g0', _⟩ := int_elem (S1.out.below hb (Nat.le_refl _)) j hlt
      go_wp2_with fail
      go_quiet (fail)
      go_wp2_with fail
      go_roundw
      case rel => exact ⟨j + 1, by omega, by go_num, ⟨hb.os, hb.tape, hb.output, hb.size, hb.block⟩⟩
      case measure => simp [intOf]; omega
    · go_wp2_with fail
      go_ret
      exact ⟨rfl, hb⟩

def mkI (_ : Int) (k : Nat) : Int := k
def cnI (_ : Int) : Nat := 1
theorem cntL_int (l : List Int) : cntL cnI l = l.length := by
  induction l with
  | nil => rfl
  | cons t r ih => simp only [cntL, cnI, ih, List.length_cons]; omega

theorem markIntS (l : List Int) (A : Option Addr) (c k : Nat) (S : Nat → Prop) (w : World) (hk : k + cntL cnI l ≤ 4611686018427387904) (hs : Osl w S 1 A c (l.map (D.num .i64))) :
    Calls Try.prog 33 #[.slice A l.length c, .int .i64 k] w fun e w' => e = .returned (.int .i64 ((k + cntL cnI l : Nat) : Int)) ∧ Osl w' S 1 A c ((markL mkI cnI l k).map (D.num .i64)) ∧ Touch S w w' := by
  have hlen : l.length ≤ 9223372036854775807 := by simpa using hs.sl.len
  rw [cntL_int] at hk ⊢
  have S0 := Lib.hid hs
  clear hs
  go_enter Try.func33, Try.ntmps33
  go_wp2_with fail
  go_loopw [1, 5] (fun v i wr => ∃ (j : Nat), j ≤ l.length ∧ i = .int .i64 j ∧ v = .int .i64 ((k + j : Nat) : Int) ∧ Hid (Osl wr S 1 A c ((markTo mkI cnI l k j).map (D.num .i64))) ∧ Hid (Touch S w wr)) (fun _ i _ => l.length - (intOf i).toNat)
  case atStart => exact ⟨0, by omega, by go_num, by go_num, Lib.hid (by rw [markTo_zero]; exact S0.out), Lib.hid (Touch.refl _ _)⟩
  case round =>
    obtain ⟨j, hj, rfl, rfl, HO, HT⟩ := hrel
    by_cases hlt : j < l.length
    · obtain ⟨b, T, cs, rfl, hSb, hTb, hf, hTS, hcl, hc, hd, hput⟩ := HO.out.focus j (by rw [List.length_map, markTo_length _ _ _ _ _ hj]; exact hlt)
      obtain ⟨v0, rfl⟩ : ∃ v, cs = [v] := by match cs, hcl with | [v], _ => exact ⟨v, rfl⟩
      have x0 : wr.cell? ⟨b, j, none⟩ = some v0 := by simpa using hc 0 _ rfl
      have HP := Lib.hid (hput (wr.setCell ⟨b, j, none⟩ (.int .i64 ((k + j : Nat) : Int))) (.num .i64 ((k + j : Nat) : Int)) [.int .i64 ((k + j : Nat) : Int)] (fun x _ hx _ => Below.heap_setCell wr ⟨b, j, none⟩ _ x hx)
        (fun q hq => World.cell?_setCell_other _ _ _ _ (fun e => by have := congrArg Addr.off e; simp at this; omega)) (fun o => (World.frozen?_setCell _ _ _ _).trans (hf o)) rfl
        (fun q v hv => by
          match q with
          | 0 =>
            have hv : (.int .i64 ((k + j : Nat) : Int)) = v := by simpa using hv
            subst hv
            rw [show j * 1 + 0 = j by omega]
            exact World.cell?_setCell_same _ _ _ x0
          | q + 1 => simp at hv)
        (D.own_num.2 ⟨rfl, by simp [Lit.wf, IntKind.min, IntKind.max, IntKind.signed, IntKind.bits]; omega⟩))
      have HT2 := Lib.hid (HT.out.trans (Touch.setCell (w := wr) (o := j) hSb (.int .i64 ((k + j : Nat) : Int))))
      clear hput hc hd hTS
      go_wp2_with fail
      go_roundw
      case rel => exact ⟨j + 1, by omega, by go_num, by go_num, Lib.hid (by have e := markTo_set mkI cnI l k j hlt; rw [cntL_int] at e; simp only [List.length_take, Nat.min_eq_left hj] at e; rw [← e, List.map_set]; exact HP.out), HT2⟩
      case measure => simp [intOf]; omega
    · have hjl : j = l.length := by omega
      have Hj := Lib.hid hjl
      clear hjl
      go_wp2_with fail
      go_ret
      exact ⟨ret_int (by rw [Hj.out]), by have := HO.out; rw [Hj.out, markTo_all] at this; exact this, HT.out⟩

theorem markIntSI (l : List Int) (A : Option Addr) (c k : Nat) (x : Int) (S : Nat → Prop) (w : World) (hx : x = k) (hk : k + cntL cnI l ≤ 4611686018427387904) (hs : Osl w S 1 A c (l.map (D.num .i64))) :
    Calls Try.prog 33 #[.slice A l.length c, .int .i64 x] w fun e w' => e = .returned (.int .i64 ((k + cntL cnI l : Nat) : Int)) ∧ Osl w' S 1 A c ((markL mkI cnI l k).map (D.num .i64)) ∧ Touch S w w' := by
  subst hx; exact markIntS l A c k S w hk hs

theorem heldIntSI (l : List Int) (A : Option Addr) (c k : Nat) (x : Int) (w : World) (hx : x = k) (hk : k + cntL cnI l ≤ 4611686018427387904) (hs : Sl w (Lt w.heap.size) 1 A c ((markL mkI cnI l k).map (D.num .i64))) :
    Calls Try.prog 34 #[.slice A l.length c, .int .i64 x] w fun e w' => e = .returned (.int .i64 ((k + cntL cnI l : Nat) : Int)) ∧ Below w.heap.size w w' := by
  subst hx
  have hlen : l.length ≤ 9223372036854775807 := by have := hs.len; simpa [markL_length] using this
  rw [cntL_int] at hk ⊢
  have S0 := Lib.hid hs
  clear hs
  go_enter Try.func34, Try.ntmps34
  go_wp2_with fail
  go_loopw [1, 5] (fun v i wr => ∃ (j : Nat), j ≤ l.length ∧ i = .int .i64 j ∧ v = .int .i64 ((k + j : Nat) : Int) ∧ Below w.heap.size w wr) (fun _ i _ => l.length - (intOf i).toNat)
  case atStart => exact ⟨0, by omega, by go_num, by go_num, Below.refl _ _⟩
  case round =>
    obtain ⟨j, hj, rfl, ev, hb⟩ := hrel
    obtain ⟨K, hK⟩ : ∃ K, K = k + j := ⟨_, rfl⟩
    rw [← hK] at ev
    subst ev
    by_cases hlt : j < l.length
    · obtain ⟨b, off, rfl, hSb, g0, _⟩ := int_elem (S0.out.below hb (Nat.le_refl _)) j (by rw [markL_length]; exact hlt)
      rw [markL_get _ _ _ _ _ hlt] at g0
      have x0 : wr.cell? ⟨b, off + j, none⟩ = some (.int .i64 (K : Int)) := by rw [g0, mkI, cntL_int, hK]; simp; omega
      have hKb : K ≤ 4611686018427387903 := by omega
      have HK := Lib.hid hK
      clear g0 hK
      go_wp2_with fail
      go_roundw
      case rel => exact ⟨j + 1, by omega, by go_num, by rw [HK.out]; go_num, hb⟩
      case measure => simp [intOf]; omega
    · have hjl : j = l.length := by omega
      have Hj := Lib.hid hjl
      have HK := Lib.hid hK
      clear hjl hK
      go_wp2_with fail
      go_ret
      exact ⟨ret_int (by rw [HK.out, Hj.out]), hb⟩
end Go.Proofs.Ytjcgfbjdailgoaa
