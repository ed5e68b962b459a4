/- Slices of ints: copies, equality, marks. Conditions: none but a bound on the length. -/
import Derived.Test.YtgbcdfeflgnogaaMarkText
namespace Go.Proofs.Ytgbcdfeflgnogaa
open Go.RowKit
set_option linter.unusedVariables false
set_option linter.unusedSimpArgs false
set_option maxHeartbeats 1000000

theorem int_wf {n : Int} (h : (Lit.int .i64 n).wf = true) : -9223372036854775808 ≤ n ∧ n ≤ 9223372036854775807 := by
  simpa [Lit.wf, IntKind.min, IntKind.max, IntKind.signed, IntKind.bits] using h
theorem int_elem {w : World} {S : Nat → Prop} {A : Option Addr} {c : Nat} {l : List Int} (h : Sl w S 1 A c (l.map (D.num .i64))) (i : Nat) (hi : i < l.length) :
    ∃ b off, A = some ⟨b, off, none⟩ ∧ S b ∧ w.cell? ⟨b, off + i, none⟩ = some (.int .i64 l[i]) ∧ (Lit.int .i64 l[i]).wf = true := by
  obtain ⟨b, off, cs, e, hb, hl, hc, hr⟩ := Sl.get h i (by simpa using hi)
  rw [List.getElem_map, D.rd_num] at hr
  obtain ⟨rfl, hw⟩ := hr
  exact ⟨b, off, e, hb, by simpa using hc 0 _ rfl, hw⟩

def ToIntS (l : List Int) (w : World) (e : Ending) (w' : World) : Prop := ∃ A1 c1, e = .returned (.slice A1 l.length c1) ∧ Osl w' (Btw w.heap.size w'.heap.size) 1 A1 c1 (l.map (D.num .i64)) ∧ Below w.heap.size w w'


theorem eqIntS' (l : List Int) (A B : Option Addr) (c d : Nat) (w : World) (hs : Sl w (Lt w.heap.size) 1 A c (l.map (D.num .i64))) (hs' : Sl w (Lt w.heap.size) 1 B d (l.map (D.num .i64))) :
    Calls Try.prog 142 #[.slice A l.length c, .slice B l.length d] w fun e w' => e = .returned (.bool true) ∧ Below w.heap.size w w' := by
  have hlen : l.length ≤ 9223372036854775807 := by simpa using hs.len
  have S0 := Lib.hid hs
  have S1 := Lib.hid hs'
  clear hs hs'
  go_enter Try.func142, Try.ntmps142
  go_wp2_with fail
  go_loopw [5] (fun i wr => ∃ (j : Nat), j ≤ l.length ∧ i = .int .i64 j ∧ Below w.heap.size w wr) (fun i _ => l.length - (intOf i).toNat)
  case atStart => exact ⟨0, by omega, by go_num, Below.refl _ _⟩
  case round =>
    obtain ⟨j, hj, rfl, hb⟩ := hrel
    by_cases hlt : j < l.length
    · obtain ⟨b, off, rfl, hSb, g0, _⟩ := int_elem (S0.out.below hb (Nat.le_refl _)) j hlt
      obtain ⟨b', off', rfl, hSb', g0', _⟩ := int_elem (S1.out.below hb (Nat.le_refl _)) j hlt
      go_wp2_with fail
      go_quiet (fail)
      go_wp2_with fail
      go_roundw
      case rel => exact ⟨j + 1, by omega, by go_num, ⟨hb.os, hb.tape, hb.output, hb.size, hb.block⟩⟩
      case measure => simp [intOf]; omega
    · go_wp2_with fail
      go_ret
      exact ⟨rfl, hb⟩

def mkI (_ : Int) (k : Nat) : Int := k
def cnI (_ : Int) : Nat := 1
theorem cntL_int (l : List Int) : cntL cnI l = l.length := by
  induction l with
  | nil => rfl
  | cons t r ih => simp only [cntL, cnI, ih, List.length_cons]; omega

theorem markIntS (l : List Int) (A : Option Addr) (c k : Nat) (S : Nat → Prop) (w : World) (hk : k + cntL cnI l ≤ 4611686018427387904) (hs : Osl w S 1 A c (l.map (D.num .i64))) :
    Calls Try.prog 146 #[.slice A l.length c, .int .i64 k] w fun e w' => e = .returned (.int .i64 ((k + cntL cnI l : Nat) : Int)) ∧ Osl w' S 1 A c ((markL mkI cnI l k).map (D.num .i64)) ∧ Touch S w w' := by
  have hlen : l.length ≤ 9223372036854775807 := by simpa using hs.sl.len
  rw [cntL_int] at hk ⊢
  have S0 := Lib.hid hs
  clear hs
  go_enter Try.func146, Try.ntmps146
  go_wp2_with fail
  go_loopw [1, 5] (fun v i wr => ∃ (j : Nat), j ≤ l.length ∧ i = .int .i64 j ∧ v = .int .i64 ((k + j : Nat) : Int) ∧ Hid (Osl wr S 1 A c ((markTo mkI cnI l k j).map (D.num .i64))) ∧ Hid (Touch S w wr)) (fun _ i _ => l.length - (intOf i).toNat)
  case atStart => exact ⟨0, by omega, by go_num, by go_num, Lib.hid (by rw [markTo_zero]; exact S0.out), Lib.hid (Touch.refl _ _)⟩
  case round =>
    obtain ⟨j, hj, rfl, rfl, HO, HT⟩ := hrel
    by_cases hlt : j < l.length
    · obtain ⟨b, T, cs, rfl, hSb, hTb, hf, hTS, hcl, hc, hd, hput⟩ := HO.out.focus j (by rw [List.length_map, markTo_length _ _ _ _ _ hj]; exact hlt)
      obtain ⟨v0, rfl⟩ : ∃ v, cs = [v] := by match cs, hcl with | [v], _ => exact ⟨v, rfl⟩
      have x0 : wr.cell? ⟨b, j, none⟩ = some v0 := by simpa using hc 0 _ rfl
      have HP := Lib.hid (hput (wr.setCell ⟨b, j, none⟩ (.int .i64 ((k + j : Nat) : Int))) (.num .i64 ((k + j : Nat) : Int)) [.int .i64 ((k + j : Nat) : Int)] (fun x _ hx _ => Below.heap_setCell wr ⟨b, j, none⟩ _ x hx)
        (fun q hq => World.cell?_setCell_other _ _ _ _ (fun e => by have := congrArg Addr.off e; simp at this; omega)) (fun o => (World.frozen?_setCell _ _ _ _).trans (hf o)) rfl
        (fun q v hv => by
          match q with
          | 0 =>
            have hv : (.int .i64 ((k + j : Nat) : Int)) = v := by simpa using hv
            subst hv
            rw [show j * 1 + 0 = j by omega]
            exact World.cell?_setCell_same _ _ _ x0
          | q + 1 => simp at hv)
        (D.own_num.2 ⟨rfl, by simp [Lit.wf, IntKind.min, IntKind.max, IntKind.signed, IntKind.bits]; omega⟩))
      have HT2 := Lib.hid (HT.out.trans (Touch.setCell (w := wr) (o := j) hSb (.int .i64 ((k + j : Nat) : Int))))
      clear hput hc hd hTS
      go_wp2_with fail
      go_roundw
      case rel => exact ⟨j + 1, by omega, by go_num, by go_num, Lib.hid (by have e := markTo_set mkI cnI l k j hlt; rw [cntL_int] at e; simp only [List.length_take, Nat.min_eq_left hj] at e; rw [← e, List.map_set]; exact HP.out), HT2⟩
      case measure => simp [intOf]; omega
    · have hjl : j = l.length := by omega
      have Hj := Lib.hid hjl
      clear hjl
      go_wp2_with fail
      go_ret
      exact ⟨ret_int (by rw [Hj.out]), by have := HO.out; rw [Hj.out, markTo_all] at this; exact this, HT.out⟩

theorem markIntSI (l : List Int) (A : Option Addr) (c k : Nat) (x : Int) (S : Nat → Prop) (w : World) (hx : x = k) (hk : k + cntL cnI l ≤ 4611686018427387904) (hs : Osl w S 1 A c (l.map (D.num .i64))) :
    Calls Try.prog 146 #[.slice A l.length c, .int .i64 x] w fun e w' => e = .returned (.int .i64 ((k + cntL cnI l : Nat) : Int)) ∧ Osl w' S 1 A c ((markL mkI cnI l k).map (D.num .i64)) ∧ Touch S w w' := by
  subst hx; exact markIntS l A c k S w hk hs

theorem heldIntSI (l : List Int) (A : Option Addr) (c k : Nat) (x : Int) (w : World) (hx : x = k) (hk : k + cntL cnI l ≤ 4611686018427387904) (hs : Sl w (Lt w.heap.size) 1 A c ((markL mkI cnI l k).map (D.num .i64))) :
    Calls Try.prog 148 #[.slice A l.length c, .int .i64 x] w fun e w' => e = .returned (.int .i64 ((k + cntL cnI l : Nat) : Int)) ∧ Below w.heap.size w w' := by
  subst hx
  have hlen : l.length ≤ 9223372036854775807 := by have := hs.len; simpa [markL_length] using this
  rw [cntL_int] at hk ⊢
  have S0 := Lib.hid hs
  clear hs
  go_enter Try.func148, Try.ntmps148
  go_wp2_with fail
  go_loopw [1, 5] (fun v i wr => ∃ (j : Nat), j ≤ l.length ∧ i = .int .i64 j ∧ v = .int .i64 ((k + j : Nat) : Int) ∧ Below w.heap.size w wr) (fun _ i _ => l.length - (intOf i).toNat)
  case atStart => exact ⟨0, by omega, by go_num, by go_num, Below.refl _ _⟩
  case round =>
    obtain ⟨j, hj, rfl, ev, hb⟩ := hrel
    obtain ⟨K, hK⟩ : ∃ K, K = k + j := ⟨_, rfl⟩
    rw [← hK] at ev
    subst ev
    by_cases hlt : j < l.length
    · obtain ⟨b, off, rfl, hSb, g0, _⟩ := int_elem (S0.out.below hb (Nat.le_refl _)) j (by rw [markL_length]; exact hlt)
      rw [markL_get _ _ _ _ _ hlt] at g0
      have x0 : wr.cell? ⟨b, off + j, none⟩ = some (.int .i64 (K : Int)) := by rw [g0, mkI, cntL_int, hK]; simp; omega
      have hKb : K ≤ 4611686018427387903 := by omega
      have HK := Lib.hid hK
      clear g0 hK
      go_wp2_with fail
      go_roundw
      case rel => exact ⟨j + 1, by omega, by go_num, by rw [HK.out]; go_num, hb⟩
      case measure => simp [intOf]; omega
    · have hjl : j = l.length := by omega
      have Hj := Lib.hid hjl
      have HK := Lib.hid hK
      clear hjl hK
      go_wp2_with fail
      go_ret
      exact ⟨ret_int (by rw [HK.out, Hj.out]), hb⟩
end Go.Proofs.Ytgbcdfeflgnogaa
