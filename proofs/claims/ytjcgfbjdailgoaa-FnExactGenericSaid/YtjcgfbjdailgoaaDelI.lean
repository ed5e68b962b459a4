/- slices.DeleteFunc on a list of numbers of one's own, with whatever predicate that only makes memory of its own. Conditions: the list is not huge. -/
import Derived.Test.YtjcgfbjdailgoaaFreeVars
import Derived.Test.YtjcgfbjdailgoaaFInt
import Derived.Lib.SliceRun
namespace Go.Proofs.Ytjcgfbjdailgoaa
open Go.RowKit
set_option linter.unusedVariables false
set_option linter.unusedSimpArgs false
set_option maxHeartbeats 1000000

theorem GI.cut {w : World} {B : Nat} {e : TypeId} {A : Option Addr} {c n : Nat} {l : List Int} (h : Gre w B e 1 (.slice A n c) n (l.map (D.num .i64))) (i : Nat) (hi : i ≤ n) : Gre w B e 1 (.slice A i c) i ((l.take i).map (D.num .i64)) := by
  have hw := GI.wf h
  obtain ⟨h1, cs, h2, h4⟩ := h
  have hcs := rdC_intC l cs h4
  simp only [List.length_map] at h1
  refine ⟨by simp; omega, (l.take i).map (Value.int .i64), ⟨by simp; omega, ?_⟩, rdC_int _ fun x hx => hw x (List.mem_of_mem_take hx)⟩
  rcases h2.2 with ⟨hv, h⟩ | ⟨g, cap, cur, hv, a1, a2, a3, a4, a5, a6⟩
  · obtain ⟨rfl, rfl, rfl⟩ : A = none ∧ n = 0 ∧ c = 0 := by simpa using hv
    obtain rfl : i = 0 := by omega
    exact .inl ⟨rfl, by simp⟩
  · simp only [Value.slice.injEq] at hv
    obtain ⟨rfl, _, rfl⟩ := hv
    refine .inr ⟨g, c, cur, rfl, a1, a2, by omega, a4, a5, ?_⟩
    rw [Nat.mul_one, List.map_take, ← hcs, ← a6, List.take_take]
    congr 1
    omega
theorem GI.setTail {B : Nat} {e : TypeId} {g c n : Nat} (m : Nat) : ∀ {w : World} {l : List Int} (i : Nat), i + m ≤ l.length → Gre w B e 1 (.slice (some ⟨g, 0, none⟩) n c) n (l.map (D.num .i64)) →
    ∃ l' : List Int, l'.length = l.length ∧ l'.take i = l.take i ∧ Gre (w.setCells g i (List.replicate m (.int .i64 0))) B e 1 (.slice (some ⟨g, 0, none⟩) n c) n (l'.map (D.num .i64)) ∧ Gr w (w.setCells g i (List.replicate m (.int .i64 0))) (.slice (some ⟨g, 0, none⟩) n c) (.slice (some ⟨g, 0, none⟩) n c) := by
  induction m with
  | zero => intro w l i hi h; exact ⟨l, rfl, rfl, by simpa [World.setCells] using h, by simpa [World.setCells] using Gr.refl w (.slice (some ⟨g, 0, none⟩) n c)⟩
  | succ m ih =>
    intro w l i hi h
    have h1 := GI.set h i (by omega) 0 (wf_i64 (by omega) (by omega))
    obtain ⟨l', e1, e2, e3, e4⟩ := ih (i + 1) (by simp; omega) h1
    rw [List.replicate_succ, World.setCells]
    refine ⟨l', by simpa using e1, ?_, e3, ?_⟩
    · have := congrArg (List.take i) e2
      rw [List.take_take, List.take_take, show min i (i + 1) = i by omega, List.take_set_of_le (by omega)] at this
      exact this
    · exact Gr.trans ⟨by
        refine ⟨by simp [World.setCell], by simp [World.setCell], by simp [World.setCell], by simp [World.setCell], fun b hb hne => ?_⟩
        exact Below.heap_setCell w _ _ b (fun e => hne (by rw [e]; rfl)), .inl rfl⟩ e4

set_option maxRecDepth 20000 in
theorem deleteFuncint (B K : Nat) (hK : ∀ (args : Array Value) (w : World), (callFunc K args).run Try.prog w = .ok (.enter K args) w) (caps : Array Value) (p : Int → Bool) (l : List Int) (A : Option Addr) (c : Nat) (w : World) (hl : l.length ≤ 1048577) (hB : B ≤ w.heap.size)
    (hG : Gre w B 3 1 (.slice A l.length c) l.length (l.map (D.num .i64)))
    (H : ∀ x, x ∈ l → ∀ (w2 : World), Gr w w2 (.slice A l.length c) (.slice A l.length c) →
      Calls Try.prog K (#[.int .i64 x] ++ caps) w2 fun e w' => e = .returned (.bool (p x)) ∧ Below w2.heap.size w2 w') :
    Calls Try.prog 150 #[.slice A l.length c, .func (.func K) #[] caps] w fun e w' => e = .returned (.slice A (l.filter fun x => !p x).length c) ∧ Gre w' B 3 1 (.slice A (l.filter fun x => !p x).length c) (l.filter fun x => !p x).length ((l.filter fun x => !p x).map (D.num .i64)) ∧ Gr w w' (.slice A l.length c) (.slice A l.length c) := by
  have HG := Lib.hid hG
  have HH := Lib.hid H
  have SL := Lib.hid (show Sl w (Lt w.heap.size) 1 A c (l.map (D.num .i64)) from by obtain ⟨A', c', e, h⟩ := hG.sl; cases e; exact h)
  clear hG H
  cases ha : l.any p
  · have hi := idxI_any_false ha
    have HF := Lib.hid (show (l.filter fun x => !p x) = l from List.filter_eq_self.2 fun x hx => by rw [List.any_eq_false] at ha; simpa using ha x hx)
    clear ha
    go_enter Try.func150, Try.ntmps150
    go_wp2_with fail
    refine (indexFuncint K hK caps p l A c _ SL.out (fun x hx w2 hb2 _ => HH.out x hx w2 (Gr.of_below hb2))).mono ?_
    rintro e w1 ⟨rfl, hb1⟩
    rw [hi]
    clear hi
    go_wp2_with fail
    go_ret
    rw [HF.out]
    exact ⟨rfl, HG.out.below hb1, Gr.of_below hb1⟩
  · have hi := idxI_any_true ha
    obtain ⟨k0, hk0, e0, hp0, hn0⟩ := idxI_spec (p := p) (l := l) (by omega)
    obtain ⟨g, rfl, _, _, _, hc0⟩ := GI.form HG.out k0 hk0
    have HP := Lib.hid hp0
    have HN := Lib.hid hn0
    have hnc : l.length ≤ c := by obtain ⟨_, _, _, _, h, _⟩ := GI.form HG.out k0 hk0; exact h
    have hcm : c ≤ 9223372036854775807 := hc0
    clear ha hi hp0 hn0 hc0
    go_enter Try.func150, Try.ntmps150
    go_wp2_with fail
    refine (indexFuncint K hK caps p l _ c _ SL.out (fun x hx w2 hb2 _ => HH.out x hx w2 (Gr.of_below hb2))).mono ?_
    rintro e w1 ⟨rfl, hb1⟩
    rw [e0]
    clear e0
    have G1 := Lib.hid (HG.out.below hb1)
    have GR1 := Lib.hid (Gr.of_below (v := .slice (some ⟨g, 0, none⟩) l.length c) hb1)
    clear hb1
    have hne : ((k0 : Int) == -1) = false := beq_eq_false_iff_ne.2 (by omega)
    go_wp2_with fail
    clear hne
    go_loopw [5, 6] (fun s5 s6 wr => ∃ (i j : Nat) (zs : List Int), s5 = .int .i64 i ∧ s6 = .int .i64 j ∧ i < j ∧ j ≤ l.length ∧ Hid (zs.length = l.length) ∧ Hid (zs.take i = (l.take j).filter fun x => !p x) ∧ Hid (∀ k, j ≤ k → zs[k]? = l[k]?) ∧ Hid (Gre wr B 3 1 (.slice (some ⟨g, 0, none⟩) l.length c) l.length (zs.map (D.num .i64))) ∧ Hid (Gr w wr (.slice (some ⟨g, 0, none⟩) l.length c) (.slice (some ⟨g, 0, none⟩) l.length c))) (fun _ i _ => l.length - (intOf i).toNat)
    case atStart => exact ⟨k0, k0 + 1, l, by go_num, by go_num, by omega, by omega, Lib.hid rfl, Lib.hid (by
      rw [take_snoc' l k0 hk0, List.filter_append, List.filter_eq_self.2 (fun x hx => by
        obtain ⟨i, hi, rfl⟩ := List.getElem_of_mem hx
        rw [List.getElem_take, HN.out i (by simp at hi; omega) (by simp at hi; omega)]; rfl)]
      simp [HP.out]), Lib.hid (fun _ _ => rfl), G1, GR1⟩
    case round =>
      obtain ⟨i, j, zs, rfl, rfl, hij, hj, HL, HT, HX, HGr, HR⟩ := hrel
      by_cases hlt : j < l.length
      · obtain ⟨g', eg, xj, _⟩ := GI.form HGr.out j (by rw [HL.out]; exact hlt)
        obtain rfl : g = g' := by simpa using eg
        have hzj : zs[j]'(by rw [HL.out]; exact hlt) = l[j] := by
          have := HX.out j (Nat.le_refl _)
          rw [List.getElem?_eq_getElem (by rw [HL.out]; exact hlt), List.getElem?_eq_getElem hlt] at this
          simpa using this
        rw [hzj] at xj
        clear hzj eg
        have hmem : l[j] ∈ l := List.getElem_mem hlt
        have hcall := HH.out _ hmem _ HR.out
        clear hmem
        go_wp2_with fail
        refine hcall.mono ?_
        rintro e w2 ⟨rfl, hb2⟩
        have G2 := Lib.hid (HGr.out.below hb2)
        have GR2 := Lib.hid (HR.out.trans (Gr.of_below (v := .slice (some ⟨g, 0, none⟩) l.length c) hb2))
        clear hcall xj hb2
        cases hp : p l[j]
        · obtain ⟨g', eg, xi, xf, _⟩ := GI.form G2.out i (by rw [HL.out]; omega)
          obtain rfl : g = g' := by simpa using eg
          have hwj := GI.wf HG.out l[j] (List.getElem_mem hlt)
          have G3 := Lib.hid (GI.set G2.out i (by rw [HL.out]; omega) l[j] hwj)
          have GR3 := Lib.hid (GR2.out.trans (show Gr w2 (w2.setCell ⟨g, i, none⟩ (.int .i64 l[j])) (.slice (some ⟨g, 0, none⟩) l.length c) (.slice (some ⟨g, 0, none⟩) l.length c) from ⟨by
            refine ⟨by simp [World.setCell], by simp [World.setCell], by simp [World.setCell], by simp [World.setCell], fun b hb hne => ?_⟩
            exact Below.heap_setCell w2 _ _ b (fun e => hne (by rw [e]; rfl)), .inl rfl⟩))
          have HN2 := Lib.hid (show (zs.set i l[j]).take (i + 1) = (l.take (j + 1)).filter fun x => !p x from by
            rw [take_snoc' l j hlt, List.filter_append, ← HT.out, take_snoc' _ i (by simp [HL.out]; omega), List.take_set_of_le (Nat.le_refl _)]
            simp [hp])
          have HX2 := Lib.hid (show ∀ k, j + 1 ≤ k → (zs.set i l[j])[k]? = l[k]? from fun k hk => by rw [List.getElem?_set_ne (by omega)]; exact HX.out k (by omega))
          clear eg hwj hp
          go_wp2_with fail
          go_roundw
          case rel => exact ⟨i + 1, j + 1, zs.set i l[j], by go_num, by go_num, by omega, by omega, Lib.hid (by rw [List.length_set]; exact HL.out), HN2, HX2, G3, GR3⟩
          case measure => simp [intOf]; omega
        · have HN2 := Lib.hid (show zs.take i = (l.take (j + 1)).filter fun x => !p x from by
            rw [take_snoc' l j hlt, List.filter_append, ← HT.out]
            simp [hp])
          clear hp
          go_wp2_with fail
          go_roundw
          case rel => exact ⟨i, j + 1, zs, by go_num, by go_num, by omega, by omega, HL, HN2, Lib.hid (fun k hk => HX.out k (by omega)), G2, GR2⟩
          case measure => simp [intOf]; omega
      · have HJ := Lib.hid (show j = l.length by omega)
        have HE := Lib.hid (show zs.take i = l.filter fun x => !p x from by rw [HT.out, HJ.out, List.take_length])
        have hil : i < l.length := by omega
        have HEL := Lib.hid (show (l.filter fun x => !p x).length = i from by rw [← HE.out, List.length_take, HL.out]; omega)
        obtain ⟨zs', e1, e2, e3, e4⟩ := GI.setTail (l.length - i) i (by rw [HL.out]; omega) HGr.out
        have E2 := Lib.hid e2
        have E3 := Lib.hid (GI.cut e3 i (by omega))
        have E4 := Lib.hid (HR.out.trans e4)
        have hcl : ∀ ty, (Builtin.clear_ #[25] ty #[.slice (some ⟨g, i, none⟩) (l.length - i) (c - i)]).run Try.prog wr = .ok (.tuple #[]) (wr.setCells g i (List.replicate (l.length - i) (.int .i64 0))) :=
          fun ty => Lib.run_clear_slice wr _ 3 ty (.int .i64 0) Try.underlying25 Try.zeroValue3 rfl rfl g i _ _ (by omega)
            (fun t ht => by obtain ⟨g', eg, x, _⟩ := GI.form HGr.out (i + t) (by rw [HL.out]; omega); obtain rfl : g = g' := by simpa using eg
                            rw [x]; rfl)
            (fun t ht => by obtain ⟨g', eg, _, x, _⟩ := GI.form HGr.out (i + t) (by rw [HL.out]; omega); obtain rfl : g = g' := by simpa using eg
                            exact x _)
        clear e1 e2 e3 e4
        go_wp2_with fail
        go_ret
        rw [HEL.out, ← HE.out, ← E2.out]
        exact ⟨rfl, E3.out, E4.out⟩
end Go.Proofs.Ytjcgfbjdailgoaa
