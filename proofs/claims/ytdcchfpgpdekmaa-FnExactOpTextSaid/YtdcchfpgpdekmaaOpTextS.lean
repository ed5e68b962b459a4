/- OpText in the reference: a drawn region that loads from a block its own first call makes: S is changed behind that call. -/
import Derived.Test.YtdcchfpgpdekmaaOpText
namespace Go.Proofs.Ytdcchfpgpdekmaa
open Go.RowKit
set_option linter.unusedVariables false
set_option linter.unusedSimpArgs false
set_option maxHeartbeats 1000000

/-- the held walk asks less where its condition asks less -/
theorem wpAnyH_imp {P : Program} {md : Region.Mode} {ops : Array Oper} {Q : Exit → Act → World → Prop} {S T : World → Prop} (h : ∀ w, S w → T w) : ∀ (fuel : Nat) (listed : Array Bool) (a : Act) (w : World), wpAnyH P md ops Q S fuel listed a w → wpAnyH P md ops Q T fuel listed a w
  | 0, _, _, _, hw => hw
  | fuel + 1, _, _, _, hw => ⟨hw.1, fun i hi => wpOp_mono (fun a' w' h' => ⟨h _ h'.1, wpAnyH_imp h fuel _ a' w' h'.2⟩) (hw.2 i hi)⟩

theorem specOpText (c n m : Int) (w : World) (hn1 : -9223372036854775808 ≤ n) (hn2 : n ≤ 9223372036854775807) (hm1 : -9223372036854775808 ≤ m) (hm2 : m ≤ 9223372036854775807) :
    Calls Try.prog 17 #[.agg #[.int .i64 c, .int .i64 n, .int .i64 m]] w fun e w' => e = .returned (.string (opTextB c n m)) ∧ Below w.heap.size w w' := by
  have E : Below w.heap.size w (w.alloc (.cells #[.int .i64 c, .int .i64 n, .int .i64 m] 28)) := (Below.refl _ _).alloc (Nat.le_refl _) _
  by_cases hc : 1 ≤ c ∧ c ≤ 21
  rotate_left
  · have hv := Lib.hid (show opTextB c n m = ⟨#[]⟩ from if_neg hc)
    have hb := inB_false hc
    clear hc
    go_enter Try.func17, Try.ntmps17
    go_wp2_with fail
    refine (specIn c 1 21 _).mono ?_
    rintro e w1 ⟨rfl, rfl⟩
    go_wp2_with fail
    go_ret
    exact ⟨ret_str hv.out.symm, E⟩
  have hv := Lib.hid (show opTextB c n m = (opNames.getD (c - 1).toNat ⟨#[]⟩) ++ ⟨#[32]⟩ ++ digI n ++ ⟨#[32]⟩ ++ digI m from if_pos hc)
  have hb := inB_true hc
  have z0 := opNames_size (c - 1).toNat
  have z1 := digI_size n hn1 hn2
  have z2 := digI_size m hm1 hm2
  obtain ⟨h1, h2⟩ := hc
  have h3 : 0 ≤ c - 1 := by omega
  have h4 : c - 1 < 21 := by omega
  have h5 : 0 ≤ c := by omega
  have h6 : c < 22 := by omega
  have hat := opNames_at2 c h1 h2
  generalize opNames.getD (c - 1).toNat ⟨#[]⟩ = nm at *
  have zz1 : ¬ 9223372036854775807 < nm.size + 1 := by omega
  have zz2 : ¬ 9223372036854775807 < nm.size + 1 + (digI n).size := by omega
  have zz3 : ¬ 9223372036854775807 < nm.size + 1 + (digI n).size + 1 := by omega
  have zz4 : ¬ 9223372036854775807 < nm.size + 1 + (digI n).size + 1 + (digI m).size := by omega
  have Ra := Lib.hid (Row.new w 28 #[.int .i64 c, .int .i64 n, .int .i64 m])
  go_enter Try.func17, Try.ntmps17
  go_wp2_with fail
  refine (specIn c 1 21 _).mono ?_
  rintro e w1 ⟨rfl, rfl⟩
  go_wp2_with fail
  refine wp_region_held_drew (S := fun w' => ∀ i, w'.cell? ⟨w.heap.size, i, none⟩ = (#[.int .i64 c, .int .i64 n, .int .i64 m] : Array Value)[i]?) (by kernel_rfl) (fun i => Row.cell Ra.out i) (fun hHeld => ?_)
  refine wpAnyH_take (i := 1) (oi := ?o1) (v := ?v1) ?ho1 (by kernel_rfl) (by kernel_rfl) (by kernel_rfl) ?hq1 (Or.inl ⟨?hw1, ?hy1⟩) (by assumption) ?hr1
  case ho1 => simp only [List.getElem?_toArray, List.getElem?_cons_succ, List.getElem?_cons_zero]; rfl
  case hw1 => rfl
  case hy1 =>
    intro w' hSw
    (try dsimp only at hSw)
    go_simp
    (try with_reducible rfl)
  case hq1 => exact fun _ _ _ h => h
  (try simp only [Act.put, List.setIfInBounds_toArray, List.set_cons_zero, List.set_cons_succ])
  refine wpAnyH_take (i := 2) (oi := ?o2) (v := ?v2) ?ho2 (by kernel_rfl) (by kernel_rfl) (by kernel_rfl) ?hq2 (Or.inl ⟨?hw2, ?hy2⟩) (by assumption) ?hr2
  case ho2 => simp only [List.getElem?_toArray, List.getElem?_cons_succ, List.getElem?_cons_zero]; rfl
  case hw2 => rfl
  case hy2 =>
    intro w' hSw
    (try dsimp only at hSw)
    go_simp
    (try with_reducible rfl)
  case hq2 => exact fun _ _ _ h => h
  (try simp only [Act.put, List.setIfInBounds_toArray, List.set_cons_zero, List.set_cons_succ])
  refine wpAnyH_take (i := 6) (oi := ?o6) (v := ?v6) ?ho6 (by kernel_rfl) (by kernel_rfl) (by kernel_rfl) ?hq6 (Or.inl ⟨?hw6, ?hy6⟩) (by assumption) ?hr6
  case ho6 => simp only [List.getElem?_toArray, List.getElem?_cons_succ, List.getElem?_cons_zero]; rfl
  case hw6 => rfl
  case hy6 =>
    intro w' hSw
    (try dsimp only at hSw)
    go_simp
    (try with_reducible rfl)
  case hq6 => exact fun _ _ _ h => h
  (try simp only [Act.put, List.setIfInBounds_toArray, List.set_cons_zero, List.set_cons_succ])
  refine wpAnyH_take (i := 7) (oi := ?o7) (v := ?v7) ?ho7 (by kernel_rfl) (by kernel_rfl) (by kernel_rfl) ?hq7 (Or.inl ⟨?hw7, ?hy7⟩) (by assumption) ?hr7
  case ho7 => simp only [List.getElem?_toArray, List.getElem?_cons_succ, List.getElem?_cons_zero]; rfl
  case hw7 => rfl
  case hy7 =>
    intro w' hSw
    (try dsimp only at hSw)
    go_simp
    (try with_reducible rfl)
  case hq7 => exact fun _ _ _ h => h
  (try simp only [Act.put, List.setIfInBounds_toArray, List.set_cons_zero, List.set_cons_succ])
  refine wpAnyH_take (i := 11) (oi := ?o11) (v := ?v11) ?ho11 (by kernel_rfl) (by kernel_rfl) (by kernel_rfl) ?hq11 (Or.inl ⟨?hw11, ?hy11⟩) (by assumption) ?hr11
  case ho11 => simp only [List.getElem?_toArray, List.getElem?_cons_succ, List.getElem?_cons_zero]; rfl
  case hw11 => rfl
  case hy11 =>
    intro w' hSw
    (try dsimp only at hSw)
    go_simp
    (try with_reducible rfl)
  case hq11 => exact fun _ _ _ h => h
  (try simp only [Act.put, List.setIfInBounds_toArray, List.set_cons_zero, List.set_cons_succ])
  refine wpAnyH_take (i := 12) (oi := ?o12) (v := ?v12) ?ho12 (by kernel_rfl) (by kernel_rfl) (by kernel_rfl) ?hq12 (Or.inl ⟨?hw12, ?hy12⟩) (by assumption) ?hr12
  case ho12 => simp only [List.getElem?_toArray, List.getElem?_cons_succ, List.getElem?_cons_zero]; rfl
  case hw12 => rfl
  case hy12 =>
    intro w' hSw
    (try dsimp only at hSw)
    go_simp
    (try with_reducible rfl)
  case hq12 => exact fun _ _ _ h => h
  (try simp only [Act.put, List.setIfInBounds_toArray, List.set_cons_zero, List.set_cons_succ])
  refine wpAnyH_ready (rs := [0]) (by kernel_rfl) (by simp) ?_
  refine AllReadyH.cons (o := ?o0) ?ho0 ?hs0 AllReadyH.nil
  case ho0 => simp only [List.getElem?_toArray, List.getElem?_cons_succ, List.getElem?_cons_zero]; rfl
  case hs0 =>
  intro K hK
  go_simp
  refine (specNames _).mono ?_
  rintro e w2 ⟨rfl, e2⟩
  have Rn : Row w2 (w.alloc (.cells #[.int .i64 c, .int .i64 n, .int .i64 m] 28)).drew.heap.size 9 #[.string ⟨#[]⟩, .string ⟨#[110, 117, 109]⟩, .string ⟨#[108, 111, 99, 97, 108]⟩, .string ⟨#[102, 114, 101, 101]⟩, .string ⟨#[115, 101, 108, 102]⟩, .string ⟨#[99, 108, 111, 115]⟩, .string ⟨#[99, 97, 108, 108]⟩, .string ⟨#[114, 101, 116]⟩, .string ⟨#[99, 111, 110]⟩, .string ⟨#[102, 105, 101, 108, 100]⟩, .string ⟨#[105, 115, 99, 111, 110]⟩, .string ⟨#[105, 115, 110, 117, 109]⟩, .string ⟨#[97, 100, 100]⟩, .string ⟨#[115, 117, 98]⟩, .string ⟨#[109, 117, 108]⟩, .string ⟨#[108, 101, 115, 115]⟩, .string ⟨#[115, 97, 109, 101]⟩, .string ⟨#[112, 117, 116]⟩, .string ⟨#[122, 101, 114, 111]⟩, .string ⟨#[106, 117, 109, 112]⟩, .string ⟨#[115, 108, 105, 100, 101]⟩, .string ⟨#[102, 97, 105, 108]⟩] := by rw [← e2]; exact Row.new _ _ _
  have hE : Below w.heap.size w w2 := by rw [← e2]; exact E.drew.alloc E.drew.size _
  have Ra2 := Lib.hid (show Row w2 w.heap.size 28 #[.int .i64 c, .int .i64 n, .int .i64 m] from by rw [← e2]; exact Row.alloc (show Row _ w.heap.size 28 #[.int .i64 c, .int .i64 n, .int .i64 m] from Ra.out) _)
  have hBlt := Rn.lt
  clear e2
  generalize (w.alloc (.cells #[.int .i64 c, .int .i64 n, .int .i64 m] 28)).drew.heap.size = B at *
  have hcn : w2.cell? ⟨B, c.toNat, none⟩ = some (.string nm) := (Rn.cell c.toNat).trans hat
  refine hK.out _ _ (fun i => Ra2.out.cell i) (fun _ => ?_)
  clear hK K hHeld hat
  refine wpAnyH_imp (S := (fun w' => (∀ i, w'.cell? ⟨w.heap.size, i, none⟩ = (#[.int .i64 c, .int .i64 n, .int .i64 m] : Array Value)[i]?) ∧ w'.cell? ⟨B, c.toNat, none⟩ = some (.string nm))) (fun _ h => h.1) _ _ _ _ ?_
  have hHeld : (fun w' => (∀ i, w'.cell? ⟨w.heap.size, i, none⟩ = (#[.int .i64 c, .int .i64 n, .int .i64 m] : Array Value)[i]?) ∧ w'.cell? ⟨B, c.toNat, none⟩ = some (.string nm)) w2 := ⟨fun i => Ra2.out.cell i, hcn⟩
  (try simp only [Act.put, List.setIfInBounds_toArray, List.set_cons_zero, List.set_cons_succ])
  refine wpAnyH_take (i := 3) (oi := ?o3) (v := ?v3) ?ho3 (by kernel_rfl) (by kernel_rfl) (by kernel_rfl) ?hq3 (Or.inl ⟨?hw3, ?hy3⟩) (by assumption) ?hr3
  case ho3 => simp only [List.getElem?_toArray, List.getElem?_cons_succ, List.getElem?_cons_zero]; rfl
  case hw3 => rfl
  case hy3 =>
    intro w' hSw
    (try dsimp only at hSw)
    go_simp
    (try with_reducible rfl)
  case hq3 => exact fun _ _ _ h => h
  (try simp only [Act.put, List.setIfInBounds_toArray, List.set_cons_zero, List.set_cons_succ])
  refine wpAnyH_take (i := 4) (oi := ?o4) (v := ?v4) ?ho4 (by kernel_rfl) (by kernel_rfl) (by kernel_rfl) ?hq4 (Or.inl ⟨?hw4, ?hy4⟩) (by assumption) ?hr4
  case ho4 => simp only [List.getElem?_toArray, List.getElem?_cons_succ, List.getElem?_cons_zero]; rfl
  case hw4 => rfl
  case hy4 =>
    intro w' hSw
    (try dsimp only at hSw)
    go_simp
    (try with_reducible rfl)
  case hq4 => exact fun _ _ _ h => h
  (try simp only [Act.put, List.setIfInBounds_toArray, List.set_cons_zero, List.set_cons_succ])
  refine wpAnyH_take (i := 5) (oi := ?o5) (v := ?v5) ?ho5 (by kernel_rfl) (by kernel_rfl) (by kernel_rfl) ?hq5 (Or.inl ⟨?hw5, ?hy5⟩) (by assumption) ?hr5
  case ho5 => simp only [List.getElem?_toArray, List.getElem?_cons_succ, List.getElem?_cons_zero]; rfl
  case hw5 => rfl
  case hy5 =>
    intro w' hSw
    (try dsimp only at hSw)
    go_simp
    (try with_reducible rfl)
  case hq5 => exact fun _ _ _ h => h
  (try simp only [Act.put, List.setIfInBounds_toArray, List.set_cons_zero, List.set_cons_succ])
  refine wpAnyH_ready (rs := [8]) (by kernel_rfl) (by simp) ?_
  refine AllReadyH.cons (o := ?o8) ?ho8 ?hs8 AllReadyH.nil
  case ho8 => simp only [List.getElem?_toArray, List.getElem?_cons_succ, List.getElem?_cons_zero]; rfl
  case hs8 =>
  intro K hK
  go_simp
  refine (specDigits n _ hn1 hn2).mono ?_
  rintro e w3 ⟨rfl, hb3⟩
  have Ra3 := Lib.hid (Ra2.out.below hb3 Ra2.out.lt)
  have hcn3 := (hb3.cell (p := ⟨B, c.toNat, none⟩) hBlt).trans hcn
  have hBlt3 := Nat.lt_of_lt_of_le hBlt hb3.size
  refine hK.out _ _ ⟨fun i => Ra3.out.cell i, hcn3⟩ (fun hHeld => ?_)
  clear hK K
  (try simp only [Act.put, List.setIfInBounds_toArray, List.set_cons_zero, List.set_cons_succ])
  refine wpAnyH_take (i := 9) (oi := ?o9) (v := ?v9) ?ho9 (by kernel_rfl) (by kernel_rfl) (by kernel_rfl) ?hq9 (Or.inl ⟨?hw9, ?hy9⟩) (by assumption) ?hr9
  case ho9 => simp only [List.getElem?_toArray, List.getElem?_cons_succ, List.getElem?_cons_zero]; rfl
  case hw9 => rfl
  case hy9 =>
    intro w' hSw
    (try dsimp only at hSw)
    go_simp
    (try with_reducible rfl)
  case hq9 => exact fun _ _ _ h => h
  (try simp only [Act.put, List.setIfInBounds_toArray, List.set_cons_zero, List.set_cons_succ])
  refine wpAnyH_take (i := 10) (oi := ?o10) (v := ?v10) ?ho10 (by kernel_rfl) (by kernel_rfl) (by kernel_rfl) ?hq10 (Or.inl ⟨?hw10, ?hy10⟩) (by assumption) ?hr10
  case ho10 => simp only [List.getElem?_toArray, List.getElem?_cons_succ, List.getElem?_cons_zero]; rfl
  case hw10 => rfl
  case hy10 =>
    intro w' hSw
    (try dsimp only at hSw)
    go_simp
    (try with_reducible rfl)
  case hq10 => exact fun _ _ _ h => h
  (try simp only [Act.put, List.setIfInBounds_toArray, List.set_cons_zero, List.set_cons_succ])
  refine wpAnyH_ready (rs := [13]) (by kernel_rfl) (by simp) ?_
  refine AllReadyH.cons (o := ?o13) ?ho13 ?hs13 AllReadyH.nil
  case ho13 => simp only [List.getElem?_toArray, List.getElem?_cons_succ, List.getElem?_cons_zero]; rfl
  case hs13 =>
  intro K hK
  go_simp
  refine (specDigits m _ hm1 hm2).mono ?_
  rintro e w4 ⟨rfl, hb4⟩
  have hcn4 := (hb4.cell (p := ⟨B, c.toNat, none⟩) hBlt3).trans hcn3
  have Ra4 := Lib.hid (Ra3.out.below hb4 Ra3.out.lt)
  refine hK.out _ _ ⟨fun i => Ra4.out.cell i, hcn4⟩ (fun hHeld => ?_)
  clear hK K
  (try simp only [Act.put, List.setIfInBounds_toArray, List.set_cons_zero, List.set_cons_succ])
  refine wpAnyH_take (i := 14) (oi := ?o14) (v := ?v14) ?ho14 (by kernel_rfl) (by kernel_rfl) (by kernel_rfl) ?hq14 (Or.inl ⟨?hw14, ?hy14⟩) (by assumption) ?hr14
  case ho14 => simp only [List.getElem?_toArray, List.getElem?_cons_succ, List.getElem?_cons_zero]; rfl
  case hw14 => rfl
  case hy14 =>
    intro w' hSw
    (try dsimp only at hSw)
    go_simp
    (try with_reducible rfl)
  case hq14 => exact fun _ _ _ h => h
  (try simp only [Act.put, List.setIfInBounds_toArray, List.set_cons_zero, List.set_cons_succ])
  refine wpAnyH_take (i := 15) (oi := ?o15) (v := ?v15) ?ho15 (by kernel_rfl) (by kernel_rfl) (by kernel_rfl) ?hq15 (Or.inl ⟨?hw15, ?hy15⟩) (by assumption) ?hr15
  case ho15 => simp only [List.getElem?_toArray, List.getElem?_cons_succ, List.getElem?_cons_zero]; rfl
  case hw15 => rfl
  case hy15 =>
    intro w' hSw
    (try dsimp only at hSw)
    go_simp
    (try with_reducible rfl)
  case hq15 => exact fun _ _ _ h => h
  (try simp only [Act.put, List.setIfInBounds_toArray, List.set_cons_zero, List.set_cons_succ])
  refine wpAnyH_done (by kernel_rfl) ?_ _
  go_wp2_with fail
  go_ret
  exact ⟨ret_str hv.out.symm, hE.trans ((hb3.trans (hb4.mono hb3.size)).mono hE.size)⟩

theorem specOpText' (t : GOp) (w : World) (h : GOp.At w (Lt w.heap.size) t) : Calls Try.prog 17 #[.agg #[.int .i64 t.code, .int .i64 t.n, .int .i64 t.m]] w fun e w' => e = .returned (.string (opTextB t.code t.n t.m)) ∧ Below w.heap.size w w' :=
  specOpText _ _ _ w (wf64 h.2.1).1 (wf64 h.2.1).2 (wf64 h.2.2).1 (wf64 h.2.2).2

theorem implOpText' (t : GOp) (w : World) (h : GOp.At w (Lt w.heap.size) t) : Calls Try.prog 19 #[.agg #[.int .i64 t.code, .int .i64 t.n, .int .i64 t.m]] w fun e w' => e = .returned (.string (opTextB t.code t.n t.m)) ∧ Below w.heap.size w w' :=
  implOpText _ _ _ w (wf64 h.2.1).1 (wf64 h.2.1).2 (wf64 h.2.2).1 (wf64 h.2.2).2

end Go.Proofs.Ytdcchfpgpdekmaa
