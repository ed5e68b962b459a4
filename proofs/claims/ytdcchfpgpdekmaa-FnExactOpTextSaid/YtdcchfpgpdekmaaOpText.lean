/- OpText, in the program and in the reference. Conditions: none. -/
import Derived.Test.YtdcchfpgpdekmaaDigits
import Derived.Test.YtdcchfpgpdekmaaGOp
import Derived.Test.YtdcchfpgpdekmaaMem
import Derived.Test.YtdcchfpgpdekmaaWithin
import Derived.Deep.RegionHeld3
namespace Go.Proofs.Ytdcchfpgpdekmaa
open Go.RowKit
set_option linter.unusedVariables false
set_option linter.unusedSimpArgs false
set_option maxHeartbeats 1000000

/-- the names of the codes 1 to 21 -/
def opNames : List ByteArray := [⟨#[110, 117, 109]⟩, ⟨#[108, 111, 99, 97, 108]⟩, ⟨#[102, 114, 101, 101]⟩, ⟨#[115, 101, 108, 102]⟩, ⟨#[99, 108, 111, 115]⟩, ⟨#[99, 97, 108, 108]⟩, ⟨#[114, 101, 116]⟩, ⟨#[99, 111, 110]⟩, ⟨#[102, 105, 101, 108, 100]⟩, ⟨#[105, 115, 99, 111, 110]⟩, ⟨#[105, 115, 110, 117, 109]⟩, ⟨#[97, 100, 100]⟩, ⟨#[115, 117, 98]⟩, ⟨#[109, 117, 108]⟩, ⟨#[108, 101, 115, 115]⟩, ⟨#[115, 97, 109, 101]⟩, ⟨#[112, 117, 116]⟩, ⟨#[122, 101, 114, 111]⟩, ⟨#[106, 117, 109, 112]⟩, ⟨#[115, 108, 105, 100, 101]⟩, ⟨#[102, 97, 105, 108]⟩]

/-- what OpText gives -/
def opTextB (c n m : Int) : ByteArray := if 1 ≤ c ∧ c ≤ 21 then (opNames.getD (c - 1).toNat ⟨#[]⟩) ++ ⟨#[32]⟩ ++ digI n ++ ⟨#[32]⟩ ++ digI m else ⟨#[]⟩

theorem opNames_size (i : Nat) : (opNames.getD i ⟨#[]⟩).size ≤ 5 := by
  rcases Nat.lt_or_ge i 21 with h | h
  · have : ∀ i, i < 21 → (opNames.getD i ⟨#[]⟩).size ≤ 5 := by decide
    exact this i h
  · have e : opNames.getD i ⟨#[]⟩ = ⟨#[]⟩ := by rw [List.getD_eq_getElem?_getD, List.getElem?_eq_none (by simpa [opNames] using h)]; rfl
    rw [e]; exact Nat.zero_le _

theorem opNames_at (c : Int) (h1 : 1 ≤ c) (h2 : c ≤ 21) : ([.string ⟨#[110, 117, 109]⟩, .string ⟨#[108, 111, 99, 97, 108]⟩, .string ⟨#[102, 114, 101, 101]⟩, .string ⟨#[115, 101, 108, 102]⟩, .string ⟨#[99, 108, 111, 115]⟩, .string ⟨#[99, 97, 108, 108]⟩, .string ⟨#[114, 101, 116]⟩, .string ⟨#[99, 111, 110]⟩, .string ⟨#[102, 105, 101, 108, 100]⟩, .string ⟨#[105, 115, 99, 111, 110]⟩, .string ⟨#[105, 115, 110, 117, 109]⟩, .string ⟨#[97, 100, 100]⟩, .string ⟨#[115, 117, 98]⟩, .string ⟨#[109, 117, 108]⟩, .string ⟨#[108, 101, 115, 115]⟩, .string ⟨#[115, 97, 109, 101]⟩, .string ⟨#[112, 117, 116]⟩, .string ⟨#[122, 101, 114, 111]⟩, .string ⟨#[106, 117, 109, 112]⟩, .string ⟨#[115, 108, 105, 100, 101]⟩, .string ⟨#[102, 97, 105, 108]⟩] : List Value)[c.toNat - 1]? = some (.string (opNames.getD (c - 1).toNat ⟨#[]⟩)) := by
  have e : (c - 1).toNat = c.toNat - 1 := by omega
  rw [e]
  have h : ∀ i, i < 21 → (opNames.map Value.string)[i]? = some (.string (opNames.getD i ⟨#[]⟩)) := by
    intro i hi
    have hl : i < opNames.length := by simpa [opNames] using hi
    rw [List.getElem?_map, List.getElem?_eq_getElem hl, List.getD_eq_getElem?_getD, List.getElem?_eq_getElem hl]; rfl
  exact h (c.toNat - 1) (by omega)

theorem opNames_at2 (c : Int) (h1 : 1 ≤ c) (h2 : c ≤ 21) : (#[.string ⟨#[]⟩, .string ⟨#[110, 117, 109]⟩, .string ⟨#[108, 111, 99, 97, 108]⟩, .string ⟨#[102, 114, 101, 101]⟩, .string ⟨#[115, 101, 108, 102]⟩, .string ⟨#[99, 108, 111, 115]⟩, .string ⟨#[99, 97, 108, 108]⟩, .string ⟨#[114, 101, 116]⟩, .string ⟨#[99, 111, 110]⟩, .string ⟨#[102, 105, 101, 108, 100]⟩, .string ⟨#[105, 115, 99, 111, 110]⟩, .string ⟨#[105, 115, 110, 117, 109]⟩, .string ⟨#[97, 100, 100]⟩, .string ⟨#[115, 117, 98]⟩, .string ⟨#[109, 117, 108]⟩, .string ⟨#[108, 101, 115, 115]⟩, .string ⟨#[115, 97, 109, 101]⟩, .string ⟨#[112, 117, 116]⟩, .string ⟨#[122, 101, 114, 111]⟩, .string ⟨#[106, 117, 109, 112]⟩, .string ⟨#[115, 108, 105, 100, 101]⟩, .string ⟨#[102, 97, 105, 108]⟩] : Array Value)[c.toNat]? = some (.string (opNames.getD (c - 1).toNat ⟨#[]⟩)) := by
  have e : c.toNat = (c.toNat - 1) + 1 := by omega
  have h := opNames_at c h1 h2
  rw [e]
  rw [← h, List.getElem?_toArray, List.getElem?_cons_succ]

theorem specNames (w : World) : Calls Try.prog 66 #[] w fun e w' => e = .returned (.slice (some ⟨w.heap.size, 0, none⟩) 22 22) ∧ w.alloc (.cells #[.string ⟨#[]⟩, .string ⟨#[110, 117, 109]⟩, .string ⟨#[108, 111, 99, 97, 108]⟩, .string ⟨#[102, 114, 101, 101]⟩, .string ⟨#[115, 101, 108, 102]⟩, .string ⟨#[99, 108, 111, 115]⟩, .string ⟨#[99, 97, 108, 108]⟩, .string ⟨#[114, 101, 116]⟩, .string ⟨#[99, 111, 110]⟩, .string ⟨#[102, 105, 101, 108, 100]⟩, .string ⟨#[105, 115, 99, 111, 110]⟩, .string ⟨#[105, 115, 110, 117, 109]⟩, .string ⟨#[97, 100, 100]⟩, .string ⟨#[115, 117, 98]⟩, .string ⟨#[109, 117, 108]⟩, .string ⟨#[108, 101, 115, 115]⟩, .string ⟨#[115, 97, 109, 101]⟩, .string ⟨#[112, 117, 116]⟩, .string ⟨#[122, 101, 114, 111]⟩, .string ⟨#[106, 117, 109, 112]⟩, .string ⟨#[115, 108, 105, 100, 101]⟩, .string ⟨#[102, 97, 105, 108]⟩] 9) = w' := by
  go_enter Try.func66, Try.ntmps66
  go_wp2_with fail
  go_ret
  exact ⟨rfl, rfl⟩

theorem implOpText (c n m : Int) (w : World) (hn1 : -9223372036854775808 ≤ n) (hn2 : n ≤ 9223372036854775807) (hm1 : -9223372036854775808 ≤ m) (hm2 : m ≤ 9223372036854775807) :
    Calls Try.prog 19 #[.agg #[.int .i64 c, .int .i64 n, .int .i64 m]] w fun e w' => e = .returned (.string (opTextB c n m)) ∧ Below w.heap.size w w' := by
  have E : Below w.heap.size w (w.alloc (.cells #[.int .i64 c, .int .i64 n, .int .i64 m] 28)) := (Below.refl _ _).alloc (Nat.le_refl _) _
  by_cases hc : 1 ≤ c ∧ c ≤ 21
  rotate_left
  · have hv := Lib.hid (show opTextB c n m = ⟨#[]⟩ from if_neg hc)
    have hb := inB_false hc
    clear hc
    go_enter Try.func19, Try.ntmps19
    go_wp2_with fail
    refine (implWithin c 1 21 _).mono ?_
    rintro e w1 ⟨rfl, rfl⟩
    go_wp2_with fail
    go_ret
    exact ⟨ret_str hv.out.symm, E⟩
  have hv := Lib.hid (show opTextB c n m = (opNames.getD (c - 1).toNat ⟨#[]⟩) ++ ⟨#[32]⟩ ++ digI n ++ ⟨#[32]⟩ ++ digI m from if_pos hc)
  have hb := inB_true hc
  have z0 := opNames_size (c - 1).toNat
  have z1 := digI_size n hn1 hn2
  have z2 := digI_size m hm1 hm2
  obtain ⟨h1, h2⟩ := hc
  have h3 : 0 ≤ c - 1 := by omega
  have h4 : c - 1 < 21 := by omega
  have hat := opNames_at c h1 h2
  generalize opNames.getD (c - 1).toNat ⟨#[]⟩ = nm at *
  have zz1 : ¬ 9223372036854775807 < nm.size + 1 := by omega
  have zz2 : ¬ 9223372036854775807 < nm.size + 1 + (digI n).size := by omega
  have zz3 : ¬ 9223372036854775807 < nm.size + 1 + (digI n).size + 1 := by omega
  have zz4 : ¬ 9223372036854775807 < nm.size + 1 + (digI n).size + 1 + (digI m).size := by omega
  have hE := Lib.hid (E.alloc (o := .cells #[.string ⟨#[110, 117, 109]⟩, .string ⟨#[108, 111, 99, 97, 108]⟩, .string ⟨#[102, 114, 101, 101]⟩, .string ⟨#[115, 101, 108, 102]⟩, .string ⟨#[99, 108, 111, 115]⟩, .string ⟨#[99, 97, 108, 108]⟩, .string ⟨#[114, 101, 116]⟩, .string ⟨#[99, 111, 110]⟩, .string ⟨#[102, 105, 101, 108, 100]⟩, .string ⟨#[105, 115, 99, 111, 110]⟩, .string ⟨#[105, 115, 110, 117, 109]⟩, .string ⟨#[97, 100, 100]⟩, .string ⟨#[115, 117, 98]⟩, .string ⟨#[109, 117, 108]⟩, .string ⟨#[108, 101, 115, 115]⟩, .string ⟨#[115, 97, 109, 101]⟩, .string ⟨#[112, 117, 116]⟩, .string ⟨#[122, 101, 114, 111]⟩, .string ⟨#[106, 117, 109, 112]⟩, .string ⟨#[115, 108, 105, 100, 101]⟩, .string ⟨#[102, 97, 105, 108]⟩] 9) E.size)
  have Ra := Lib.hid ((Row.new w 28 #[.int .i64 c, .int .i64 n, .int .i64 m]).alloc (.cells #[.string ⟨#[110, 117, 109]⟩, .string ⟨#[108, 111, 99, 97, 108]⟩, .string ⟨#[102, 114, 101, 101]⟩, .string ⟨#[115, 101, 108, 102]⟩, .string ⟨#[99, 108, 111, 115]⟩, .string ⟨#[99, 97, 108, 108]⟩, .string ⟨#[114, 101, 116]⟩, .string ⟨#[99, 111, 110]⟩, .string ⟨#[102, 105, 101, 108, 100]⟩, .string ⟨#[105, 115, 99, 111, 110]⟩, .string ⟨#[105, 115, 110, 117, 109]⟩, .string ⟨#[97, 100, 100]⟩, .string ⟨#[115, 117, 98]⟩, .string ⟨#[109, 117, 108]⟩, .string ⟨#[108, 101, 115, 115]⟩, .string ⟨#[115, 97, 109, 101]⟩, .string ⟨#[112, 117, 116]⟩, .string ⟨#[122, 101, 114, 111]⟩, .string ⟨#[106, 117, 109, 112]⟩, .string ⟨#[115, 108, 105, 100, 101]⟩, .string ⟨#[102, 97, 105, 108]⟩] 9))
  go_enter Try.func19, Try.ntmps19
  go_wp2_with fail
  refine (implWithin c 1 21 _).mono ?_
  rintro e w1 ⟨rfl, rfl⟩
  go_wp2_with fail
  obtain ⟨w2, e2⟩ : ∃ w2, w2 = ((w.alloc (.cells #[.int .i64 c, .int .i64 n, .int .i64 m] 28)).alloc (.cells #[.string ⟨#[110, 117, 109]⟩, .string ⟨#[108, 111, 99, 97, 108]⟩, .string ⟨#[102, 114, 101, 101]⟩, .string ⟨#[115, 101, 108, 102]⟩, .string ⟨#[99, 108, 111, 115]⟩, .string ⟨#[99, 97, 108, 108]⟩, .string ⟨#[114, 101, 116]⟩, .string ⟨#[99, 111, 110]⟩, .string ⟨#[102, 105, 101, 108, 100]⟩, .string ⟨#[105, 115, 99, 111, 110]⟩, .string ⟨#[105, 115, 110, 117, 109]⟩, .string ⟨#[97, 100, 100]⟩, .string ⟨#[115, 117, 98]⟩, .string ⟨#[109, 117, 108]⟩, .string ⟨#[108, 101, 115, 115]⟩, .string ⟨#[115, 97, 109, 101]⟩, .string ⟨#[112, 117, 116]⟩, .string ⟨#[122, 101, 114, 111]⟩, .string ⟨#[106, 117, 109, 112]⟩, .string ⟨#[115, 108, 105, 100, 101]⟩, .string ⟨#[102, 97, 105, 108]⟩] 9)) := ⟨_, rfl⟩
  rw [← e2]
  rw [← e2] at Ra hE
  clear e2 hat
  have hca : ∀ i, w2.drew.cell? ⟨w.heap.size, i, none⟩ = (#[.int .i64 c, .int .i64 n, .int .i64 m] : Array Value)[i]? := fun i => Ra.out.cell i
  go_region_held3 (fun w' => ∀ i, w'.cell? ⟨w.heap.size, i, none⟩ = (#[.int .i64 c, .int .i64 n, .int .i64 m] : Array Value)[i]?) (first | exact hca)
    (first
    | (go_at_call_of 53 n
       refine (implDigits' n _ hn1 hn2).mono ?_
       rintro e w3 ⟨rfl, rfl⟩)
    | (go_at_call_of 53 m
       refine (implDigits' m _ hm1 hm2).mono ?_
       rintro e w3 ⟨rfl, rfl⟩))
  go_wp2_with fail
  go_ret
  exact ⟨ret_str hv.out.symm, hE.out.drew⟩

end Go.Proofs.Ytdcchfpgpdekmaa
