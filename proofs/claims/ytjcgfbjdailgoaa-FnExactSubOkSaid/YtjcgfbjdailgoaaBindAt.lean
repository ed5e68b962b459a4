/- The place of a var's bind, in both. Conditions: none. -/
import Derived.Test.YtjcgfbjdailgoaaABind
import Derived.Test.YtjcgfbjdailgoaaFBind
namespace Go.Proofs.Ytjcgfbjdailgoaa
open Go.RowKit
set_option linter.unusedVariables false
set_option linter.unusedSimpArgs false
set_option maxHeartbeats 1000000

theorem specBindAt (l : List GBind) (A : Option Addr) (c : Nat) (n : Int) (w : World) (hs : Sl w (Lt w.heap.size) 5 A c (l.map GBind.toD)) :
    Calls Try.prog 138 #[.slice A l.length c, .int .i64 n] w fun e w' => e = .returned (.int .i64 (idxI (fun b : GBind => b.n == n) l)) ∧ Below w.heap.size w w' := by
  have hlen : l.length ≤ 9223372036854775807 := by simpa using hs.len
  have S0 := Lib.hid hs
  clear hs
  go_enter Try.func138, Try.ntmps138
  go_wp2_with fail
  go_loopw [5] (fun i wr => ∃ (j : Nat), j ≤ l.length ∧ i = .int .i64 j ∧ Hid (noneTo (fun b : GBind => b.n == n) l j) ∧ Below w.heap.size w wr) (fun i _ => l.length - (intOf i).toNat)
  case atStart => exact ⟨0, by omega, by go_num, Lib.hid (noneTo_zero _ _), Below.refl _ _⟩
  case round =>
    obtain ⟨j, hj, rfl, HN, hbl⟩ := hrel
    by_cases hlt : j < l.length
    · obtain ⟨b, off, A1, c1, rfl, hSb, g0, _, _, _, _, _⟩ := GBind.elem (S0.out.below hbl (Nat.le_refl _)) j hlt
      cases he : ((l[j]).n == n) with
      | true =>
        have HV := Lib.hid (idxI_at HN.out hlt he)
        go_wp2_with fail
        go_ret
        exact ⟨ret_int HV.out.symm, hbl⟩
      | false =>
        have HN2 := Lib.hid (noneTo_succ HN.out hlt he)
        go_wp2_with fail
        go_roundw
        case rel => exact ⟨j + 1, by omega, by go_num, HN2, hbl⟩
        case measure => simp [intOf]; omega
    · have hjl : j = l.length := by omega
      have HV := Lib.hid (idxI_none (hjl ▸ HN.out))
      clear hjl
      go_wp2_with fail
      go_ret
      exact ⟨ret_int HV.out.symm, hbl⟩

theorem implBindAt1 (n : Int) (b : Nat) (x : GBind) (A1 : Option Addr) (c1 : Nat) (w : World) (hc : w.cell? ⟨b, 0, none⟩ = some (.int .i64 n)) (hb : b < w.heap.size) :
    Calls Try.prog 218 #[.agg #[.int .i64 x.n, .int .i64 x.ty.op, .int .i64 x.ty.n, .string x.ty.s, .slice A1 x.ty.kids.length c1], .pointer (some ⟨b, 0, none⟩)] w fun e w' => e = .returned (.bool (x.n == n)) ∧ Below w.heap.size w w' := by
  have E : Below w.heap.size w (w.alloc (.cells #[.int .i64 x.n, .int .i64 x.ty.op, .int .i64 x.ty.n, .string x.ty.s, .slice A1 x.ty.kids.length c1] 197)) := (Below.refl _ _).alloc (Nat.le_refl _) _
  have hc2 := (E.cell (p := ⟨b, 0, none⟩) hb).trans hc
  go_enter Try.func218, Try.ntmps218
  go_wp2_with fail
  go_ret
  exact ⟨rfl, E⟩

theorem implBindAt (l : List GBind) (A : Option Addr) (c : Nat) (n : Int) (w : World) (hs : Sl w (Lt w.heap.size) 5 A c (l.map GBind.toD)) :
    Calls Try.prog 142 #[.slice A l.length c, .int .i64 n] w fun e w' => e = .returned (.int .i64 (idxI (fun b : GBind => b.n == n) l)) ∧ Below w.heap.size w w' := by
  have E0 := Lib.hid (show Below w.heap.size w (w.alloc (.cells #[.int .i64 n] 3)) from (Below.refl _ _).alloc (Nat.le_refl _) _)
  have R0 := Lib.hid (Row.new w 3 #[.int .i64 n])
  have S0 := Lib.hid hs
  clear hs
  go_enter Try.func142, Try.ntmps142
  go_wp2_with fail
  refine (indexFuncBind 218 (enters Try.func218 (by kernel_rfl) (by kernel_rfl)) #[.pointer (some ⟨w.heap.size, 0, none⟩)] (fun x => x.n == n) l A c _ (S0.out.below E0.out E0.out.size)
    (fun x hx A2 c2 w2 hb2 hat2 => by
      have R2 := R0.out.below hb2 R0.out.lt
      exact implBindAt1 n w.heap.size x A2 c2 w2 (R2.cell 0) R2.lt)).mono ?_
  rintro e w2 ⟨rfl, hb2⟩
  go_wp2_with fail
  go_ret
  exact ⟨rfl, E0.out.trans (hb2.mono E0.out.size)⟩

end Go.Proofs.Ytjcgfbjdailgoaa
