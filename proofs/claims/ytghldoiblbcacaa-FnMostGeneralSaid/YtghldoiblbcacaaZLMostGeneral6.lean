/- Texts of the claim LMostGeneral in one: Draw DrawTy UniR UniT Gov UniCopy UniPut. Conditions: none but bounds on sizes. -/
import Derived.Test.YtghldoiblbcacaaRows
import Derived.Test.YtghldoiblbcacaaZLMostGeneral0
import Derived.Test.YtghldoiblbcacaaZLMostGeneral5
import Derived.Lib.Hide
import Derived.Deep.RegionHeld3
import Derived.Test.YtghldoiblbcacaaZLMostGeneral1
import Derived.Test.YtghldoiblbcacaaZLMostGeneral4
import Derived.Test.YtghldoiblbcacaaZLMostGeneral2
import Derived.Test.YtghldoiblbcacaaZLMostGeneral3
import Derived.Deep.RegionLaw
/- The cursor with which the laws draw their inputs from a row of bytes. Conditions: none. -/
namespace Go.Proofs.Ytghldoiblbcacaa
open Go.ChangeShapes Go.WideShapes Go.ChangeAt Go.RowKit Go.Deep
set_option linter.unusedVariables false
set_option linter.unusedSimpArgs false
set_option maxHeartbeats 1000000

theorem i64_and255 (n : Int) : bits .and .i64 n 255 = n % 256 := by
  have h127 : (BitVec.ofInt 64 255).toNat = 2 ^ 8 - 1 := by decide
  have key : (BitVec.ofInt 64 n &&& BitVec.ofInt 64 255).toNat = (n % ((2 ^ 64 : Nat) : Int)).toNat % 2 ^ 8 := by
    rw [BitVec.toNat_and, BitVec.toNat_ofInt, h127, Nat.and_two_pow_sub_one_eq_mod]
  show IntKind.i64.wrap ((BitVec.ofInt 64 n &&& BitVec.ofInt 64 255).toNat : Nat) = n % 256
  rw [key, IntKind.wrap_i64]
  omega

theorem i64_and30 (n : Int) : bits .and .i64 n 1073741823 = n % 1073741824 := by
  have h127 : (BitVec.ofInt 64 1073741823).toNat = 2 ^ 30 - 1 := by decide
  have key : (BitVec.ofInt 64 n &&& BitVec.ofInt 64 1073741823).toNat = (n % ((2 ^ 64 : Nat) : Int)).toNat % 2 ^ 30 := by
    rw [BitVec.toNat_and, BitVec.toNat_ofInt, h127, Nat.and_two_pow_sub_one_eq_mod]
  show IntKind.i64.wrap ((BitVec.ofInt 64 n &&& BitVec.ofInt 64 1073741823).toNat : Nat) = n % 1073741824
  rw [key, IntKind.wrap_i64]
  omega

theorem wf8 {a : Int} (h : (Lit.int .u8 a).wf = true) : 0 ≤ a ∧ a ≤ 255 := by
  simpa [Lit.wf, IntKind.min, IntKind.max, IntKind.signed, IntKind.bits] using h

/-- an element of a row of bytes -/
theorem byteElem {w : World} {S : Nat → Prop} {A : Option Addr} {c : Nat} {l : List Int} (h : Sl w S 1 A c (l.map (D.num .u8))) (i : Nat) (hi : i < l.length) :
    ∃ b off, A = some ⟨b, off, none⟩ ∧ S b ∧ w.cell? ⟨b, off + i, none⟩ = some (.int .u8 l[i]) ∧ 0 ≤ l[i] ∧ l[i] ≤ 255 := by
  obtain ⟨b, off, cs, e, hb, hl, hc, hr⟩ := Sl.get h i (by simpa using hi)
  rw [List.getElem_map] at hr
  obtain ⟨rfl, h1⟩ := D.rd_num.1 hr
  have h2 := hc 0 _ rfl
  rw [Nat.mul_one, Nat.add_zero] at h2
  exact ⟨b, off, e, hb, h2, wf8 h1⟩

theorem open_byte_el {H : Type} {enc : TypeId × Value → H} {P : Program} {w : World} {sp : Nat → Bool} {held : Bool} {e : TypeId} (he : P.underlying e = some (.int .u8)) {n : Nat} {cs : List Value} {x : DataW H × List MemPlace} (h : DataW.trod enc P w 0 sp held n e cs = some x) : ∃ a : Int, (D.num .u8 a).rd w (Lt w.heap.size) cs := by
  obtain ⟨a, rfl, _, hw⟩ := DataW.trod_int he h
  exact ⟨a, D.rd_num.2 ⟨rfl, hw⟩⟩

set_option maxRecDepth 20000 in
/-- an argument that is a row of bytes -/
theorem argBytes {H : Type} {enc : TypeId × Value → H} {w : World} {r : Go.Reach} {base : Nat} {sp : Nat → Bool} {held : Bool} {v : Value} {d : DataW H} {p : List MemPlace} (hv : Value.okWide Try.prog w r base 22 v) (h : DataW.Trod enc Try.prog w 0 sp held 22 v d p) :
    ∃ (l : List Int) (A : Option Addr) (c : Nat), v = .slice A l.length c ∧ Sl w (Lt w.heap.size) 1 A c (l.map (D.num .u8)) := by
  obtain ⟨a, len, cap, rfl⟩ := okWide_slice Try.underlying22 hv
  obtain ⟨fuel, hf⟩ := h
  obtain ⟨l, hl⟩ := open_sl 1 (by decide) Try.underlying22 (by kernel_rfl) (D.num .u8) (fun n2 cs x hn h => open_byte_el Try.underlying5 h) hf
  obtain ⟨A, c, e, hs⟩ := D.rd_sl.1 hl
  simp only [Value.cells, List.cons.injEq, List.length_map, and_true] at e
  exact ⟨l, A, c, e, hs⟩

/-- only block g may have turned -/
structure Turned (g : Nat) (w w' : World) : Prop where
  os : w'.os = w.os
  tape : w'.tape = w.tape
  output : w'.output = w.output
  size : w.heap.size ≤ w'.heap.size
  block : ∀ k, k < w.heap.size → k ≠ g → w'.heap[k]? = w.heap[k]?
theorem Turned.refl (g : Nat) (w : World) : Turned g w w := ⟨rfl, rfl, rfl, Nat.le_refl _, fun _ _ _ => rfl⟩
theorem Turned.trans {g : Nat} {a b c : World} (h : Turned g a b) (k : Turned g b c) : Turned g a c :=
  ⟨k.os.trans h.os, k.tape.trans h.tape, k.output.trans h.output, Nat.le_trans h.size k.size, fun i hi hg => (k.block i (Nat.lt_of_lt_of_le hi h.size) hg).trans (h.block i hi hg)⟩
theorem Turned.setCell {g : Nat} {a w : World} (h : Turned g a w) (i : Nat) (u : Value) : Turned g a (w.setCell ⟨g, i, none⟩ u) :=
  h.trans ⟨rfl, rfl, rfl, by simp [World.setCell], fun k _ hg => Below.heap_setCell _ _ _ _ hg⟩
theorem Turned.drew {g : Nat} {a w : World} (h : Turned g a w) : Turned g a w.drew := ⟨h.os, h.tape, h.output, h.size, h.block⟩
theorem Turned.alloc {g : Nat} {a w : World} (h : Turned g a w) (o : Obj) : Turned g a (w.alloc o) :=
  h.trans ⟨rfl, rfl, rfl, by simp, fun k hk _ => Below.heap_alloc _ _ _ hk⟩
theorem Turned.below {g B : Nat} {w w' : World} (h : Turned g w w') (hB : B ≤ w.heap.size) (hg : B ≤ g) : Below B w w' :=
  ⟨h.os, h.tape, h.output, h.size, fun k hk => h.block k (by omega) (by omega)⟩
theorem Row.turned {g : Nat} {w w' : World} {k : Nat} {t : TypeId} {cs : Array Value} (h : Row w k t cs) (ht : Turned g w w') (hk : k ≠ g) : Row w' k t cs := (ht.block k h.lt hk).trans h

/-- the cursor in block g over the code l -/
structure Cur (l : List Int) (A : Option Addr) (c : Nat) (w : World) (g : Nat) (i : Nat) (h : Int) : Prop where
  row : Row w g 127 #[.slice A l.length c, .int .i64 (i : Int), .int .i64 h]
  le : i ≤ l.length
  fit : -9223372036854775808 ≤ h ∧ h ≤ 9223372036854775807
  code : Sl w (Lt g) 1 A c (l.map (D.num .u8))

theorem Cur.turned {l : List Int} {A : Option Addr} {c : Nat} {w w' : World} {g i : Nat} {h : Int} (hc : Cur l A c w g i h) {g' : Nat} (ht : Turned g' w w') (hg : g < g') : Cur l A c w' g i h :=
  ⟨hc.row.turned ht (by omega), hc.le, hc.fit, hc.code.keep fun b hb => ⟨hb, ht.block b (Nat.lt_trans hb hc.row.lt) (by unfold Lt at hb; omega)⟩⟩
theorem Cur.below {l : List Int} {A : Option Addr} {c : Nat} {w w' : World} {g i : Nat} {h : Int} (hc : Cur l A c w g i h) {B : Nat} (ht : Below B w w') (hg : g < B) : Cur l A c w' g i h :=
  ⟨hc.row.below ht hg, hc.le, hc.fit, hc.code.keep fun b hb => ⟨hb, ht.block b (by unfold Lt at hb; omega)⟩⟩

/-- a number is drawn -/
def Drawn (l : List Int) (A : Option Addr) (c : Nat) (g : Nat) (P : Int → Prop) (w : World) (e : Ending) (w' : World) : Prop :=
  ∃ (x : Int) (i : Nat) (h : Int), e = .returned (.int .i64 x) ∧ P x ∧ Cur l A c w' g i h ∧ Turned g w w'

theorem wrap_fit (n : Int) : -9223372036854775808 ≤ IntKind.i64.wrap n ∧ IntKind.i64.wrap n ≤ 9223372036854775807 := by
  rw [IntKind.wrap_i64]; omega

theorem drawByte {l : List Int} {A : Option Addr} {c : Nat} {w : World} {g i : Nat} {h : Int} (hc : Cur l A c w g i h) :
    Calls Try.prog 112 #[.pointer (some ⟨g, 0, none⟩)] w (Drawn l A c g (fun x => 0 ≤ x ∧ x ≤ 255) w) := by
  obtain ⟨hrow, hle, hfit, hcode⟩ := hc
  have R0 := Lib.hid hrow
  have c0 := fun i => hrow.cell i
  have f0 := fun i => hrow.frozen i
  have C0 := Lib.hid hcode
  clear hrow hcode
  have H : ∀ n, bits .and .i64 n 255 = n % 256 := i64_and255
  have hln : l.length ≤ 9223372036854775807 := by simpa using C0.out.len
  obtain ⟨h', eh⟩ : ∃ h', h' = wrap64 (wrap64 (h * 6364136223846793005) + 1442695040888963407) := ⟨_, rfl⟩
  have R1 := Lib.hid (show Row (w.setCell ⟨g, 2, none⟩ (.int .i64 h')) g 127 #[.slice A l.length c, .int .i64 (i : Int), .int .i64 h'] from R0.out.set 2 _)
  have c1 : ∀ k, (w.setCell ⟨g, 2, none⟩ (.int .i64 h')).drew.cell? ⟨g, k, none⟩ = (#[.slice A l.length c, .int .i64 (i : Int), .int .i64 h'] : Array Value)[k]? := fun k => R1.out.cell k
  have T1 := Lib.hid ((Turned.refl g w).setCell 2 (.int .i64 h'))
  have fit : -9223372036854775808 ≤ h' ∧ h' ≤ 9223372036854775807 := by rw [eh]; unfold wrap64; omega
  have EH := Lib.hid eh.symm
  have FIT := Lib.hid fit
  clear eh fit
  by_cases hi : i < l.length
  · obtain ⟨b, off, rfl, hb, hcell, hb0, hb1⟩ := byteElem C0.out i hi
    have hbg : b ≠ g := by unfold Lt at hb; omega
    go_enter Try.func112, Try.ntmps112
    go_wp2_with fail
    rw [EH.out]
    have HC := Lib.hid (show (w.setCell ⟨g, 2, none⟩ (.int .i64 h')).cell? ⟨b, off + i, none⟩ = some (.int .u8 l[i]) from (World.cell?_setCell_other _ _ _ _ (fun e => hbg (congrArg Addr.block e).symm)).trans hcell)
    clear hcell c0 f0
    generalize w.setCell ⟨g, 2, none⟩ (.int .i64 h') = w1 at *
    go_region_held3 (fun w' => ∀ k, w'.cell? ⟨g, k, none⟩ = (#[.slice (some ⟨b, off, none⟩) l.length c, .int .i64 (i : Int), .int .i64 h'] : Array Value)[k]?) (first | exact c1) (fail)
    have hx0 : 0 ≤ bits BinOp.xor IntKind.i64 (h' / 8589934592) (h' / 35184372088832) % 256 := by omega
    have hx1 : bits BinOp.xor IntKind.i64 (h' / 8589934592) (h' / 35184372088832) % 256 ≤ 255 := by omega
    generalize bits BinOp.xor IntKind.i64 (h' / 8589934592) (h' / 35184372088832) % 256 = x at *
    go_wp2_with fail
    go_region_held3 (fun w' => ∀ k, w'.cell? ⟨g, k, none⟩ = (#[.slice (some ⟨b, off, none⟩) l.length c, .int .i64 (i : Int), .int .i64 h'] : Array Value)[k]?) (first | exact fun k => R1.out.cell k) (fail)
    go_wp2_with fail
    go_region_held3 (fun w' => (∀ k, w'.cell? ⟨g, k, none⟩ = (#[.slice (some ⟨b, off, none⟩) l.length c, .int .i64 (i : Int), .int .i64 h'] : Array Value)[k]?) ∧ w'.cell? ⟨b, off + i, none⟩ = some (.int .u8 l[i])) (first | exact ⟨fun k => R1.out.cell k, HC.out⟩) (fail)
    have c2 : ∀ k, w1.cell? ⟨g, k, none⟩ = (#[.slice (some ⟨b, off, none⟩) l.length c, .int .i64 (i : Int), .int .i64 h'] : Array Value)[k]? := fun k => R1.out.cell k
    have f2 : ∀ k, w1.frozen? ⟨g, k, none⟩ = false := fun k => R1.out.frozen k
    go_wp2_with fail
    have R2 := Lib.hid (show Row (w1.drew.drew.drew.setCell ⟨g, 1, none⟩ (.int .i64 ((i : Int) + 1))) g 127 #[.slice (some ⟨b, off, none⟩) l.length c, .int .i64 ((i : Int) + 1), .int .i64 h'] from Row.set (w := w1.drew.drew.drew) R1.out 1 _)
    have T2 := Lib.hid (((T1.out.drew.drew.drew).setCell 1 (.int .i64 ((i : Int) + 1))))
    go_ret
    exact ⟨_, i + 1, h', rfl, ⟨Int.emod_nonneg _ (by omega), by omega⟩, ⟨R2.out, hi, FIT.out, C0.out.keep fun k hk => ⟨hk, T2.out.block k (by have := R0.out.lt; unfold Lt at hk; omega) (by unfold Lt at hk; omega)⟩⟩, T2.out⟩
  · go_enter Try.func112, Try.ntmps112
    go_wp2_with fail
    rw [EH.out]
    clear c0 f0
    generalize w.setCell ⟨g, 2, none⟩ (.int .i64 h') = w1 at *
    go_region_held3 (fun w' => ∀ k, w'.cell? ⟨g, k, none⟩ = (#[.slice A l.length c, .int .i64 (i : Int), .int .i64 h'] : Array Value)[k]?) (first | exact c1) (fail)
    have hx0 : 0 ≤ bits BinOp.xor IntKind.i64 (h' / 8589934592) (h' / 35184372088832) % 256 := by omega
    have hx1 : bits BinOp.xor IntKind.i64 (h' / 8589934592) (h' / 35184372088832) % 256 ≤ 255 := by omega
    generalize bits BinOp.xor IntKind.i64 (h' / 8589934592) (h' / 35184372088832) % 256 = x at *
    go_wp2_with fail
    go_region_held3 (fun w' => ∀ k, w'.cell? ⟨g, k, none⟩ = (#[.slice A l.length c, .int .i64 (i : Int), .int .i64 h'] : Array Value)[k]?) (first | exact fun k => R1.out.cell k) (fail)
    go_wp2_with fail
    have T2 := Lib.hid (T1.out.drew.drew)
    go_ret
    exact ⟨_, i, h', rfl, ⟨hx0, hx1⟩, ⟨R1.out, hle, FIT.out, C0.out.keep fun k hk => ⟨hk, T2.out.block k (by have := R0.out.lt; unfold Lt at hk; omega) (by unfold Lt at hk; omega)⟩⟩, T2.out⟩

theorem drawBelow {l : List Int} {A : Option Addr} {c : Nat} {w : World} {g i : Nat} {h : Int} (hc : Cur l A c w g i h) (n : Int) (h1 : 1 ≤ n) (h2 : n ≤ 256) :
    Calls Try.prog 80 #[.pointer (some ⟨g, 0, none⟩), .int .i64 n] w (Drawn l A c g (fun x => 0 ≤ x ∧ x < n) w) := by
  have C0 := Lib.hid hc
  clear hc
  have hn0 : ¬ n ≤ 0 := by omega
  go_enter Try.func80, Try.ntmps80
  go_wp2_with fail
  refine (drawByte C0.out).mono ?_
  rintro e w1 ⟨x, i1, h1', rfl, hx, hc1, ht⟩
  have C1 := Lib.hid hc1
  have T1 := Lib.hid ht
  clear hc1 ht
  obtain ⟨hx0, hx1⟩ := hx
  go_wp2_with fail
  go_ret
  exact ⟨_, i1, h1', rfl, ⟨Int.emod_nonneg _ (by omega), Int.emod_lt_of_pos _ (by omega)⟩, C1.out, T1.out⟩

/-- a cursor is made -/
def NewCur (l : List Int) (A : Option Addr) (c : Nat) (w : World) (e : Ending) (w' : World) : Prop :=
  ∃ (h : Int), e = .returned (.pointer (some ⟨w.heap.size, 0, none⟩)) ∧ Cur l A c w' w.heap.size 0 h ∧ Below w.heap.size w w'

theorem newCur (l : List Int) (A : Option Addr) (c : Nat) (w : World) (hs : Sl w (Lt w.heap.size) 1 A c (l.map (D.num .u8))) (hl : l.length ≤ 1048576) :
    Calls Try.prog 36 #[.slice A l.length c] w (NewCur l A c w) := by
  have S0 := Lib.hid hs
  have H : ∀ n, bits .and .i64 n 1073741823 = n % 1073741824 := i64_and30
  clear hs
  go_enter Try.func36, Try.ntmps36
  go_wp2_with fail
  have hln : l.length ≤ 9223372036854775807 := by omega
  go_loop [3, 4] (fun x i => ∃ (k : Nat) (hv : Int), k ≤ l.length ∧ i = .int .i64 (k : Int) ∧ x = .int .i64 hv ∧ 0 ≤ hv ∧ hv ≤ 1073741823) (fun _ i => l.length - (intOf i).toNat)
  case atStart => exact ⟨0, 21958 + l.length, by omega, by go_num, by go_num, by omega, by omega⟩
  case round =>
    obtain ⟨k, hv, hk, rfl, rfl, hv0, hv1⟩ := hrel
    by_cases hlt : k < l.length
    · by_cases h4 : (k : Int) < 4000
      · obtain ⟨b, off, rfl, hb, hcell, hb0, hb1⟩ := byteElem S0.out k hlt
        go_wp2_with fail
        go_round
        case rel => exact ⟨k + 1, _, by omega, by go_num, rfl, Int.emod_nonneg _ (by omega), by omega⟩
        case measure => simp [intOf]; omega
      · go_wp2_with fail
        go_ret
        exact ⟨hv, rfl, ⟨Row.new _ _ _, Nat.zero_le _, by omega, S0.out.keep fun b hb => ⟨hb, Below.heap_alloc _ _ _ hb⟩⟩, (Below.refl _ _).alloc (Nat.le_refl _) _⟩
    · go_wp2_with fail
      go_ret
      exact ⟨hv, rfl, ⟨Row.new _ _ _, Nat.zero_le _, by omega, S0.out.keep fun b hb => ⟨hb, Below.heap_alloc _ _ _ hb⟩⟩, (Below.refl _ _).alloc (Nat.le_refl _) _⟩

/-- a string is drawn -/
def DrawnS (l : List Int) (A : Option Addr) (c : Nat) (g : Nat) (P : ByteArray → Prop) (w : World) (e : Ending) (w' : World) : Prop :=
  ∃ (x : ByteArray) (i : Nat) (h : Int), e = .returned (.string x) ∧ P x ∧ Cur l A c w' g i h ∧ Turned g w w'

theorem drawPick {l : List Int} {A : Option Addr} {c : Nat} {w : World} {g i : Nat} {h : Int} (hc : Cur l A c w g i h) (vs : List ByteArray) (b : Nat) (hb : b ≠ g) (t : TypeId) (hr : Row w b t (vs.map Value.string).toArray) (h1 : 1 ≤ vs.length) (h2 : vs.length ≤ 256)
    (P : ByteArray → Prop) (hP : ∀ x ∈ vs, P x) :
    Calls Try.prog 113 #[.pointer (some ⟨g, 0, none⟩), .slice (some ⟨b, 0, none⟩) vs.length vs.length] w (DrawnS l A c g P w) := by
  have C0 := Lib.hid hc
  have R0 := Lib.hid hr
  have HP := Lib.hid hP
  clear hc hr hP
  go_enter Try.func113, Try.ntmps113
  go_wp2_with fail
  refine (drawBelow C0.out (vs.length : Int) (by omega) (by omega)).mono ?_
  rintro e w1 ⟨x, i1, h1', rfl, hx, hc1, ht⟩
  obtain ⟨hx0, hx1⟩ := hx
  obtain ⟨n, rfl⟩ := Int.eq_ofNat_of_zero_le hx0
  have hn : n < vs.length := by omega
  have hcell : w1.cell? ⟨b, n, none⟩ = some (.string vs[n]) := ((R0.out.turned ht hb).cell n).trans (by simp [hn])
  have C1 := Lib.hid hc1
  have T1 := Lib.hid ht
  clear hc1 ht
  go_wp2_with fail
  go_ret
  exact ⟨_, i1, h1', rfl, HP.out _ (List.getElem_mem hn), C1.out, T1.out⟩

end Go.Proofs.Ytghldoiblbcacaa

/- A drawn type. Conditions: none. -/
namespace Go.Proofs.Ytghldoiblbcacaa
open Go.RowKit
set_option linter.unusedVariables false
set_option linter.unusedSimpArgs false
set_option maxHeartbeats 1000000

/-- a type is drawn -/
def DrawnT (l : List Int) (A : Option Addr) (c : Nat) (g : Nat) (P : GTy → Prop) (w : World) (e : Ending) (w' : World) : Prop :=
  ∃ (t : GTy) (A1 : Option Addr) (c1 : Nat) (i : Nat) (h : Int), e = .returned (.agg #[.int .i64 t.op, .int .i64 t.n, .string t.s, .slice A1 t.kids.length c1]) ∧ P t ∧ GTy.At w' (Btw w.heap.size w'.heap.size) A1 c1 t ∧ Cur l A c w' g i h ∧ Turned g w w'
/-- as the types that are drawn are -/
def shT : Nat → GTy → Prop
  | 0, t => t.kids = [] ∧ t.op = 1
  | d + 1, t => t.kids.length ≤ 2 ∧ ∀ x, x ∈ t.kids → shT d x
mutual
def GTy.tx : GTy → Bool | .mk _ _ s kids => decide (s.size ≤ 4) && GTy.txL kids
def GTy.txL : List GTy → Bool | [] => true | t :: r => t.tx && GTy.txL r
end
def drT (d : Nat) (t : GTy) : Prop := (t.bulk + 2 ≤ 6 * 2 ^ d ∧ 0 ≤ t.n ∧ t.n < 5) ∧ (∀ n, t.has n = true → 0 ≤ n ∧ n < 5) ∧ shT d t ∧ t.tx = true

theorem setCells_turned (W : World) (r k : Nat) (vs : List Value) : Turned r W (setCells W r k vs) := by
  have h := setCells_below (Below.refl r W) r k (Nat.le_refl _) vs
  exact ⟨h.os, h.tape, h.output, h.size, fun b _ hb => setCells_block W r k vs b hb⟩
theorem drawn_fin {l : List Int} {A : Option Addr} {c g i : Nat} {h : Int} {P : GTy → Prop} {w W : World} {r : Nat} {t : GTy} {A1 : Option Addr} {c1 : Nat} {vs : List Value} (hp : P t) (hc : Cur l A c W g i h) (ht : Turned g w W) (hg : g < w.heap.size) (hr : w.heap.size ≤ r)
    (hat : GTy.At W (fun b => Btw w.heap.size W.heap.size b ∧ b ≠ r) A1 c1 t) : DrawnT l A c g P w (.returned (.agg #[.int .i64 t.op, .int .i64 t.n, .string t.s, .slice A1 t.kids.length c1])) (setCells W r 0 vs) := by
  have T := setCells_turned W r 0 vs
  refine ⟨t, A1, c1, i, h, rfl, hp, hat.keep (fun b hb => ⟨⟨hb.1.1, ?_⟩, setCells_block W r 0 vs b hb.2⟩), hc.turned T (by omega), ⟨T.os.trans ht.os, T.tape.trans ht.tape, T.output.trans ht.output, Nat.le_trans ht.size T.size, fun k hk hkg => (setCells_block W r 0 vs k (by omega)).trans (ht.block k hk hkg)⟩⟩
  rw [setCells_size]; exact hb.1.2
theorem turned_set {g : Nat} {w W : World} (ht : Turned g w W) (r : Nat) (hr : w.heap.size ≤ r) (vs : List Value) : Turned g w (setCells W r 0 vs) := by
  have T := setCells_turned W r 0 vs
  exact ⟨T.os.trans ht.os, T.tape.trans ht.tape, T.output.trans ht.output, Nat.le_trans ht.size T.size, fun k hk hkg => (setCells_block W r 0 vs k (by omega)).trans (ht.block k hk hkg)⟩
theorem drT_leaf {d : Nat} {op n : Int} {s : ByteArray} (hs : s.size ≤ 4) (h : 0 ≤ n ∧ n < 5) (h0 : d = 0 → op = 1 := by intro h; first | rfl | omega) : drT d (.mk op n s []) := by
  have h1 : 1 ≤ 2 ^ d := Nat.one_le_two_pow
  refine ⟨?_, fun m hm => ?_, ?_, ?_⟩
  · have : (GTy.mk op n s []).bulk = s.size := by rw [GTy.bulk_eq]; rfl
    exact ⟨by omega, h⟩
  · rw [GTy.has_eq] at hm
    simp only [GTy.op, GTy.n, GTy.kids, GTy.hasL, Bool.or_false, Bool.and_eq_true, beq_iff_eq] at hm
    rw [← hm.2]; exact h
  · cases d with
    | zero => exact ⟨rfl, h0 rfl⟩
    | succ d => exact ⟨by simp [GTy.kids], fun x hx => by simp [GTy.kids] at hx⟩
  · rw [GTy.tx, GTy.txL, decide_eq_true (by omega)]; rfl
theorem drT_two {d : Nat} {op : Int} {a b : GTy} (ho : ¬ op = 2) (ha : drT d a) (hb : drT d b) : drT (d + 1) (.mk op 0 ⟨#[]⟩ [a, b]) := by
  refine ⟨?_, fun m hm => ?_, ?_, ?_⟩
  · have : (GTy.mk op 0 ⟨#[]⟩ [a, b]).bulk = a.bulk + b.bulk + 2 := by rw [GTy.bulk_eq]; simp only [GTy.s, GTy.kids, bulkL]; have : (ByteArray.mk #[]).size = 0 := rfl; omega
    have h1 := ha.1.1
    have h2 := hb.1.1
    rw [Nat.pow_succ]
    exact ⟨by omega, Int.le_refl 0, (by decide : (0 : Int) < 5)⟩
  · rw [GTy.has_eq] at hm
    simp only [GTy.op, GTy.n, GTy.kids, GTy.hasL, Bool.or_false, Bool.or_eq_true, Bool.and_eq_true, beq_iff_eq] at hm
    rcases hm with hm | hm | hm
    · exact absurd hm.1 ho
    · exact ha.2.1 m hm
    · exact hb.2.1 m hm
  · refine ⟨by simp [GTy.kids], fun x hx => ?_⟩
    have hx2 : x = a ∨ x = b := by simpa [GTy.kids] using hx
    rcases hx2 with rfl | rfl
    · exact ha.2.2.1
    · exact hb.2.2.1
  · rw [GTy.tx, GTy.txL, GTy.txL, GTy.txL, ha.2.2.2, hb.2.2.2]; rfl
theorem drT_one {d : Nat} {op : Int} {s : ByteArray} {a : GTy} (ho : ¬ op = 2) (hs : s.size ≤ 4) (ha : drT d a) : drT (d + 1) (.mk op 0 s [a]) := by
  have h1 : 1 ≤ 2 ^ d := Nat.one_le_two_pow
  refine ⟨?_, fun m hm => ?_, ?_, ?_⟩
  · have : (GTy.mk op 0 s [a]).bulk = s.size + a.bulk + 1 := by rw [GTy.bulk_eq]; simp only [GTy.s, GTy.kids, bulkL]; omega
    have h2 := ha.1.1
    rw [Nat.pow_succ]
    exact ⟨by omega, Int.le_refl 0, (by decide : (0 : Int) < 5)⟩
  · rw [GTy.has_eq] at hm
    simp only [GTy.op, GTy.n, GTy.kids, GTy.hasL, Bool.or_false, Bool.or_eq_true, Bool.and_eq_true, beq_iff_eq] at hm
    rcases hm with hm | hm
    · exact absurd hm.1 ho
    · exact ha.2.1 m hm
  · refine ⟨by simp [GTy.kids], fun x hx => ?_⟩
    have hx2 : x = a := by simpa [GTy.kids] using hx
    subst hx2
    exact ha.2.2.1
  · rw [GTy.tx, GTy.txL, GTy.txL, ha.2.2.2, decide_eq_true (by omega)]; rfl
theorem slTwoTy {w : World} {S : Nat → Prop} {g : Nat} {T : TypeId} {a b : GTy} {A1 A2 : Option Addr} {c1 c2 : Nat} (hr : Row w g T #[.int .i64 a.op, .int .i64 a.n, .string a.s, .slice A1 a.kids.length c1, .int .i64 b.op, .int .i64 b.n, .string b.s, .slice A2 b.kids.length c2]) (ha : GTy.At w S A1 c1 a) (hb : GTy.At w S A2 c2 b) (hg : S g) : Sl w S 4 (some ⟨g, 0, none⟩) 2 ([a, b].map GTy.toD) := by
  refine ⟨by simp, by unfold maxLen; omega, .inr ⟨g, 0, rfl, hg, ?_⟩⟩
  refine rdC_row [a.toD, b.toD] [.int .i64 a.op, .int .i64 a.n, .string a.s, .slice A1 a.kids.length c1, .int .i64 b.op, .int .i64 b.n, .string b.s, .slice A2 b.kids.length c2] 0 (fun j v hj => ?_) ?_
  · rw [Nat.zero_add, hr.cell]; simpa using hj
  · simp only [rdC]
    exact ⟨[.int .i64 a.op, .int .i64 a.n, .string a.s, .slice A1 a.kids.length c1], [.int .i64 b.op, .int .i64 b.n, .string b.s, .slice A2 b.kids.length c2], rfl, rfl, GTy.rd_mk ha, [.int .i64 b.op, .int .i64 b.n, .string b.s, .slice A2 b.kids.length c2], [], rfl, rfl, GTy.rd_mk hb, rfl⟩
theorem slOneTy {w : World} {S : Nat → Prop} {g : Nat} {T : TypeId} {a : GTy} {A1 : Option Addr} {c1 : Nat} (hr : Row w g T #[.int .i64 a.op, .int .i64 a.n, .string a.s, .slice A1 a.kids.length c1]) (ha : GTy.At w S A1 c1 a) (hg : S g) : Sl w S 4 (some ⟨g, 0, none⟩) 1 ([a].map GTy.toD) := by
  refine ⟨by simp, by unfold maxLen; omega, .inr ⟨g, 0, rfl, hg, ?_⟩⟩
  refine rdC_row [a.toD] [.int .i64 a.op, .int .i64 a.n, .string a.s, .slice A1 a.kids.length c1] 0 (fun j v hj => ?_) ?_
  · rw [Nat.zero_add, hr.cell]; simpa using hj
  · simp only [rdC]
    exact ⟨[.int .i64 a.op, .int .i64 a.n, .string a.s, .slice A1 a.kids.length c1], [], rfl, rfl, GTy.rd_mk ha, rfl⟩
theorem leafAt (w : World) (S : Nat → Prop) {op n : Int} {s : ByteArray} (h1 : (Lit.int .i64 op).wf = true) (h2 : (Lit.int .i64 n).wf = true) (h3 : s.size ≤ 4) : GTy.At w S none 0 (.mk op n s []) :=
  ⟨h1, h2, by unfold maxLen; show s.size ≤ _; omega, Sl.nil (by unfold maxLen; omega)⟩
theorem smallWf {n : Int} (h : 0 ≤ n ∧ n < 5) : (Lit.int .i64 n).wf = true := by
  simp [Lit.wf, IntKind.min, IntKind.max, IntKind.signed, IntKind.bits]; omega

set_option maxRecDepth 20000 in
theorem drawTy (d : Nat) : ∀ (dd : Int) {l : List Int} {A : Option Addr} {c : Nat} {w : World} {g i : Nat} {h : Int}, dd = (d : Int) → d ≤ 100 → Cur l A c w g i h →
    Calls Try.prog 81 #[.pointer (some ⟨g, 0, none⟩), .int .i64 dd] w (DrawnT l A c g (drT d) w) := by
  induction d with
  | zero =>
    intro dd l A c w g i h hdd hd hc
    have hg := hc.row.lt
    have C0 := Lib.hid hc
    have h0 : (dd == 0) = true := by rw [hdd]; rfl
    have CF := Lib.hid (hc.below ((Below.refl w.heap.size w).alloc (Nat.le_refl _) (.cells #[.int .i64 1, .int .i64 0, .string ⟨#[]⟩, .slice none 0 0] 27)) hg)
    clear hc hdd
    go_enter Try.func81, Try.ntmps81
    go_wp2_with fail
    exact bodyPost_ret (v := .agg #[.int .i64 1, .int .i64 0, .string ⟨#[]⟩, .slice none 0 0]) (by simp [results, Try.results81, go_sem]) rfl ⟨.mk 1 0 ⟨#[]⟩ [], none, 0, i, h, rfl, drT_leaf (by decide) (by omega), leafAt _ _ (by decide) (by decide) (by decide), CF.out, (Turned.refl _ _).alloc _⟩
  | succ d ih =>
    intro dd l A c w g i h hdd hd hc
    have hg := hc.row.lt
    have h0 : (dd == 0) = false := by rw [beq_eq_false_iff_ne, hdd]; omega
    have hwd : IntKind.i64.wrap (dd - 1) = dd - 1 := by rw [IntKind.wrap_i64]; omega
    have hIH := Lib.hid (fun (w2 : World) (i2 : Nat) (h2 : Int) (hc2 : Cur l A c w2 g i2 h2) => ih (dd - 1) (by omega) (by omega) hc2)
    have E0 := Lib.hid (show Below w.heap.size w (w.alloc (.cells #[.int .i64 0, .int .i64 0, .string ⟨#[]⟩, .slice none 0 0] 27)) from (Below.refl _ _).alloc (Nat.le_refl _) _)
    have C0 := Lib.hid (hc.below E0.out hg)
    have R0 := Lib.hid (Row.new w 27 #[.int .i64 0, .int .i64 0, .string ⟨#[]⟩, .slice none 0 0])
    have T0 := Lib.hid ((Turned.refl g w).alloc (.cells #[.int .i64 0, .int .i64 0, .string ⟨#[]⟩, .slice none 0 0] 27))
    have hgr : w.heap.size ≠ g := by omega
    clear hc hdd ih hd
    go_enter Try.func81, Try.ntmps81
    go_wp2_with fail
    refine (drawBelow C0.out 6 (by omega) (by omega)).mono ?_
    rintro e w1 ⟨x, i1, h1, rfl, hx, hc1, ht1⟩
    have C1 := Lib.hid hc1
    have T1 := Lib.hid (T0.out.trans ht1)
    have R1 := Lib.hid (R0.out.turned ht1 hgr)
    clear hc1 ht1
    have hl1 := R1.out.lt
    by_cases x0 : x = 0
    · have y0 : (x == 0) = true := beq_iff_eq.2 x0
      clear x0 hx
      go_wp2_with fail
      refine (hIH.out _ _ _ C1.out).mono ?_
      rintro e w2 ⟨ta, Aa, ca, i2, h2, rfl, pa, ata, hc2, ht2⟩
      have C2 := Lib.hid hc2
      have T2 := Lib.hid (T1.out.trans ht2)
      have R2 := Lib.hid (R1.out.turned ht2 hgr)
      have hl2 := R2.out.lt
      have AA := Lib.hid ata
      have PA := Lib.hid pa
      have hs12 := ht2.size
      clear hc2 ht2 ata pa
      have EA := Lib.hid (show Below w2.heap.size w2 (w2.alloc (.cells #[.int .i64 ta.op, .int .i64 ta.n, .string ta.s, .slice Aa ta.kids.length ca] 27)) from (Below.refl _ _).alloc (Nat.le_refl _) _)
      have CA := Lib.hid (C2.out.below EA.out C2.out.row.lt)
      have RA := Lib.hid (Row.new w2 27 #[.int .i64 ta.op, .int .i64 ta.n, .string ta.s, .slice Aa ta.kids.length ca])
      have hg2 : w2.heap.size ≠ g := by omega
      go_wp2_with fail
      refine (hIH.out _ _ _ CA.out).mono ?_
      rintro e w3 ⟨tb, Ab, cb, i3, h3, rfl, pb, atb, hc3, ht3⟩
      have T3 := Lib.hid ((T2.out.alloc (.cells #[.int .i64 ta.op, .int .i64 ta.n, .string ta.s, .slice Aa ta.kids.length ca] 27)).trans ht3)
      have R3 := Lib.hid ((R2.out.below EA.out hl2).turned ht3 hgr)
      have RA3 := Lib.hid (RA.out.turned ht3 hg2)
      have hs23 : w2.heap.size + 1 ≤ w3.heap.size := by have := ht3.size; simpa using this
      have hl3 := R3.out.lt
      have hla3 := RA3.out.lt
      have AA3 := Lib.hid (AA.out.keep (w' := w3) (S' := fun b => Btw w.heap.size w3.heap.size b ∧ b ≠ w.heap.size) (fun b hb => ⟨⟨⟨by have := hb.1; omega, by have := hb.2; omega⟩, by have := hb.1; omega⟩, (ht3.block b (by simp; have := hb.2; omega) (by have := hb.1; omega)).trans (EA.out.block b hb.2)⟩))
      have AB3 := Lib.hid (atb.keep (w' := w3) (S' := fun b => Btw w.heap.size w3.heap.size b ∧ b ≠ w.heap.size) (fun b hb => ⟨⟨⟨by have := hb.1; simp at this; omega, hb.2⟩, by have := hb.1; simp at this; omega⟩, rfl⟩))
      obtain ⟨V, eV⟩ : ∃ V, V = setCells w3 w.heap.size 0 [.int .i64 3, .int .i64 0, .string ⟨#[]⟩, .slice (some ⟨w3.heap.size + 1, 0, none⟩) 2 2] := ⟨_, rfl⟩
      have TV := Lib.hid (show Turned w.heap.size w3 V by rw [eV]; exact setCells_turned _ _ _ _)
      have SV : V.heap.size = w3.heap.size := by rw [eV, setCells_size]
      have RV := Lib.hid (show Row V w.heap.size 27 #[.int .i64 3, .int .i64 0, .string ⟨#[]⟩, .slice (some ⟨w3.heap.size + 1, 0, none⟩) 2 2] by rw [eV]; exact (((R3.out.set 0 _).set 1 _).set 2 _).set 3 _)
      have CV := Lib.hid (hc3.turned TV.out (by omega))
      have TGV := Lib.hid (show Turned g w V by rw [eV]; exact turned_set T3.out w.heap.size (Nat.le_refl _) _)
      obtain ⟨W, eW⟩ : ∃ W, W = (V.alloc (.cells #[.int .i64 tb.op, .int .i64 tb.n, .string tb.s, .slice Ab tb.kids.length cb] 27)).alloc (.cells #[.int .i64 ta.op, .int .i64 ta.n, .string ta.s, .slice Aa ta.kids.length ca, .int .i64 tb.op, .int .i64 tb.n, .string tb.s, .slice Ab tb.kids.length cb] 27) := ⟨_, rfl⟩
      have EW := Lib.hid (show Below V.heap.size V W by rw [eW]; exact ((Below.refl _ _).alloc (Nat.le_refl _) _).alloc (by simp) _)
      have RW := Lib.hid (show Row W (w3.heap.size + 1) 27 #[.int .i64 ta.op, .int .i64 ta.n, .string ta.s, .slice Aa ta.kids.length ca, .int .i64 tb.op, .int .i64 tb.n, .string tb.s, .slice Ab tb.kids.length cb] by rw [eW, ← SV]; exact Row.new' _ _ _ (by simp))
      have RR := Lib.hid (RV.out.below EW.out (by omega))
      have CW := Lib.hid (CV.out.below EW.out CV.out.row.lt)
      have TW := Lib.hid (show Turned g w W by rw [eW]; exact (TGV.out.alloc _).alloc _)
      have hsW : W.heap.size = w3.heap.size + 2 := by rw [eW]; simp [SV]
      have hvl : w.heap.size < w3.heap.size := by omega
      have hca := fun i => RA3.out.cell i
      have AA4 := Lib.hid (AA3.out.keep (w' := W) (S' := Btw w.heap.size W.heap.size) (fun b hb => ⟨⟨hb.1.1, by have := hb.1.2; omega⟩, (EW.out.block b (by have := hb.1.2; omega)).trans (TV.out.block b hb.1.2 hb.2)⟩))
      have AB4 := Lib.hid (AB3.out.keep (w' := W) (S' := Btw w.heap.size W.heap.size) (fun b hb => ⟨⟨hb.1.1, by have := hb.1.2; omega⟩, (EW.out.block b (by have := hb.1.2; omega)).trans (TV.out.block b hb.1.2 hb.2)⟩))
      have FIN := Lib.hid (show DrawnT l A c g (drT (d + 1)) w (.returned (.agg #[.int .i64 3, .int .i64 0, .string ⟨#[]⟩, .slice (some ⟨w3.heap.size + 1, 0, none⟩) 2 2])) W from ⟨.mk 3 0 ⟨#[]⟩ [ta, tb], some ⟨w3.heap.size + 1, 0, none⟩, 2, _, _, rfl, drT_two (by decide) PA.out pb, ⟨show (Lit.int .i64 3).wf = true by decide, show (Lit.int .i64 0).wf = true by decide, show (ByteArray.mk #[]).size ≤ maxLen by decide, slTwoTy RW.out AA4.out AB4.out ⟨by omega, by omega⟩⟩, CW.out, TW.out⟩)
      have EQW := Lib.hid (show W = (((((w3.setCell ⟨w.heap.size, 0, none⟩ (.int .i64 3)).setCell ⟨w.heap.size, 1, none⟩ (.int .i64 0)).setCell ⟨w.heap.size, 2, none⟩ (.string ⟨#[]⟩)).setCell ⟨w.heap.size, 3, none⟩ (.slice (some ⟨w3.heap.size + 1, 0, none⟩) 2 2)).alloc (.cells #[.int .i64 tb.op, .int .i64 tb.n, .string tb.s, .slice Ab tb.kids.length cb] 27)).alloc (.cells #[.int .i64 ta.op, .int .i64 ta.n, .string ta.s, .slice Aa ta.kids.length ca, .int .i64 tb.op, .int .i64 tb.n, .string tb.s, .slice Ab tb.kids.length cb] 27) by rw [eW, eV]; rfl)
      have hcz0 := fun i => R3.out.cell i
      have hfz := fun i => R3.out.frozen i
      clear hc3 ht3 atb pb eW eV TW CW TV CV TGV
      go_wp2_with fail
      rw [← EQW.out]
      have hcz := fun i => RR.out.cell i
      exact bodyPost_ret (v := .agg #[.int .i64 3, .int .i64 0, .string ⟨#[]⟩, .slice (some ⟨w3.heap.size + 1, 0, none⟩) 2 2]) (by simp [results, Try.results81, go_sem, hcz, hca]) rfl FIN.out
    by_cases x1 : x = 1
    · have y0 : (x == 0) = false := beq_eq_false_iff_ne.2 (by omega)
      have y1 : (x == 1) = true := beq_iff_eq.2 x1
      clear x0 x1 hx
      go_wp2_with fail
      refine (hIH.out _ _ _ C1.out).mono ?_
      rintro e w2 ⟨ta, Aa, ca, i2, h2, rfl, pa, ata, hc2, ht2⟩
      have C2 := Lib.hid hc2
      have T2 := Lib.hid (T1.out.trans ht2)
      have R2 := Lib.hid (R1.out.turned ht2 hgr)
      have hl2 := R2.out.lt
      have AA := Lib.hid ata
      have PA := Lib.hid pa
      have hs12 := ht2.size
      clear hc2 ht2 ata pa
      obtain ⟨V, eV⟩ : ∃ V, V = setCells w2 w.heap.size 0 [.int .i64 4, .int .i64 0, .string ⟨#[76, 105, 115, 116]⟩, .slice (some ⟨w2.heap.size + 1, 0, none⟩) 1 1] := ⟨_, rfl⟩
      have TV := Lib.hid (show Turned w.heap.size w2 V by rw [eV]; exact setCells_turned _ _ _ _)
      have SV : V.heap.size = w2.heap.size := by rw [eV, setCells_size]
      have RV := Lib.hid (show Row V w.heap.size 27 #[.int .i64 4, .int .i64 0, .string ⟨#[76, 105, 115, 116]⟩, .slice (some ⟨w2.heap.size + 1, 0, none⟩) 1 1] by rw [eV]; exact (((R2.out.set 0 _).set 1 _).set 2 _).set 3 _)
      have CV := Lib.hid (C2.out.turned TV.out (by omega))
      have TGV := Lib.hid (show Turned g w V by rw [eV]; exact turned_set T2.out w.heap.size (Nat.le_refl _) _)
      obtain ⟨W, eW⟩ : ∃ W, W = (V.alloc (.cells #[.int .i64 ta.op, .int .i64 ta.n, .string ta.s, .slice Aa ta.kids.length ca] 27)).alloc (.cells #[.int .i64 ta.op, .int .i64 ta.n, .string ta.s, .slice Aa ta.kids.length ca] 27) := ⟨_, rfl⟩
      have EW := Lib.hid (show Below V.heap.size V W by rw [eW]; exact ((Below.refl _ _).alloc (Nat.le_refl _) _).alloc (by simp) _)
      have RW := Lib.hid (show Row W (w2.heap.size + 1) 27 #[.int .i64 ta.op, .int .i64 ta.n, .string ta.s, .slice Aa ta.kids.length ca] by rw [eW, ← SV]; exact Row.new' _ _ _ (by simp))
      have RR := Lib.hid (RV.out.below EW.out (by omega))
      have CW := Lib.hid (CV.out.below EW.out CV.out.row.lt)
      have TW := Lib.hid (show Turned g w W by rw [eW]; exact (TGV.out.alloc _).alloc _)
      have hsW : W.heap.size = w2.heap.size + 2 := by rw [eW]; simp [SV]
      have hvl : w.heap.size < w2.heap.size := by omega
      have hca : True := trivial
      have AA4 := Lib.hid (AA.out.keep (w' := W) (S' := Btw w.heap.size W.heap.size) (fun b hb => ⟨⟨by have := hb.1; omega, by have := hb.2; omega⟩, (EW.out.block b (by have := hb.2; omega)).trans (TV.out.block b hb.2 (by have := hb.1; omega))⟩))
      have FIN := Lib.hid (show DrawnT l A c g (drT (d + 1)) w (.returned (.agg #[.int .i64 4, .int .i64 0, .string ⟨#[76, 105, 115, 116]⟩, .slice (some ⟨w2.heap.size + 1, 0, none⟩) 1 1])) W from ⟨.mk 4 0 ⟨#[76, 105, 115, 116]⟩ [ta], some ⟨w2.heap.size + 1, 0, none⟩, 1, _, _, rfl, drT_one (by decide) (by decide) PA.out, ⟨show (Lit.int .i64 4).wf = true by decide, show (Lit.int .i64 0).wf = true by decide, show (ByteArray.mk #[76, 105, 115, 116]).size ≤ maxLen by decide, slOneTy RW.out AA4.out ⟨by omega, by omega⟩⟩, CW.out, TW.out⟩)
      have EQW := Lib.hid (show W = (((((w2.setCell ⟨w.heap.size, 0, none⟩ (.int .i64 4)).setCell ⟨w.heap.size, 1, none⟩ (.int .i64 0)).setCell ⟨w.heap.size, 2, none⟩ (.string ⟨#[76, 105, 115, 116]⟩)).setCell ⟨w.heap.size, 3, none⟩ (.slice (some ⟨w2.heap.size + 1, 0, none⟩) 1 1)).alloc (.cells #[.int .i64 ta.op, .int .i64 ta.n, .string ta.s, .slice Aa ta.kids.length ca] 27)).alloc (.cells #[.int .i64 ta.op, .int .i64 ta.n, .string ta.s, .slice Aa ta.kids.length ca] 27) by rw [eW, eV]; rfl)
      have hcz0 := fun i => R2.out.cell i
      have hfz := fun i => R2.out.frozen i
      clear eW eV TW CW TV CV TGV
      go_wp2_with fail
      rw [← EQW.out]
      have hcz := fun i => RR.out.cell i
      exact bodyPost_ret (v := .agg #[.int .i64 4, .int .i64 0, .string ⟨#[76, 105, 115, 116]⟩, .slice (some ⟨w2.heap.size + 1, 0, none⟩) 1 1]) (by simp [results, Try.results81, go_sem, hcz, hca]) rfl FIN.out
    by_cases x2 : x = 2
    · have y0 : (x == 0) = false := beq_eq_false_iff_ne.2 (by omega)
      have y1 : (x == 1) = false := beq_eq_false_iff_ne.2 (by omega)
      have y2 : (x == 2) = true := beq_iff_eq.2 x2
      clear x0 x1 x2 hx
      obtain ⟨wp, ep⟩ : ∃ wp, wp = w1.alloc (.cells #[.string ⟨#[66, 111, 111, 108]⟩, .string ⟨#[78, 97, 116]⟩] 9) := ⟨_, rfl⟩
      have EP := Lib.hid (show Below w1.heap.size w1 wp by rw [ep]; exact (Below.refl _ _).alloc (Nat.le_refl _) _)
      have RP := Lib.hid (show Row wp w1.heap.size 9 #[.string ⟨#[66, 111, 111, 108]⟩, .string ⟨#[78, 97, 116]⟩] by rw [ep]; exact Row.new' _ _ _ rfl)
      have CP := Lib.hid (C1.out.below EP.out C1.out.row.lt)
      have TP := Lib.hid (show Turned g w wp by rw [ep]; exact T1.out.alloc _)
      have HPK := Lib.hid (drawPick CP.out [⟨#[66, 111, 111, 108]⟩, ⟨#[78, 97, 116]⟩] w1.heap.size (by have := C1.out.row.lt; omega) 9 RP.out (by decide) (by decide) (fun s => s.size ≤ 4) (fun s hs => by
        rcases List.mem_cons.1 hs with rfl | hs
        · decide
        · rw [List.mem_singleton.1 hs]; decide))
      have R1p := Lib.hid (R1.out.below EP.out hl1)
      have EQP := Lib.hid ep
      clear ep
      go_wp2_with fail
      rw [← EQP.out]
      refine HPK.out.mono ?_
      rintro e w2 ⟨s, i2, h2, rfl, hs, hc2, ht2⟩
      have C2 := Lib.hid hc2
      have T2 := Lib.hid (TP.out.trans ht2)
      have R2 := Lib.hid (R1p.out.turned ht2 hgr)
      have hl2 := R2.out.lt
      have hcz := fun i => R2.out.cell i
      have hfz := fun i => R2.out.frozen i
      have hca : True := trivial
      have FIN := Lib.hid (drawn_fin (r := w.heap.size) (P := drT (d + 1)) (vs := [.int .i64 4, .int .i64 0, .string s, .slice none 0 0]) (drT_leaf (op := 4) (n := 0) hs (by omega)) C2.out T2.out hg (Nat.le_refl _) (leafAt w2 _ (by decide) (by decide) hs))
      clear hc2 ht2
      go_wp2_with fail
      exact bodyPost_ret (v := .agg #[.int .i64 4, .int .i64 0, .string s, .slice none 0 0]) (by simp [results, Try.results81, go_sem, hcz, hca]) rfl FIN.out
    by_cases x3 : x = 3
    · have y0 : (x == 0) = false := beq_eq_false_iff_ne.2 (by omega)
      have y1 : (x == 1) = false := beq_eq_false_iff_ne.2 (by omega)
      have y2 : (x == 2) = false := beq_eq_false_iff_ne.2 (by omega)
      have y3 : (x == 3) = true := beq_iff_eq.2 x3
      clear x0 x1 x2 x3 hx
      have hcz := fun i => R1.out.cell i
      have hfz := fun i => R1.out.frozen i
      have hca : True := trivial
      have FIN := Lib.hid (drawn_fin (r := w.heap.size) (P := drT (d + 1)) (vs := [.int .i64 1, .int .i64 0, .string ⟨#[]⟩, .slice none 0 0]) (drT_leaf (op := 1) (n := 0) (s := ⟨#[]⟩) (by decide) (by omega)) C1.out T1.out hg (Nat.le_refl _) (leafAt w1 _ (by decide) (by decide) (by decide)))
      go_wp2_with fail
      exact bodyPost_ret (v := .agg #[.int .i64 1, .int .i64 0, .string ⟨#[]⟩, .slice none 0 0]) (by simp [results, Try.results81, go_sem, hcz, hca]) rfl FIN.out
    have y0 : (x == 0) = false := beq_eq_false_iff_ne.2 (by omega)
    have y1 : (x == 1) = false := beq_eq_false_iff_ne.2 (by omega)
    have y2 : (x == 2) = false := beq_eq_false_iff_ne.2 (by omega)
    have y3 : (x == 3) = false := beq_eq_false_iff_ne.2 (by omega)
    clear x0 x1 x2 x3 hx
    go_wp2_with fail
    refine (drawBelow C1.out 5 (by omega) (by omega)).mono ?_
    rintro e w2 ⟨y, i2, h2, rfl, hy, hc2, ht2⟩
    have T2 := Lib.hid (T1.out.trans ht2)
    have R2 := Lib.hid (R1.out.turned ht2 hgr)
    have hl2 := R2.out.lt
    have hcz := fun i => R2.out.cell i
    have hfz := fun i => R2.out.frozen i
    have hca : True := trivial
    have FIN := Lib.hid (drawn_fin (r := w.heap.size) (P := drT (d + 1)) (vs := [.int .i64 2, .int .i64 y, .string ⟨#[]⟩, .slice none 0 0]) (drT_leaf (op := 2) (n := y) (s := ⟨#[]⟩) (by decide) hy) hc2 T2.out hg (Nat.le_refl _) (leafAt w2 _ (by decide) (smallWf hy) (by decide)))
    clear hc2 ht2
    go_wp2_with fail
    exact bodyPost_ret (v := .agg #[.int .i64 2, .int .i64 y, .string ⟨#[]⟩, .slice none 0 0]) (by simp [results, Try.results81, go_sem, hcz, hca]) rfl FIN.out
end Go.Proofs.Ytghldoiblbcacaa

/- Unify as a relation: what it makes of a substitution and two types (no program in sight). Conditions: none. -/
namespace Go.Proofs.Ytghldoiblbcacaa
open Go.RowKit
set_option linter.unusedVariables false
set_option linter.unusedSimpArgs false

/-- one bind, where a var is made to stand for a type -/
def subB (n : Int) (t : GTy) (b : GBind) : GBind := ⟨b.n, b.ty.sub (oneF n t)⟩
def smallP (n : Int) (t : GTy) (l : List GBind) : Prop := ∀ x, x ∈ l → (x.ty.sub (oneF n t)).nodes ≤ 200
instance smallPDec (n : Int) (t : GTy) (l : List GBind) : Decidable (smallP n t l) := by unfold smallP; infer_instance
/-- l5Put: none if something would be too large -/
def putV (n : Int) (t : GTy) (l : List GBind) : Option (List GBind) := if smallP n t l then some (putB n t l) else none
/-- while it is at work -/
def midB (n : Int) (t : GTy) (l : List GBind) (j : Nat) : List GBind := (l.take j).map (subB n t) ++ l.drop j
theorem midB_zero (n : Int) (t : GTy) (l : List GBind) : midB n t l 0 = l := by simp [midB]
theorem midB_length (n : Int) (t : GTy) (l : List GBind) (j : Nat) (h : j ≤ l.length) : (midB n t l j).length = l.length := by
  simp only [midB, List.length_append, List.length_map, List.length_take, List.length_drop]; omega
theorem midB_at (n : Int) (t : GTy) (l : List GBind) (j : Nat) (h : j < l.length) (h' : j < (midB n t l j).length) : (midB n t l j)[j] = l[j] := by
  simp only [midB]
  rw [List.getElem_append_right (by simp only [List.length_map, List.length_take]; omega)]
  simp only [List.length_map, List.length_take, List.getElem_drop, Nat.min_eq_left (Nat.le_of_lt h), Nat.sub_self, Nat.add_zero]
theorem midB_set (n : Int) (t : GTy) (l : List GBind) (j : Nat) (h : j < l.length) : (midB n t l j).set j (subB n t l[j]) = midB n t l (j + 1) := by
  simp only [midB]
  rw [List.set_append_right _ _ (by simp only [List.length_map, List.length_take]; omega)]
  simp only [List.length_map, List.length_take, Nat.min_eq_left (Nat.le_of_lt h), Nat.sub_self]
  rw [List.drop_eq_getElem_cons h, List.set_cons_zero, List.take_succ_eq_append_getElem h, List.map_append, List.map_cons, List.map_nil]
  simp only [List.append_assoc, List.singleton_append]
theorem midB_end (n : Int) (t : GTy) (l : List GBind) : midB n t l l.length ++ [⟨n, t⟩] = putB n t l := by
  simp only [midB, List.take_length, List.drop_length, List.append_nil]; rfl
/-- the first j are small -/
def smallTo (n : Int) (t : GTy) (l : List GBind) (j : Nat) : Prop := ∀ i, (h : i < l.length) → i < j → (l[i].ty.sub (oneF n t)).nodes ≤ 200
theorem smallTo.succ {n : Int} {t : GTy} {l : List GBind} {j : Nat} (h : smallTo n t l j) (hj : j < l.length) (e : (l[j].ty.sub (oneF n t)).nodes ≤ 200) : smallTo n t l (j + 1) := fun i hi hij => by
  by_cases hh : i < j
  · exact h i hi hh
  · obtain rfl : i = j := by omega
    exact e
theorem putV_yes {n : Int} {t : GTy} {l : List GBind} (h : smallTo n t l l.length) : putV n t l = some (putB n t l) := by
  unfold putV
  rw [if_pos]
  intro x hx
  obtain ⟨i, hi, rfl⟩ := List.getElem_of_mem hx
  exact h i hi hi
theorem putV_no {n : Int} {t : GTy} {l : List GBind} {j : Nat} (hj : j < l.length) (e : ¬ (l[j].ty.sub (oneF n t)).nodes ≤ 200) : putV n t l = none := by
  unfold putV
  rw [if_neg]
  intro h
  exact e (h _ (List.getElem_mem hj))

mutual
/-- what Unify may make of a substitution and two types: none if it fails (the program and the reference differ in the sizes that they look at; both are runs of this) -/
inductive UniR : List GBind → GTy → GTy → Option (List GBind) → Prop
  | big {l : List GBind} {a b : GTy} : 200 < (a.sub (bindOf l)).nodes ∨ 200 < (b.sub (bindOf l)).nodes → UniR l a b none
  | same {l : List GBind} {a b : GTy} : (a.sub (bindOf l)).op = 2 → (b.sub (bindOf l)).op = 2 → (a.sub (bindOf l)).n = (b.sub (bindOf l)).n → UniR l a b (some l)
  | occL {l : List GBind} {a b : GTy} : (a.sub (bindOf l)).op = 2 → ¬ ((b.sub (bindOf l)).op = 2 ∧ (a.sub (bindOf l)).n = (b.sub (bindOf l)).n) → (b.sub (bindOf l)).has (a.sub (bindOf l)).n = true → UniR l a b none
  | putL {l : List GBind} {a b : GTy} : (a.sub (bindOf l)).op = 2 → (b.sub (bindOf l)).has (a.sub (bindOf l)).n = false → UniR l a b (some (putB (a.sub (bindOf l)).n (b.sub (bindOf l)) l))
  | putLno {l : List GBind} {a b : GTy} : (a.sub (bindOf l)).op = 2 → (b.sub (bindOf l)).has (a.sub (bindOf l)).n = false → (∃ x, x ∈ putB (a.sub (bindOf l)).n (b.sub (bindOf l)) l ∧ 200 < x.ty.nodes) → UniR l a b none
  | occR {l : List GBind} {a b : GTy} : ¬ (a.sub (bindOf l)).op = 2 → (b.sub (bindOf l)).op = 2 → (a.sub (bindOf l)).has (b.sub (bindOf l)).n = true → UniR l a b none
  | putR {l : List GBind} {a b : GTy} : ¬ (a.sub (bindOf l)).op = 2 → (b.sub (bindOf l)).op = 2 → (a.sub (bindOf l)).has (b.sub (bindOf l)).n = false → UniR l a b (some (putB (b.sub (bindOf l)).n (a.sub (bindOf l)) l))
  | putRno {l : List GBind} {a b : GTy} : ¬ (a.sub (bindOf l)).op = 2 → (b.sub (bindOf l)).op = 2 → (a.sub (bindOf l)).has (b.sub (bindOf l)).n = false → (∃ x, x ∈ putB (b.sub (bindOf l)).n (a.sub (bindOf l)) l ∧ 200 < x.ty.nodes) → UniR l a b none
  | clash {l : List GBind} {a b : GTy} : ¬ (a.sub (bindOf l)).op = 2 → ¬ (b.sub (bindOf l)).op = 2 → ¬ ((a.sub (bindOf l)).op = (b.sub (bindOf l)).op ∧ (a.sub (bindOf l)).s = (b.sub (bindOf l)).s ∧ (a.sub (bindOf l)).kids.length = (b.sub (bindOf l)).kids.length) → UniR l a b none
  | kids {l : List GBind} {a b : GTy} {r : Option (List GBind)} : ¬ (a.sub (bindOf l)).op = 2 → ¬ (b.sub (bindOf l)).op = 2 → (a.sub (bindOf l)).op = (b.sub (bindOf l)).op → (a.sub (bindOf l)).s = (b.sub (bindOf l)).s → (a.sub (bindOf l)).kids.length = (b.sub (bindOf l)).kids.length → UniRs l (a.sub (bindOf l)).kids (b.sub (bindOf l)).kids r → UniR l a b r
inductive UniRs : List GBind → List GTy → List GTy → Option (List GBind) → Prop
  | nil {l : List GBind} : UniRs l [] [] (some l)
  | fail {l : List GBind} {a b : GTy} {xs ys : List GTy} : UniR l a b none → UniRs l (a :: xs) (b :: ys) none
  | cons {l l' : List GBind} {a b : GTy} {xs ys : List GTy} {r : Option (List GBind)} : UniR l a b (some l') → UniRs l' xs ys r → UniRs l (a :: xs) (b :: ys) r
end
theorem putV_none {n : Int} {t : GTy} {l : List GBind} (h : putV n t l = none) : ∃ x, x ∈ putB n t l ∧ 200 < x.ty.nodes := by
  unfold putV at h
  split at h
  · cases h
  · rename_i hs
    unfold smallP at hs
    simp only [Classical.not_forall] at hs
    obtain ⟨x, hx, hn⟩ := hs
    exact ⟨subB n t x, List.mem_append_left _ (List.mem_map_of_mem hx), by have e : (subB n t x).ty = x.ty.sub (oneF n t) := rfl; rw [e]; omega⟩
theorem putV_some {n : Int} {t : GTy} {l l' : List GBind} (h : putV n t l = some l') : l' = putB n t l ∧ smallP n t l := by
  unfold putV at h
  split at h
  · rename_i hs; cases h; exact ⟨rfl, hs⟩
  · cases h
theorem UniR.putVL {l : List GBind} {a b : GTy} (h1 : (a.sub (bindOf l)).op = 2) (h2 : (b.sub (bindOf l)).has (a.sub (bindOf l)).n = false) : UniR l a b (putV (a.sub (bindOf l)).n (b.sub (bindOf l)) l) := by
  cases h : putV (a.sub (bindOf l)).n (b.sub (bindOf l)) l with
  | none => exact .putLno h1 h2 (putV_none h)
  | some l' => rw [(putV_some h).1]; exact .putL h1 h2
theorem UniR.putVR {l : List GBind} {a b : GTy} (h0 : ¬ (a.sub (bindOf l)).op = 2) (h1 : (b.sub (bindOf l)).op = 2) (h2 : (a.sub (bindOf l)).has (b.sub (bindOf l)).n = false) : UniR l a b (putV (b.sub (bindOf l)).n (a.sub (bindOf l)) l) := by
  cases h : putV (b.sub (bindOf l)).n (a.sub (bindOf l)) l with
  | none => exact .putRno h0 h1 h2 (putV_none h)
  | some l' => rw [(putV_some h).1]; exact .putR h0 h1 h2
/-- the first j kids have been made alike: what the rest makes is what all makes -/
def UniTo (l : List GBind) (xs ys : List GTy) (j : Nat) (lj : List GBind) : Prop := ∀ r, UniRs lj (xs.drop j) (ys.drop j) r → UniRs l xs ys r
theorem UniTo.zero (l : List GBind) (xs ys : List GTy) : UniTo l xs ys 0 l := fun r h => by simpa using h
theorem UniTo.succ {l : List GBind} {xs ys : List GTy} {j : Nat} {lj l' : List GBind} (h : UniTo l xs ys j lj) (ha : j < xs.length) (hb : j < ys.length) (e : UniR lj xs[j] ys[j] (some l')) : UniTo l xs ys (j + 1) l' := fun r hr =>
  h r (by rw [List.drop_eq_getElem_cons ha, List.drop_eq_getElem_cons hb]; exact .cons e hr)
theorem UniTo.fail {l : List GBind} {xs ys : List GTy} {j : Nat} {lj : List GBind} (h : UniTo l xs ys j lj) (ha : j < xs.length) (hb : j < ys.length) (e : UniR lj xs[j] ys[j] none) : UniRs l xs ys none :=
  h none (by rw [List.drop_eq_getElem_cons ha, List.drop_eq_getElem_cons hb]; exact .fail e)
theorem UniTo.done {l : List GBind} {xs ys : List GTy} {j : Nat} {lj : List GBind} (h : UniTo l xs ys j lj) (ha : xs.length ≤ j) (hb : ys.length ≤ j) : UniRs l xs ys (some lj) :=
  h _ (by rw [List.drop_eq_nil_of_le ha, List.drop_eq_nil_of_le hb]; exact .nil)

/-! ### texts are short, types are few -/
theorem GTy.txL_mem {x : GTy} : ∀ {l : List GTy}, GTy.txL l = true → x ∈ l → x.tx = true
  | [], _, h => by simp at h
  | t :: r, h, hm => by
    rw [GTy.txL, Bool.and_eq_true] at h
    rcases List.mem_cons.1 hm with rfl | hm
    · exact h.1
    · exact GTy.txL_mem h.2 hm
theorem GTy.tx_kid {x t : GTy} (h : t.tx = true) (hx : x ∈ t.kids) : x.tx = true := by
  cases t with
  | mk op n s kids => rw [GTy.tx, Bool.and_eq_true] at h; exact GTy.txL_mem h.2 hx
mutual
theorem GTy.tx_sub {f : Int → Option GTy} (hf : ∀ m u, f m = some u → u.tx = true) : ∀ t : GTy, t.tx = true → (t.sub f).tx = true
  | .mk op n s kids, h => by
    rw [GTy.tx, Bool.and_eq_true] at h
    have hk := GTy.txL_sub hf kids h.2
    have hno : (GTy.mk op n s (GTy.subL f kids)).tx = true := by rw [GTy.tx, Bool.and_eq_true]; exact ⟨h.1, hk⟩
    simp only [GTy.sub]
    split
    · rename_i u hu
      split at hu
      · exact hf _ _ hu
      · cases hu
    · exact hno
theorem GTy.txL_sub {f : Int → Option GTy} (hf : ∀ m u, f m = some u → u.tx = true) : ∀ l : List GTy, GTy.txL l = true → GTy.txL (GTy.subL f l) = true
  | [], h => by rw [GTy.subL]; exact h
  | t :: r, h => by
    rw [GTy.txL, Bool.and_eq_true] at h
    rw [GTy.subL, GTy.txL, Bool.and_eq_true]
    exact ⟨GTy.tx_sub hf t h.1, GTy.txL_sub hf r h.2⟩
end
mutual
theorem GTy.tx_bulk : ∀ t : GTy, t.tx = true → t.bulk + 1 ≤ t.nodes * 5
  | .mk op n s kids, h => by
    rw [GTy.tx, Bool.and_eq_true, decide_eq_true_eq] at h
    have := GTy.txL_bulk kids h.2
    rw [GTy.bulk, GTy.nodes]; omega
theorem GTy.txL_bulk : ∀ l : List GTy, GTy.txL l = true → GTy.bulks l ≤ GTy.nodesL l * 5
  | [], _ => by rw [GTy.bulks]; omega
  | t :: r, h => by
    rw [GTy.txL, Bool.and_eq_true] at h
    have h1 := GTy.tx_bulk t h.1
    have h2 := GTy.txL_bulk r h.2
    rw [GTy.bulks, GTy.nodesL]; omega
end
theorem GTy.small_bulk {t : GTy} (h : t.tx = true) (hn : t.nodes ≤ 200) : t.bulk ≤ 6599 := by have := GTy.tx_bulk t h; omega
end Go.Proofs.Ytghldoiblbcacaa

/- Unify: what it makes of two types is a unifier, and one that all others come of (no program in sight). Conditions: none. -/
namespace Go.Proofs.Ytghldoiblbcacaa
open Go.RowKit
set_option linter.unusedVariables false
set_option linter.unusedSimpArgs false

/-- a bare var -/
def vT (n : Int) : GTy := .mk 2 n ⟨#[]⟩ []
theorem empty_of {s : ByteArray} (h : s.toList.isEmpty = true) : s = ⟨#[]⟩ := by
  rw [List.isEmpty_iff, ByteArray.toList_eq] at h
  cases s with
  | mk d =>
    have h2 : d = #[] := Array.toList_inj.1 (by simpa using h)
    rw [h2]
theorem okS_var {t : GTy} (h : t.okS = true) (h2 : t.op = 2) : t = vT t.n := by
  cases t with
  | mk op n s kids =>
    simp only [GTy.op] at h2
    subst h2
    rw [GTy.okS] at h
    have h1 := (Bool.and_eq_true _ _ ▸ h).1
    unfold tyOk1 at h1
    rw [if_neg (by decide), if_pos rfl] at h1
    simp only [Bool.and_eq_true, beq_iff_eq] at h1
    have e1 := empty_of h1.2.1
    have e2 := List.eq_nil_of_length_eq_zero h1.2.2
    subst e1 e2
    rfl
theorem okS_n0 {t : GTy} (h : t.okS = true) (h2 : ¬ t.op = 2) : t.n = 0 := by
  cases t with
  | mk op n s kids =>
    simp only [GTy.op] at h2
    rw [GTy.okS] at h
    have h1 := (Bool.and_eq_true _ _ ▸ h).1
    unfold tyOk1 at h1
    by_cases o1 : op = 1
    · rw [if_pos o1] at h1
      simp only [Bool.and_eq_true, beq_iff_eq] at h1; exact h1.1
    · rw [if_neg o1, if_neg h2] at h1
      by_cases o3 : op = 3
      · rw [if_pos o3] at h1
        simp only [Bool.and_eq_true, beq_iff_eq] at h1; exact h1.1
      · rw [if_neg o3] at h1
        by_cases o4 : op = 4
        · rw [if_pos o4] at h1
          simp only [Bool.and_eq_true, beq_iff_eq] at h1; exact h1.1
        · rw [if_neg o4] at h1
          cases h1
theorem GTy.mk_self (t : GTy) : GTy.mk t.op t.n t.s t.kids = t := by cases t; rfl
theorem sub_other {t : GTy} (f : Int → Option GTy) (h : ¬ t.op = 2) : t.sub f = .mk t.op t.n t.s (t.kids.map (GTy.sub f)) := GTy.sub_none (.inl fun c => h c.1)
theorem sub_mk {op n : Int} {s : ByteArray} {kids : List GTy} (f : Int → Option GTy) (h : ¬ op = 2) : (GTy.mk op n s kids).sub f = .mk op n s (kids.map (GTy.sub f)) := sub_other (t := GTy.mk op n s kids) f h
theorem okS_kid {t x : GTy} (h : t.okS = true) (hx : x ∈ t.kids) : x.okS = true := by
  rw [GTy.okS_eq, Bool.and_eq_true, GTy.okSL_all, List.all_eq_true] at h
  exact h.2 x hx

/-- f makes of each var of l what it makes of what the var stands for -/
def Resp (f : Int → Option GTy) (l : List GBind) : Prop := ∀ b, b ∈ l → (vT b.n).sub f = b.ty.sub f
theorem Resp.nil (f : Int → Option GTy) : Resp f [] := fun b h => by simp at h
mutual
theorem resp_sub {f : Int → Option GTy} {l : List GBind} (h : Resp f l) : ∀ t : GTy, t.okS = true → (t.sub (bindOf l)).sub f = t.sub f
  | .mk op n s kids, ho => by
    by_cases h2 : op = 2
    · have ev := okS_var ho h2
      have ev2 : GTy.mk op n s kids = vT n := ev
      rw [ev2]
      cases hc : bindOf l n with
      | some u =>
        rw [GTy.sub_some rfl rfl (show bindOf l (vT n).n = some u from hc)]
        obtain ⟨b, hb, rfl, rfl⟩ := bindOf_some hc
        exact (h b hb).symm
      | none => rw [GTy.sub_none (.inr (show bindOf l (vT n).n = none from hc))]; rfl
    · have hk := resp_subL h kids (okS_kids ho)
      rw [sub_mk (bindOf l) h2, sub_mk f h2, sub_mk f h2, hk]
theorem resp_subL {f : Int → Option GTy} {l : List GBind} (h : Resp f l) : ∀ ts : List GTy, GTy.okSL ts = true → (ts.map (GTy.sub (bindOf l))).map (GTy.sub f) = ts.map (GTy.sub f)
  | [], _ => rfl
  | t :: r, ho => by
    have h1 := okSL_cons ho
    simp only [List.map_cons]
    rw [resp_sub h t h1.1, resp_subL h r h1.2]
end
theorem GTy.nodes_pos (t : GTy) : 1 ≤ t.nodes := by rw [GTy.nodes_eq]; omega
mutual
theorem nodes_sub (f : Int → Option GTy) : ∀ t : GTy, t.nodes ≤ (t.sub f).nodes
  | .mk op n s kids => by
    have hk := nodes_subL f kids
    by_cases h2 : op = 2 ∧ kids.length = 0
    · have e : kids = [] := List.eq_nil_of_length_eq_zero h2.2
      subst e
      have := GTy.nodes_pos ((GTy.mk op n s []).sub f)
      rw [GTy.nodes, GTy.nodesL]; omega
    · have e := GTy.sub_none (f := f) (t := GTy.mk op n s kids) (.inl h2)
      rw [e, GTy.nodes_eq, GTy.nodes_eq (GTy.mk _ _ _ (List.map _ _))]
      simp only [GTy.kids]
      rw [← GTy.subL_map]; omega
theorem nodes_subL (f : Int → Option GTy) : ∀ l : List GTy, GTy.nodesL l ≤ GTy.nodesL (GTy.subL f l)
  | [] => by rw [GTy.nodesL]; omega
  | t :: r => by
    have h1 := nodes_sub f t
    have h2 := nodes_subL f r
    rw [GTy.subL, GTy.nodesL, GTy.nodesL]; omega
end
mutual
/-- what is made of a var that is in a type is no greater than what is made of the type -/
theorem has_nodes {f : Int → Option GTy} {n : Int} : ∀ t : GTy, t.okS = true → t.has n = true → ((vT n).sub f).nodes + (if t.op = 2 then 0 else 1) ≤ (t.sub f).nodes
  | .mk op m s kids, ho, h => by
    by_cases h2 : op = 2
    · have ev : GTy.mk op m s kids = vT m := okS_var ho h2
      rw [if_pos (show (GTy.mk op m s kids).op = 2 from h2)]
      rw [ev] at h ⊢
      have e : m = n := by
        rw [GTy.has_eq] at h
        simpa [vT, GTy.op, GTy.n, GTy.kids, GTy.hasL] using h
      rw [e]; omega
    · rw [if_neg (show ¬ (GTy.mk op m s kids).op = 2 from h2), sub_other f (show ¬ (GTy.mk op m s kids).op = 2 from h2), GTy.nodes_eq (GTy.mk _ _ _ _)]
      simp only [GTy.kids]
      rw [GTy.has, beq_eq_false_iff_ne.2 h2, Bool.false_and, Bool.false_or] at h
      have := has_nodesL (f := f) kids (okS_kids ho) h
      omega
theorem has_nodesL {f : Int → Option GTy} {n : Int} : ∀ l : List GTy, GTy.okSL l = true → GTy.hasL n l = true → ((vT n).sub f).nodes ≤ GTy.nodesL (l.map (GTy.sub f))
  | [], _, h => by rw [GTy.hasL] at h; cases h
  | t :: r, ho, h => by
    have h1 := okSL_cons ho
    rw [GTy.hasL, Bool.or_eq_true] at h
    rw [List.map_cons, GTy.nodesL]
    rcases h with h | h
    · have := has_nodes (f := f) t h1.1 h; omega
    · have := has_nodesL (f := f) r h1.2 h; omega
end
theorem has_less {f : Int → Option GTy} {n : Int} {t : GTy} (ho : t.okS = true) (h : t.has n = true) (h2 : ¬ t.op = 2) : ((vT n).sub f).nodes < (t.sub f).nodes := by
  have := has_nodes (f := f) t ho h
  rw [if_neg h2] at this; omega
theorem nodesL_mem {x : GTy} : ∀ {l : List GTy}, x ∈ l → x.nodes ≤ GTy.nodesL l
  | [], h => by simp at h
  | t :: r, h => by
    rw [GTy.nodesL]
    rcases List.mem_cons.1 h with rfl | h
    · omega
    · have := nodesL_mem h; omega
theorem kid_nodes {t x : GTy} (hx : x ∈ t.kids) : x.nodes < t.nodes := by rw [GTy.nodes_eq t]; have := nodesL_mem hx; omega
theorem kid_sub_nodes {f : Int → Option GTy} {t x : GTy} (h2 : ¬ t.op = 2) (hx : x ∈ t.kids) : (x.sub f).nodes < (t.sub f).nodes := by
  rw [sub_other f h2]
  exact kid_nodes (t := GTy.mk _ _ _ _) (List.mem_map_of_mem hx)

/-! ### one more var stands for something -/
theorem bindOf_append (l l2 : List GBind) (m : Int) : bindOf (l ++ l2) m = (bindOf l m).orElse fun _ => bindOf l2 m := by
  unfold bindOf
  rw [List.find?_append]
  cases l.find? (fun b => b.n == m) <;> rfl
theorem bindOf_map (n : Int) (t : GTy) (l : List GBind) (m : Int) : bindOf (l.map fun b => ⟨b.n, b.ty.sub (oneF n t)⟩) m = (bindOf l m).map (GTy.sub (oneF n t)) := by
  unfold bindOf
  rw [List.find?_map]
  have e : ((fun b : GBind => b.n == m) ∘ fun b : GBind => ⟨b.n, b.ty.sub (oneF n t)⟩) = fun b : GBind => b.n == m := rfl
  rw [e]
  cases l.find? (fun b => b.n == m) <;> rfl
theorem bindOf_putB (n : Int) (t : GTy) (l : List GBind) (m : Int) : bindOf (putB n t l) m = match bindOf l m with | some u => some (u.sub (oneF n t)) | none => oneF n t m := by
  unfold putB
  rw [bindOf_append, bindOf_map]
  cases bindOf l m <;> rfl
theorem bindOf_none {l : List GBind} {n : Int} (h : ∀ x, x ∈ l → x.n ≠ n) : bindOf l n = none := by
  cases hc : bindOf l n with
  | none => rfl
  | some u => obtain ⟨b, hb, hn, -⟩ := bindOf_some hc; exact absurd hn (h b hb)
mutual
theorem sub_putB {n : Int} {t : GTy} {l : List GBind} : ∀ u : GTy, u.okS = true → u.sub (bindOf (putB n t l)) = (u.sub (bindOf l)).sub (oneF n t)
  | .mk op m s kids, ho => by
    by_cases h2 : op = 2
    · have ev : GTy.mk op m s kids = vT m := okS_var ho h2
      rw [ev]
      have hb := bindOf_putB n t l m
      cases hc : bindOf l m with
      | some u =>
        rw [hc] at hb
        rw [GTy.sub_some rfl rfl (show bindOf l (vT m).n = some u from hc), GTy.sub_some rfl rfl (show bindOf (putB n t l) (vT m).n = some _ from hb)]
      | none =>
        rw [hc] at hb
        rw [GTy.sub_none (.inr (show bindOf l (vT m).n = none from hc))]
        show (vT m).sub (bindOf (putB n t l)) = (vT m).sub (oneF n t)
        cases hd : oneF n t m with
        | some u => rw [GTy.sub_some rfl rfl (show oneF n t (vT m).n = some u from hd), GTy.sub_some rfl rfl (show bindOf (putB n t l) (vT m).n = some u from hb.trans hd)]
        | none => rw [GTy.sub_none (.inr (show oneF n t (vT m).n = none from hd)), GTy.sub_none (.inr (show bindOf (putB n t l) (vT m).n = none from hb.trans hd))]; rfl
    · have hk := sub_putBL (n := n) (t := t) (l := l) kids (okS_kids ho)
      rw [sub_mk (bindOf l) h2, sub_mk (bindOf (putB n t l)) h2, sub_mk (oneF n t) h2, hk]
theorem sub_putBL {n : Int} {t : GTy} {l : List GBind} : ∀ ts : List GTy, GTy.okSL ts = true → ts.map (GTy.sub (bindOf (putB n t l))) = (ts.map (GTy.sub (bindOf l))).map (GTy.sub (oneF n t))
  | [], _ => rfl
  | u :: r, ho => by
    have h1 := okSL_cons ho
    simp only [List.map_cons]
    rw [sub_putB u h1.1, sub_putBL r h1.2]
end
/-- a substitution respects itself -/
theorem Uni.resp {V : Int → Prop} {l : List GBind} (h : Uni V l) : Resp (bindOf l) l := fun b hb => by
  have e : bindOf l b.n = some b.ty := by
    obtain ⟨u, hu⟩ := bindOf_mem hb
    obtain ⟨x, hx, hn, ht⟩ := bindOf_some hu
    have hxb : x = b := by
      obtain ⟨i, hi, rfl⟩ := List.getElem_of_mem hx
      obtain ⟨j, hj, rfl⟩ := List.getElem_of_mem hb
      have hij : i = j := by
        have hnd := List.pairwise_iff_getElem.1 h.names
        rcases Nat.lt_trichotomy i j with c | c | c
        · exact absurd hn (by have := hnd i j (by simpa using hi) (by simpa using hj) c; simpa using this)
        · exact c
        · exact absurd hn.symm (by have := hnd j i (by simpa using hj) (by simpa using hi) c; simpa using this)
      subst hij; rfl
    rw [hu, ← ht, hxb]
  rw [GTy.sub_some rfl rfl (show bindOf l (vT b.n).n = some b.ty from e)]
  exact (GTy.sub_id _ fun n hn => bindOf_none fun x hx ex => by rw [← ex, h.free b hb x hx] at hn; cases hn).symm
/-- what a substitution makes it makes again -/
theorem Uni.twice {V : Int → Prop} {l : List GBind} (h : Uni V l) {t : GTy} (ho : t.okS = true) : (t.sub (bindOf l)).sub (bindOf l) = t.sub (bindOf l) := resp_sub h.resp t ho
theorem one_resp {f : Int → Option GTy} {n : Int} {t : GTy} (h : (vT n).sub f = t.sub f) {u : GTy} (ho : u.okS = true) : (u.sub (oneF n t)).sub f = u.sub f :=
  resp_sub (l := [⟨n, t⟩]) (fun b hb => by rw [List.mem_singleton] at hb; subst hb; exact h) u ho
theorem Resp.put {V : Int → Prop} {f : Int → Option GTy} {l : List GBind} {n : Int} {t : GTy} (hu : Uni V l) (h : Resp f l) (hn : (vT n).sub f = t.sub f) : Resp f (putB n t l) := fun b hb => by
  rcases List.mem_append.1 hb with hb | hb
  · obtain ⟨x, hx, rfl⟩ := List.mem_map.1 hb
    show (vT x.n).sub f = (x.ty.sub (oneF n t)).sub f
    rw [one_resp hn (hu.inV x hx).2.1]
    exact h x hx
  · rw [List.mem_singleton] at hb; subst hb; exact hn
theorem Resp.of_put {V : Int → Prop} {f : Int → Option GTy} {l : List GBind} {n : Int} {t : GTy} (hu : Uni V l) (h : Resp f (putB n t l)) : Resp f l ∧ (vT n).sub f = t.sub f := by
  have hn : (vT n).sub f = t.sub f := h ⟨n, t⟩ (List.mem_append_right _ (by simp))
  refine ⟨fun x hx => ?_, hn⟩
  have := h ⟨x.n, x.ty.sub (oneF n t)⟩ (List.mem_append_left _ (List.mem_map_of_mem (f := fun b : GBind => (⟨b.n, b.ty.sub (oneF n t)⟩ : GBind)) hx))
  exact this.trans (one_resp hn (hu.inV x hx).2.1)

/-! ### what is made is a unifier -/
def Good (V : Int → Prop) (t : GTy) : Prop := t.okS = true ∧ ∀ m, t.has m = true → V m
theorem Good.sub {V : Int → Prop} {l : List GBind} (h : Uni V l) {t : GTy} (g : Good V t) : Good V (t.sub (bindOf l)) ∧ ∀ x, x ∈ l → (t.sub (bindOf l)).has x.n = false := by
  obtain ⟨h1, h2, h3⟩ := h.made g.1 g.2
  exact ⟨⟨h1, h2⟩, h3⟩
theorem Good.kid {V : Int → Prop} {t x : GTy} (g : Good V t) (hx : x ∈ t.kids) : Good V x := ⟨okS_kid g.1 hx, fun m hm => g.2 m (has_kid hx hm)⟩
theorem var_has {t : GTy} (ho : t.okS = true) (h2 : t.op = 2) : t.has t.n = true := by
  rw [GTy.has_eq, h2]; simp
theorem put_good {V : Int → Prop} {l : List GBind} (h : Uni V l) {a b : GTy} (ga : Good V a) (gb : Good V b) (h2 : (a.sub (bindOf l)).op = 2) (hs : (b.sub (bindOf l)).has (a.sub (bindOf l)).n = false) : Uni V (putB (a.sub (bindOf l)).n (b.sub (bindOf l)) l) := by
  obtain ⟨g1, f1⟩ := ga.sub h
  obtain ⟨g2, f2⟩ := gb.sub h
  have hh := var_has g1.1 h2
  exact h.put (g1.2 _ hh) (fun x hx e => by rw [← e, f1 x hx] at hh; cases hh) g2.1 g2.2 f2 hs

/-- lists of types are made alike -/
def AlikeL (f : Int → Option GTy) (xs ys : List GTy) : Prop := xs.map (GTy.sub f) = ys.map (GTy.sub f)
theorem alike_of_kids {f : Int → Option GTy} {x y : GTy} (hx : x.okS = true) (hy : y.okS = true) (h1 : ¬ x.op = 2) (h2 : ¬ y.op = 2) (ho : x.op = y.op) (hs : x.s = y.s) (hk : AlikeL f x.kids y.kids) : x.sub f = y.sub f := by
  rw [sub_other f h1, sub_other f h2, ho, hs, okS_n0 hx h1, okS_n0 hy h2]
  unfold AlikeL at hk
  rw [hk]
theorem kids_of_alike {f : Int → Option GTy} {x y : GTy} (h1 : ¬ x.op = 2) (h2 : ¬ y.op = 2) (h : x.sub f = y.sub f) : x.op = y.op ∧ x.s = y.s ∧ x.kids.length = y.kids.length ∧ AlikeL f x.kids y.kids := by
  rw [sub_other f h1, sub_other f h2] at h
  injection h with e1 e2 e3 e4
  exact ⟨e1, e3, by simpa using congrArg List.length e4, e4⟩
mutual
theorem UniR.sound {V : Int → Prop} : ∀ {l : List GBind} {a b : GTy} {r : Option (List GBind)}, UniR l a b r → Uni V l → Good V a → Good V b → ∀ l', r = some l' → Uni V l' ∧ ∀ f, Resp f l' → Resp f l ∧ a.sub f = b.sub f
  | l, a, b, _, .big _, _, _, _, l', e => by cases e
  | l, a, b, _, .same h1 h2 h3, hu, ga, gb, l', e => by
    cases e
    refine ⟨hu, fun f hf => ⟨hf, ?_⟩⟩
    rw [← resp_sub hf a ga.1, ← resp_sub hf b gb.1, okS_var (ga.sub hu).1.1 h1, okS_var (gb.sub hu).1.1 h2, h3]
  | l, a, b, _, .occL _ _ _, _, _, _, l', e => by cases e
  | l, a, b, _, .putL h1 h2, hu, ga, gb, l', e => by
    cases e
    refine ⟨put_good hu ga gb h1 h2, fun f hf => ?_⟩
    obtain ⟨hr, hn⟩ := hf.of_put hu
    refine ⟨hr, ?_⟩
    rw [← resp_sub hr a ga.1, ← resp_sub hr b gb.1, ← hn, ← okS_var (ga.sub hu).1.1 h1]
  | l, a, b, _, .putLno _ _ _, _, _, _, l', e => by cases e
  | l, a, b, _, .occR _ _ _, _, _, _, l', e => by cases e
  | l, a, b, _, .putR h0 h1 h2, hu, ga, gb, l', e => by
    cases e
    refine ⟨put_good hu gb ga h1 h2, fun f hf => ?_⟩
    obtain ⟨hr, hn⟩ := hf.of_put hu
    refine ⟨hr, ?_⟩
    rw [← resp_sub hr a ga.1, ← resp_sub hr b gb.1, ← hn, ← okS_var (gb.sub hu).1.1 h1]
  | l, a, b, _, .putRno _ _ _ _, _, _, _, l', e => by cases e
  | l, a, b, _, .clash _ _ _, _, _, _, l', e => by cases e
  | l, a, b, r, .kids h1 h2 h3 h4 h5 hk, hu, ga, gb, l', e => by
    have g1 := (ga.sub hu).1
    have g2 := (gb.sub hu).1
    obtain ⟨hu', hf'⟩ := UniRs.sound hk hu (fun x hx => g1.kid hx) (fun x hx => g2.kid hx) l' e
    refine ⟨hu', fun f hf => ?_⟩
    obtain ⟨hr, hl⟩ := hf' f hf
    refine ⟨hr, ?_⟩
    rw [← resp_sub hr a ga.1, ← resp_sub hr b gb.1]
    exact alike_of_kids g1.1 g2.1 h1 h2 h3 h4 hl
theorem UniRs.sound {V : Int → Prop} : ∀ {l : List GBind} {xs ys : List GTy} {r : Option (List GBind)}, UniRs l xs ys r → Uni V l → (∀ x, x ∈ xs → Good V x) → (∀ y, y ∈ ys → Good V y) → ∀ l', r = some l' → Uni V l' ∧ ∀ f, Resp f l' → Resp f l ∧ AlikeL f xs ys
  | l, _, _, _, .nil, hu, _, _, l', e => by cases e; exact ⟨hu, fun f hf => ⟨hf, rfl⟩⟩
  | l, _, _, _, .fail _, _, _, _, l', e => by cases e
  | l, _, _, r, .cons (l' := l1) (a := a) (b := b) (xs := xs) (ys := ys) ha hk, hu, gx, gy, l', e => by
    obtain ⟨h1, h2⟩ := UniR.sound ha hu (gx a (by simp)) (gy b (by simp)) l1 rfl
    obtain ⟨h3, h4⟩ := UniRs.sound hk h1 (fun x hx => gx x (by simp [hx])) (fun y hy => gy y (by simp [hy])) l' e
    refine ⟨h3, fun f hf => ?_⟩
    obtain ⟨k1, k2⟩ := h4 f hf
    obtain ⟨k3, k4⟩ := h2 f k1
    refine ⟨k3, ?_⟩
    unfold AlikeL at k2 ⊢
    rw [List.map_cons, List.map_cons, k4, k2]
end

/-! ### all unifiers come of it, and where one is small it is found -/
def FewF (f : Int → Option GTy) (l : List GBind) : Prop := ∀ b, b ∈ l → ((vT b.n).sub f).nodes ≤ 200
theorem put_small {V : Int → Prop} {f : Int → Option GTy} {l : List GBind} {n : Int} {t : GTy} (hu : Uni V l) (hr : Resp f l) (hn : (vT n).sub f = t.sub f) (hs : FewF f l) (hv : ((vT n).sub f).nodes ≤ 200) : FewF f (putB n t l) ∧ ∀ x, x ∈ putB n t l → x.ty.nodes ≤ 200 := by
  have hp := Resp.put hu hr hn
  have hf : FewF f (putB n t l) := fun b hb => by
    rcases List.mem_append.1 hb with hb | hb
    · obtain ⟨x, hx, rfl⟩ := List.mem_map.1 hb
      exact hs x hx
    · rw [List.mem_singleton] at hb; subst hb; exact hv
  refine ⟨hf, fun x hx => ?_⟩
  have h1 := hf x hx
  rw [hp x hx] at h1
  exact Nat.le_trans (nodes_sub f x.ty) h1
mutual
theorem UniR.whole {V : Int → Prop} {f : Int → Option GTy} : ∀ {l : List GBind} {a b : GTy} {r : Option (List GBind)}, UniR l a b r → Uni V l → Good V a → Good V b → Resp f l → FewF f l → a.sub f = b.sub f → (a.sub f).nodes ≤ 200 → ∃ l', r = some l' ∧ Resp f l' ∧ FewF f l'
  | l, a, b, _, .big h, hu, ga, gb, hr, hs, he, hn => by
    have h1 := nodes_sub f (a.sub (bindOf l))
    have h2 := nodes_sub f (b.sub (bindOf l))
    rw [resp_sub hr a ga.1] at h1
    rw [resp_sub hr b gb.1, ← he] at h2
    rcases h with h | h <;> omega
  | l, a, b, _, .same h1 h2 h3, hu, ga, gb, hr, hs, he, hn => ⟨l, rfl, hr, hs⟩
  | l, a, b, _, .occL h1 h2 h3, hu, ga, gb, hr, hs, he, hn => by
    have g1 := (ga.sub hu).1
    have g2 := (gb.sub hu).1
    have e1 := resp_sub hr a ga.1
    have e2 := resp_sub hr b gb.1
    by_cases hb : (b.sub (bindOf l)).op = 2
    · rw [okS_var g2.1 hb, GTy.has_eq] at h3
      have : (b.sub (bindOf l)).n = (a.sub (bindOf l)).n := by simpa [vT, GTy.op, GTy.n, GTy.kids, GTy.hasL] using h3
      exact absurd ⟨hb, this.symm⟩ h2
    · have := has_less (f := f) g2.1 h3 hb
      rw [← okS_var g1.1 h1, e1, e2, he] at this
      omega
  | l, a, b, _, .putL h1 h2, hu, ga, gb, hr, hs, he, hn => by
    have g1 := (ga.sub hu).1
    have e1 := resp_sub hr a ga.1
    have e2 := resp_sub hr b gb.1
    rw [okS_var g1.1 h1] at e1
    have ev : (vT (a.sub (bindOf l)).n).sub f = (b.sub (bindOf l)).sub f := by rw [e1, e2, he]
    exact ⟨_, rfl, Resp.put hu hr ev, (put_small hu hr ev hs (by rw [e1]; exact hn)).1⟩
  | l, a, b, _, .putLno h1 h2 h3, hu, ga, gb, hr, hs, he, hn => by
    have g1 := (ga.sub hu).1
    have e1 := resp_sub hr a ga.1
    have e2 := resp_sub hr b gb.1
    rw [okS_var g1.1 h1] at e1
    have ev : (vT (a.sub (bindOf l)).n).sub f = (b.sub (bindOf l)).sub f := by rw [e1, e2, he]
    obtain ⟨x, hx, hb⟩ := h3
    have := (put_small hu hr ev hs (by rw [e1]; exact hn)).2 x hx
    omega
  | l, a, b, _, .occR h0 h1 h3, hu, ga, gb, hr, hs, he, hn => by
    have g1 := (ga.sub hu).1
    have g2 := (gb.sub hu).1
    have e1 := resp_sub hr a ga.1
    have e2 := resp_sub hr b gb.1
    have := has_less (f := f) g1.1 h3 h0
    rw [← okS_var g2.1 h1, e1, e2, he] at this
    omega
  | l, a, b, _, .putR h0 h1 h2, hu, ga, gb, hr, hs, he, hn => by
    have g1 := (gb.sub hu).1
    have e1 := resp_sub hr a ga.1
    have e2 := resp_sub hr b gb.1
    rw [okS_var g1.1 h1] at e2
    have ev : (vT (b.sub (bindOf l)).n).sub f = (a.sub (bindOf l)).sub f := by rw [e1, e2, he]
    exact ⟨_, rfl, Resp.put hu hr ev, (put_small hu hr ev hs (by rw [e2, ← he]; exact hn)).1⟩
  | l, a, b, _, .putRno h0 h1 h2 h3, hu, ga, gb, hr, hs, he, hn => by
    have g1 := (gb.sub hu).1
    have e1 := resp_sub hr a ga.1
    have e2 := resp_sub hr b gb.1
    rw [okS_var g1.1 h1] at e2
    have ev : (vT (b.sub (bindOf l)).n).sub f = (a.sub (bindOf l)).sub f := by rw [e1, e2, he]
    obtain ⟨x, hx, hb⟩ := h3
    have := (put_small hu hr ev hs (by rw [e2, ← he]; exact hn)).2 x hx
    omega
  | l, a, b, _, .clash h1 h2 h3, hu, ga, gb, hr, hs, he, hn => by
    have e1 := resp_sub hr a ga.1
    have e2 := resp_sub hr b gb.1
    obtain ⟨k1, k2, k3, -⟩ := kids_of_alike (f := f) h1 h2 (by rw [e1, e2, he])
    exact absurd ⟨k1, k2, k3⟩ h3
  | l, a, b, r, .kids h1 h2 h3 h4 h5 hk, hu, ga, gb, hr, hs, he, hn => by
    have g1 := (ga.sub hu).1
    have g2 := (gb.sub hu).1
    have e1 := resp_sub hr a ga.1
    have e2 := resp_sub hr b gb.1
    obtain ⟨-, -, -, k4⟩ := kids_of_alike (f := f) h1 h2 (by rw [e1, e2, he])
    exact UniRs.whole hk hu (fun x hx => g1.kid hx) (fun x hx => g2.kid hx) hr hs k4 (fun x hx => by
      have := kid_sub_nodes (f := f) h1 hx
      rw [e1] at this; omega)
theorem UniRs.whole {V : Int → Prop} {f : Int → Option GTy} : ∀ {l : List GBind} {xs ys : List GTy} {r : Option (List GBind)}, UniRs l xs ys r → Uni V l → (∀ x, x ∈ xs → Good V x) → (∀ y, y ∈ ys → Good V y) → Resp f l → FewF f l → AlikeL f xs ys → (∀ x, x ∈ xs → (x.sub f).nodes ≤ 200) → ∃ l', r = some l' ∧ Resp f l' ∧ FewF f l'
  | l, _, _, _, .nil, hu, _, _, hr, hs, _, _ => ⟨l, rfl, hr, hs⟩
  | l, _, _, _, .fail (a := a) (b := b) (xs := xs) (ys := ys) ha, hu, gx, gy, hr, hs, he, hn => by
    unfold AlikeL at he
    rw [List.map_cons, List.map_cons] at he
    injection he with he1 he2
    obtain ⟨l', e, -⟩ := UniR.whole (f := f) ha hu (gx a (by simp)) (gy b (by simp)) hr hs he1 (hn a (by simp))
    cases e
  | l, _, _, r, .cons (l' := l1) (a := a) (b := b) (xs := xs) (ys := ys) ha hk, hu, gx, gy, hr, hs, he, hn => by
    unfold AlikeL at he
    rw [List.map_cons, List.map_cons] at he
    injection he with he1 he2
    obtain ⟨l', e, k1, k2⟩ := UniR.whole (f := f) ha hu (gx a (by simp)) (gy b (by simp)) hr hs he1 (hn a (by simp))
    cases e
    obtain ⟨hu1, -⟩ := UniR.sound ha hu (gx a (by simp)) (gy b (by simp)) l1 rfl
    exact UniRs.whole hk hu1 (fun x hx => gx x (by simp [hx])) (fun y hy => gy y (by simp [hy])) k1 k2 he2 (fun x hx => hn x (by simp [hx]))
end
/-- at the outset sizes of kids alone matter -/
theorem UniR.start {V : Int → Prop} {f : Int → Option GTy} {a b : GTy} {r : Option (List GBind)} (h : UniR [] a b r) (ga : Good V a) (gb : Good V b) (na : a.nodes ≤ 200) (nb : b.nodes ≤ 200) (he : a.sub f = b.sub f) (hn : ¬ a.op = 2 → ¬ b.op = 2 → ∀ x, x ∈ a.kids → (x.sub f).nodes ≤ 200) : ∃ l', r = some l' ∧ Resp f l' := by
  have e : ∀ t : GTy, t.sub (bindOf []) = t := fun t => GTy.sub_id t fun n _ => rfl
  have hu := Uni.nil V
  have hr := Resp.nil f
  cases h with
  | big h => rw [e, e] at h; rcases h with h | h <;> omega
  | same h1 h2 h3 => exact ⟨[], rfl, hr⟩
  | occL h1 h2 h3 =>
    rw [e, e] at *
    by_cases hb : b.op = 2
    · rw [okS_var gb.1 hb, GTy.has_eq] at h3
      have : b.n = a.n := by simpa [vT, GTy.op, GTy.n, GTy.kids, GTy.hasL] using h3
      exact absurd ⟨hb, this.symm⟩ h2
    · have := has_less (f := f) gb.1 h3 hb
      rw [← okS_var ga.1 h1, he] at this
      omega
  | putL h1 h2 =>
    rw [e, e] at *
    refine ⟨_, rfl, Resp.put hu hr ?_⟩
    rw [← okS_var ga.1 h1, he]
  | putLno h1 h2 h3 =>
    rw [e, e] at *
    obtain ⟨x, hx, hb⟩ := h3
    have : x = ⟨a.n, b⟩ := by simpa [putB] using hx
    subst this
    have : b.nodes ≤ 200 := nb
    exact absurd hb (by show ¬ 200 < b.nodes; omega)
  | occR h0 h1 h3 =>
    rw [e, e] at *
    have := has_less (f := f) ga.1 h3 h0
    rw [← okS_var gb.1 h1, he] at this
    omega
  | putR h0 h1 h2 =>
    rw [e, e] at *
    refine ⟨_, rfl, Resp.put hu hr ?_⟩
    rw [← okS_var gb.1 h1, he]
  | putRno h0 h1 h2 h3 =>
    rw [e, e] at *
    obtain ⟨x, hx, hb⟩ := h3
    have : x = ⟨b.n, a⟩ := by simpa [putB] using hx
    subst this
    exact absurd hb (by show ¬ 200 < a.nodes; omega)
  | clash h1 h2 h3 =>
    rw [e, e] at *
    obtain ⟨k1, k2, k3, -⟩ := kids_of_alike (f := f) h1 h2 he
    exact absurd ⟨k1, k2, k3⟩ h3
  | kids h1 h2 h3 h4 h5 hk =>
    rw [e] at h1 h2
    rw [e, e] at hk
    obtain ⟨-, -, -, k4⟩ := kids_of_alike (f := f) h1 h2 he
    obtain ⟨l', e', hr', -⟩ := UniRs.whole hk hu (fun x hx => ga.kid hx) (fun x hx => gb.kid hx) hr (fun b hb => by simp at hb) k4 (hn h1 h2)
    exact ⟨l', e', hr'⟩

/-! ### where there is a unifier there is a run that finds one -/
theorem UniR.some_of {V : Int → Prop} {f : Int → Option GTy} : ∀ (N : Nat) {l : List GBind} {a b : GTy}, (a.sub f).nodes ≤ N → Uni V l → Good V a → Good V b → Resp f l → a.sub f = b.sub f → ∃ l', UniR l a b (some l') ∧ Resp f l' := by
  intro N
  induction N with
  | zero => intro l a b hn; have := GTy.nodes_pos (a.sub f); omega
  | succ N ih =>
    intro l a b hn hu ga gb hr he
    have g1 := (ga.sub hu).1
    have g2 := (gb.sub hu).1
    have e1 := resp_sub hr a ga.1
    have e2 := resp_sub hr b gb.1
    by_cases h1 : (a.sub (bindOf l)).op = 2
    · by_cases hs : (b.sub (bindOf l)).op = 2 ∧ (a.sub (bindOf l)).n = (b.sub (bindOf l)).n
      · exact ⟨l, .same h1 hs.1 hs.2, hr⟩
      · cases hh : (b.sub (bindOf l)).has (a.sub (bindOf l)).n
        · refine ⟨_, .putL h1 hh, Resp.put hu hr ?_⟩
          rw [← okS_var g1.1 h1, e1, e2, he]
        · exfalso
          by_cases hb : (b.sub (bindOf l)).op = 2
          · rw [okS_var g2.1 hb, GTy.has_eq] at hh
            have : (b.sub (bindOf l)).n = (a.sub (bindOf l)).n := by simpa [vT, GTy.op, GTy.n, GTy.kids, GTy.hasL] using hh
            exact hs ⟨hb, this.symm⟩
          · have := has_less (f := f) g2.1 hh hb
            rw [← okS_var g1.1 h1, e1, e2, he] at this
            omega
    · by_cases h2 : (b.sub (bindOf l)).op = 2
      · cases hh : (a.sub (bindOf l)).has (b.sub (bindOf l)).n
        · refine ⟨_, .putR h1 h2 hh, Resp.put hu hr ?_⟩
          rw [← okS_var g2.1 h2, e1, e2, he]
        · exfalso
          have := has_less (f := f) g1.1 hh h1
          rw [← okS_var g2.1 h2, e1, e2, he] at this
          omega
      · obtain ⟨k1, k2, k3, k4⟩ := kids_of_alike (f := f) h1 h2 (by rw [e1, e2, he])
        have hL : ∀ (xs ys : List GTy) (l : List GBind), Uni V l → Resp f l → (∀ x, x ∈ xs → Good V x ∧ (x.sub f).nodes ≤ N) → (∀ y, y ∈ ys → Good V y) → AlikeL f xs ys → ∃ l', UniRs l xs ys (some l') ∧ Resp f l' := by
          intro xs
          induction xs with
          | nil =>
            intro ys l hu hr _ _ ha
            have : ys = [] := by
              have := congrArg List.length ha
              simpa using this.symm
            subst this
            exact ⟨l, .nil, hr⟩
          | cons x xs ihx =>
            intro ys l hu hr gx gy ha
            cases ys with
            | nil => have := congrArg List.length ha; simp at this
            | cons y ys =>
              unfold AlikeL at ha
              rw [List.map_cons, List.map_cons] at ha
              injection ha with ha1 ha2
              obtain ⟨l1, r1, hr1⟩ := ih (gx x (by simp)).2 hu (gx x (by simp)).1 (gy y (by simp)) hr ha1
              obtain ⟨hu1, -⟩ := UniR.sound r1 hu (gx x (by simp)).1 (gy y (by simp)) l1 rfl
              obtain ⟨l2, r2, hr2⟩ := ihx ys l1 hu1 hr1 (fun z hz => gx z (by simp [hz])) (fun z hz => gy z (by simp [hz])) ha2
              exact ⟨l2, .cons r1 r2, hr2⟩
        obtain ⟨l', r', hr'⟩ := hL _ _ l hu hr (fun x hx => ⟨g1.kid hx, by have := kid_sub_nodes (f := f) h1 hx; rw [e1] at this; omega⟩) (fun y hy => g2.kid hy) k4
        exact ⟨l', .kids h1 h2 k1 k2 k3 r', hr'⟩
end Go.Proofs.Ytghldoiblbcacaa

/- A slice whose row is its own and whose data lie anywhere else: it grows, and its elements are written anew (no program in sight). Conditions: none. -/
namespace Go.Proofs.Ytghldoiblbcacaa
open Go.RowKit
set_option linter.unusedVariables false
set_option linter.unusedSimpArgs false

/-- blocks that are there, but not the row of v -/
def Off (w : World) (v : Value) : Nat → Prop := fun b => b < w.heap.size ∧ v.ownBlock ≠ some b
/-- of these, those of a class -/
def OffX (X : Nat → Prop) (w : World) (v : Value) : Nat → Prop := fun b => Off w v b ∧ X b
def Gov (X : Nat → Prop) (w : World) (e : TypeId) (size : Nat) (v : Value) (n : Nat) (xs : List D) : Prop :=
  xs.length = n ∧ ∃ cs, w.ownsRow 0 e size v n cs ∧ rdC w size (OffX X w v) xs cs

theorem Gr.off {w w' : World} {v v' : Value} (h : Gr w w' v v') : ∀ b, Off w v b → Off w' v' b ∧ w'.heap[b]? = w.heap[b]? := fun b hb =>
  ⟨⟨Nat.lt_of_lt_of_le hb.1 h.size, h.ne hb.2 hb.1⟩, h.grow.block b hb.1 fun e => hb.2 e.symm⟩
theorem Gr.offX {X : Nat → Prop} {w w' : World} {v v' : Value} (h : Gr w w' v v') : ∀ b, OffX X w v b → OffX X w' v' b ∧ w'.heap[b]? = w.heap[b]? := fun b hb => ⟨⟨(h.off b hb.1).1, hb.2⟩, (h.off b hb.1).2⟩
theorem Below.off {w w' : World} {v : Value} (h : Below w.heap.size w w') : ∀ b, Off w v b → Off w' v b ∧ w'.heap[b]? = w.heap[b]? := (Gr.of_below h).off
theorem Below.offX {X : Nat → Prop} {w w' : World} {v : Value} (h : Below w.heap.size w w') : ∀ b, OffX X w v b → OffX X w' v b ∧ w'.heap[b]? = w.heap[b]? := (Gr.of_below h).offX
theorem Gov.below {X : Nat → Prop} {w w' : World} {e : TypeId} {size : Nat} {v : Value} {n : Nat} {xs : List D} (h : Gov X w e size v n xs) (hb : Below w.heap.size w w') : Gov X w' e size v n xs := by
  obtain ⟨h1, cs, h2, h4⟩ := h
  refine ⟨h1, cs, ?_, rdC_keep (Below.offX hb) xs cs h4⟩
  refine ⟨h2.1, ?_⟩
  rcases h2.2 with h | ⟨g, cap, cur, rfl, a1, a2, a3⟩
  · exact .inl h
  · exact .inr ⟨g, cap, cur, rfl, a1, (hb.block g (h2.lt g rfl).2).trans a2, a3⟩
theorem Gov.form {X : Nat → Prop} {w : World} {e : TypeId} {size : Nat} {v : Value} {n : Nat} {xs : List D} (h : Gov X w e size v n xs) : ∃ A c, v = .slice A n c := by
  obtain ⟨h1, cs, h2, h4⟩ := h
  rcases h2.2 with ⟨rfl, h0⟩ | ⟨g, cap, cur, rfl, _⟩
  · exact ⟨none, 0, by rw [h0]⟩
  · exact ⟨_, cap, rfl⟩
theorem Gov.sl {X : Nat → Prop} {w : World} {e : TypeId} {size : Nat} {A : Option Addr} {k c n : Nat} {xs : List D} (h : Gov X w e size (.slice A k c) n xs) : Sl w (Lt w.heap.size) size A c xs := by
  obtain ⟨h1, cs, h2, h4⟩ := h
  have hlt := h2.lt
  rcases h2.2 with ⟨h0, h⟩ | ⟨g, cap, cur, h0, a1, a2, a3, a4, a5, a6⟩
  · cases h0
    have : xs = [] := List.eq_nil_of_length_eq_zero (by omega)
    subst this
    exact Sl.nil (by unfold maxLen; omega)
  · cases h0
    refine ⟨by omega, a4, .inr ⟨g, 0, rfl, (hlt g rfl).2, ?_⟩⟩
    refine rdC_row xs cs 0 (fun j v hj => ?_) (rdC_keep (fun b hb => ⟨hb.1.1, rfl⟩) xs cs h4)
    rw [Nat.zero_add, Row.cell (t := e) (cs := cur) a2]
    rw [← a6, List.getElem?_take] at hj
    split at hj
    · simpa using hj
    · cases hj
theorem ownC_rdC {w : World} {size : Nat} : ∀ (xs : List D) (S : Nat → Prop) (cs : List Value), ownC w size xs S cs → rdC w size S xs cs
  | [], _, _, h => by simpa only [ownC, rdC] using h
  | d :: r, S, cs, h => by
    simp only [ownC, rdC] at h ⊢
    obtain ⟨S1, S2, c1, c2, g1, g2, e, hl, h1, h2⟩ := h
    exact ⟨c1, c2, e, hl, D.rd_keep (fun b hb => ⟨(g1 b hb).1, rfl⟩) d c1 (D.own_rd d S1 c1 h1), rdC_keep (fun b hb => ⟨g2 b hb, rfl⟩) r c2 (ownC_rdC r S2 c2 h2)⟩
theorem Gov.step {X : Nat → Prop} {w w' : World} {g cap : Nat} {e e' : TypeId} {size : Nat} {v : Value} {n : Nat} {xs : List D} {d : D} {cs cells : List Value}
    (hxs : xs.length = n) (hoc : rdC w size (OffX X w v) xs cells) (hd : d.rd w (OffX X w v) cs) (hcs : cs.length = size)
    (hown : w'.ownsRow 0 e size (.slice (some ⟨g, 0, none⟩) (n + 1) cap) (n + 1) (cells ++ cs)) (hg : Gr w w' v (.slice (some ⟨g, 0, none⟩) (n + 1) cap)) :
    Gov X w' e size (.slice (some ⟨g, 0, none⟩) (n + 1) cap) (n + 1) (xs ++ [d]) :=
  ⟨by simp [hxs], cells ++ cs, hown, rdC_snoc (D.rd_keep hg.offX d cs hd) hcs xs cells (rdC_keep hg.offX xs cells hoc)⟩

theorem wpList_append_V {X : Nat → Prop} {P : Program} (w : World) {ops : Array Oper} {rest : List Oper} {o : Oper} {a : Act} {Q : Exit → Act → World → Prop} (hgd : o.guard = none) (s x : Operand) (t : TypeId) (ho : o.op = .call { callee := .builtin .append, args := #[s, x], argTypes := #[t, t] })
    (e : TypeId) (z : Value) (size bytes : Nat) (ht : P.underlying t = some (.slice e)) (hi : (P.info? e).map (fun i => (i.zero, i.size, i.bytes)) = some (some z, size, bytes)) (hzs : z.cells.size = size) (hsz : 0 < size)
    (v : Value) (n : Nat) (xs : List D) (hg : Gov X w e size v n xs) (d : D) (cs : List Value) (hd : d.rd w (OffX X w v) cs) (hcs : cs.length = size) (h1 : ∀ u ∈ cs, u.oneCell' = true)
    (hn : n < 1048577) (hby : bytes ≤ 1048576) (e' : TypeId) (hs : a.eval s = v) (A : Nat) (hA : A = w.heap.size) (hx : a.eval x = .slice (some ⟨A, 0, none⟩) 1 1)
    (h : ∀ g cap w', Gov X w' e size (.slice (some ⟨g, 0, none⟩) (n + 1) cap) (n + 1) (xs ++ [d]) → Gr w w' v (.slice (some ⟨g, 0, none⟩) (n + 1) cap) → wpList P ops Q rest (a.put o.dst (.slice (some ⟨g, 0, none⟩) (n + 1) cap)) w') : wpList P ops Q (o :: rest) a (w.alloc (.cells cs.toArray e')) := by
  obtain ⟨i, i1, i2, i3, i4⟩ := info_parts hi
  obtain ⟨hxs, cells, g2, g4⟩ := id hg
  have e1 : w.heap.size < (w.alloc (.cells cs.toArray e')).heap.size := by simp
  have hga := g2.alloc (.cells cs.toArray e')
  have hnews : ∀ j u, cs[j]? = some u → (w.alloc (.cells cs.toArray e')).cell? ((⟨A, 0, none⟩ : Addr).add j) = some u := fun j u hu => by
    subst hA
    exact World.news_of_block (cs := cs.toArray) (heap_alloc_new w _) j u (by simpa using hu)
  have hbt : (n + 1) * bytes ≤ 140737488355328 := Nat.le_trans (Nat.mul_le_mul (show n + 1 ≤ 1048577 by omega) hby) (by omega)
  refine wpList_append_lies (w.alloc (.cells cs.toArray e')) hgd s x t ho 0 e i z size bytes ht i1 i2 i3 i4 hzs hsz v n cells hs hga ⟨A, 0, none⟩ 1 1 cs hx (by omega) hnews h1 (by omega) (by unfold maxLen; omega) hbt (by omega) _ rfl fun g cap w' h2 h3 h4 h5 => ?_
  have hgr : Gr w w' v (.slice (some ⟨g, 0, none⟩) (n + 1) cap) := by
    refine (Gr.of_below ((Below.refl _ _).alloc (Nat.le_refl _) _)).trans ⟨h3, ?_⟩
    rcases h4 with h4 | h4
    · exact .inl h4.symm
    · exact .inr ⟨g, rfl, by omega⟩
  exact h g cap w' (Gov.step (e' := e') hxs g4 hd hcs h2 hgr) hgr

theorem Gow.gov {X : Nat → Prop} {w : World} {B m : Nat} {e : TypeId} {size : Nat} {v : Value} {n : Nat} {xs : List D} (h : Gow w B m e size v n xs) (hm : m ≤ w.heap.size) (hX : ∀ b, B ≤ b → X b) : Gov X w e size v n xs := by
  obtain ⟨h1, cs, h2, h3, h4⟩ := h
  refine ⟨h1, cs, ?_, rdC_keep (fun b hb => ⟨⟨⟨by omega, fun e => hb.2.2 e⟩, hX b (by omega)⟩, rfl⟩) xs cs (ownC_rdC xs _ cs h4)⟩
  refine ⟨h2.1, ?_⟩
  rcases h2.2 with h | ⟨g, cap, cur, rfl, a1, a2, a3⟩
  · exact .inl h
  · exact .inr ⟨g, cap, cur, rfl, Nat.zero_le _, a2, a3⟩

/-! ### one element written anew -/
theorem rdC_lenV {w : World} {size : Nat} {S : Nat → Prop} : ∀ (xs : List D) (cs : List Value), rdC w size S xs cs → cs.length = xs.length * size
  | [], cs, h => by simp only [rdC] at h; subst h; simp
  | d :: r, cs, h => by
    simp only [rdC] at h
    obtain ⟨c1, c2, rfl, hl, h1, h2⟩ := h
    have := rdC_lenV r c2 h2
    rw [List.length_append, List.length_cons, Nat.add_mul, Nat.one_mul]; omega
/-- what is read there, and what may be put in its place -/
theorem rdC_setV {w w' : World} {size : Nat} {S : Nat → Prop} (hk : ∀ b, S b → w'.heap[b]? = w.heap[b]?) {S' : Nat → Prop} (hS : ∀ b, S b → S' b) {d' : D} {c' : List Value} (hd : d'.rd w' S' c') (hl' : c'.length = size) : ∀ (xs : List D) (cs : List Value) (j : Nat), j < xs.length → rdC w size S xs cs →
    rdC w' size S' (xs.set j d') (cs.take (j * size) ++ c' ++ cs.drop (j * size + size))
  | [], _, j, hj, _ => by simp at hj
  | d :: r, cs, 0, hj, h => by
    simp only [rdC] at h
    obtain ⟨c1, c2, rfl, hl, h1, h2⟩ := h
    simp only [List.set_cons_zero, rdC, Nat.zero_mul, List.take_zero, List.nil_append, Nat.zero_add]
    refine ⟨c', c2, ?_, hl', hd, rdC_keep (fun b hb => ⟨hS b hb, hk b hb⟩) r c2 h2⟩
    rw [List.drop_append_of_le_length (by omega), List.drop_eq_nil_of_le (by omega), List.nil_append]
  | d :: r, cs, j + 1, hj, h => by
    simp only [rdC] at h
    obtain ⟨c1, c2, rfl, hl, h1, h2⟩ := h
    have ih := rdC_setV hk hS hd hl' r c2 j (by simpa using hj) h2
    simp only [List.set_cons_succ, rdC]
    refine ⟨c1, c2.take (j * size) ++ c' ++ c2.drop (j * size + size), ?_, hl, D.rd_keep (fun b hb => ⟨hS b hb, hk b hb⟩) d c1 h1, ih⟩
    have e : (j + 1) * size = c1.length + j * size := by rw [Nat.add_mul, Nat.one_mul, hl]; omega
    rw [e, List.take_length_add_append, Nat.add_assoc, List.drop_length_add_append]
    simp only [List.append_assoc]
theorem rdC_atV {w : World} {size : Nat} {S : Nat → Prop} : ∀ (xs : List D) (cs : List Value) (j : Nat) (hj : j < xs.length), rdC w size S xs cs → (xs[j]).rd w S ((cs.drop (j * size)).take size)
  | [], _, j, hj, _ => by simp at hj
  | d :: r, cs, 0, hj, h => by
    simp only [rdC] at h
    obtain ⟨c1, c2, rfl, hl, h1, h2⟩ := h
    simp only [Nat.zero_mul, List.drop_zero, List.getElem_cons_zero]
    rw [List.take_append_of_le_length (by omega), List.take_of_length_le (by omega)]
    exact h1
  | d :: r, cs, j + 1, hj, h => by
    simp only [rdC] at h
    obtain ⟨c1, c2, rfl, hl, h1, h2⟩ := h
    have ih := rdC_atV r c2 j (by simpa using hj) h2
    have e : (j + 1) * size = c1.length + j * size := by rw [Nat.add_mul, Nat.one_mul, hl]; omega
    rw [e, List.drop_length_add_append, List.getElem_cons_succ]
    exact ih

/-- cells of an element, from the k-th of them on, written anew -/
theorem Gov.set {X : Nat → Prop} {w : World} {e : TypeId} {size : Nat} {g cap n : Nat} {xs : List D} (h : Gov X w e size (.slice (some ⟨g, 0, none⟩) n cap) n xs) {j k : Nat} (hj : j < n) {d' : D} {vs : List Value} {old : List Value}
    (hold : ∀ i u, old[i]? = some u → w.cell? ⟨g, j * size + i, none⟩ = some u) (hk : old.length = k) (hlen : k + vs.length = size) (hd : d'.rd w (OffX X w (.slice (some ⟨g, 0, none⟩) n cap)) (old ++ vs)) :
    Gov X (setCells w g (j * size + k) vs) e size (.slice (some ⟨g, 0, none⟩) n cap) n (xs.set j d') ∧ Gr w (setCells w g (j * size + k) vs) (.slice (some ⟨g, 0, none⟩) n cap) (.slice (some ⟨g, 0, none⟩) n cap) := by
  obtain ⟨h1, cs, h2, h4⟩ := h
  have hT : Gr w (setCells w g (j * size + k) vs) (.slice (some ⟨g, 0, none⟩) n cap) (.slice (some ⟨g, 0, none⟩) n cap) := by
    have hq := setCells_below (Below.refl g w) g (j * size + k) (Nat.le_refl _) vs
    refine ⟨⟨hq.os, hq.tape, hq.output, hq.size, fun b hb hne => setCells_block _ _ _ _ _ (fun e => hne (by rw [e]; rfl))⟩, .inl rfl⟩
  refine ⟨?_, hT⟩
  rcases h2.2 with ⟨h0, h⟩ | ⟨g', cap', cur, h0, a1, a2, a3, a4, a5, a6⟩
  · cases h0
  · cases h0
    obtain ⟨row', r1, r2, r3, r4⟩ := setCells_row (show Row w g e cur from a2) (j * size + k) vs
    have hnb : n * size ≤ cur.size := by rw [a5]; exact Nat.mul_le_mul_right _ a3
    have hjn : j * size + size ≤ n * size := by have := Nat.mul_le_mul_right size (show j + 1 ≤ n from hj); rw [Nat.add_mul, Nat.one_mul] at this; exact this
    have hcs : cs.length = n * size := h2.1
    have hS := rdC_setV (w' := setCells w g (j * size + k) vs) (S := OffX X w (.slice (some ⟨g, 0, none⟩) n cap)) (S' := OffX X (setCells w g (j * size + k) vs) (.slice (some ⟨g, 0, none⟩) n cap)) (d' := d') (c' := old ++ vs) (size := size)
      (fun b hb => (hT.offX b hb).2) (fun b hb => (hT.offX b hb).1) (D.rd_keep hT.offX d' _ hd) (by rw [List.length_append]; omega) xs cs j (by omega) h4
    refine ⟨by simpa using h1, _, ⟨?_, .inr ⟨g, cap, row', rfl, Nat.zero_le _, r1, a3, a4, by rw [r2]; exact a5, ?_⟩⟩, hS⟩
    · rw [List.length_append, List.length_append, List.length_append, List.length_take, List.length_drop, hcs, hk]; omega
    · apply List.ext_getElem?
      intro i
      rw [List.getElem?_take]
      by_cases hi : i < n * size
      · rw [if_pos hi, Array.getElem?_toList]
        have hci : cs[i]? = cur[i]? := by rw [← a6, List.getElem?_take, if_pos hi, Array.getElem?_toList]
        by_cases i1 : i < j * size
        · rw [r3 i (.inl (by omega)), List.getElem?_append_left (by rw [List.length_append, List.length_take]; omega), List.getElem?_append_left (by rw [List.length_take]; omega), List.getElem?_take, if_pos i1, hci]
        · by_cases i2 : i < j * size + size
          · rw [List.getElem?_append_left (by rw [List.length_append, List.length_take, List.length_append]; omega), List.getElem?_append_right (by rw [List.length_take]; omega), List.length_take, Nat.min_eq_left (by omega)]
            by_cases i3 : i < j * size + k
            · rw [r3 i (.inl i3), List.getElem?_append_left (by omega)]
              have hq : i - j * size < old.length := by omega
              have := hold (i - j * size) (old[i - j * size]) (List.getElem?_eq_getElem hq)
              rw [Row.cell (t := e) (cs := cur) a2, show j * size + (i - j * size) = i from by omega] at this
              rw [this, List.getElem?_eq_getElem hq]
            · rw [List.getElem?_append_right (by omega), hk]
              have hq : i - j * size - k < vs.length := by omega
              have := r4 (i - j * size - k) (vs[i - j * size - k]) (List.getElem?_eq_getElem hq) (by omega)
              rw [show j * size + k + (i - j * size - k) = i from by omega] at this
              rw [this, List.getElem?_eq_getElem hq]
          · rw [r3 i (.inr (by omega)), List.getElem?_append_right (by rw [List.length_append, List.length_take, List.length_append]; omega), List.getElem?_drop, List.length_append, List.length_take, List.length_append, ← hci]
            congr 1
            omega
      · rw [if_neg hi, List.getElem?_eq_none]
        rw [List.length_append, List.length_append, List.length_append, List.length_take, List.length_drop]; omega
end Go.Proofs.Ytghldoiblbcacaa

/- A copy of a substitution, in the reference. Conditions: what it holds is at most 1048576. -/
namespace Go.Proofs.Ytghldoiblbcacaa
open Go.RowKit
set_option linter.unusedVariables false
set_option linter.unusedSimpArgs false
set_option maxHeartbeats 600000

def zBindU : Value := .agg #[.int .i64 0, .int .i64 0, .int .i64 0, .string ⟨#[]⟩, .slice none 0 0]
/-- binds of one's own that are handed back -/
def ToBinds (l : List GBind) (w : World) (e : Ending) (w' : World) : Prop := ∃ A1 c1, e = .returned (.slice A1 l.length c1) ∧ Gow w' w.heap.size w'.heap.size 46 5 (.slice A1 l.length c1) l.length (l.map GBind.toD) ∧ Below w.heap.size w w'

set_option maxRecDepth 20000 in
theorem specBindsCopy (l : List GBind) (A : Option Addr) (c : Nat) (w : World) (hb : bulkL GBind.bulk l ≤ 1048576) (hs : Sl w (Lt w.heap.size) 5 A c (l.map GBind.toD)) :
    Calls Try.prog 44 #[.slice A l.length c] w (ToBinds l w) := by
  have hlen : l.length ≤ 1048576 := Nat.le_trans (bulkL_len GBind.bulk l) hb
  have S0 := Lib.hid hs
  have HBJ := Lib.hid (fun (j : Nat) (h : j < l.length) => show (l[j]).ty.bulk ≤ 1048576 from by have h1 := bulkL_mem GBind.bulk l _ (List.getElem_mem h); have h2 : (l[j]).bulk = (l[j]).ty.bulk := rfl; omega)
  obtain ⟨w0, e0⟩ : ∃ w0, w0 = w.alloc (.cells #[] 46) := ⟨_, rfl⟩
  have B0 := Lib.hid (show Below w.heap.size w w0 by rw [e0]; exact (Below.refl _ _).alloc (Nat.le_refl _) _)
  have hs0 : w0.heap.size = w.heap.size + 1 := by rw [e0]; simp
  have G0 := Lib.hid (show Gow w0 w.heap.size w0.heap.size 46 5 (.slice (some ⟨w.heap.size, 0, none⟩) 0 0) 0 [] from Gow.made (by rw [e0]; exact Row.new' _ _ _ rfl) (Nat.le_refl _) (by omega))
  have EQ := Lib.hid e0
  clear hs hb e0 hs0
  go_enter Try.func44, Try.ntmps44
  go_wp2_with fail
  rw [← EQ.out]
  go_loopw [3, 4] (fun v i wr => ∃ (j : Nat) (Av : Option Addr) (cv : Nat), j ≤ l.length ∧ i = .int .i64 j ∧ v = .slice Av j cv ∧ Hid (Gow wr w.heap.size wr.heap.size 46 5 (.slice Av j cv) j ((l.take j).map GBind.toD)) ∧ Below w.heap.size w wr) (fun _ i _ => l.length - (intOf i).toNat)
  case atStart => exact ⟨0, _, _, by omega, by go_num, rfl, G0, B0.out⟩
  case round =>
    clear G0 B0
    obtain ⟨j, Av, cv, hj, rfl, rfl, HG, hbl⟩ := hrel
    have hsz := hbl.size
    by_cases hlt : j < l.length
    · obtain ⟨b, off, A2, c2, eA, hSb, g0, g1, g2, g3, g4, hat⟩ := GBind.elem (S0.out.below hbl (Nat.le_refl _)) j hlt
      subst eA
      have hwf := hat.1
      have HWF := Lib.hid hwf
      have HC := Lib.hid (specTyCopy' (l[j]).ty A2 c2 wr.drew (HBJ.out j hlt) (hat.2.keep fun q hq => ⟨Nat.lt_of_lt_of_le hq hsz, rfl⟩))
      have hSb' : b < w.heap.size := hSb
      have hSw : b < wr.heap.size := Nat.lt_of_lt_of_le hSb' hsz
      clear hat hwf
      go_wp2_with fail
      go_region_law (first
        | (refine step_append_D w1 rfl (.tmp 12) (.tmp 25) 24 rfl 46 zBindU 5 64 Try.underlying24 (by kernel_rfl) rfl (by omega) w.heap.size wr.heap.size _ j _ HG1.out (l[j]).toD [.int .i64 (l[j]).n, .int .i64 (l[j]).ty.op, .int .i64 (l[j]).ty.n, .string (l[j]).ty.s, .slice A3 (l[j]).ty.kids.length c3] how1.out (by omega) B1.out.size rfl (by simp [Value.oneCell']) (by omega) (by omega) 46 rfl w1.heap.size rfl rfl ?_
           intro g cap w2 G2 Bq2 hs2 hg2 hgl2
           have G3 := Lib.hid G2
           have B2 := Lib.hid Bq2
           clear G2 Bq2)
        | (go_simp
           go_at_call 54
           refine HC.out.mono ?_
           rintro e w1 ⟨A3, c3, rfl, how, hb1⟩
           have B1 := Lib.hid (show Below wr.heap.size wr w1 from ((Below.refl wr.heap.size wr).drew).trans hb1)
           have k0 : w1.cell? ⟨b, off + j * 5, none⟩ = some (.int .i64 (l[j]).n) := (B1.out.cell (p := ⟨b, off + j * 5, none⟩) hSw).trans g0
           have HG1 := Lib.hid (HG.out.below B1.out (Nat.le_refl _))
           have how1 := Lib.hid (GBind.own_mk (t := l[j]) (show GBind.Ow w1 (Btw wr.heap.size w1.heap.size) A3 c3 l[j] from ⟨HWF.out, how.keep fun q hq => ⟨hq, rfl⟩⟩))
           clear hb1 how))
      all_goals
        go_wp2_with fail
        go_roundw
        case rel => exact ⟨j + 1, _, _, by omega, by go_num, rfl, by rw [take_snoc' l j hlt, List.map_append]; exact G3, (hbl.trans (B1.out.mono hsz)).trans B2.out⟩
        case measure => simp [intOf]; omega
    · have hjl : j = l.length := by omega
      subst hjl
      rw [List.take_length] at HG
      have HOW := HG
      clear hlt
      go_wp2_with fail
      go_ret
      exact ⟨_, _, rfl, HOW.out, hbl⟩
end Go.Proofs.Ytghldoiblbcacaa

/- A var is made to stand for a type, in the reference (l5Put). Conditions: what is held is at most 1048576. -/
namespace Go.Proofs.Ytghldoiblbcacaa
open Go.RowKit
set_option linter.unusedVariables false
set_option linter.unusedSimpArgs false
set_option maxHeartbeats 600000

theorem Gov.elemB {X : Nat → Prop} {w : World} {e : TypeId} {A : Option Addr} {c : Nat} {l : List GBind} (h : Gov X w e 5 (.slice A l.length c) l.length (l.map GBind.toD)) (j : Nat) (hj : j < l.length) :
    ∃ b A1 c1, A = some ⟨b, 0, none⟩ ∧ b < w.heap.size ∧ (∀ o, w.frozen? ⟨b, o, none⟩ = false) ∧ w.cell? ⟨b, j * 5, none⟩ = some (.int .i64 l[j].n) ∧ w.cell? ⟨b, j * 5 + 1, none⟩ = some (.int .i64 l[j].ty.op) ∧ w.cell? ⟨b, j * 5 + 2, none⟩ = some (.int .i64 l[j].ty.n) ∧ w.cell? ⟨b, j * 5 + 3, none⟩ = some (.string l[j].ty.s) ∧ w.cell? ⟨b, j * 5 + 4, none⟩ = some (.slice A1 l[j].ty.kids.length c1) ∧ GBind.At w (Off w (.slice A l.length c)) A1 c1 l[j] := by
  obtain ⟨h1, cs, h2, h4⟩ := h
  have hlt := h2.lt
  rcases h2.2 with ⟨h0, h⟩ | ⟨g, cap, cur, h0, a1, a2, a3, a4, a5, a6⟩
  · omega
  · cases h0
    have hr := rdC_atV _ cs j (by simpa using hj) h4
    rw [List.getElem_map] at hr
    obtain ⟨A1, c1, he, hat⟩ := GBind.rd hr
    have hc : ∀ i u, ((cs.drop (j * 5)).take 5)[i]? = some u → w.cell? ⟨g, j * 5 + i, none⟩ = some u := fun i u hu => by
      rw [List.getElem?_take] at hu
      split at hu
      · rw [List.getElem?_drop, ← a6, List.getElem?_take] at hu
        split at hu
        · rw [Row.cell (t := e) (cs := cur) a2]; simpa using hu
        · cases hu
      · cases hu
    rw [he] at hc
    exact ⟨g, A1, c1, rfl, (hlt g rfl).2, fun o => Row.frozen (t := e) (cs := cur) a2 o, by simpa using hc 0 _ rfl, by simpa using hc 1 _ rfl, by simpa using hc 2 _ rfl, by simpa using hc 3 _ rfl, by simpa using hc 4 _ rfl, hat.keep (fun q hq => ⟨hq.1, rfl⟩)⟩
theorem Gov.ne {X : Nat → Prop} {w : World} {e : TypeId} {size : Nat} {v : Value} {n : Nat} {xs : List D} (h : Gov X w e size v n xs) {b : Nat} (hb : w.heap.size ≤ b) : v.ownBlock ≠ some b := by
  obtain ⟨h1, cs, h2, h4⟩ := h
  intro e
  have := (h2.lt b e).2
  omega
theorem slOneBind {w : World} {S : Nat → Prop} {g : Nat} {T : TypeId} {n : Int} {a : GTy} {A1 : Option Addr} {c1 : Nat} (hr : Row w g T #[.int .i64 n, .int .i64 a.op, .int .i64 a.n, .string a.s, .slice A1 a.kids.length c1]) (hn : (Lit.int .i64 n).wf = true) (ha : GTy.At w S A1 c1 a) (hg : S g) : Sl w S 5 (some ⟨g, 0, none⟩) 1 ([(⟨n, a⟩ : GBind)].map GBind.toD) := by
  refine ⟨by simp, by unfold maxLen; omega, .inr ⟨g, 0, rfl, hg, ?_⟩⟩
  refine rdC_row [(⟨n, a⟩ : GBind).toD] [.int .i64 n, .int .i64 a.op, .int .i64 a.n, .string a.s, .slice A1 a.kids.length c1] 0 (fun j v hj => ?_) ?_
  · rw [Nat.zero_add, hr.cell]; simpa using hj
  · simp only [rdC]
    exact ⟨_, [], by simp, by simp, GBind.rd_mk (t := ⟨n, a⟩) ⟨hn, ha⟩, rfl⟩
theorem Gov.rowB {X : Nat → Prop} {w w' : World} {e : TypeId} {b n c : Nat} {xs : List D} {size : Nat} (h : Gov X w e size (.slice (some ⟨b, 0, none⟩) n c) n xs) (hb : Below w.heap.size w w') : ∃ row, Row w' b e row := by
  obtain ⟨h1, cs, h2, h4⟩ := h
  have hlt := h2.lt
  rcases h2.2 with ⟨h0, h⟩ | ⟨g, cap, cur, h0, a1, a2, a3, a4, a5, a6⟩
  · cases h0
  · cases h0
    exact ⟨cur, (hb.block b (hlt b rfl).2).trans a2⟩
theorem setCells_at4 {w : World} {b k : Nat} {T : TypeId} {row : Array Value} (hr : Row w b T row) {v1 v2 v3 v4 : Value} (hk : k + 4 < row.size) : ((((w.setCell ⟨b, k + 1, none⟩ v1).setCell ⟨b, k + 1 + 1, none⟩ v2).setCell ⟨b, k + 1 + 2, none⟩ v3).setCell ⟨b, k + 1 + 3, none⟩ v4).cell? ⟨b, k + 4, none⟩ = some v4 := by
  have h := (((hr.set (k + 1) v1).set (k + 1 + 1) v2).set (k + 1 + 2) v3).set (k + 1 + 3) v4
  rw [show (k + 4) = k + 1 + 3 from rfl, h.cell, Array.getElem?_setIfInBounds, if_pos rfl, if_pos (by simp only [Array.size_setIfInBounds]; omega)]
theorem midB_did (n : Int) (t : GTy) (l : List GBind) (j : Nat) (h : j < l.length) (h' : j < (midB n t l (j + 1)).length) : (midB n t l (j + 1))[j] = subB n t l[j] := by
  have e := midB_set n t l j h
  have hl := midB_length n t l j (Nat.le_of_lt h)
  have h2 : (midB n t l (j + 1))[j]? = some (subB n t l[j]) := by rw [← e, List.getElem?_set_self (by omega)]
  exact (List.getElem?_eq_some_iff.1 h2).2
/-- what l5Put hands back -/
def ToPut (X : Nat → Prop) (r : Option (List GBind)) (v : Value) (w : World) (e : Ending) (w' : World) : Prop := ∃ v', e = .returned (.tuple #[v', .bool r.isSome]) ∧ Gr w w' v v' ∧ ∀ l', r = some l' → Gov X w' 46 5 v' l'.length (l'.map GBind.toD)

set_option maxRecDepth 20000 in
theorem specPut (X : Nat → Prop) (l : List GBind) (A : Option Addr) (c : Nat) (n : Int) (t : GTy) (At : Option Addr) (ct : Nat) (w : World) (hX : ∀ b, w.heap.size ≤ b → X b) (hl : l.length ≤ 1048576) (hn : (Lit.int .i64 n).wf = true) (hbt : t.bulk ≤ 32768) (hbl : ∀ x, x ∈ l → x.ty.bulk ≤ 32768)
    (hg : Gov X w 46 5 (.slice A l.length c) l.length (l.map GBind.toD)) (hat : GTy.At w (Off w (.slice A l.length c)) At ct t) :
    Calls Try.prog 86 #[.slice A l.length c, .int .i64 n, .agg #[.int .i64 t.op, .int .i64 t.n, .string t.s, .slice At t.kids.length ct]] w (ToPut X (putV n t l) (.slice A l.length c) w) := by
  have hlen : l.length ≤ 9223372036854775807 := by omega
  have HBL := Lib.hid (fun (j : Nat) (h : j < l.length) => show (l[j]).ty.bulk ≤ 32768 from hbl _ (List.getElem_mem h))
  obtain ⟨w0, e0⟩ : ∃ w0, w0 = (w.alloc (.cells #[.int .i64 t.op, .int .i64 t.n, .string t.s, .slice At t.kids.length ct] 27)).alloc (.cells #[.int .i64 n, .int .i64 t.op, .int .i64 t.n, .string t.s, .slice At t.kids.length ct] 46) := ⟨_, rfl⟩
  have B0 := Lib.hid (show Below w.heap.size w w0 by rw [e0]; exact ((Below.refl _ _).alloc (Nat.le_refl _) _).alloc (by simp) _)
  have hs0 : w0.heap.size = w.heap.size + 2 := by rw [e0]; simp
  have R0 := Lib.hid (show Row w0 w.heap.size 27 #[.int .i64 t.op, .int .i64 t.n, .string t.s, .slice At t.kids.length ct] by rw [e0]; exact (Row.new' _ _ _ rfl).alloc _)
  have R1 := Lib.hid (show Row w0 (w.heap.size + 1) 46 #[.int .i64 n, .int .i64 t.op, .int .i64 t.n, .string t.s, .slice At t.kids.length ct] by rw [e0]; exact Row.new' _ _ _ (by simp))
  have N0 := Lib.hid (hg.ne (Nat.le_refl _))
  have N1 := Lib.hid (hg.ne (show w.heap.size ≤ w.heap.size + 1 by omega))
  have G0 := Lib.hid (hg.below B0.out)
  have T0 := Lib.hid (show GTy.At w0 (Off w0 (.slice A l.length c)) At ct t from hat.keep (Below.off B0.out))
  have HN := Lib.hid hn
  have HX := Lib.hid hX
  clear hX
  have EQ := Lib.hid e0
  have HS0 := Lib.hid (show w.heap.size + 2 ≤ w0.heap.size by omega)
  clear e0 hs0 hg hat hn hbl
  go_enter Try.func86, Try.ntmps86
  go_wp2_with fail
  rw [← EQ.out]
  go_loopw [9] (fun i wr => ∃ (j : Nat), j ≤ l.length ∧ i = .int .i64 j ∧ Hid (Gov X wr 46 5 (.slice A l.length c) l.length ((midB n t l j).map GBind.toD)) ∧ Hid (Gr w0 wr (.slice A l.length c) (.slice A l.length c)) ∧ Hid (smallTo n t l j)) (fun i _ => l.length - (intOf i).toNat)
  case atStart => exact ⟨0, by omega, by go_num, Lib.hid (by rw [midB_zero]; exact G0.out), Lib.hid (Gr.refl _ _), Lib.hid (fun i h hi => by omega)⟩
  case round =>
    clear G0
    obtain ⟨j, hj, rfl, HG, HR, HT⟩ := hrel
    have R0j := Lib.hid (HR.out.row R0.out N0.out)
    have R1j := Lib.hid (HR.out.row R1.out N1.out)
    have T0j := Lib.hid (T0.out.keep HR.out.off)
    have HWR := Lib.hid (Nat.le_trans B0.out.size HR.out.size)
    by_cases hlt : j < l.length
    · have hml := midB_length n t l j (Nat.le_of_lt hlt)
      have hmj := midB_at n t l j hlt (by omega)
      have HML := Lib.hid hml
      obtain ⟨b, A2, c2, eA, hSb, hfz, g0, g1, g2, g3, g4, hq⟩ := Gov.elemB (A := A) (c := c) (l := midB n t l j) (by rw [hml]; exact HG.out) j (by omega)
      rw [hmj] at g0 g1 g2 g3 g4 hq
      rw [hml] at hq
      have HQ := Lib.hid hq
      have EA := Lib.hid eA
      subst eA
      have HC := Lib.hid (show Calls Try.prog 18 #[.slice (some ⟨w.heap.size + 1, 0, none⟩) 1 1, .agg #[.int .i64 (l[j]).ty.op, .int .i64 (l[j]).ty.n, .string (l[j]).ty.s, .slice A2 (l[j]).ty.kids.length c2]] wr (ToTy ((l[j]).ty.sub (oneF n t)) wr) from
        specApply ((l[j]).ty.bulk + 1) [⟨n, t⟩] (some ⟨w.heap.size + 1, 0, none⟩) 1 (l[j]).ty A2 c2 wr (by omega) (by have := HBL.out j hlt; omega) (by simp only [bulkL]; have : (GBind.mk n t).bulk = t.bulk := rfl; omega)
          (slOneBind R1j.out HN.out (T0j.out.keep fun q hq => ⟨hq.1, rfl⟩) R1j.out.lt) (HQ.out.2.keep fun q hq => ⟨hq.1, rfl⟩))
      clear hq hmj hml
      go_wp2_with fail
      refine HC.out.mono ?_
      rintro e w1 ⟨A3, c3, rfl, how, hb1⟩
      have B1 := Lib.hid hb1
      have hSb1 : b < w1.heap.size := Nat.lt_of_lt_of_le hSb hb1.size
      have k1 : w1.cell? ⟨b, j * 5 + 1, none⟩ = some (.int .i64 (l[j]).ty.op) := (B1.out.cell (p := ⟨b, j * 5 + 1, none⟩) hSb).trans g1
      have k2 : w1.cell? ⟨b, j * 5 + 2, none⟩ = some (.int .i64 (l[j]).ty.n) := (B1.out.cell (p := ⟨b, j * 5 + 2, none⟩) hSb).trans g2
      have k3 : w1.cell? ⟨b, j * 5 + 3, none⟩ = some (.string (l[j]).ty.s) := (B1.out.cell (p := ⟨b, j * 5 + 3, none⟩) hSb).trans g3
      have k4 : w1.cell? ⟨b, j * 5 + 4, none⟩ = some (.slice A2 (l[j]).ty.kids.length c2) := (B1.out.cell (p := ⟨b, j * 5 + 4, none⟩) hSb).trans g4
      have f1 : ∀ o, w1.frozen? ⟨b, o, none⟩ = false := fun o => (World.frozen?_of_block (a := ⟨b, o, none⟩) (hb1.block b hSb)).trans (hfz o)
      have k0 : w1.cell? ⟨b, j * 5, none⟩ = some (.int .i64 (l[j]).n) := (B1.out.cell (p := ⟨b, j * 5, none⟩) hSb).trans g0
      obtain ⟨t', et⟩ : ∃ t', t' = (l[j]).ty.sub (oneF n t) := ⟨_, rfl⟩
      rw [← et] at how ⊢
      obtain ⟨W, eW⟩ : ∃ W, W = setCells w1 b (j * 5 + 1) [.int .i64 t'.op, .int .i64 t'.n, .string t'.s, .slice A3 t'.kids.length c3] := ⟨_, rfl⟩
      have HSET := Lib.hid (Gov.set (w := w1) (e := 46) (size := 5) (g := b) (cap := c) (n := l.length) (xs := (midB n t l j).map GBind.toD) (HG.out.below B1.out) (j := j) (k := 1) hlt (d' := (subB n t (l[j])).toD) (vs := [.int .i64 t'.op, .int .i64 t'.n, .string t'.s, .slice A3 t'.kids.length c3]) (old := [.int .i64 (l[j]).n])
        (fun i u hu => by
          rcases i with _ | i
          · have hu2 : Value.int .i64 (l[j]).n = u := Option.some.inj hu
            rw [← hu2]; exact k0
          · simp at hu) rfl rfl (by
            have := GBind.rd_mk (w := w1) (S := OffX X w1 (.slice (some ⟨b, 0, none⟩) l.length c)) (t := subB n t (l[j])) (A1 := A3) (c1 := c3) ⟨HQ.out.1, by
              rw [show (subB n t (l[j])).ty = t' from et.symm]
              exact how.at.keep fun q hq => ⟨⟨⟨hq.2, fun e => by (have h2 : b = q := (by simpa [Value.ownBlock] using e)); subst h2; exact absurd hq.1 (by omega)⟩, HX.out q (Nat.le_trans HWR.out hq.1)⟩, rfl⟩⟩
            rw [show (subB n t (l[j])).ty = t' from et.symm] at this
            exact this))
      rw [← eW, ← List.map_set, midB_set n t l j hlt] at HSET
      have HG1 := Lib.hid HSET.out.1
      have HR1 := Lib.hid ((HR.out.trans (Gr.of_below B1.out)).trans HSET.out.2)
      have ET := Lib.hid et
      have EQW := Lib.hid (show W = (((w1.setCell ⟨b, j * 5 + 1, none⟩ (.int .i64 t'.op)).setCell ⟨b, j * 5 + 1 + 1, none⟩ (.int .i64 t'.n)).setCell ⟨b, j * 5 + 1 + 2, none⟩ (.string t'.s)).setCell ⟨b, j * 5 + 1 + 3, none⟩ (.slice A3 t'.kids.length c3) from eW)
      clear eW HSET et how hb1 HQ
      obtain ⟨b5, A5, c5, eA5, -, -, -, -, -, -, x4, hq5⟩ := Gov.elemB (A := some ⟨b, 0, none⟩) (c := c) (l := midB n t l (j + 1)) (by rw [midB_length n t l (j + 1) hlt]; exact HG1.out) j (by rw [midB_length n t l (j + 1) hlt]; exact hlt)
      have hq6 : (midB n t l (j + 1))[j]'(by rw [midB_length n t l (j + 1) hlt]; exact hlt) = subB n t (l[j]) := midB_did n t l j hlt _
      rw [hq6, show (subB n t (l[j])).ty = t' from ET.out.symm] at x4
      rw [hq6] at hq5
      cases eA5
      have y4 : W.cell? ⟨b, j * 5 + 4, none⟩ = some (.slice A3 t'.kids.length c3) := by
        rw [EQW.out]
        obtain ⟨row, hrow⟩ : ∃ row, Row w1 b 46 row := HG.out.rowB B1.out
        exact setCells_at4 hrow (by
          have e4 := k4
          rw [hrow.cell] at e4
          exact (Array.getElem?_eq_some_iff.1 e4).1)
      rw [x4] at y4
      cases y4
      have hq7 : GTy.At W (Off W (.slice (some ⟨b, 0, none⟩) (midB n t l (j + 1)).length c)) A3 c3 t' := by rw [ET.out]; exact hq5.2
      have HN5 := Lib.hid (show t'.nodes ≤ 4611686018427387904 from by
        rw [ET.out]
        have h1 := GTy.sub_bulk (oneF n t) 32768 (fun m u hu => by rw [(oneF_some hu).2]; exact hbt) ((l[j]).ty.bulk + 1) (l[j]).ty (by omega)
        have h2 := GTy.nodes_bulk ((l[j]).ty.sub (oneF n t))
        have h3 : ((l[j]).ty.bulk + 1) * (32768 + 1) ≤ 32769 * (32768 + 1) := Nat.mul_le_mul_right _ (by have := HBL.out j hlt; omega)
        omega)
      have HC2 := Lib.hid (specTySize t'.nodes t' A3 c3 W (Nat.le_refl _) HN5.out (hq7.keep fun q hq => ⟨hq.1, rfl⟩))
      have HG2 := Lib.hid (show Gov X W 46 5 (.slice (some ⟨b, 0, none⟩) l.length c) l.length ((midB n t l (j + 1)).map GBind.toD) from HG1.out)
      clear hq5 hq6 hq7 x4 HG1
      go_wp2_with fail
      rw [← EQW.out]
      refine HC2.out.mono ?_
      rintro e w2 ⟨rfl, hb2⟩
      have HG3 := Lib.hid (HG2.out.below hb2)
      have HR3 := Lib.hid (HR1.out.trans (Gr.of_below hb2))
      clear EQW HG2 HR1 HC2 hb2
      by_cases hbig : 200 < t'.nodes
      · have hd : decide ((t'.nodes : Int) > 200) = true := decide_eq_true (by omega)
        have HV := Lib.hid (putV_no (n := n) (t := t) hlt (by rw [← ET.out]; omega))
        go_wp2_with fail
        go_ret2
        exact ⟨_, by rw [HV.out]; rfl, (Gr.of_below B0.out).trans HR3.out, fun l' hl' => by rw [HV.out] at hl'; cases hl'⟩
      · have hd : decide ((t'.nodes : Int) > 200) = false := decide_eq_false (by omega)
        have HT2 := Lib.hid (HT.out.succ hlt (by rw [← ET.out]; omega))
        go_wp2_with fail
        go_roundw
        case rel => exact ⟨j + 1, by omega, by go_num, HG3, HR3, HT2⟩
        case measure => simp [intOf]; omega
    · have hjl : j = l.length := by omega
      subst hjl
      have HV := Lib.hid (putV_yes HT.out)
      have HC := Lib.hid (specTyCopy' t At ct wr (by omega) (T0j.out.keep fun q hq => ⟨hq.1, rfl⟩))
      have hrl := R0j.out.lt
      have hc1 := fun i => R0j.out.cell i
      clear hlt
      go_wp2_with fail
      refine HC.out.mono ?_
      rintro e w1 ⟨A3, c3, rfl, how, hb1⟩
      have B1 := Lib.hid hb1
      have HG1 := Lib.hid (HG.out.below hb1)
      have hd1 := Lib.hid (GBind.rd_mk (w := w1) (S := OffX X w1 (.slice A l.length c)) (t := GBind.mk n t) (A1 := A3) (c1 := c3) ⟨HN.out, how.at.keep fun q hq => ⟨⟨⟨hq.2, HG.out.ne hq.1⟩, HX.out q (Nat.le_trans HWR.out hq.1)⟩, rfl⟩⟩)
      clear hb1 how HC
      go_wp2_with (first | (at_builtin; refine wpList_append_V (X := X) w1 rfl (.tmp 39) (.tmp 44) 24 rfl 46 zBindU 5 64 Try.underlying24 (by kernel_rfl) rfl (by omega) (.slice A l.length c) l.length _ HG1.out (GBind.mk n t).toD [.int .i64 n, .int .i64 t.op, .int .i64 t.n, .string t.s, .slice A3 t.kids.length c3] hd1.out rfl (by simp [Value.oneCell']) (by omega) (by omega) 46 rfl w1.heap.size rfl rfl ?_; intro g cap w2 G2 R2))
      have HG2 := Lib.hid G2
      have HR2 := Lib.hid R2
      clear G2 R2
      go_wp2_with fail
      go_ret2
      refine ⟨_, by rw [HV.out]; rfl, (((Gr.of_below B0.out).trans HR.out).trans (Gr.of_below B1.out)).trans HR2.out, fun l' hl' => ?_⟩
      rw [HV.out] at hl'
      cases hl'
      have h1 := HG2.out
      have h2 : ((midB n t l l.length).map GBind.toD) ++ [(GBind.mk n t).toD] = (putB n t l).map GBind.toD := by rw [← midB_end, List.map_append]; rfl
      rw [h2] at h1
      have h3 : (putB n t l).length = l.length + 1 := by simp [putB]
      rw [h3]
      exact h1
end Go.Proofs.Ytghldoiblbcacaa
