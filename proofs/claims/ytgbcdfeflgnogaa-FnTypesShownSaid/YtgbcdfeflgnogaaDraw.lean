/- The cursor with which the laws draw their inputs from a row of bytes. Conditions: none. -/
import Derived.Test.YtgbcdfeflgnogaaRows
import Derived.Test.YtgbcdfeflgnogaaMem
import Derived.Test.YtgbcdfeflgnogaaPw
import Derived.Test.YtgbcdfeflgnogaaOpen
import Derived.Lib.Hide
import Derived.Deep.RegionHeld3
namespace Go.Proofs.Ytgbcdfeflgnogaa
open Go.ChangeShapes Go.WideShapes Go.ChangeAt Go.RowKit Go.Deep
set_option linter.unusedVariables false
set_option linter.unusedSimpArgs false
set_option maxHeartbeats 1000000

theorem i64_and255 (n : Int) : bits .and .i64 n 255 = n % 256 := by
  have h127 : (BitVec.ofInt 64 255).toNat = 2 ^ 8 - 1 := by decide
  have key : (BitVec.ofInt 64 n &&& BitVec.ofInt 64 255).toNat = (n % ((2 ^ 64 : Nat) : Int)).toNat % 2 ^ 8 := by
    rw [BitVec.toNat_and, BitVec.toNat_ofInt, h127, Nat.and_two_pow_sub_one_eq_mod]
  show IntKind.i64.wrap ((BitVec.ofInt 64 n &&& BitVec.ofInt 64 255).toNat : Nat) = n % 256
  rw [key, IntKind.wrap_i64]
  omega

theorem i64_and30 (n : Int) : bits .and .i64 n 1073741823 = n % 1073741824 := by
  have h127 : (BitVec.ofInt 64 1073741823).toNat = 2 ^ 30 - 1 := by decide
  have key : (BitVec.ofInt 64 n &&& BitVec.ofInt 64 1073741823).toNat = (n % ((2 ^ 64 : Nat) : Int)).toNat % 2 ^ 30 := by
    rw [BitVec.toNat_and, BitVec.toNat_ofInt, h127, Nat.and_two_pow_sub_one_eq_mod]
  show IntKind.i64.wrap ((BitVec.ofInt 64 n &&& BitVec.ofInt 64 1073741823).toNat : Nat) = n % 1073741824
  rw [key, IntKind.wrap_i64]
  omega

theorem wf8 {a : Int} (h : (Lit.int .u8 a).wf = true) : 0 ≤ a ∧ a ≤ 255 := by
  simpa [Lit.wf, IntKind.min, IntKind.max, IntKind.signed, IntKind.bits] using h

/-- an element of a row of bytes -/
theorem byteElem {w : World} {S : Nat → Prop} {A : Option Addr} {c : Nat} {l : List Int} (h : Sl w S 1 A c (l.map (D.num .u8))) (i : Nat) (hi : i < l.length) :
    ∃ b off, A = some ⟨b, off, none⟩ ∧ S b ∧ w.cell? ⟨b, off + i, none⟩ = some (.int .u8 l[i]) ∧ 0 ≤ l[i] ∧ l[i] ≤ 255 := by
  obtain ⟨b, off, cs, e, hb, hl, hc, hr⟩ := Sl.get h i (by simpa using hi)
  rw [List.getElem_map] at hr
  obtain ⟨rfl, h1⟩ := D.rd_num.1 hr
  have h2 := hc 0 _ rfl
  rw [Nat.mul_one, Nat.add_zero] at h2
  exact ⟨b, off, e, hb, h2, wf8 h1⟩

theorem open_byte_el {H : Type} {enc : TypeId × Value → H} {P : Program} {w : World} {sp : Nat → Bool} {held : Bool} {e : TypeId} (he : P.underlying e = some (.int .u8)) {n : Nat} {cs : List Value} {x : DataW H × List MemPlace} (h : DataW.trod enc P w 0 sp held n e cs = some x) : ∃ a : Int, (D.num .u8 a).rd w (Lt w.heap.size) cs := by
  obtain ⟨a, rfl, _, hw⟩ := DataW.trod_int he h
  exact ⟨a, D.rd_num.2 ⟨rfl, hw⟩⟩

set_option maxRecDepth 20000 in
/-- an argument that is a row of bytes -/
theorem argBytes {H : Type} {enc : TypeId × Value → H} {w : World} {r : Reach} {base : Nat} {sp : Nat → Bool} {held : Bool} {v : Value} {d : DataW H} {p : List MemPlace} (hv : Value.okWide Try.prog w r base 55 v) (h : DataW.Trod enc Try.prog w 0 sp held 55 v d p) :
    ∃ (l : List Int) (A : Option Addr) (c : Nat), v = .slice A l.length c ∧ Sl w (Lt w.heap.size) 1 A c (l.map (D.num .u8)) := by
  obtain ⟨a, len, cap, rfl⟩ := okWide_slice Try.underlying55 hv
  obtain ⟨fuel, hf⟩ := h
  obtain ⟨l, hl⟩ := open_sl 1 (by decide) Try.underlying55 (by kernel_rfl) (D.num .u8) (fun n2 cs x hn h => open_byte_el Try.underlying5 h) hf
  obtain ⟨A, c, e, hs⟩ := D.rd_sl.1 hl
  simp only [Value.cells, List.cons.injEq, List.length_map, and_true] at e
  exact ⟨l, A, c, e, hs⟩

/-- only block g may have turned -/
structure Turned (g : Nat) (w w' : World) : Prop where
  os : w'.os = w.os
  tape : w'.tape = w.tape
  output : w'.output = w.output
  size : w.heap.size ≤ w'.heap.size
  block : ∀ k, k < w.heap.size → k ≠ g → w'.heap[k]? = w.heap[k]?
theorem Turned.refl (g : Nat) (w : World) : Turned g w w := ⟨rfl, rfl, rfl, Nat.le_refl _, fun _ _ _ => rfl⟩
theorem Turned.trans {g : Nat} {a b c : World} (h : Turned g a b) (k : Turned g b c) : Turned g a c :=
  ⟨k.os.trans h.os, k.tape.trans h.tape, k.output.trans h.output, Nat.le_trans h.size k.size, fun i hi hg => (k.block i (Nat.lt_of_lt_of_le hi h.size) hg).trans (h.block i hi hg)⟩
theorem Turned.setCell {g : Nat} {a w : World} (h : Turned g a w) (i : Nat) (u : Value) : Turned g a (w.setCell ⟨g, i, none⟩ u) :=
  h.trans ⟨rfl, rfl, rfl, by simp [World.setCell], fun k _ hg => Below.heap_setCell _ _ _ _ hg⟩
theorem Turned.drew {g : Nat} {a w : World} (h : Turned g a w) : Turned g a w.drew := ⟨h.os, h.tape, h.output, h.size, h.block⟩
theorem Turned.alloc {g : Nat} {a w : World} (h : Turned g a w) (o : Obj) : Turned g a (w.alloc o) :=
  h.trans ⟨rfl, rfl, rfl, by simp, fun k hk _ => Below.heap_alloc _ _ _ hk⟩
theorem Turned.below {g B : Nat} {w w' : World} (h : Turned g w w') (hB : B ≤ w.heap.size) (hg : B ≤ g) : Below B w w' :=
  ⟨h.os, h.tape, h.output, h.size, fun k hk => h.block k (by omega) (by omega)⟩
theorem Row.turned {g : Nat} {w w' : World} {k : Nat} {t : TypeId} {cs : Array Value} (h : Row w k t cs) (ht : Turned g w w') (hk : k ≠ g) : Row w' k t cs := (ht.block k h.lt hk).trans h

/-- the cursor in block g over the code l -/
structure Cur (l : List Int) (A : Option Addr) (c : Nat) (w : World) (g : Nat) (i : Nat) (h : Int) : Prop where
  row : Row w g 225 #[.slice A l.length c, .int .i64 (i : Int), .int .i64 h]
  le : i ≤ l.length
  fit : -9223372036854775808 ≤ h ∧ h ≤ 9223372036854775807
  code : Sl w (Lt g) 1 A c (l.map (D.num .u8))

theorem Cur.turned {l : List Int} {A : Option Addr} {c : Nat} {w w' : World} {g i : Nat} {h : Int} (hc : Cur l A c w g i h) {g' : Nat} (ht : Turned g' w w') (hg : g < g') : Cur l A c w' g i h :=
  ⟨hc.row.turned ht (by omega), hc.le, hc.fit, hc.code.keep fun b hb => ⟨hb, ht.block b (Nat.lt_trans hb hc.row.lt) (by unfold Lt at hb; omega)⟩⟩
theorem Cur.below {l : List Int} {A : Option Addr} {c : Nat} {w w' : World} {g i : Nat} {h : Int} (hc : Cur l A c w g i h) {B : Nat} (ht : Below B w w') (hg : g < B) : Cur l A c w' g i h :=
  ⟨hc.row.below ht hg, hc.le, hc.fit, hc.code.keep fun b hb => ⟨hb, ht.block b (by unfold Lt at hb; omega)⟩⟩

/-- a number is drawn -/
def Drawn (l : List Int) (A : Option Addr) (c : Nat) (g : Nat) (P : Int → Prop) (w : World) (e : Ending) (w' : World) : Prop :=
  ∃ (x : Int) (i : Nat) (h : Int), e = .returned (.int .i64 x) ∧ P x ∧ Cur l A c w' g i h ∧ Turned g w w'

theorem wrap_fit (n : Int) : -9223372036854775808 ≤ IntKind.i64.wrap n ∧ IntKind.i64.wrap n ≤ 9223372036854775807 := by
  rw [IntKind.wrap_i64]; omega

theorem drawByte {l : List Int} {A : Option Addr} {c : Nat} {w : World} {g i : Nat} {h : Int} (hc : Cur l A c w g i h) :
    Calls Try.prog 254 #[.pointer (some ⟨g, 0, none⟩)] w (Drawn l A c g (fun x => 0 ≤ x ∧ x ≤ 255) w) := by
  obtain ⟨hrow, hle, hfit, hcode⟩ := hc
  have R0 := Lib.hid hrow
  have c0 := fun i => hrow.cell i
  have f0 := fun i => hrow.frozen i
  have C0 := Lib.hid hcode
  clear hrow hcode
  have H : ∀ n, bits .and .i64 n 255 = n % 256 := i64_and255
  have hln : l.length ≤ 9223372036854775807 := by simpa using C0.out.len
  obtain ⟨h', eh⟩ : ∃ h', h' = wrap64 (wrap64 (h * 6364136223846793005) + 1442695040888963407) := ⟨_, rfl⟩
  have R1 := Lib.hid (show Row (w.setCell ⟨g, 2, none⟩ (.int .i64 h')) g 225 #[.slice A l.length c, .int .i64 (i : Int), .int .i64 h'] from R0.out.set 2 _)
  have c1 : ∀ k, (w.setCell ⟨g, 2, none⟩ (.int .i64 h')).drew.cell? ⟨g, k, none⟩ = (#[.slice A l.length c, .int .i64 (i : Int), .int .i64 h'] : Array Value)[k]? := fun k => R1.out.cell k
  have T1 := Lib.hid ((Turned.refl g w).setCell 2 (.int .i64 h'))
  have fit : -9223372036854775808 ≤ h' ∧ h' ≤ 9223372036854775807 := by rw [eh]; unfold wrap64; omega
  have EH := Lib.hid eh.symm
  have FIT := Lib.hid fit
  clear eh fit
  by_cases hi : i < l.length
  · obtain ⟨b, off, rfl, hb, hcell, hb0, hb1⟩ := byteElem C0.out i hi
    have hbg : b ≠ g := by unfold Lt at hb; omega
    go_enter Try.func254, Try.ntmps254
    go_wp2_with fail
    rw [EH.out]
    have HC := Lib.hid (show (w.setCell ⟨g, 2, none⟩ (.int .i64 h')).cell? ⟨b, off + i, none⟩ = some (.int .u8 l[i]) from (World.cell?_setCell_other _ _ _ _ (fun e => hbg (congrArg Addr.block e).symm)).trans hcell)
    clear hcell c0 f0
    generalize w.setCell ⟨g, 2, none⟩ (.int .i64 h') = w1 at *
    go_region_held3 (fun w' => ∀ k, w'.cell? ⟨g, k, none⟩ = (#[.slice (some ⟨b, off, none⟩) l.length c, .int .i64 (i : Int), .int .i64 h'] : Array Value)[k]?) (first | exact c1) (fail)
    have hx0 : 0 ≤ bits BinOp.xor IntKind.i64 (h' / 8589934592) (h' / 35184372088832) % 256 := by omega
    have hx1 : bits BinOp.xor IntKind.i64 (h' / 8589934592) (h' / 35184372088832) % 256 ≤ 255 := by omega
    generalize bits BinOp.xor IntKind.i64 (h' / 8589934592) (h' / 35184372088832) % 256 = x at *
    go_wp2_with fail
    go_region_held3 (fun w' => ∀ k, w'.cell? ⟨g, k, none⟩ = (#[.slice (some ⟨b, off, none⟩) l.length c, .int .i64 (i : Int), .int .i64 h'] : Array Value)[k]?) (first | exact fun k => R1.out.cell k) (fail)
    go_wp2_with fail
    go_region_held3 (fun w' => (∀ k, w'.cell? ⟨g, k, none⟩ = (#[.slice (some ⟨b, off, none⟩) l.length c, .int .i64 (i : Int), .int .i64 h'] : Array Value)[k]?) ∧ w'.cell? ⟨b, off + i, none⟩ = some (.int .u8 l[i])) (first | exact ⟨fun k => R1.out.cell k, HC.out⟩) (fail)
    have c2 : ∀ k, w1.cell? ⟨g, k, none⟩ = (#[.slice (some ⟨b, off, none⟩) l.length c, .int .i64 (i : Int), .int .i64 h'] : Array Value)[k]? := fun k => R1.out.cell k
    have f2 : ∀ k, w1.frozen? ⟨g, k, none⟩ = false := fun k => R1.out.frozen k
    go_wp2_with fail
    have R2 := Lib.hid (show Row (w1.drew.drew.drew.setCell ⟨g, 1, none⟩ (.int .i64 ((i : Int) + 1))) g 225 #[.slice (some ⟨b, off, none⟩) l.length c, .int .i64 ((i : Int) + 1), .int .i64 h'] from Row.set (w := w1.drew.drew.drew) R1.out 1 _)
    have T2 := Lib.hid (((T1.out.drew.drew.drew).setCell 1 (.int .i64 ((i : Int) + 1))))
    go_ret
    exact ⟨_, i + 1, h', rfl, ⟨Int.emod_nonneg _ (by omega), by omega⟩, ⟨R2.out, hi, FIT.out, C0.out.keep fun k hk => ⟨hk, T2.out.block k (by have := R0.out.lt; unfold Lt at hk; omega) (by unfold Lt at hk; omega)⟩⟩, T2.out⟩
  · go_enter Try.func254, Try.ntmps254
    go_wp2_with fail
    rw [EH.out]
    clear c0 f0
    generalize w.setCell ⟨g, 2, none⟩ (.int .i64 h') = w1 at *
    go_region_held3 (fun w' => ∀ k, w'.cell? ⟨g, k, none⟩ = (#[.slice A l.length c, .int .i64 (i : Int), .int .i64 h'] : Array Value)[k]?) (first | exact c1) (fail)
    have hx0 : 0 ≤ bits BinOp.xor IntKind.i64 (h' / 8589934592) (h' / 35184372088832) % 256 := by omega
    have hx1 : bits BinOp.xor IntKind.i64 (h' / 8589934592) (h' / 35184372088832) % 256 ≤ 255 := by omega
    generalize bits BinOp.xor IntKind.i64 (h' / 8589934592) (h' / 35184372088832) % 256 = x at *
    go_wp2_with fail
    go_region_held3 (fun w' => ∀ k, w'.cell? ⟨g, k, none⟩ = (#[.slice A l.length c, .int .i64 (i : Int), .int .i64 h'] : Array Value)[k]?) (first | exact fun k => R1.out.cell k) (fail)
    go_wp2_with fail
    have T2 := Lib.hid (T1.out.drew.drew)
    go_ret
    exact ⟨_, i, h', rfl, ⟨hx0, hx1⟩, ⟨R1.out, hle, FIT.out, C0.out.keep fun k hk => ⟨hk, T2.out.block k (by have := R0.out.lt; unfold Lt at hk; omega) (by unfold Lt at hk; omega)⟩⟩, T2.out⟩

theorem drawBelow {l : List Int} {A : Option Addr} {c : Nat} {w : World} {g i : Nat} {h : Int} (hc : Cur l A c w g i h) (n : Int) (h1 : 1 ≤ n) (h2 : n ≤ 256) :
    Calls Try.prog 202 #[.pointer (some ⟨g, 0, none⟩), .int .i64 n] w (Drawn l A c g (fun x => 0 ≤ x ∧ x < n) w) := by
  have C0 := Lib.hid hc
  clear hc
  have hn0 : ¬ n ≤ 0 := by omega
  go_enter Try.func202, Try.ntmps202
  go_wp2_with fail
  refine (drawByte C0.out).mono ?_
  rintro e w1 ⟨x, i1, h1', rfl, hx, hc1, ht⟩
  have C1 := Lib.hid hc1
  have T1 := Lib.hid ht
  clear hc1 ht
  obtain ⟨hx0, hx1⟩ := hx
  go_wp2_with fail
  go_ret
  exact ⟨_, i1, h1', rfl, ⟨Int.emod_nonneg _ (by omega), Int.emod_lt_of_pos _ (by omega)⟩, C1.out, T1.out⟩

/-- a cursor is made -/
def NewCur (l : List Int) (A : Option Addr) (c : Nat) (w : World) (e : Ending) (w' : World) : Prop :=
  ∃ (h : Int), e = .returned (.pointer (some ⟨w.heap.size, 0, none⟩)) ∧ Cur l A c w' w.heap.size 0 h ∧ Below w.heap.size w w'

theorem newCur (l : List Int) (A : Option Addr) (c : Nat) (w : World) (hs : Sl w (Lt w.heap.size) 1 A c (l.map (D.num .u8))) (hl : l.length ≤ 1048576) :
    Calls Try.prog 110 #[.slice A l.length c] w (NewCur l A c w) := by
  have S0 := Lib.hid hs
  have H : ∀ n, bits .and .i64 n 1073741823 = n % 1073741824 := i64_and30
  clear hs
  go_enter Try.func110, Try.ntmps110
  go_wp2_with fail
  have hln : l.length ≤ 9223372036854775807 := by omega
  go_loop [3, 4] (fun x i => ∃ (k : Nat) (hv : Int), k ≤ l.length ∧ i = .int .i64 (k : Int) ∧ x = .int .i64 hv ∧ 0 ≤ hv ∧ hv ≤ 1073741823) (fun _ i => l.length - (intOf i).toNat)
  case atStart => exact ⟨0, 21958 + l.length, by omega, by go_num, by go_num, by omega, by omega⟩
  case round =>
    obtain ⟨k, hv, hk, rfl, rfl, hv0, hv1⟩ := hrel
    by_cases hlt : k < l.length
    · by_cases h4 : (k : Int) < 4000
      · obtain ⟨b, off, rfl, hb, hcell, hb0, hb1⟩ := byteElem S0.out k hlt
        go_wp2_with fail
        go_round
        case rel => exact ⟨k + 1, _, by omega, by go_num, rfl, Int.emod_nonneg _ (by omega), by omega⟩
        case measure => simp [intOf]; omega
      · go_wp2_with fail
        go_ret
        exact ⟨hv, rfl, ⟨Row.new _ _ _, Nat.zero_le _, by omega, S0.out.keep fun b hb => ⟨hb, Below.heap_alloc _ _ _ hb⟩⟩, (Below.refl _ _).alloc (Nat.le_refl _) _⟩
    · go_wp2_with fail
      go_ret
      exact ⟨hv, rfl, ⟨Row.new _ _ _, Nat.zero_le _, by omega, S0.out.keep fun b hb => ⟨hb, Below.heap_alloc _ _ _ hb⟩⟩, (Below.refl _ _).alloc (Nat.le_refl _) _⟩

theorem drawPickInt {l : List Int} {A : Option Addr} {c : Nat} {w : World} {g i : Nat} {h : Int} (hc : Cur l A c w g i h) (vs : List Int) (b : Nat) (hb : b ≠ g) (t : TypeId) (hr : Row w b t (vs.map (Value.int .i64)).toArray) (h1 : 1 ≤ vs.length) (h2 : vs.length ≤ 256)
    (P : Int → Prop) (hP : ∀ x ∈ vs, P x) :
    Calls Try.prog 280 #[.pointer (some ⟨g, 0, none⟩), .slice (some ⟨b, 0, none⟩) vs.length vs.length] w (Drawn l A c g P w) := by
  have C0 := Lib.hid hc
  have R0 := Lib.hid hr
  have HP := Lib.hid hP
  clear hc hr hP
  go_enter Try.func280, Try.ntmps280
  go_wp2_with fail
  refine (drawBelow C0.out (vs.length : Int) (by omega) (by omega)).mono ?_
  rintro e w1 ⟨x, i1, h1', rfl, hx, hc1, ht⟩
  obtain ⟨hx0, hx1⟩ := hx
  obtain ⟨n, rfl⟩ := Int.eq_ofNat_of_zero_le hx0
  have hn : n < vs.length := by omega
  have hcell : w1.cell? ⟨b, n, none⟩ = some (.int .i64 vs[n]) := ((R0.out.turned ht hb).cell n).trans (by simp [hn])
  have C1 := Lib.hid hc1
  have T1 := Lib.hid ht
  clear hc1 ht
  go_wp2_with fail
  go_ret
  exact ⟨_, i1, h1', rfl, HP.out _ (List.getElem_mem hn), C1.out, T1.out⟩

/-- a string is drawn -/
def DrawnS (l : List Int) (A : Option Addr) (c : Nat) (g : Nat) (P : ByteArray → Prop) (w : World) (e : Ending) (w' : World) : Prop :=
  ∃ (x : ByteArray) (i : Nat) (h : Int), e = .returned (.string x) ∧ P x ∧ Cur l A c w' g i h ∧ Turned g w w'

theorem drawPick {l : List Int} {A : Option Addr} {c : Nat} {w : World} {g i : Nat} {h : Int} (hc : Cur l A c w g i h) (vs : List ByteArray) (b : Nat) (hb : b ≠ g) (t : TypeId) (hr : Row w b t (vs.map Value.string).toArray) (h1 : 1 ≤ vs.length) (h2 : vs.length ≤ 256)
    (P : ByteArray → Prop) (hP : ∀ x ∈ vs, P x) :
    Calls Try.prog 226 #[.pointer (some ⟨g, 0, none⟩), .slice (some ⟨b, 0, none⟩) vs.length vs.length] w (DrawnS l A c g P w) := by
  have C0 := Lib.hid hc
  have R0 := Lib.hid hr
  have HP := Lib.hid hP
  clear hc hr hP
  go_enter Try.func226, Try.ntmps226
  go_wp2_with fail
  refine (drawBelow C0.out (vs.length : Int) (by omega) (by omega)).mono ?_
  rintro e w1 ⟨x, i1, h1', rfl, hx, hc1, ht⟩
  obtain ⟨hx0, hx1⟩ := hx
  obtain ⟨n, rfl⟩ := Int.eq_ofNat_of_zero_le hx0
  have hn : n < vs.length := by omega
  have hcell : w1.cell? ⟨b, n, none⟩ = some (.string vs[n]) := ((R0.out.turned ht hb).cell n).trans (by simp [hn])
  have C1 := Lib.hid hc1
  have T1 := Lib.hid ht
  clear hc1 ht
  go_wp2_with fail
  go_ret
  exact ⟨_, i1, h1', rfl, HP.out _ (List.getElem_mem hn), C1.out, T1.out⟩

end Go.Proofs.Ytgbcdfeflgnogaa
