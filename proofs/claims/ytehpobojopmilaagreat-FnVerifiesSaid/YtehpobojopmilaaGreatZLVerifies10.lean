/- Texts of the claim LVerifies in one: Draw GToken GNode GCon GData NumP Keyword PaP Take PaC Within PaD App AppS Grow AppM Grx PaK PaE PaG PaH PaI PaQ GValue Dn DnB Digits DrawNum DnF EwNV EwY EvF3 EwZ. Conditions: none but bounds on sizes. -/
import Derived.Test.YtehpobojopmilaaGreatRows
import Derived.Test.YtehpobojopmilaaGreatZLVerifies0
import Derived.Test.YtehpobojopmilaaGreatZLVerifies8
import Derived.Test.YtehpobojopmilaaGreatZLVerifies9
import Derived.Lib.Hide
import Derived.Deep.RegionHeld3
import Derived.WalkKit
import Derived.BigQuiet
import Derived.Deep.AppendLies
import Derived.Maps.Range
import Derived.Maps.AppendAt
import Derived.Deep.AppendSrc
import Derived.Deep.CutRange
namespace Go.Proofs.YtehpobojopmilaaGreat
set_option linter.unusedVariables false
set_option linter.unusedSimpArgs false
open Go Go.RowKit
theorem LH {p : Prop} (h : p) : Hid p := Lib.hid h
end Go.Proofs.YtehpobojopmilaaGreat
namespace Go.Proofs.YtehpobojopmilaaGreat
set_option maxRecDepth 20000
set_option linter.unusedVariables false
set_option linter.unusedSimpArgs false
open Go.ChangeShapes Go.WideShapes Go.ChangeAt Go.RowKit Go.Deep
set_option maxHeartbeats 1000000
theorem i64_and255 (n : Int) : bits .and .i64 n 255 = n % 256 := by
 have h127 : (BitVec.ofInt 64 255).toNat = 2 ^ 8 - 1 := by decide
 have key : (BitVec.ofInt 64 n &&& BitVec.ofInt 64 255).toNat = (n % ((2 ^ 64 : Nat) : Int)).toNat % 2 ^ 8 := by
  rw [BitVec.toNat_and, BitVec.toNat_ofInt, h127, Nat.and_two_pow_sub_one_eq_mod]
 show IntKind.i64.wrap ((BitVec.ofInt 64 n &&& BitVec.ofInt 64 255).toNat : Nat) = n % 256
 rw [key, IntKind.wrap_i64]
 omega
theorem i64_and30 (n : Int) : bits .and .i64 n 1073741823 = n % 1073741824 := by
 have h127 : (BitVec.ofInt 64 1073741823).toNat = 2 ^ 30 - 1 := by decide
 have key : (BitVec.ofInt 64 n &&& BitVec.ofInt 64 1073741823).toNat = (n % ((2 ^ 64 : Nat) : Int)).toNat % 2 ^ 30 := by
  rw [BitVec.toNat_and, BitVec.toNat_ofInt, h127, Nat.and_two_pow_sub_one_eq_mod]
 show IntKind.i64.wrap ((BitVec.ofInt 64 n &&& BitVec.ofInt 64 1073741823).toNat : Nat) = n % 1073741824
 rw [key, IntKind.wrap_i64]
 omega
theorem wf8 {a : Int} (h : (Lit.int .u8 a).wf = true) : 0 ≤ a ∧ a ≤ 255 := by
 simpa [Lit.wf, IntKind.min, IntKind.max, IntKind.signed, IntKind.bits] using h
theorem byteElem {w : World} {S : Nat → Prop} {A : Option Addr} {c : Nat} {l : List Int} (h : Sl w S 1 A c (l.map (D.num .u8))) (i : Nat) (hi : i < l.length) :
 ∃ b off, A = some ⟨b, off, none⟩ ∧ S b ∧ w.cell? ⟨b, off + i, none⟩ = some (.int .u8 l[i]) ∧ 0 ≤ l[i] ∧ l[i] ≤ 255 := by
 obtain ⟨b, off, cs, e, hb, hl, hc, hr⟩ := Sl.get h i (by simpa using hi)
 rw [List.getElem_map] at hr
 obtain ⟨rfl, h1⟩ := D.rd_num.1 hr
 have h2 := hc 0 _ rfl
 rw [Nat.mul_one, Nat.add_zero] at h2
 exact ⟨b, off, e, hb, h2, wf8 h1⟩
theorem open_byte_el {H : Type} {enc : TypeId × Value → H} {P : Program} {w : World} {sp : Nat → Bool} {held : Bool} {e : TypeId} (he : P.underlying e = some (.int .u8)) {n : Nat} {cs : List Value} {x : DataW H × List MemPlace} (h : DataW.trod enc P w 0 sp held n e cs = some x) : ∃ a : Int, (D.num .u8 a).rd w (Lt w.heap.size) cs := by
 obtain ⟨a, rfl, _, hw⟩ := DataW.trod_int he h
 exact ⟨a, D.rd_num.2 ⟨rfl, hw⟩⟩
theorem argBytes {H : Type} {enc : TypeId × Value → H} {w : World} {r : Go.Reach} {base : Nat} {sp : Nat → Bool} {held : Bool} {v : Value} {d : DataW H} {p : List MemPlace} (hv : Value.okWide Tryz.prog w r base 22 v) (h : DataW.Trod enc Tryz.prog w 0 sp held 22 v d p) :
 ∃ (l : List Int) (A : Option Addr) (c : Nat), v = .slice A l.length c ∧ Sl w (Lt w.heap.size) 1 A c (l.map (D.num .u8)) := by
 obtain ⟨a, len, cap, rfl⟩ := okWide_slice Tryz.underlying22 hv
 obtain ⟨fuel, hf⟩ := h
 obtain ⟨l, hl⟩ := open_sl 1 (by decide) Tryz.underlying22 (by kernel_rfl) (D.num .u8) (fun n2 cs x hn h => open_byte_el Tryz.underlying5 h) hf
 obtain ⟨A, c, e, hs⟩ := D.rd_sl.1 hl
 simp only [Value.cells, List.cons.injEq, List.length_map, and_true] at e
 exact ⟨l, A, c, e, hs⟩
structure Turned (g : Nat) (w w' : World) : Prop where
 os : w'.os = w.os
 tape : w'.tape = w.tape
 output : w'.output = w.output
 size : w.heap.size ≤ w'.heap.size
 block : ∀ k, k < w.heap.size → k ≠ g → w'.heap[k]? = w.heap[k]?
theorem Turned.refl (g : Nat) (w : World) : Turned g w w := ⟨rfl, rfl, rfl, Nat.le_refl _, fun _ _ _ => rfl⟩
theorem Turned.trans {g : Nat} {a b c : World} (h : Turned g a b) (k : Turned g b c) : Turned g a c :=
 ⟨k.os.trans h.os, k.tape.trans h.tape, k.output.trans h.output, Nat.le_trans h.size k.size, fun i hi hg => (k.block i (Nat.lt_of_lt_of_le hi h.size) hg).trans (h.block i hi hg)⟩
theorem Turned.setCell {g : Nat} {a w : World} (h : Turned g a w) (i : Nat) (u : Value) : Turned g a (w.setCell ⟨g, i, none⟩ u) :=
 h.trans ⟨rfl, rfl, rfl, by simp [World.setCell], fun k _ hg => Below.heap_setCell _ _ _ _ hg⟩
theorem Turned.drew {g : Nat} {a w : World} (h : Turned g a w) : Turned g a w.drew := ⟨h.os, h.tape, h.output, h.size, h.block⟩
theorem Row.turned {g : Nat} {w w' : World} {k : Nat} {t : TypeId} {cs : Array Value} (h : Row w k t cs) (ht : Turned g w w') (hk : k ≠ g) : Row w' k t cs := (ht.block k h.lt hk).trans h
structure Cur (l : List Int) (A : Option Addr) (c : Nat) (w : World) (g : Nat) (i : Nat) (h : Int) : Prop where
 row : Row w g 60 #[.slice A l.length c, .int .i64 (i : Int), .int .i64 h]
 le : i ≤ l.length
 fit : -9223372036854775808 ≤ h ∧ h ≤ 9223372036854775807
 code : Sl w (Lt g) 1 A c (l.map (D.num .u8))
theorem Cur.turned {l : List Int} {A : Option Addr} {c : Nat} {w w' : World} {g i : Nat} {h : Int} (hc : Cur l A c w g i h) {g' : Nat} (ht : Turned g' w w') (hg : g < g') : Cur l A c w' g i h :=
 ⟨hc.row.turned ht (by omega), hc.le, hc.fit, hc.code.keep fun b hb => ⟨hb, ht.block b (Nat.lt_trans hb hc.row.lt) (by unfold Lt at hb; omega)⟩⟩
theorem Cur.below {l : List Int} {A : Option Addr} {c : Nat} {w w' : World} {g i : Nat} {h : Int} (hc : Cur l A c w g i h) {B : Nat} (ht : Below B w w') (hg : g < B) : Cur l A c w' g i h :=
 ⟨hc.row.below ht hg, hc.le, hc.fit, hc.code.keep fun b hb => ⟨hb, ht.block b (by unfold Lt at hb; omega)⟩⟩
def Drawn (l : List Int) (A : Option Addr) (c : Nat) (g : Nat) (P : Int → Prop) (w : World) (e : Ending) (w' : World) : Prop :=
 ∃ (x : Int) (i : Nat) (h : Int), e = .returned (.int .i64 x) ∧ P x ∧ Cur l A c w' g i h ∧ Turned g w w'
theorem drawByte {l : List Int} {A : Option Addr} {c : Nat} {w : World} {g i : Nat} {h : Int} (hc : Cur l A c w g i h) :
 Calls Tryz.prog 38 #[.pointer (some ⟨g, 0, none⟩)] w (Drawn l A c g (fun x => 0 ≤ x ∧ x ≤ 255) w) := by
 obtain ⟨hrow, hle, hfit, hcode⟩ := hc
 have R0 := LH hrow
 have c0 := fun i => hrow.cell i
 have f0 := fun i => hrow.frozen i
 have C0 := LH hcode
 clear hrow hcode
 have H : ∀ n, bits .and .i64 n 255 = n % 256 := i64_and255
 have hln : l.length ≤ 9223372036854775807 := by simpa using C0.out.len
 obtain ⟨h', eh⟩ : ∃ h', h' = wrap64 (wrap64 (h * 6364136223846793005) + 1442695040888963407) := ⟨_, rfl⟩
 have R1 := LH (show Row (w.setCell ⟨g, 2, none⟩ (.int .i64 h')) g 60 #[.slice A l.length c, .int .i64 (i : Int), .int .i64 h'] from R0.out.set 2 _)
 have c1 : ∀ k, (w.setCell ⟨g, 2, none⟩ (.int .i64 h')).drew.cell? ⟨g, k, none⟩ = (#[.slice A l.length c, .int .i64 (i : Int), .int .i64 h'] : Array Value)[k]? := fun k => R1.out.cell k
 have T1 := LH ((Turned.refl g w).setCell 2 (.int .i64 h'))
 have fit : -9223372036854775808 ≤ h' ∧ h' ≤ 9223372036854775807 := by rw [eh]; unfold wrap64; omega
 have EH := LH eh.symm
 have FIT := LH fit
 clear eh fit
 by_cases hi : i < l.length
 ·
  obtain ⟨b, off, rfl, hb, hcell, hb0, hb1⟩ := byteElem C0.out i hi
  have hbg : b ≠ g := by unfold Lt at hb; omega
  go_enter Tryz.func38, Tryz.ntmps38
  go_wp2_with fail
  rw [EH.out]
  have HC := LH (show (w.setCell ⟨g, 2, none⟩ (.int .i64 h')).cell? ⟨b, off + i, none⟩ = some (.int .u8 l[i]) from (World.cell?_setCell_other _ _ _ _ (fun e => hbg (congrArg Addr.block e).symm)).trans hcell)
  clear hcell c0 f0
  generalize w.setCell ⟨g, 2, none⟩ (.int .i64 h') = w1 at *
  go_region_held3 (fun w' => ∀ k, w'.cell? ⟨g, k, none⟩ = (#[.slice (some ⟨b, off, none⟩) l.length c, .int .i64 (i : Int), .int .i64 h'] : Array Value)[k]?) (first | exact c1) (fail)
  have hx0 : 0 ≤ bits BinOp.xor IntKind.i64 (h' / 8589934592) (h' / 35184372088832) % 256 := by omega
  have hx1 : bits BinOp.xor IntKind.i64 (h' / 8589934592) (h' / 35184372088832) % 256 ≤ 255 := by omega
  generalize bits BinOp.xor IntKind.i64 (h' / 8589934592) (h' / 35184372088832) % 256 = x at *
  go_wp2_with fail
  go_region_held3 (fun w' => ∀ k, w'.cell? ⟨g, k, none⟩ = (#[.slice (some ⟨b, off, none⟩) l.length c, .int .i64 (i : Int), .int .i64 h'] : Array Value)[k]?) (first | exact fun k => R1.out.cell k) (fail)
  go_wp2_with fail
  go_region_held3 (fun w' => (∀ k, w'.cell? ⟨g, k, none⟩ = (#[.slice (some ⟨b, off, none⟩) l.length c, .int .i64 (i : Int), .int .i64 h'] : Array Value)[k]?) ∧ w'.cell? ⟨b, off + i, none⟩ = some (.int .u8 l[i])) (first | exact ⟨fun k => R1.out.cell k, HC.out⟩) (fail)
  have c2 : ∀ k, w1.cell? ⟨g, k, none⟩ = (#[.slice (some ⟨b, off, none⟩) l.length c, .int .i64 (i : Int), .int .i64 h'] : Array Value)[k]? := fun k => R1.out.cell k
  have f2 : ∀ k, w1.frozen? ⟨g, k, none⟩ = false := fun k => R1.out.frozen k
  go_wp2_with fail
  have R2 := LH (show Row (w1.drew.drew.drew.setCell ⟨g, 1, none⟩ (.int .i64 ((i : Int) + 1))) g 60 #[.slice (some ⟨b, off, none⟩) l.length c, .int .i64 ((i : Int) + 1), .int .i64 h'] from Row.set (w := w1.drew.drew.drew) R1.out 1 _)
  have T2 := LH (((T1.out.drew.drew.drew).setCell 1 (.int .i64 ((i : Int) + 1))))
  go_ret
  exact ⟨_, i + 1, h', rfl, ⟨Int.emod_nonneg _ (by omega), by omega⟩, ⟨R2.out, hi, FIT.out, C0.out.keep fun k hk => ⟨hk, T2.out.block k (by have := R0.out.lt; unfold Lt at hk; omega) (by unfold Lt at hk; omega)⟩⟩, T2.out⟩
 ·
  go_enter Tryz.func38, Tryz.ntmps38
  go_wp2_with fail
  rw [EH.out]
  clear c0 f0
  generalize w.setCell ⟨g, 2, none⟩ (.int .i64 h') = w1 at *
  go_region_held3 (fun w' => ∀ k, w'.cell? ⟨g, k, none⟩ = (#[.slice A l.length c, .int .i64 (i : Int), .int .i64 h'] : Array Value)[k]?) (first | exact c1) (fail)
  have hx0 : 0 ≤ bits BinOp.xor IntKind.i64 (h' / 8589934592) (h' / 35184372088832) % 256 := by omega
  have hx1 : bits BinOp.xor IntKind.i64 (h' / 8589934592) (h' / 35184372088832) % 256 ≤ 255 := by omega
  generalize bits BinOp.xor IntKind.i64 (h' / 8589934592) (h' / 35184372088832) % 256 = x at *
  go_wp2_with fail
  go_region_held3 (fun w' => ∀ k, w'.cell? ⟨g, k, none⟩ = (#[.slice A l.length c, .int .i64 (i : Int), .int .i64 h'] : Array Value)[k]?) (first | exact fun k => R1.out.cell k) (fail)
  go_wp2_with fail
  have T2 := LH (T1.out.drew.drew)
  go_ret
  exact ⟨_, i, h', rfl, ⟨hx0, hx1⟩, ⟨R1.out, hle, FIT.out, C0.out.keep fun k hk => ⟨hk, T2.out.block k (by have := R0.out.lt; unfold Lt at hk; omega) (by unfold Lt at hk; omega)⟩⟩, T2.out⟩
theorem drawBelow {l : List Int} {A : Option Addr} {c : Nat} {w : World} {g i : Nat} {h : Int} (hc : Cur l A c w g i h) (n : Int) (h1 : 1 ≤ n) (h2 : n ≤ 256) :
 Calls Tryz.prog 23 #[.pointer (some ⟨g, 0, none⟩), .int .i64 n] w (Drawn l A c g (fun x => 0 ≤ x ∧ x < n) w) := by
 have C0 := LH hc
 clear hc
 have hn0 : ¬ n ≤ 0 := by omega
 go_enter Tryz.func23, Tryz.ntmps23
 go_wp2_with fail
 refine (drawByte C0.out).mono ?_
 rintro e w1 ⟨x, i1, h1', rfl, hx, hc1, ht⟩
 have C1 := LH hc1
 have T1 := LH ht
 clear hc1 ht
 obtain ⟨hx0, hx1⟩ := hx
 go_wp2_with fail
 go_ret
 exact ⟨_, i1, h1', rfl, ⟨Int.emod_nonneg _ (by omega), Int.emod_lt_of_pos _ (by omega)⟩, C1.out, T1.out⟩
def NewCur (l : List Int) (A : Option Addr) (c : Nat) (w : World) (e : Ending) (w' : World) : Prop :=
 ∃ (h : Int), e = .returned (.pointer (some ⟨w.heap.size, 0, none⟩)) ∧ Cur l A c w' w.heap.size 0 h ∧ Below w.heap.size w w'
theorem newCur (l : List Int) (A : Option Addr) (c : Nat) (w : World) (hs : Sl w (Lt w.heap.size) 1 A c (l.map (D.num .u8))) (hl : l.length ≤ 1048576) :
 Calls Tryz.prog 21 #[.slice A l.length c] w (NewCur l A c w) := by
 have S0 := LH hs
 have H : ∀ n, bits .and .i64 n 1073741823 = n % 1073741824 := i64_and30
 clear hs
 go_enter Tryz.func21, Tryz.ntmps21
 go_wp2_with fail
 have hln : l.length ≤ 9223372036854775807 := by omega
 go_loop [3, 4] (fun x i => ∃ (k : Nat) (hv : Int), k ≤ l.length ∧ i = .int .i64 (k : Int) ∧ x = .int .i64 hv ∧ 0 ≤ hv ∧ hv ≤ 1073741823) (fun _ i => l.length - (intOf i).toNat)
 case atStart => exact ⟨0, 21958 + l.length, by omega, by go_num, by go_num, by omega, by omega⟩
 case round =>
  obtain ⟨k, hv, hk, rfl, rfl, hv0, hv1⟩ := hrel
  by_cases hlt : k < l.length
  ·
   by_cases h4 : (k : Int) < 4000
   · obtain ⟨b, off, rfl, hb, hcell, hb0, hb1⟩ := byteElem S0.out k hlt
     go_wp2_with fail
     go_round
     case rel => exact ⟨k + 1, _, by omega, by go_num, rfl, Int.emod_nonneg _ (by omega), by omega⟩
     case measure => simp [intOf]; omega
   · go_wp2_with fail
     go_ret
     exact ⟨hv, rfl, ⟨Row.new _ _ _, Nat.zero_le _, by omega, S0.out.keep fun b hb => ⟨hb, Below.heap_alloc _ _ _ hb⟩⟩, (Below.refl _ _).alloc (Nat.le_refl _) _⟩
  · go_wp2_with fail
    go_ret
    exact ⟨hv, rfl, ⟨Row.new _ _ _, Nat.zero_le _, by omega, S0.out.keep fun b hb => ⟨hb, Below.heap_alloc _ _ _ hb⟩⟩, (Below.refl _ _).alloc (Nat.le_refl _) _⟩
theorem drawPickInt {l : List Int} {A : Option Addr} {c : Nat} {w : World} {g i : Nat} {h : Int} (hc : Cur l A c w g i h) (vs : List Int) (b : Nat) (hb : b ≠ g) (t : TypeId) (hr : Row w b t (vs.map (Value.int .i64)).toArray) (h1 : 1 ≤ vs.length) (h2 : vs.length ≤ 256)
 (P : Int → Prop) (hP : ∀ x ∈ vs, P x) :
 Calls Tryz.prog 37 #[.pointer (some ⟨g, 0, none⟩), .slice (some ⟨b, 0, none⟩) vs.length vs.length] w (Drawn l A c g P w) := by
 have C0 := LH hc
 have R0 := LH hr
 have HP := LH hP
 clear hc hr hP
 go_enter Tryz.func37, Tryz.ntmps37
 go_wp2_with fail
 refine (drawBelow C0.out (vs.length : Int) (by omega) (by omega)).mono ?_
 rintro e w1 ⟨x, i1, h1', rfl, hx, hc1, ht⟩
 obtain ⟨hx0, hx1⟩ := hx
 obtain ⟨n, rfl⟩ := Int.eq_ofNat_of_zero_le hx0
 have hn : n < vs.length := by omega
 have hcell : w1.cell? ⟨b, n, none⟩ = some (.int .i64 vs[n]) := ((R0.out.turned ht hb).cell n).trans (by simp [hn])
 have C1 := LH hc1
 have T1 := LH ht
 clear hc1 ht
 go_wp2_with fail
 go_ret
 exact ⟨_, i1, h1', rfl, HP.out _ (List.getElem_mem hn), C1.out, T1.out⟩
def DrawnS (l : List Int) (A : Option Addr) (c : Nat) (g : Nat) (P : ByteArray → Prop) (w : World) (e : Ending) (w' : World) : Prop :=
 ∃ (x : ByteArray) (i : Nat) (h : Int), e = .returned (.string x) ∧ P x ∧ Cur l A c w' g i h ∧ Turned g w w'
theorem drawPick {l : List Int} {A : Option Addr} {c : Nat} {w : World} {g i : Nat} {h : Int} (hc : Cur l A c w g i h) (vs : List ByteArray) (b : Nat) (hb : b ≠ g) (t : TypeId) (hr : Row w b t (vs.map Value.string).toArray) (h1 : 1 ≤ vs.length) (h2 : vs.length ≤ 256)
 (P : ByteArray → Prop) (hP : ∀ x ∈ vs, P x) :
 Calls Tryz.prog 63 #[.pointer (some ⟨g, 0, none⟩), .slice (some ⟨b, 0, none⟩) vs.length vs.length] w (DrawnS l A c g P w) := by
 have C0 := LH hc
 have R0 := LH hr
 have HP := LH hP
 clear hc hr hP
 go_enter Tryz.func63, Tryz.ntmps63
 go_wp2_with fail
 refine (drawBelow C0.out (vs.length : Int) (by omega) (by omega)).mono ?_
 rintro e w1 ⟨x, i1, h1', rfl, hx, hc1, ht⟩
 obtain ⟨hx0, hx1⟩ := hx
 obtain ⟨n, rfl⟩ := Int.eq_ofNat_of_zero_le hx0
 have hn : n < vs.length := by omega
 have hcell : w1.cell? ⟨b, n, none⟩ = some (.string vs[n]) := ((R0.out.turned ht hb).cell n).trans (by simp [hn])
 have C1 := LH hc1
 have T1 := LH ht
 clear hc1 ht
 go_wp2_with fail
 go_ret
 exact ⟨_, i1, h1', rfl, HP.out _ (List.getElem_mem hn), C1.out, T1.out⟩
end Go.Proofs.YtehpobojopmilaaGreat
namespace Go.Proofs.YtehpobojopmilaaGreat
set_option maxRecDepth 20000
set_option linter.unusedVariables false
set_option linter.unusedSimpArgs false
open Go.RowKit
open Go.RowKit
open Go.RowKit
open Go.RowKit
open Go.RowKit
end Go.Proofs.YtehpobojopmilaaGreat
namespace Go.Proofs.YtehpobojopmilaaGreat
set_option maxRecDepth 20000
set_option linter.unusedVariables false
set_option linter.unusedSimpArgs false
open Go.RowKit
set_option maxHeartbeats 400000
set_option maxRecDepth 100000
end Go.Proofs.YtehpobojopmilaaGreat
namespace Go.Proofs.YtehpobojopmilaaGreat
set_option maxRecDepth 20000
set_option linter.unusedVariables false
set_option linter.unusedSimpArgs false
open Go Go.RowKit
section
variable {P : Program} {ops : Array Oper} {Q : Exit → Act → World → Prop} {md : Region.Mode} {S : World → Prop} {n : Nat}
def wpAnyT (P : Program) (md : Region.Mode) (ops : Array Oper) (Q : Exit → Act → World → Prop) (S : World → Prop) (n : Nat) : Nat → Array Bool → Act → World → Prop
 | 0, listed, a, w => Region.ready md ops listed = [] ∧ Q .normal a w
 | fuel + 1, listed, a, w =>
  (Region.ready md ops listed = [] → Q .normal a w) ∧
  ∀ i ∈ Region.ready md ops listed, wpOp P ops Q i (fun a' w' => (i = n ∨ S w') ∧ wpAnyT P md ops Q S n fuel (listed.setIfInBounds i true) a' w') a w
theorem wpAny_of_T : ∀ (fuel : Nat) (listed : Array Bool) (a : Act) (w : World), wpAnyT P md ops Q S n fuel listed a w → wpAny P md ops Q fuel listed a w
 | 0, _, _, _, h => h
 | fuel + 1, _, _, _, h => ⟨h.1, fun i hi => wpOp_mono (fun a' w' h' => wpAny_of_T fuel _ a' w' h'.2) (h.2 i hi)⟩
def lastWaits (md : Region.Mode) (ops : Array Oper) (n i : Nat) : Bool :=
 match ops[n]? with
 | some o => o.after.any fun e => Region.binds md e && e.on == i
 | none => true
theorem lastWaits_spec {i : Nat} (h : lastWaits md ops n i = true) (oj : Oper) (hj : ops[n]? = some oj) (hno : ∀ e ∈ oj.after, Region.binds md e = true → e.on ≠ i) : False := by
 unfold lastWaits at h
 simp only [hj] at h
 obtain ⟨e, he, hb⟩ := Array.any_eq_true'.1 h
 simp only [Bool.and_eq_true, beq_iff_eq] at hb
 exact hno e he hb.1 hb.2
theorem wpAnyT_first {i : Nat} {oi : Oper} {v : Value} (hi : ops[i]? = some oi) (hsel : ∀ (j : Nat) (o : Oper) cs b, ops[j]? = some o → o.op ≠ .select cs b)
 (hQ : ∀ c a w, Q (.panic c) (a.put oi.dst v) w → Q (.panic c) a w) (hn : lastWaits md ops n i = true) :
 ∀ (fuel : Nat) (listed : Array Bool) (a : Act) (w : World),
  (∀ j oj, ops[j]? = some oj → j ≠ i → listed.getD j true = false → (∀ e ∈ oj.after, Region.binds md e = true → e.on ≠ i) → oi.apart ops oj = true) →
  i ∈ Region.ready md ops listed → YieldsIf P ops S oi v a → S w →
  wpAnyT P md ops Q S n fuel (listed.setIfInBounds i true) (a.put oi.dst v) w → wpAnyT P md ops Q S n (fuel + 1) listed a w := by
 intro fuel
 induction fuel with
 | zero =>
  intro listed a w _ hr hy hS H
  refine ⟨fun h => (by rw [h] at hr; cases hr), fun j hj => ?_⟩
  by_cases hji : j = i
  · subst hji; exact hy.wpOp hi hS ⟨.inr hS, H⟩
  · have := ready_mono hj hji
    rw [H.1] at this
    cases this
 | succ fuel ih =>
  intro listed a w hfree hr hy hS H
  refine ⟨fun h => (by rw [h] at hr; cases hr), fun j hj => ?_⟩
  by_cases hji : j = i
  · subst hji; exact hy.wpOp hi hS ⟨.inr hS, H⟩
  ·
   have h1 := H.2 j (ready_mono hj hji)
   obtain ⟨hjun, oj, hoj, hall⟩ := mem_ready.1 hj
   have hnot : ∀ e ∈ oj.after, Region.binds md e = true → e.on ≠ i := fun e he hb heq => by
    have h1 := hall e he hb
    have h0 := (mem_ready.1 hr).1
    rw [heq] at h1
    rcases Nat.lt_or_ge i listed.size with h' | h'
    · simp [h'] at h0 h1; rw [h0] at h1; cases h1
    · simp [Array.getElem?_eq_none h'] at h1
   have hjn : j ≠ n := fun e => lastWaits_spec hn oj (e ▸ hoj) hnot
   have h2 := wpOp_putIf hoj (hfree j oj hoj hji hjun hnot) (fun cs b => hsel i oi cs b hi) (fun cs b => hsel j oj cs b hoj) hQ hy h1
   have hfree' : ∀ k ok, ops[k]? = some ok → k ≠ i → (listed.setIfInBounds j true).getD k true = false →
    (∀ e ∈ ok.after, Region.binds md e = true → e.on ≠ i) → oi.apart ops ok = true := fun k ok hk hki hun hno => by
    refine hfree k ok hk hki ?_ hno
    by_cases hjk : j = k
    · subst hjk; exact hjun
    · rw [getD_set_ne true hjk] at hun; exact hun
   refine wpOp_mono (fun a' w' h3 => ?_) h2
   have hS' := h3.2.1.resolve_left hjn
   refine ⟨.inr hS', ih (listed.setIfInBounds j true) a' w' hfree' (ready_mono hr (Ne.symm hji)) h3.1 hS' ?_⟩
   rw [Array.setIfInBounds_comm _ _ hji]
   exact h3.2.2
theorem wpAnyT_take {i : Nat} {oi : Oper} {v : Value} {fuel : Nat} {listed : Array Bool} {a : Act} {w : World} (hi : ops[i]? = some oi)
 (hs : Region.noSelect ops = true) (hf : Region.free md ops listed i = true) (hr : (Region.ready md ops listed).contains i = true) (hn : lastWaits md ops n i = true)
 (hQ : ∀ c a w, Q (.panic c) (a.put oi.dst v) w → Q (.panic c) a w) (hy : YieldsIf P ops S oi v a) (hS : S w)
 (h : wpAnyT P md ops Q S n fuel (listed.setIfInBounds i true) (a.put oi.dst v) w) : wpAnyT P md ops Q S n (fuel + 1) listed a w :=
 wpAnyT_first hi (Region.noSelect_spec hs) hQ hn fuel listed a w (Region.free_spec hi hf) (by simpa using hr) hy hS h
theorem wpAnyT_tk {i : Nat} {oi : Oper} {v : Value} {fuel : Nat} {listed : Array Bool} {a : Act} {w : World} (hi : ops[i]? = some oi)
 (hy : YieldsIf P ops S oi v a) (hS : S w)
 (h : wpAnyT P md ops Q S n fuel (listed.setIfInBounds i true) (a.put oi.dst v) w)
 (hs : Region.noSelect ops = true := by kernel_rfl) (hf : Region.free md ops listed i = true := by kernel_rfl) (hr : (Region.ready md ops listed).contains i = true := by kernel_rfl) (hn : lastWaits md ops n i = true := by kernel_rfl)
 (hQ : ∀ c a w, Q (.panic c) (a.put oi.dst v) w → Q (.panic c) a w := by exact fun _ _ _ h => h) : wpAnyT P md ops Q S n (fuel + 1) listed a w :=
 wpAnyT_take hi hs hf hr hn hQ hy hS h
theorem wpAnyT_step {i : Nat} {o : Oper} {fuel : Nat} {listed : Array Bool} {a : Act} {w : World} (hr : Region.ready md ops listed = [i]) (ho : ops[i]? = some o)
 (h : ∀ K' : Act → World → Prop, Shut (∀ a w, S w → (S w → wpAnyT P md ops Q S n fuel (listed.setIfInBounds i true) a w) → K' a w) → if Region.wanted o (yielded ops a.tmps) = true then Oper.wp P o a w K' Q else K' (a.put o.dst undef) w) : wpAnyT P md ops Q S n (fuel + 1) listed a w :=
 ⟨fun h0 => (by rw [hr] at h0; cases h0), fun j hj => by
   rw [hr] at hj
   obtain rfl := List.mem_singleton.1 hj
   exact wpOp_step ho (fun K' hK => h K' (fun a w hS hW => hK a w ⟨.inr hS, hW hS⟩))⟩
theorem wpAnyT_done {listed : Array Bool} {a : Act} {w : World} (hr : Region.ready md ops listed = []) (h : Q .normal a w) : ∀ fuel, wpAnyT P md ops Q S n fuel listed a w
 | 0 => ⟨hr, h⟩
 | _ + 1 => ⟨fun _ => h, by rw [hr]; simp⟩
theorem wpAnyT_last {o : Oper} {fuel : Nat} {listed : Array Bool} {a : Act} {w : World} (hr : Region.ready md ops listed = [n]) (hr2 : Region.ready md ops (listed.setIfInBounds n true) = []) (ho : ops[n]? = some o)
 (h : ∀ K' : Act → World → Prop, Shut (∀ a w, Q .normal a w → K' a w) → if Region.wanted o (yielded ops a.tmps) = true then Oper.wp P o a w K' Q else K' (a.put o.dst undef) w) : wpAnyT P md ops Q S n (fuel + 1) listed a w :=
 ⟨fun h0 => (by rw [hr] at h0; cases h0), fun j hj => by
   rw [hr] at hj
   obtain rfl := List.mem_singleton.1 hj
   refine wpOp_step ho (fun K' hK => h K' (fun a w hq => hK a w ⟨.inl rfl, ?_⟩))
   cases fuel with
   | zero => exact ⟨hr2, hq⟩
   | succ f => exact ⟨fun _ => hq, by rw [hr2]; simp⟩⟩
theorem wp_region_T (S : World → Prop) (n : Nat) {id : Nat} {a : Act} {w : World} (hm : P.follows .mixedOrders = true)
 (h : wpAnyT P .any ops Q S n ops.size (Array.replicate ops.size false) a w.drew) : (Code.region id ops true).wp P Q a w :=
 wp_region_any hm (wpAny_of_T _ _ _ _ h)
end
end Go.Proofs.YtehpobojopmilaaGreat
namespace Go.Proofs.YtehpobojopmilaaGreat
set_option maxRecDepth 20000
set_option linter.unusedVariables false
set_option linter.unusedSimpArgs false
open Go.RowKit
set_option maxHeartbeats 1000000
theorem belowN {B : Nat} {a w : World} (h : Below B a w) (n : Nat) : Below B a (w.drewN n) := ⟨h.os, h.tape, h.output, h.size, h.block⟩
def inB (n lo hi : Int) : Bool := decide (lo ≤ n ∧ n ≤ hi)
theorem inB_true {n lo hi : Int} (h : lo ≤ n ∧ n ≤ hi) : inB n lo hi = true := decide_eq_true h
theorem inB_false {n lo hi : Int} (h : ¬ (lo ≤ n ∧ n ≤ hi)) : inB n lo hi = false := decide_eq_false h
theorem implWithin (n lo hi : Int) (w : World) : Calls Tryz.prog 24 #[.int .i64 n, .int .i64 lo, .int .i64 hi] w fun e w' => e = .returned (.bool (inB n lo hi)) ∧ w = w' := by
 by_cases h1 : lo ≤ n
 ·
  by_cases h2 : n ≤ hi
  · go_enter Tryz.func24, Tryz.ntmps24
    go_wp2_with fail
    go_ret
    exact ⟨ret_bool (by rw [inB_true ⟨h1, h2⟩]), rfl⟩
  · have h3 : decide (n ≤ hi) = false := by simpa using h2
    go_enter Tryz.func24, Tryz.ntmps24
    go_wp2_with fail
    go_ret
    exact ⟨ret_bool (by rw [inB_false (by omega)]), rfl⟩
 ·
  have h3 : decide (lo ≤ n) = false := by simpa using h1
  go_enter Tryz.func24, Tryz.ntmps24
  go_wp2_with fail
  go_ret
  exact ⟨ret_bool (by rw [inB_false (by omega)]), rfl⟩
theorem specIn (n lo hi : Int) (w : World) : Calls Tryz.prog 27 #[.int .i64 n, .int .i64 lo, .int .i64 hi] w fun e w' => e = .returned (.bool (inB n lo hi)) ∧ w = w' := by
 by_cases h1 : lo ≤ n
 ·
  by_cases h2 : n ≤ hi
  · go_enter Tryz.func27, Tryz.ntmps27
    go_wp2_with fail
    go_ret
    exact ⟨ret_bool (by rw [inB_true ⟨h1, h2⟩]), rfl⟩
  · have h3 : decide (n ≤ hi) = false := by simpa using h2
    go_enter Tryz.func27, Tryz.ntmps27
    go_wp2_with fail
    go_ret
    exact ⟨ret_bool (by rw [inB_false (by omega)]), rfl⟩
 · have h3 : decide (lo ≤ n) = false := by simpa using h1
   go_enter Tryz.func27, Tryz.ntmps27
   go_wp2_with fail
   go_ret
   exact ⟨ret_bool (by rw [inB_false (by omega)]), rfl⟩
theorem implWithinT (n lo hi : Int) (w : World) (h : lo ≤ n ∧ n ≤ hi) : Calls Tryz.prog 24 #[.int .i64 n, .int .i64 lo, .int .i64 hi] w fun e w' => e = .returned (.bool true) ∧ w' = w :=
 (implWithin n lo hi w).mono fun _ _ ⟨he, hw⟩ => ⟨by rw [he, inB_true h], hw.symm⟩
theorem implWithinF (n lo hi : Int) (w : World) (h : ¬ (lo ≤ n ∧ n ≤ hi)) : Calls Tryz.prog 24 #[.int .i64 n, .int .i64 lo, .int .i64 hi] w fun e w' => e = .returned (.bool false) ∧ w' = w :=
 (implWithin n lo hi w).mono fun _ _ ⟨he, hw⟩ => ⟨by rw [he, inB_false h], hw.symm⟩
theorem specInT (n lo hi : Int) (w : World) (h : lo ≤ n ∧ n ≤ hi) : Calls Tryz.prog 27 #[.int .i64 n, .int .i64 lo, .int .i64 hi] w fun e w' => e = .returned (.bool true) ∧ w' = w :=
 (specIn n lo hi w).mono fun _ _ ⟨he, hw⟩ => ⟨by rw [he, inB_true h], hw.symm⟩
theorem specInF (n lo hi : Int) (w : World) (h : ¬ (lo ≤ n ∧ n ≤ hi)) : Calls Tryz.prog 27 #[.int .i64 n, .int .i64 lo, .int .i64 hi] w fun e w' => e = .returned (.bool false) ∧ w' = w :=
 (specIn n lo hi w).mono fun _ _ ⟨he, hw⟩ => ⟨by rw [he, inB_false h], hw.symm⟩
end Go.Proofs.YtehpobojopmilaaGreat
namespace Go.Proofs.YtehpobojopmilaaGreat
set_option maxRecDepth 20000
set_option linter.unusedVariables false
set_option linter.unusedSimpArgs false
open Go.RowKit
end Go.Proofs.YtehpobojopmilaaGreat
namespace Go.Proofs.YtehpobojopmilaaGreat
set_option maxRecDepth 20000
set_option linter.unusedVariables false
set_option linter.unusedSimpArgs false
open Go.RowKit
def rdC (w : World) (size : Nat) (S : Nat → Prop) : List D → List Value → Prop
 | [], cs => cs = []
 | d :: r, cs => ∃ c1 c2, cs = c1 ++ c2 ∧ c1.length = size ∧ d.rd w S c1 ∧ rdC w size S r c2
theorem rdC_keep {w w' : World} {size : Nat} {S S' : Nat → Prop} (hk : ∀ b, S b → S' b ∧ w'.heap[b]? = w.heap[b]?) : ∀ (xs : List D) (cs : List Value), rdC w size S xs cs → rdC w' size S' xs cs
 | [], _, h => h
 | d :: r, cs, h => by
  simp only [rdC] at h ⊢
  obtain ⟨c1, c2, e, hl, h1, h2⟩ := h
  exact ⟨c1, c2, e, hl, D.rd_keep hk d c1 h1, rdC_keep hk r c2 h2⟩
theorem rdC_snoc {w : World} {size : Nat} {S : Nat → Prop} {d : D} {c : List Value} (hd : d.rd w S c) (hc : c.length = size) : ∀ (xs : List D) (cs : List Value), rdC w size S xs cs → rdC w size S (xs ++ [d]) (cs ++ c)
 | [], cs, h => by
  simp only [rdC] at h
  subst h
  simp only [List.nil_append, rdC]
  exact ⟨c, [], by simp, hc, hd, rfl⟩
 | e :: r, cs, h => by
  simp only [rdC, List.cons_append] at h ⊢
  obtain ⟨c1, c2, rfl, hl, h1, h2⟩ := h
  exact ⟨c1, c2 ++ c, by simp, hl, h1, rdC_snoc hd hc r c2 h2⟩
theorem rdC_row {w : World} {size b : Nat} {S : Nat → Prop} : ∀ (xs : List D) (cs : List Value) (off : Nat), (∀ j v, cs[j]? = some v → w.cell? ⟨b, off + j, none⟩ = some v) → rdC w size S xs cs → D.rdR w S size b xs off
 | [], _, _, _, _ => by simp only [D.rdR]
 | d :: r, cs, off, hc, h => by
  simp only [rdC, D.rdR] at h ⊢
  obtain ⟨c1, c2, rfl, hl, h1, h2⟩ := h
  refine ⟨⟨c1, hl, fun j v hj => hc j v ?_, h1⟩, rdC_row r c2 (off + size) (fun j v hj => ?_) h2⟩
  · have : j < c1.length := (List.getElem?_eq_some_iff.1 hj).1
    rw [List.getElem?_append_left this]; exact hj
  · have := hc (size + j) v (by rw [List.getElem?_append_right (by omega), hl]; simpa using hj)
    rwa [← Nat.add_assoc] at this
def Gsh (w : World) (B : Nat) (e : TypeId) (size : Nat) (v : Value) (n : Nat) (xs : List D) : Prop :=
 xs.length = n ∧ ∃ cs, w.ownsRow B e size v n cs ∧ rdC w size (Lt B) xs cs
theorem Gsh.below {w w' : World} {B : Nat} {e : TypeId} {size : Nat} {v : Value} {n : Nat} {xs : List D} (h : Gsh w B e size v n xs) (hb : Below w.heap.size w w') (hB : B ≤ w.heap.size) : Gsh w' B e size v n xs := by
 obtain ⟨h1, cs, h2, h4⟩ := h
 refine ⟨h1, cs, ?_, rdC_keep (fun b hb' => ⟨hb', hb.block b (Nat.lt_of_lt_of_le hb' hB)⟩) xs cs h4⟩
 refine ⟨h2.1, ?_⟩
 rcases h2.2 with h | ⟨g, cap, cur, rfl, a1, a2, a3⟩
 · exact .inl h
 · exact .inr ⟨g, cap, cur, rfl, a1, (hb.block g (h2.lt g rfl).2).trans a2, a3⟩
theorem Gsh.sl {w : World} {B : Nat} {e : TypeId} {size : Nat} {v : Value} {n : Nat} {xs : List D} (h : Gsh w B e size v n xs) (hB : B ≤ w.heap.size) : ∃ A c, v = .slice A n c ∧ Sl w (Lt w.heap.size) size A c xs := by
 obtain ⟨h1, cs, h2, h4⟩ := h
 have hlt := h2.lt
 rcases h2.2 with ⟨rfl, h⟩ | ⟨g, cap, cur, rfl, a1, a2, a3, a4, a5, a6⟩
 · have : xs = [] := List.eq_nil_of_length_eq_zero (by omega)
   subst this
   exact ⟨none, 0, by rw [h], Sl.nil (by unfold maxLen; omega)⟩
 ·
  refine ⟨_, cap, rfl, by omega, a4, .inr ⟨g, 0, rfl, (hlt g rfl).2, ?_⟩⟩
  refine rdC_row xs cs 0 (fun j v hj => ?_) (rdC_keep (fun b hb => ⟨Nat.lt_of_lt_of_le hb hB, rfl⟩) xs cs h4)
  rw [Nat.zero_add, Row.cell (t := e) (cs := cur) a2]
  rw [← a6, List.getElem?_take] at hj
  split at hj
  · simpa using hj
  · cases hj
theorem Gsh.step {w w' : World} {B g cap : Nat} {e e' : TypeId} {size : Nat} {v : Value} {n : Nat} {xs : List D} {d : D} {cs cells : List Value} (hB : B ≤ w.heap.size)
 (hxs : xs.length = n) (hbase : ∀ g, v.ownBlock = some g → B ≤ g) (hoc : rdC w size (Lt B) xs cells) (hd : d.rd w (Lt B) cs) (hcs : cs.length = size)
 (hown : w'.ownsRow B e size (.slice (some ⟨g, 0, none⟩) (n + 1) cap) (n + 1) (cells ++ cs)) (hgrow : (w.alloc (.cells cs.toArray e')).grownBy w' v.ownBlock) :
 Gsh w' B e size (.slice (some ⟨g, 0, none⟩) (n + 1) cap) (n + 1) (xs ++ [d]) := by
 have hne : ∀ b, b < B → w'.heap[b]? = w.heap[b]? := fun b hb =>
  (hgrow.block b (by simp; omega) (fun e => by have := hbase b e.symm; omega)).trans (Below.heap_alloc w _ b (by omega))
 exact ⟨by simp [hxs], cells ++ cs, hown, rdC_snoc (D.rd_keep (fun b hb => ⟨hb, hne b hb⟩) d cs hd) hcs xs cells (rdC_keep (fun b hb => ⟨hb, hne b hb⟩) xs cells hoc)⟩
structure Gr (w w' : World) (v v' : Value) : Prop where
 grow : w.grownBy w' v.ownBlock
 own : v'.ownBlock = v.ownBlock ∨ ∃ g, v'.ownBlock = some g ∧ w.heap.size ≤ g
theorem Gr.size {w w' : World} {v v' : Value} (h : Gr w w' v v') : w.heap.size ≤ w'.heap.size := h.grow.size
theorem Gr.trans {a b c : World} {v v1 v2 : Value} (h : Gr a b v v1) (k : Gr b c v1 v2) : Gr a c v v2 := by
 refine ⟨h.grow.andThen k.grow fun j e => ?_, ?_⟩
 · rcases h.own with h1 | ⟨g, h1, h2⟩
   · exact .inr (h1.symm.trans e)
   · rw [h1] at e; cases e; exact .inl h2
 · rcases k.own with h1 | ⟨g, h1, h2⟩
   · rw [h1]; exact h.own
   · exact .inr ⟨g, h1, Nat.le_trans h.size h2⟩
theorem Gr.of_below {w w' : World} {v : Value} (h : Below w.heap.size w w') : Gr w w' v v := ⟨⟨h.os, h.tape, h.output, h.size, fun b hb _ => h.block b hb⟩, .inl rfl⟩
theorem Gr.below {B : Nat} {w w' : World} {v v' : Value} (h : Gr w w' v v') (hB : B ≤ w.heap.size) (hv : ∀ g, v.ownBlock = some g → B ≤ g) : Below B w w' :=
 ⟨h.grow.os, h.grow.tape, h.grow.output, h.size, fun b hb => h.grow.block b (by omega) fun e => by have := hv b e.symm; omega⟩
theorem Gr.row {w w' : World} {v v' : Value} {b : Nat} {T : TypeId} {cs : Array Value} (h : Gr w w' v v') (hr : Row w b T cs) (hne : v.ownBlock ≠ some b) : Row w' b T cs :=
 (h.grow.block b hr.lt fun e => hne e.symm).trans hr
theorem Gr.ne {w w' : World} {v v' : Value} {b : Nat} (h : Gr w w' v v') (hv : v.ownBlock ≠ some b) (hb : b < w.heap.size) : v'.ownBlock ≠ some b := by
 rcases h.own with h1 | ⟨g, h1, h2⟩
 · rw [h1]; exact hv
 · rw [h1]; intro e; cases e; omega
theorem Gsh.own {w : World} {B : Nat} {e : TypeId} {size : Nat} {v : Value} {n : Nat} {xs : List D} (h : Gsh w B e size v n xs) : ∀ g, v.ownBlock = some g → B ≤ g ∧ g < w.heap.size := by
 obtain ⟨h1, cs, h2, h4⟩ := h
 exact fun g hg => h2.lt g hg
theorem wpList_append_G {P : Program} (w : World) {ops : Array Oper} {rest : List Oper} {o : Oper} {a : Act} {Q : Exit → Act → World → Prop} (hgd : o.guard = none) (s x : Operand) (t : TypeId) (ho : o.op = .call { callee := .builtin .append, args := #[s, x], argTypes := #[t, t] })
 (e : TypeId) (z : Value) (size bytes : Nat) (ht : P.underlying t = some (.slice e)) (hi : (P.info? e).map (fun i => (i.zero, i.size, i.bytes)) = some (some z, size, bytes)) (hzs : z.cells.size = size) (hsz : 0 < size)
 (B : Nat) (v : Value) (n : Nat) (xs : List D) (hg : Gsh w B e size v n xs) (d : D) (cs : List Value) (hd : d.rd w (Lt B) cs) (hB : B ≤ w.heap.size) (hcs : cs.length = size) (h1 : ∀ u ∈ cs, u.oneCell' = true)
 (hn : n < 1048577) (hby : bytes ≤ 1048576) (e' : TypeId) (hs : a.eval s = v) (A : Nat) (hA : A = w.heap.size) (hx : a.eval x = .slice (some ⟨A, 0, none⟩) 1 1)
 (h : ∀ g cap w', Gsh w' B e size (.slice (some ⟨g, 0, none⟩) (n + 1) cap) (n + 1) (xs ++ [d]) → Gr w w' v (.slice (some ⟨g, 0, none⟩) (n + 1) cap) → wpList P ops Q rest (a.put o.dst (.slice (some ⟨g, 0, none⟩) (n + 1) cap)) w') : wpList P ops Q (o :: rest) a (w.alloc (.cells cs.toArray e')) := by
 obtain ⟨i, i1, i2, i3, i4⟩ := info_parts hi
 obtain ⟨hxs, cells, g2, g4⟩ := id hg
 have e1 : w.heap.size < (w.alloc (.cells cs.toArray e')).heap.size := by simp
 have hga := g2.alloc (.cells cs.toArray e')
 have hnews : ∀ j u, cs[j]? = some u → (w.alloc (.cells cs.toArray e')).cell? ((⟨A, 0, none⟩ : Addr).add j) = some u := fun j u hu => by
  subst hA
  exact World.news_of_block (cs := cs.toArray) (heap_alloc_new w _) j u (by simpa using hu)
 have hbt : (n + 1) * bytes ≤ 140737488355328 := Nat.le_trans (Nat.mul_le_mul (show n + 1 ≤ 1048577 by omega) hby) (by omega)
 refine wpList_append_lies (w.alloc (.cells cs.toArray e')) hgd s x t ho B e i z size bytes ht i1 i2 i3 i4 hzs hsz v n cells hs hga ⟨A, 0, none⟩ 1 1 cs hx (by omega) hnews h1 (by omega) (by unfold maxLen; omega) hbt (by simp; omega) _ rfl fun g cap w' h2 h3 h4 h5 => h g cap w' (Gsh.step (e' := e') hB hxs (fun g hg => (g2.lt g hg).1) g4 hd hcs h2 h3) ?_
 refine (Gr.of_below ((Below.refl _ _).alloc (Nat.le_refl _) _)).trans ⟨h3, ?_⟩
 rcases h4 with h4 | h4
 · exact .inl h4.symm
 · exact .inr ⟨g, rfl, by omega⟩
theorem run_append_many {P : Program} (w : World) (base : Nat) (t ty e : TypeId) (i : TypeInfo) (z : Value) (size bytes : Nat) (ht : P.underlying t = some (.slice e)) (hi : P.info? e = some i) (hz : i.zero = some z)
 (hsize : i.size = size) (hby : i.bytes = bytes) (hzs : z.cells.size = size) (hsz : 0 < size)
 (v : Value) (n : Nat) (xs : List Value) (hown : w.ownsRow base e size v n xs)
 (A : Option Addr) (m c : Nat) (news : List Value) (hA : A = none → m = 0) (hl : news.length = m * size) (hnews : ∀ a, A = some a → ∀ j u, news[j]? = some u → w.cell? (a.add j) = some u) (h1 : ∀ u ∈ news, u.oneCell' = true)
 (h63 : n + m ≤ maxLen) (hbytes : (n + m) * bytes ≤ 140737488355328) (hbase : base ≤ w.heap.size) :
 ∃ v' w', (Builtin.append_ #[t, t] ty #[v, .slice A m c]).run P w = .ok v' w' ∧ w'.ownsRow base e size v' (n + m) (xs ++ news) ∧ w.grownBy w' v.ownBlock ∧ (v'.ownBlock = v.ownBlock ∨ v'.ownBlock = some w.heap.size) := by
 match A with
 | some a =>
  obtain ⟨v', w', a1, a2, a3, _, a4⟩ := run_append_own_at (P := P) w base t ty e i z size bytes ht hi hz hsize hby hzs hsz v n xs hown a m c news hl (hnews a rfl) h1 h63 hbytes hbase
  exact ⟨v', w', a1, a2, a3, a4⟩
 | none =>
  have hm := hA rfl
  subst hm
  have hn : news = [] := List.eq_nil_of_length_eq_zero (by simpa using hl)
  subst hn
  subst hsize
  subst hby
  refine ⟨v, w, ?_, by simpa using hown, ⟨rfl, rfl, rfl, Nat.le_refl _, fun _ _ _ => rfl⟩, .inl rfl⟩
  rcases hown.2 with ⟨rfl, rfl⟩ | ⟨g, cap, cur, rfl, hbg, hg, hnc, hcm, hcs, htake⟩
  · simp [Builtin.append_, run_underlying ht, sizeOf, typeInfo, hi, Builtin.lenOf, Builtin.firstCells, loadCells, loadCellsFrom]
  · have hr := run_append_room_src (P := P) w t t ty e i ht hi g 0 n cap (.slice none 0 c) 0 [] (Src.ofNil w ht c) (by omega) (by simp) (by simp)
    simpa [World.setCells] using hr
mutual
theorem D.rd_one {w : World} {S : Nat → Prop} : ∀ (d : D) (cs : List Value), d.rd w S cs → ∀ u ∈ cs, u.oneCell' = true
 | .num k n, cs, h, u, hu => by obtain ⟨rfl, _⟩ := D.rd_num.1 h; simp at hu; subst hu; rfl
 | .str s, cs, h, u, hu => by obtain ⟨rfl, _⟩ := D.rd_str.1 h; simp at hu; subst hu; rfl
 | .bool b, cs, h, u, hu => by obtain rfl := D.rd_bool.1 h; simp at hu; subst hu; rfl
 | .agg fs, cs, h, u, hu => D.rdF_one fs cs (D.rd_agg.1 h) u hu
 | .sl size xs, cs, h, u, hu => by obtain ⟨A, c, rfl, _⟩ := D.rd_sl.1 h; simp at hu; subst hu; rfl
theorem D.rdF_one {w : World} {S : Nat → Prop} : ∀ (fs : List D) (cs : List Value), D.rdF w S fs cs → ∀ u ∈ cs, u.oneCell' = true
 | [], cs, h, u, hu => by obtain rfl := D.rdF_nil.1 h; simp at hu
 | d :: r, cs, h, u, hu => by
  obtain ⟨c1, c2, rfl, h1, h2⟩ := D.rdF_cons.1 h
  rcases List.mem_append.1 hu with hu | hu
  · exact D.rd_one d c1 h1 u hu
  · exact D.rdF_one r c2 h2 u hu
end
theorem rdC_one {w : World} {size : Nat} {S : Nat → Prop} : ∀ (xs : List D) (cs : List Value), rdC w size S xs cs → ∀ u ∈ cs, u.oneCell' = true
 | [], cs, h, u, hu => by simp only [rdC] at h; subst h; simp at hu
 | d :: r, cs, h, u, hu => by
  simp only [rdC] at h
  obtain ⟨c1, c2, rfl, hl, h1, h2⟩ := h
  rcases List.mem_append.1 hu with hu | hu
  · exact D.rd_one d c1 h1 u hu
  · exact rdC_one r c2 h2 u hu
theorem rdC_length {w : World} {size : Nat} {S : Nat → Prop} : ∀ (xs : List D) (cs : List Value), rdC w size S xs cs → cs.length = xs.length * size
 | [], cs, h => by simp only [rdC] at h; simp [h]
 | d :: r, cs, h => by
  simp only [rdC] at h
  obtain ⟨c1, c2, rfl, hl, _, h2⟩ := h
  have := rdC_length r c2 h2
  rw [List.length_append, hl, this, List.length_cons, Nat.add_mul]; omega
theorem rdC_append {w : World} {size : Nat} {S : Nat → Prop} {ys : List D} {es : List Value} (hy : rdC w size S ys es) : ∀ (xs : List D) (cs : List Value), rdC w size S xs cs → rdC w size S (xs ++ ys) (cs ++ es)
 | [], cs, h => by simp only [rdC] at h; subst h; simpa using hy
 | d :: r, cs, h => by
  simp only [rdC, List.cons_append] at h ⊢
  obtain ⟨c1, c2, rfl, hl, h1, h2⟩ := h
  exact ⟨c1, c2 ++ es, by simp, hl, h1, rdC_append hy r c2 h2⟩
theorem rdR_cells {w : World} {size b : Nat} {S : Nat → Prop} : ∀ (xs : List D) (off : Nat), D.rdR w S size b xs off → ∃ cs, rdC w size S xs cs ∧ ∀ j u, cs[j]? = some u → w.cell? ⟨b, off + j, none⟩ = some u
 | [], off, _ => ⟨[], rfl, fun j u h => by simp at h⟩
 | d :: r, off, h => by
  simp only [D.rdR] at h
  obtain ⟨⟨c1, hl, hc, h1⟩, h2⟩ := h
  obtain ⟨c2, k1, k2⟩ := rdR_cells r (off + size) h2
  refine ⟨c1 ++ c2, by simp only [rdC]; exact ⟨c1, c2, rfl, hl, h1, k1⟩, fun j u hj => ?_⟩
  by_cases hlt : j < c1.length
  · rw [List.getElem?_append_left hlt] at hj; exact hc j u hj
  · rw [List.getElem?_append_right (by omega)] at hj
    have := k2 (j - c1.length) u hj
    rwa [show off + size + (j - c1.length) = off + j by omega] at this
def Gre (w : World) (B : Nat) (e : TypeId) (size : Nat) (v : Value) (n : Nat) (xs : List D) : Prop :=
 xs.length = n ∧ ∃ cs, w.ownsRow B e size v n cs ∧ rdC w size (fun b => b < w.heap.size ∧ v.ownBlock ≠ some b) xs cs
theorem Gre.nil (w : World) (B : Nat) (e : TypeId) (size : Nat) : Gre w B e size (.slice none 0 0) 0 [] := ⟨rfl, [], World.ownsRow_nil w B e size, rfl⟩
theorem Gre.made {w : World} {B g : Nat} {e : TypeId} {size : Nat} (hr : Row w g e #[]) (hB : B ≤ g) : Gre w B e size (.slice (some ⟨g, 0, none⟩) 0 0) 0 [] :=
 ⟨rfl, [], ⟨by simp, .inr ⟨g, 0, #[], rfl, hB, hr, Nat.le_refl _, by unfold maxLen; omega, by simp, by simp⟩⟩, rfl⟩
theorem Gre.of_gsh {w : World} {B : Nat} {e : TypeId} {size : Nat} {v : Value} {n : Nat} {xs : List D} (h : Gsh w B e size v n xs) (hB : B ≤ w.heap.size) : Gre w B e size v n xs := by
 have ho := h.own
 obtain ⟨h1, cs, h2, h4⟩ := h
 refine ⟨h1, cs, h2, rdC_keep (fun b hb => ⟨⟨Nat.lt_of_lt_of_le hb hB, fun e => ?_⟩, rfl⟩) xs cs h4⟩
 have := (ho b e).1
 have : b < B := hb
 omega
theorem Gre.own {w : World} {B : Nat} {e : TypeId} {size : Nat} {v : Value} {n : Nat} {xs : List D} (h : Gre w B e size v n xs) : ∀ g, v.ownBlock = some g → B ≤ g ∧ g < w.heap.size := by
 obtain ⟨h1, cs, h2, h4⟩ := h
 exact fun g hg => h2.lt g hg
theorem Gre.keep {w w' : World} {B : Nat} {e : TypeId} {size : Nat} {v : Value} {n : Nat} {xs : List D} (h : Gre w B e size v n xs) (hs : w.heap.size ≤ w'.heap.size) (hk : ∀ b, b < w.heap.size → w'.heap[b]? = w.heap[b]?) : Gre w' B e size v n xs := by
 have ho := h.own
 obtain ⟨h1, cs, h2, h4⟩ := h
 refine ⟨h1, cs, ⟨h2.1, ?_⟩, rdC_keep (fun b hb => ⟨⟨Nat.lt_of_lt_of_le hb.1 hs, hb.2⟩, hk b hb.1⟩) xs cs h4⟩
 rcases h2.2 with h | ⟨g, cap, cur, rfl, a1, a2, a3⟩
 · exact .inl h
 · exact .inr ⟨g, cap, cur, rfl, a1, (hk g (ho g rfl).2).trans a2, a3⟩
theorem Gre.below {w w' : World} {B : Nat} {e : TypeId} {size : Nat} {v : Value} {n : Nat} {xs : List D} (h : Gre w B e size v n xs) (hb : Below w.heap.size w w') : Gre w' B e size v n xs := h.keep hb.size hb.block
theorem Gre.sl {w : World} {B : Nat} {e : TypeId} {size : Nat} {v : Value} {n : Nat} {xs : List D} (h : Gre w B e size v n xs) : ∃ A c, v = .slice A n c ∧ Sl w (Lt w.heap.size) size A c xs := by
 have hlt := h.own
 obtain ⟨h1, cs, h2, h4⟩ := h
 rcases h2.2 with ⟨rfl, h⟩ | ⟨g, cap, cur, rfl, a1, a2, a3, a4, a5, a6⟩
 · have : xs = [] := List.eq_nil_of_length_eq_zero (by omega)
   subst this
   exact ⟨none, 0, by rw [h], Sl.nil (by unfold maxLen; omega)⟩
 ·
  refine ⟨_, cap, rfl, by omega, a4, .inr ⟨g, 0, rfl, (hlt g rfl).2, ?_⟩⟩
  refine rdC_row xs cs 0 (fun j v hj => ?_) (rdC_keep (fun b hb => ⟨hb.1, rfl⟩) xs cs h4)
  rw [Nat.zero_add, Row.cell (t := e) (cs := cur) a2]
  rw [← a6, List.getElem?_take] at hj
  split at hj
  · simpa using hj
  · cases hj
theorem Gre.step {P : Program} (w : World) (t ty e : TypeId) (z : Value) (size bytes : Nat) (ht : P.underlying t = some (.slice e)) (hi : (P.info? e).map (fun i => (i.zero, i.size, i.bytes)) = some (some z, size, bytes)) (hzs : z.cells.size = size) (hsz : 0 < size)
 (B : Nat) (v : Value) (n : Nat) (xs : List D) (hg : Gre w B e size v n xs) (A : Option Addr) (c m : Nat) (ys : List D) (hm : ys.length = m) (hy : Sl w (fun b => b < w.heap.size ∧ v.ownBlock ≠ some b) size A c ys) (hB : B ≤ w.heap.size)
 (hn : n + m ≤ maxLen) (hbt : (n + m) * bytes ≤ 140737488355328) :
 ∃ A' c' w', (Builtin.append_ #[t, t] ty #[v, .slice A m c]).run P w = .ok (.slice A' (n + m) c') w' ∧ Gre w' B e size (.slice A' (n + m) c') (n + m) (xs ++ ys) ∧ Gr w w' v (.slice A' (n + m) c') := by
 obtain ⟨i, i1, i2, i3, i4⟩ := info_parts hi
 have ho := hg.own
 obtain ⟨hxs, cells, g2, g4⟩ := id hg
 obtain ⟨es, k1, k2, k3⟩ : ∃ es, rdC w size (fun b => b < w.heap.size ∧ v.ownBlock ≠ some b) ys es ∧ (A = none → m = 0) ∧ ∀ a, A = some a → ∀ j u, es[j]? = some u → w.cell? (a.add j) = some u := by
  rcases hy.2.2 with rfl | ⟨b, off, rfl, hS, hr⟩
  · exact ⟨[], rfl, fun _ => by simpa using hm.symm, fun _ _ j u h => by simp at h⟩
  · obtain ⟨es, h1, h2⟩ := rdR_cells ys off hr
    refine ⟨es, h1, fun h => by simp at h, fun a ha j u hj => ?_⟩
    obtain rfl : ⟨b, off, none⟩ = a := by simpa using ha
    have hadd : (⟨b, off, none⟩ : Addr).add j = ⟨b, off + j, none⟩ := by unfold Addr.add; split <;> simp_all
    rw [hadd]; exact h2 j u hj
 obtain ⟨v', w', hr, hown, hgr, hat⟩ := run_append_many (P := P) w B t ty e i z size bytes ht i1 i2 i3 i4 hzs hsz v n cells g2 A m c es k2 (by rw [rdC_length _ _ k1, hm]) k3 (rdC_one _ _ k1) hn hbt hB
 have hfm : ∃ A' c', v' = .slice A' (n + m) c' := by
  rcases hown.2 with ⟨rfl, h0⟩ | ⟨g, cap, cur, rfl, _⟩
  · exact ⟨none, 0, by rw [h0]⟩
  · exact ⟨_, cap, rfl⟩
 obtain ⟨A', c', rfl⟩ := hfm
 have hG : Gr w w' v (.slice A' (n + m) c') := ⟨hgr, hat.imp id fun h => ⟨_, h, Nat.le_refl _⟩⟩
 refine ⟨A', c', w', hr, ⟨by simp [hxs, hm], cells ++ es, hown, rdC_keep (fun b hb => ⟨⟨Nat.lt_of_lt_of_le hb.1 hgr.size, hG.ne hb.2 hb.1⟩, hgr.block b hb.1 fun e => hb.2 e.symm⟩) _ _ (rdC_append k1 _ _ g4)⟩, hG⟩
theorem wp_append_M {P : Program} {o : Oper} {a : Act} {K : Act → World → Prop} {Q : Exit → Act → World → Prop} (w : World) (s x : Operand) (t : TypeId) (ho : o.op = .call { callee := .builtin .append, args := #[s, x], argTypes := #[t, t] })
 (e : TypeId) (z : Value) (size bytes : Nat) (ht : P.underlying t = some (.slice e)) (hi : (P.info? e).map (fun i => (i.zero, i.size, i.bytes)) = some (some z, size, bytes)) (hzs : z.cells.size = size) (hsz : 0 < size)
 (B : Nat) (v : Value) (n : Nat) (xs : List D) (hg : Gre w B e size v n xs) (A : Option Addr) (c m : Nat) (ys : List D) (hm : ys.length = m) (hy : Sl w (fun b => b < w.heap.size ∧ v.ownBlock ≠ some b) size A c ys) (hB : B ≤ w.heap.size)
 (hn : n + m ≤ maxLen) (hbt : (n + m) * bytes ≤ 140737488355328) (hs : a.eval s = v) (hx : a.eval x = .slice A m c)
 (h : ∀ A' c' w', Gre w' B e size (.slice A' (n + m) c') (n + m) (xs ++ ys) → Gr w w' v (.slice A' (n + m) c') → K (a.put o.dst (.slice A' (n + m) c')) w') : o.wp P a w K Q := by
 obtain ⟨A', c', w', hr, h2, h3⟩ := Gre.step (P := P) w t o.type e z size bytes ht hi hzs hsz B v n xs hg A c m ys hm hy hB hn hbt
 unfold Oper.wp execOp
 simp only [ho, resolve, invoke, builtin, Sem.run_bind, Sem.run_pure, Result.andThen_ok, List.map_toArray, List.map_cons, List.map_nil, hs, hx, hr]
 exact h A' c' w' h2 h3
theorem wpList_append_M {P : Program} {ops : Array Oper} {rest : List Oper} {o : Oper} {a : Act} {Q : Exit → Act → World → Prop} (w : World) (hgd : o.guard = none) (s x : Operand) (t : TypeId) (ho : o.op = .call { callee := .builtin .append, args := #[s, x], argTypes := #[t, t] })
 (e : TypeId) (z : Value) (size bytes : Nat) (ht : P.underlying t = some (.slice e)) (hi : (P.info? e).map (fun i => (i.zero, i.size, i.bytes)) = some (some z, size, bytes)) (hzs : z.cells.size = size) (hsz : 0 < size)
 (B : Nat) (v : Value) (n : Nat) (xs : List D) (hg : Gre w B e size v n xs) (A : Option Addr) (c m : Nat) (ys : List D) (hm : ys.length = m) (hy : Sl w (fun b => b < w.heap.size ∧ v.ownBlock ≠ some b) size A c ys) (hB : B ≤ w.heap.size)
 (hn : n + m ≤ maxLen) (hbt : (n + m) * bytes ≤ 140737488355328) (hs : a.eval s = v) (hx : a.eval x = .slice A m c)
 (h : ∀ A' c' w', Gre w' B e size (.slice A' (n + m) c') (n + m) (xs ++ ys) → Gr w w' v (.slice A' (n + m) c') → wpList P ops Q rest (a.put o.dst (.slice A' (n + m) c')) w') : wpList P ops Q (o :: rest) a w :=
 wpList_plain hgd fun _ hK => wp_append_M w s x t ho e z size bytes ht hi hzs hsz B v n xs hg A c m ys hm hy hB hn hbt hs hx fun A' c' w' h2 h3 => hK _ _ (h A' c' w' h2 h3)
theorem step_append_M {P : Program} {ops : Array Oper} {o : Oper} {a : Act} {K : Act → World → Prop} {Q : Exit → Act → World → Prop} {E : Prop} (w : World) (hgd : o.guard = none) (s x : Operand) (t : TypeId) (ho : o.op = .call { callee := .builtin .append, args := #[s, x], argTypes := #[t, t] })
 (e : TypeId) (z : Value) (size bytes : Nat) (ht : P.underlying t = some (.slice e)) (hi : (P.info? e).map (fun i => (i.zero, i.size, i.bytes)) = some (some z, size, bytes)) (hzs : z.cells.size = size) (hsz : 0 < size)
 (B : Nat) (v : Value) (n : Nat) (xs : List D) (hg : Gre w B e size v n xs) (A : Option Addr) (c m : Nat) (ys : List D) (hm : ys.length = m) (hy : Sl w (fun b => b < w.heap.size ∧ v.ownBlock ≠ some b) size A c ys) (hB : B ≤ w.heap.size)
 (hn : n + m ≤ maxLen) (hbt : (n + m) * bytes ≤ 140737488355328) (hs : a.eval s = v) (hx : a.eval x = .slice A m c)
 (h : ∀ A' c' w', Gre w' B e size (.slice A' (n + m) c') (n + m) (xs ++ ys) → Gr w w' v (.slice A' (n + m) c') → K (a.put o.dst (.slice A' (n + m) c')) w') : if Region.wanted o (yielded ops a.tmps) = true then Oper.wp P o a w K Q else E := by
 have hw : Region.wanted o (yielded ops a.tmps) = true := by simp [Region.wanted, hgd]
 rw [if_pos hw]
 exact wp_append_M w s x t ho e z size bytes ht hi hzs hsz B v n xs hg A c m ys hm hy hB hn hbt hs hx h
end Go.Proofs.YtehpobojopmilaaGreat
namespace Go.Proofs.YtehpobojopmilaaGreat
set_option maxRecDepth 20000
set_option linter.unusedVariables false
set_option linter.unusedSimpArgs false
open Go.RowKit
end Go.Proofs.YtehpobojopmilaaGreat
namespace Go.Proofs.YtehpobojopmilaaGreat
set_option maxRecDepth 20000
set_option linter.unusedVariables false
set_option linter.unusedSimpArgs false
open Go.RowKit
set_option maxHeartbeats 1000000
theorem boxed (w : World) (T : TypeId) (cs : Array Value) : ∃ x, x = w.alloc (.cells cs T) ∧ Hid (Row x w.heap.size T cs) ∧ x.heap.size = w.heap.size + 1 ∧ Hid (Bx w.heap.size w x) :=
 ⟨_, rfl, LH (Row.new _ _ _), by simp, LH ((Bx.refl _ _).alloc _)⟩
set_option maxHeartbeats 2000000
def hidQ (Q : Exit → Act → World → Prop) (R : Act → World → Prop) : Exit → Act → World → Prop
 | .ret, a, w => R a w
 | e, a, w => Q e a w
theorem wp_hide {P : Program} {c : Code} {Q : Exit → Act → World → Prop} {a : Act} {w : World} (h : ∀ BP : Act → World → Prop, BP = Q .ret → c.wp P (hidQ Q BP) a w) : c.wp P Q a w := by
 have e : hidQ Q (Q .ret) = Q := by funext e a w; cases e <;> rfl
 have := h _ rfl
 rwa [e] at this
end Go.Proofs.YtehpobojopmilaaGreat
namespace Go.Proofs.YtehpobojopmilaaGreat
set_option maxRecDepth 20000
set_option linter.unusedVariables false
set_option linter.unusedSimpArgs false
open Go.RowKit
end Go.Proofs.YtehpobojopmilaaGreat
namespace Go.Proofs.YtehpobojopmilaaGreat
set_option maxRecDepth 20000
set_option linter.unusedVariables false
set_option linter.unusedSimpArgs false
open Go.RowKit
set_option maxHeartbeats 1000000
structure Dm (l : List Int) (A : Option Addr) (c : Nat) (g : Nat) (w w' : World) : Prop where
 cur : ∃ (i : Nat) (h : Int), Cur l A c w' g i h
 bx : Bx g w w'
theorem Turned.bx {g : Nat} {w w' : World} (h : Turned g w w') : Bx g w w' := ⟨h.os, h.tape, h.output, h.size, h.block⟩
theorem Bx.turned {g : Nat} {w w' : World} (h : Bx g w w') : Turned g w w' := ⟨h.os, h.tape, h.output, h.size, h.block⟩
section
variable {l : List Int} {A : Option Addr} {c : Nat} {g : Nat} {w a b d : World}
theorem Dm.start {i : Nat} {h : Int} (hc : Cur l A c w g i h) : Dm l A c g w w := ⟨⟨i, h, hc⟩, Bx.refl _ _⟩
theorem Dm.lt (h : Dm l A c g a b) : g < b.heap.size := by obtain ⟨i, k, hc⟩ := h.cur; exact hc.row.lt
theorem Dm.size (h : Dm l A c g a b) : a.heap.size ≤ b.heap.size := h.bx.size
theorem Dm.trans (h : Dm l A c g a b) (k : Dm l A c g b d) : Dm l A c g a d := ⟨k.cur, h.bx.trans k.bx⟩
theorem Dm.below (h : Dm l A c g a b) (k : Below b.heap.size b d) : Dm l A c g a d := by
 obtain ⟨i, x, hc⟩ := h.cur
 exact ⟨⟨i, x, hc.below k hc.row.lt⟩, h.bx.trans (Bx.of_below k (Nat.le_refl _))⟩
theorem Dm.again (h : Dm l A c g a b) : Dm l A c g b b := ⟨h.cur, Bx.refl _ _⟩
theorem Dm.chg {q : Nat} (h : Dm l A c g a b) (k : Bx q b d) (hq : a.heap.size ≤ q) (hg : g < a.heap.size) : Dm l A c g a d := by
 obtain ⟨i, x, hc⟩ := h.cur
 have hz := h.size
 exact ⟨⟨i, x, hc.turned k.turned (by omega)⟩, ⟨k.os.trans h.bx.os, k.tape.trans h.bx.tape, k.output.trans h.bx.output, Nat.le_trans hz k.size, fun y hy hyg => (k.block y (by omega) (by omega)).trans (h.bx.block y hy hyg)⟩⟩
end
theorem drawBelowD {l : List Int} {A : Option Addr} {c : Nat} {g : Nat} {a w : World} (m : Dm l A c g a w) (n : Int) (h1 : 1 ≤ n) (h2 : n ≤ 256) :
 Calls Tryz.prog 23 #[.pointer (some ⟨g, 0, none⟩), .int .i64 n] w fun e w' => ∃ x : Int, e = .returned (.int .i64 x) ∧ (0 ≤ x ∧ x < n) ∧ Dm l A c g w w' := by
 obtain ⟨i, h, hc⟩ := m.cur
 refine (drawBelow hc n h1 h2).mono ?_
 rintro e w1 ⟨x, i1, k1, rfl, hx, hc1, ht⟩
 exact ⟨x, rfl, hx, ⟨⟨i1, k1, hc1⟩, ht.bx⟩⟩
theorem int_wfS {n : Int} (h : -1000 ≤ n ∧ n ≤ 1000) : (Lit.int .i64 n).wf = true := by
 simp [Lit.wf, IntKind.min, IntKind.max, IntKind.signed, IntKind.bits]; omega
set_option maxHeartbeats 2000000
theorem digI_size (n : Int) (h1 : -9223372036854775808 ≤ n) (h2 : n ≤ 9223372036854775807) : (digI n).size ≤ 20 := by
 unfold digI
 split
 · rw [ByteArray.size_append']
   have := digU_size19 (-n).toNat (by omega)
   have h1 : (ByteArray.mk #[45]).size = 1 := rfl
   omega
 · have := digU_size19 n.toNat (by omega); omega
theorem digI_neg1 {n : Int} (h1 : n < 0) : digI n = ⟨#[45]⟩ ++ digI (-n) := by
 unfold digI; rw [if_pos h1, if_neg (by omega)]
theorem digI_lt {n : Int} (h1 : 0 ≤ n) (h : n < 10) : digI n = one (48 + n) := by
 unfold digI; rw [if_neg (by omega), digU_lt (by omega)]
 congr 1; omega
theorem digI_ge {n : Int} (h : 10 ≤ n) : digI n = digI (n / 10) ++ one (48 + n % 10) := by
 unfold digI; rw [if_neg (by omega), if_neg (by omega), digU_ge (by omega)]
 congr 2
 · omega
 · omega
theorem digI_neg10 {n : Int} (h : n ≤ -10) : digI n = digI (n.tdiv 10) ++ digI (-(n.tmod 10)) := by
 have h3 := tdiv10 n
 have h4 := tmod10 n
 have e1 : n.tdiv 10 = -((-n) / 10) := h3.2 (by omega)
 have e2 : n.tmod 10 = -((-n) % 10) := h4.2 (by omega)
 rw [e1, e2, digI_neg1 (n := n) (by omega), digI_neg1 (n := -((-n) / 10)) (by omega), digI_ge (n := -n) (by omega), digI_lt (n := - -(-n % 10)) (by omega) (by omega), ba_assoc]
 simp
theorem implDigits (k : Nat) : ∀ (n : Int) (w : World), ((0 ≤ n → 2 * n ≤ k) ∧ (n < 0 → -2 * n + 1 ≤ k)) → -9223372036854775808 ≤ n → n ≤ 9223372036854775807 →
 Calls Tryz.prog 32 #[.int .i64 n] w fun e w' => e = .returned (.string (digI n)) ∧ w = w' := by
 induction k with
 | zero =>
  intro n w hk h1 h2
  obtain rfl : n = 0 := by omega
  clear hk
  go_enter Tryz.func32, Tryz.ntmps32
  go_wp2_with fail
  go_ret
  exact ⟨ret_str (by decide +kernel), rfl⟩
 | succ k ih =>
  intro n w hk h1 h2
  by_cases hn : n < 0
  ·
   by_cases h10 : -10 < n
   ·
    have Hd := LH (digI_neg1 hn)
    have hsz := digI_size (-n) (by omega) (by omega)
    have hd9 : 0 ≤ -n := by omega
    go_enter Tryz.func32, Tryz.ntmps32
    go_wp2_with fail
    refine (ih (-n) _ (by omega) (by omega) (by omega)).mono ?_; rintro e w' ⟨rfl, rfl⟩
    go_wp2_with fail
    go_ret
    exact ⟨ret_str Hd.out.symm, rfl⟩
   ·
    have Hd := LH (digI_neg10 (n := n) (by omega))
    have h3 := tdiv10 n
    have h4 := tmod10 n
    have hsz := digI_size (n.tdiv 10) (by omega) (by omega)
    have hsz2 := digI_size (-(n.tmod 10)) (by omega) (by omega)
    have hb : -9 ≤ n.tmod 10 ∧ n.tmod 10 ≤ 0 := by omega
    have hb2 : -922337203685477580 ≤ n.tdiv 10 ∧ n.tdiv 10 ≤ -1 := by omega
    have hb3 : -2 * n.tdiv 10 + 1 ≤ k := by omega
    clear h3 h4
    go_enter Tryz.func32, Tryz.ntmps32
    go_wp2_with fail
    refine (ih (n.tdiv 10) _ (by omega) (by omega) (by omega)).mono ?_; rintro e w' ⟨rfl, rfl⟩
    go_wp2_with fail
    refine (ih (-(n.tmod 10)) _ (by omega) (by omega) (by omega)).mono ?_; rintro e w' ⟨rfl, rfl⟩
    go_wp2_with fail
    go_ret
    exact ⟨ret_str Hd.out.symm, rfl⟩
  ·
   by_cases h10 : n < 10
   · have Hd := LH (digI_lt (n := n) (by omega) h10)
     have He := LH (encode_one (r := 48 + n) (by omega) (by omega))
     have hn0 : 0 ≤ n := by omega
     go_enter Tryz.func32, Tryz.ntmps32
     go_wp2_with fail
     go_ret
     exact ⟨ret_str (by rw [Hd.out, ← He.out]), rfl⟩
   ·
    have Hd := LH (digI_ge (n := n) (by omega))
    have He := LH (encode_one (r := 48 + n % 10) (by omega) (by omega))
    have hsz := digI_size (n / 10) (by omega) (by omega)
    have hs2 : (Utf8.encode (48 + n % 10)).size ≤ 1 := by rw [He.out]; exact Nat.le_refl 1
    have hn0 : 10 ≤ n := by omega
    go_enter Tryz.func32, Tryz.ntmps32
    go_wp2_with fail
    refine (ih (n / 10) _ (by omega) (by omega) (by omega)).mono ?_; rintro e w' ⟨rfl, rfl⟩
    go_wp2_with fail
    go_ret
    exact ⟨ret_str (by rw [Hd.out, ← He.out]), rfl⟩
theorem implDigits' (n : Int) (w : World) (h1 : -9223372036854775808 ≤ n) (h2 : n ≤ 9223372036854775807) :
 Calls Tryz.prog 32 #[.int .i64 n] w fun e w' => e = .returned (.string (digI n)) ∧ w = w' :=
 implDigits (2 * n.natAbs + 1) n w (by omega) h1 h2
theorem specDigits (n : Int) (w : World) (h1 : -9223372036854775808 ≤ n) (h2 : n ≤ 9223372036854775807) :
 Calls Tryz.prog 34 #[.int .i64 n] w fun e w' => e = .returned (.string (digI n)) ∧ Below w.heap.size w w' := by
 have hcv := fun (w : World) (x : Int) => run_string_one (P := Tryz.prog) w 22 9 5 x Tryz.underlying22 Tryz.underlying5 Tryz.underlying9
 by_cases h0 : n = 0
 · subst h0
   go_enter Tryz.func34, Tryz.ntmps34
   go_wp2
   go_ret
   exact ⟨ret_str (by decide +kernel), Below.refl _ _⟩
 ·
  have hz : (n == 0) = false := by simp [h0]
  have hz' : (n != 0) = true := by simp [h0]
  by_cases hn : n < 0
  ·
   go_enter Tryz.func34, Tryz.ntmps34
   go_wp2
   go_loopw [0, 4, 5] (fun t i _ wr => ∃ (a : Nat) (s : ByteArray), a ≤ 9223372036854775808 ∧ t = .int .i64 (-a) ∧ i = .string s ∧ digR a s = digR n.natAbs ⟨#[]⟩ ∧ Below w.heap.size w wr) (fun t _ _ _ => (- (intOf t)).toNat)
   case atStart => exact ⟨n.natAbs, ⟨#[]⟩, by omega, by go_num, rfl, rfl, Below.refl _ _⟩
   case round =>
    obtain ⟨a, s, ha, rfl, rfl, hd, hb⟩ := hrel
    have hs : s.size ≤ 19 := by
     have g1 := digR_size a s
     rw [hd, digR_start (by omega)] at g1
     have := digU_size19 n.natAbs (by omega)
     omega
    have Hd := LH hd
    clear hd
    have hbs := hb.size
    rcases Nat.eq_zero_or_pos a with hz0 | hp
    · subst hz0
      go_wp2
      go_ret
      refine ⟨ret_str ?_, hb⟩
      have e := Hd.out
      rw [digR_zero, digR_start (by omega)] at e
      rw [e]; unfold digI; rw [if_pos hn]; congr 2; omega
    ·
     have hk1 : (-(a : Int) != 0) = true := by simp; omega
     have e1 : (-(a : Int)).tmod 10 = -((a : Int) % 10) := by have := (tmod10 (-(a : Int))).2 (by omega); rw [this]; simp
     have e2 : (-(a : Int)).tdiv 10 = -((a : Int) / 10) := by have := (tdiv10 (-(a : Int))).2 (by omega); rw [this]; simp
     have hm : 0 ≤ (a : Int) % 10 ∧ (a : Int) % 10 ≤ 9 := by omega
     have Hst := LH (digR_step (a := a) (by omega) s)
     by_cases hq : 0 < (a : Int) % 10
     · go_wp2
       go_roundw
       case rel => exact ⟨a / 10, one (48 + (a : Int) % 10) ++ s, by omega, by go_num, rfl, by rw [← Hd.out, ← Hst.out]; simp, hb.alloc hbs _⟩
       case measure => simp [intOf]; omega
     · have hq0 : (a : Int) % 10 = 0 := by omega
       have Hq := LH hq0
       clear hq0
       go_wp2
       go_roundw
       case rel => exact ⟨a / 10, one (48 + -((a : Int) % 10)) ++ s, by omega, by go_num, rfl, by rw [← Hd.out, ← Hst.out, Hq.out]; congr 3; omega, hb.alloc hbs _⟩
       case measure => simp [intOf]; omega
  ·
   go_enter Tryz.func34, Tryz.ntmps34
   go_wp2
   go_loopw [0, 4, 5] (fun t i _ wr => ∃ (a : Nat) (s : ByteArray), a ≤ 9223372036854775807 ∧ t = .int .i64 a ∧ i = .string s ∧ digR a s = digR n.toNat ⟨#[]⟩ ∧ Below w.heap.size w wr) (fun t _ _ _ => (intOf t).toNat)
   case atStart => exact ⟨n.toNat, ⟨#[]⟩, by omega, by go_num, rfl, rfl, Below.refl _ _⟩
   case round =>
    obtain ⟨a, s, ha, rfl, rfl, hd, hb⟩ := hrel
    have hs : s.size ≤ 19 := by
     have g1 := digR_size a s
     rw [hd, digR_start (by omega)] at g1
     have := digU_size19 n.toNat (by omega)
     omega
    have Hd := LH hd
    clear hd
    have hbs := hb.size
    rcases Nat.eq_zero_or_pos a with hz0 | hp
    · subst hz0
      go_wp2
      go_ret
      refine ⟨ret_str ?_, hb⟩
      have e := Hd.out
      rw [digR_zero, digR_start (by omega)] at e
      rw [e]; unfold digI; rw [if_neg (by omega)]
    · have hk1 : ((a : Int) != 0) = true := by simp; omega
      have hm : 0 ≤ (a : Int) % 10 ∧ (a : Int) % 10 ≤ 9 := by omega
      have Hst := LH (digR_step (a := a) (by omega) s)
      go_wp2
      go_roundw
      case rel => exact ⟨a / 10, one (48 + (a : Int) % 10) ++ s, by omega, by go_num, rfl, by rw [← Hd.out, ← Hst.out]; simp, hb.alloc hbs _⟩
      case measure => simp [intOf]; omega
set_option maxHeartbeats 1000000
set_option maxHeartbeats 2000000
theorem drawPickD {l : List Int} {A : Option Addr} {c : Nat} {g : Nat} {a w : World} (m : Dm l A c g a w) (vs : List ByteArray) (b : Nat) (hb : b ≠ g) (t : TypeId) (hr : Row w b t (vs.map Value.string).toArray) (h1 : 1 ≤ vs.length) (h2 : vs.length ≤ 256) (P : ByteArray → Prop) (hP : ∀ x ∈ vs, P x) :
 Calls Tryz.prog 63 #[.pointer (some ⟨g, 0, none⟩), .slice (some ⟨b, 0, none⟩) vs.length vs.length] w fun e w' => ∃ x : ByteArray, e = .returned (.string x) ∧ P x ∧ Dm l A c g w w' := by
 obtain ⟨i, h, hc⟩ := m.cur
 refine (drawPick hc vs b hb t hr h1 h2 P hP).mono ?_
 rintro e w1 ⟨x, i1, k1, rfl, hx, hc1, ht⟩
 exact ⟨x, rfl, hx, ⟨⟨i1, k1, hc1⟩, ht.bx⟩⟩
set_option maxRecDepth 100000 in
theorem progTextsE (w : World) : Calls Tryz.prog 64 #[] w fun e w' => ∃ b, e = .returned (.slice (some ⟨b, 0, none⟩) 7 7) ∧ w.heap.size ≤ b ∧ Hid (Row w' b 9 ([evp0, evp1, evp2, evp3, evp4, evp5, evp6].map Value.string).toArray) ∧ Below w.heap.size w w' := by
 go_enter Tryz.func64, Tryz.ntmps64
 go_wp2_with fail
 go_ret
 exact ⟨w.heap.size, rfl, Nat.le_refl _, LH (Row.new w 9 ([evp0, evp1, evp2, evp3, evp4, evp5, evp6].map Value.string).toArray), (Below.refl _ _).alloc (Nat.le_refl _) _⟩
theorem drawSourceE {l : List Int} {A : Option Addr} {c : Nat} {g : Nat} {w0 w : World} (hm0 : Dm l A c g w0 w) : Calls Tryz.prog 50 #[.pointer (some ⟨g, 0, none⟩)] w fun e w' => ∃ s, e = .returned (.string s) ∧ PrgE s ∧ Dm l A c g w w' := by
 have hm := hm0.again
 clear hm0
 have hgl := hm.lt
 have M0 := LH hm
 clear hm
 go_enter Tryz.func50, Tryz.ntmps50
 go_wp2_with fail
 refine (progTextsE w).mono ?_
 rintro e w1 ⟨b, rfl, hb, hr, hb1⟩
 have M1 := LH (M0.out.below hb1)
 clear hb1 M0
 go_wp2_with fail
 refine (drawPickD M1.out [evp0, evp1, evp2, evp3, evp4, evp5, evp6] b (by omega) 9 hr.out (by simp) (by simp) PrgE evps_ok).mono ?_
 rintro e w2 ⟨s, rfl, hs, hm⟩
 have M2 := LH (M1.out.trans hm)
 clear hm
 go_wp2_with fail
 go_ret
 exact ⟨s, rfl, hs, M2.out⟩
def T4 (tx : Ev.Tx) (v1 : Nat) (m1 : Ev.Me) (v2 : Nat) (m2 : Ev.Me) (v3 : Nat) (m3 : Ev.Me) (v4 : Nat) (m4 : Ev.Me) : Prop :=
 8 < tx.n ∧ tx.n < 4096 ∧ evOkV v4 m4 = true ∧ m1.lg = [] ∧ m2.lg = [] ∧ m3.lg = [] ∧ m4.lg = [] ∧ Ev.CallOk Ev.P tx Ev.TY 49 (Ev.arg0 tx) ⟨.e, 0, []⟩ v1 m1 ∧ Ev.CallOk Ev.P tx Ev.TY 45 (Ev.arg2 6 v1) ⟨m1.h, m1.nx, []⟩ v2 m2 ∧ Ev.CallOk Ev.P tx Ev.TY 43 (Ev.arg2 1 v2) ⟨m2.h, m2.nx, []⟩ v3 m3 ∧ Ev.CallOk Ev.P tx Ev.TY 36 (Ev.arg2 1 v3) ⟨m3.h, m3.nx, []⟩ v4 m4
def EvIn (tx : Ev.Tx) (m : Ev.Me) (s : Ev.Sg) (hs : Nat) (w : World) : Prop := (∃ X, Ev.EvSt tx m s X w) ∧ ∀ i b k, s i = some (b, k) → hs ≤ b ∧ b < w.heap.size
theorem EvIn.keep {tx : Ev.Tx} {m : Ev.Me} {s : Ev.Sg} {hs : Nat} {w w' : World} (h : EvIn tx m s hs w) (hz : w.heap.size ≤ w'.heap.size) (hk : ∀ b, hs ≤ b → b < w.heap.size → w'.heap[b]? = w.heap[b]?) : EvIn tx m s hs w' := by
 obtain ⟨⟨X, h1⟩, h2⟩ := h
 exact ⟨⟨X, h1.keep hz fun i b k e => hk b (h2 i b k e).1 (h2 i b k e).2⟩, fun i b k e => ⟨(h2 i b k e).1, Nat.lt_of_lt_of_le (h2 i b k e).2 hz⟩⟩
theorem EvIn.mono {tx : Ev.Tx} {m : Ev.Me} {s : Ev.Sg} {hs hs' : Nat} {w : World} (h : EvIn tx m s hs w) (hz : hs' ≤ hs) : EvIn tx m s hs' w := ⟨h.1, fun i b k e => ⟨Nat.le_trans hz (h.2 i b k e).1, (h.2 i b k e).2⟩⟩
theorem EvIn.start (tx : Ev.Tx) (w : World) (hs : Nat) : EvIn tx ⟨.e, 0, []⟩ (fun _ => none) hs w := ⟨⟨_, Ev.EvSt.start tx w⟩, fun i b k e => by cases e⟩
theorem EvIn.use {tx : Ev.Tx} {g a v : Nat} {m m' : Ev.Me} (h : Ev.CallOk Ev.P tx Ev.TY g a m v m') {fn : Func} {ts rs : List Ev.TI} (hs : Ev.Sig (evE tx) g fn ts rs) (hlg : m'.lg = []) {s : Ev.Sg} {h0 : Nat} {w : World} (hst : EvIn tx m s h0 w) (hz : h0 ≤ w.heap.size) {args : Array Value} (hA : Ev.ArgsAre tx s ts 1 a args.toList) :
 Calls Tryz.prog g args w fun e w' => ∃ s' u, e = .returned u ∧ EvIn tx ⟨m'.h, m'.nx, []⟩ s' h0 w' ∧ Ev.VR tx s' (Ev.retSh rs) v u ∧ Below w.heap.size w w' := by
 obtain ⟨⟨X, h1⟩, h2⟩ := hst
 refine Calls.mono (h.use hs.f hs.t hs.r hlg h1 hA) ?_
 rintro e w' ⟨s', X', u, rfl, h3, h4, h5, h6, h7⟩
 refine ⟨s', u, rfl, ⟨⟨X', h3.lg []⟩, fun i b k e => ⟨?_, h3.rel.lt i b k e⟩⟩, h4, h5⟩
 cases e' : s i with
 | none => exact Nat.le_trans hz (h7 i b k e e')
 | some x =>
  obtain ⟨b', k'⟩ := x
  have := h6 i _ e'
  rw [e] at this
  cases this
  exact (h2 i _ _ e').1
theorem storedSix {w : World} {n : Nat} {T : TypeId} {a0 a1 a2 a3 a4 a5 : Value} (h : Row w n T #[a0, a1, a2, a3, a4, a5]) (v0 v1 v2 v3 v4 v5 : Value) : ∃ x, x = ((((((w.setCell ⟨n, 0, none⟩ v0).setCell ⟨n, 1, none⟩ v1).setCell ⟨n, 2, none⟩ v2).setCell ⟨n, 3, none⟩ v3).setCell ⟨n, 4, none⟩ v4).setCell ⟨n, 5, none⟩ v5) ∧ Hid (Row x n T #[v0, v1, v2, v3, v4, v5]) ∧ x.heap.size = w.heap.size ∧ Hid (Bx n w x) :=
 ⟨_, rfl, LH ((((((h.set 0 v0).set 1 v1).set 2 v2).set 3 v3).set 4 v4).set 5 v5), by simp [World.setCell], LH (((((((Bx.refl _ _).set (p := ⟨n, 0, none⟩) (.inl rfl) _).set (p := ⟨n, 1, none⟩) (.inl rfl) _).set (p := ⟨n, 2, none⟩) (.inl rfl) _).set (p := ⟨n, 3, none⟩) (.inl rfl) _).set (p := ⟨n, 4, none⟩) (.inl rfl) _).set (p := ⟨n, 5, none⟩) (.inl rfl) _)⟩
theorem len6 {α : Type} {l : List α} (h : l.length = 6) : ∃ a0 a1 a2 a3 a4 a5, l = [a0, a1, a2, a3, a4, a5] :=
 match l, h with
 | [a0, a1, a2, a3, a4, a5], _ => ⟨a0, a1, a2, a3, a4, a5, rfl⟩
theorem twoParts {tx : Ev.Tx} {s : Ev.Sg} {k v : Nat} {u : Value} (h : Ev.VR tx s (.t [(k, true), (1, false)]) v u) : ∃ (cs : List Value) (q : Value), u = .tuple #[.agg cs.toArray, q] ∧ cs.length = k ∧ Ev.VR tx s (.g k) (Ev.spn v (72 * 0) (Ev.mk k)) (.agg cs.toArray) := by
 obtain ⟨vs, p, e1, e2, e3⟩ := Ev.part_at h (i := 0) (x := (0, k, true)) rfl
 obtain ⟨vs', e4, q, r, rfl, -, q', r', rfl, -, rfl, -⟩ := h
 rw [e4] at e1
 cases e1
 obtain ⟨cs, rfl, h6⟩ := e3
 have : q = .agg cs.toArray := by simpa using e2
 subst this
 exact ⟨cs, q', e4, h6.1, cs, rfl, h6⟩
theorem twoCells {tx : Ev.Tx} {s : Ev.Sg} {v : Nat} {u : Value} (h : Ev.VR tx s (.t [(1, false), (1, false)]) v u) : ∃ (p q : Value), u = .tuple #[p, q] ∧ Ev.VR tx s .c (Ev.spn v (72 * 0) (Ev.mk 1)) p := by
 obtain ⟨vs, p, e1, e2, e3⟩ := Ev.part_at h (i := 0) (x := (0, 1, false)) rfl
 obtain ⟨vs', e4, q, r, rfl, -, q', r', rfl, -, rfl, -⟩ := h
 rw [e4] at e1
 cases e1
 have : q = p := by simpa using e2
 subst this
 exact ⟨q, q', e4, e3⟩
theorem storeOne {u : Value} (h : u.oneCell' = true) (b : Addr) (m : Mode) (W : World) : (store b u m).run Tryz.prog W = stored Tryz.prog W b u m := run_store _ W b u m h
theorem vrOne {tx : Ev.Tx} {s : Ev.Sg} {k c : Nat} {cs : List Value} (h : Ev.VR tx s (.g k) c (.agg cs.toArray)) : ∀ u ∈ cs, u.oneCell' = true := by
 obtain ⟨cs', e, h1, h2, h3⟩ := h
 have : cs = cs' := by simpa using e
 subst this
 intro u hu
 obtain ⟨i, hi, rfl⟩ := List.getElem_of_mem hu
 exact (h3 i hi).one.2
theorem drawRightE {l : List Int} {A : Option Addr} {c : Nat} {g : Nat} {w0 w : World} (hm0 : Dm l A c g w0 w) :
 Calls Tryz.prog 44 #[.pointer (some ⟨g, 0, none⟩)] w fun e w' => ∃ tx v1 m1 v2 m2 v3 m3 v4 m4 s a0 a1 a2 a3 a4 a5, e = .returned (.agg #[a0, a1, a2, a3, a4, a5]) ∧ T4 tx v1 m1 v2 m2 v3 m3 v4 m4 ∧ Ev.VR tx s (.g 6) (Ev.spn v1 (72 * 0) (Ev.mk 6)) (.agg #[a0, a1, a2, a3, a4, a5]) ∧ EvIn tx ⟨m1.h, m1.nx, []⟩ s w.heap.size w' ∧ Dm l A c g w w' := by
 have hm := hm0.again
 clear hm0
 have hgl := hm.lt
 have M0 := LH hm
 clear hm
 go_enter Tryz.func44, Tryz.ntmps44
 refine wp_hide (fun BP hBP => ?_)
 have HBP := LH hBP
 clear hBP
 go_wp2_with fail
 obtain ⟨w1, e1, Rr1, hz1, K1⟩ := boxed w 66 #[.slice none 0 0, .int .i64 0, .int .i64 0, .string ⟨#[]⟩, .string ⟨#[]⟩, .slice none 0 0]
 have M1 := LH (M0.out.chg K1.out (by omega) (by omega))
 rw [← e1]
 clear e1
 refine (drawSourceE M1.out).mono ?_
 rintro e w2 ⟨s0, rfl, hs, hm2⟩
 have hz2 := hm2.size
 have K2 := LH hm2.bx
 have Rr2 := LH (K2.out.row Rr1.out (by omega))
 have M2 := LH (M1.out.trans hm2)
 clear Rr1 M1
 clear hm2
 obtain ⟨tx, rfl, ht3⟩ := hs
 obtain ⟨v1, m1, v2, m2, v3, m3, v4, m4, hF, hl1, hl2, hl3, hl4, c1, c2, c3, c4⟩ := ht3.ok
 have HT := LH (show T4 tx v1 m1 v2 m2 v3 m3 v4 m4 from ⟨ht3.n1, ht3.n2, hF, hl1, hl2, hl3, hl4, c1, c2, c3, c4⟩)
 have HC := LH (EvIn.use (args := #[.string ⟨⟨Ev.txL tx 0 tx.n⟩⟩]) c1 (sigP tx) hl1 (EvIn.start tx w2 w2.heap.size) (Nat.le_refl _) (Ev.text_arg tiS.1 tiS.2 ht3.n1 ht3.n2))
 clear ht3 hF hl1 hl2 hl3 hl4 c1 c2 c3 c4
 go_wp2_with fail
 refine HC.out.mono ?_
 clear HC
 rintro e w3 ⟨s, u, rfl, hst, hv, hb3⟩
 rw [shP1] at hv
 obtain ⟨cs, q, rfl, hlen, hv⟩ := twoParts hv
 obtain ⟨a0, a1, a2, a3, a4, a5, rfl⟩ := len6 hlen
 clear hlen
 have hu := vrOne hv
 have s0 := storeOne (hu a0 (by simp))
 have s1 := storeOne (hu a1 (by simp))
 have s2 := storeOne (hu a2 (by simp))
 have s3 := storeOne (hu a3 (by simp))
 have s4 := storeOne (hu a4 (by simp))
 have s5 := storeOne (hu a5 (by simp))
 clear hu
 have hz3 := hb3.size
 have K3 := LH (Bx.of_below (g := g) hb3 (Nat.le_refl _))
 have Rr3 := LH (K3.out.row Rr2.out (by omega))
 have M3 := LH (M2.out.below hb3)
 have HV := LH hv
 have HS3 := LH hst
 clear Rr2 M2 hv hst hb3
 go_upto_region 2 with (fail)
 obtain ⟨w4, e4, Rp4, hz4, K4⟩ := boxed w3 66 #[a0, a1, a2, a3, a4, a5]
 have Rr4 := LH (K4.out.row Rr3.out (by omega))
 have HS4 := LH (HS3.out.keep (w' := w4) (by omega) fun b h1 h2 => K4.out.block b h2 (by omega))
 have M4 := LH (M3.out.chg K4.out (by omega) (by omega))
 clear Rr3 M3 HS3
 rw [← e4]
 clear e4
 have hlu4 := M4.out.lt
 have hcr4 := fun i => Rr4.out.cell i
 have hfr4 := fun i => Rr4.out.frozen i
 have hlr4 := Rr4.out.lt
 have hcp4 := fun i => Rp4.out.cell i
 have hfp4 := fun i => Rp4.out.frozen i
 have hlp4 := Rp4.out.lt
 go_wp2_with fail
 clear hlu4 hcr4 hfr4 hlr4 hcp4 hfp4 hlp4
 obtain ⟨w5, e5, RN5, hz5, K5⟩ := storedSix Rr4.out a0 a1 a2 a3 a4 a5
 have HS5 := LH (HS4.out.keep (w' := w5) (by omega) fun b h1 h2 => K5.out.block b h2 (by omega))
 have M5 := LH (M4.out.chg K5.out (by omega) (by omega))
 clear M4 HS4
 clear Rr4
 rw [← e5]
 clear e5
 have hcr5 := fun i => RN5.out.cell i
 show BP _ _
 rw [HBP.out]
 refine bodyPost_ret (v := .agg #[a0, a1, a2, a3, a4, a5]) (by simp [results, Tryz.results44, go_sem, hcr5]) rfl ?_
 exact ⟨tx, v1, m1, v2, m2, v3, m3, v4, m4, s, a0, a1, a2, a3, a4, a5, rfl, HT.out, HV.out, HS5.out.mono (by omega), M5.out⟩
theorem drawClosed {l : List Int} {A : Option Addr} {c : Nat} {g : Nat} {w0 w : World} (hm0 : Dm l A c g w0 w) :
 Calls Tryz.prog 42 #[.pointer (some ⟨g, 0, none⟩)] w fun e w' => ∃ tx v1 m1 v2 m2 v3 m3 v4 m4 s a0 a1 a2 a3 a4 a5 q, e = .returned (.tuple #[.agg #[a0, a1, a2, a3, a4, a5], q]) ∧ T4 tx v1 m1 v2 m2 v3 m3 v4 m4 ∧ (∀ u ∈ [a0, a1, a2, a3, a4, a5], u.oneCell' = true) ∧ Ev.VR tx s .c (Ev.spn v2 (72 * 0) (Ev.mk 1)) q ∧ EvIn tx ⟨m2.h, m2.nx, []⟩ s w.heap.size w' ∧ Dm l A c g w w' := by
 have hm := hm0.again
 clear hm0
 have hgl := hm.lt
 have M0 := LH hm
 clear hm
 go_enter Tryz.func42, Tryz.ntmps42
 refine wp_hide (fun BP hBP => ?_)
 have HBP := LH hBP
 clear hBP
 go_wp2_with fail
 obtain ⟨w1, e1, Rr1, hz1, K1⟩ := boxed w 66 #[.slice none 0 0, .int .i64 0, .int .i64 0, .string ⟨#[]⟩, .string ⟨#[]⟩, .slice none 0 0]
 have M1 := LH (M0.out.chg K1.out (by omega) (by omega))
 rw [← e1]
 clear e1
 refine (drawRightE M1.out).mono ?_
 rintro e w2 ⟨tx, v1, m1, v2, m2, v3, m3, v4, m4, s, a0, a1, a2, a3, a4, a5, rfl, hT, hv, hst, hm2⟩
 have hu := vrOne (cs := [a0, a1, a2, a3, a4, a5]) hv
 have hz2 := hm2.size
 have K2 := LH hm2.bx
 have Rr2 := LH (K2.out.row Rr1.out (by omega))
 have M2 := LH (M1.out.trans hm2)
 have HT := LH hT
 have HV := LH hv
 have HS2 := LH hst
 have HU := LH hu
 have s0 := storeOne (hu a0 (by simp))
 have s1 := storeOne (hu a1 (by simp))
 have s2 := storeOne (hu a2 (by simp))
 have s3 := storeOne (hu a3 (by simp))
 have s4 := storeOne (hu a4 (by simp))
 have s5 := storeOne (hu a5 (by simp))
 clear Rr1 M1 hm2 hT hv hst hu
 go_wp2_with fail
 obtain ⟨w3, e3, Rp3, hz3, K3⟩ := boxed w2 66 #[a0, a1, a2, a3, a4, a5]
 have Rr3 := LH (K3.out.row Rr2.out (by omega))
 have HS3 := LH (HS2.out.keep (w' := w3) (by omega) fun b h1 h2 => K3.out.block b h2 (by omega))
 have M3 := LH (M2.out.chg K3.out (by omega) (by omega))
 clear Rr2 M2 HS2
 rw [← e3]
 clear e3
 obtain ⟨n1, n2, hF, hl1, hl2, hl3, hl4, c1, c2, c3, c4⟩ := id HT.out
 have HC := LH (EvIn.use (args := #[.agg #[a0, a1, a2, a3, a4, a5]]) c2 (sigC tx) hl2 HS3.out (by omega) (Ev.part_arg tiP.1 tiP.2 HV.out))
 clear n1 n2 hF hl1 hl2 hl3 hl4 c1 c2 c3 c4 HS3 HV
 have hcp3 := fun i => Rp3.out.cell i
 have hfp3 := fun i => Rp3.out.frozen i
 have hlp3 := Rp3.out.lt
 go_wp2_with fail
 clear hcp3 hfp3 hlp3
 refine HC.out.mono ?_
 clear HC
 rintro e w4 ⟨s', u, rfl, hst, hv, hb4⟩
 rw [shC1] at hv
 obtain ⟨q, q2, rfl, hv2⟩ := twoCells hv
 have hz4 := hb4.size
 have K4 := LH (Bx.of_below (g := g) hb4 (Nat.le_refl _))
 have Rr4 := LH (K4.out.row Rr3.out (by omega))
 have Rp4 := LH (K4.out.row Rp3.out (by omega))
 have M4 := LH (M3.out.below hb4)
 have HV := LH hv2
 have HS4 := LH hst
 clear Rr3 Rp3 M3 hv hv2 hst hb4
 have hcp4 := fun i => Rp4.out.cell i
 have hlp4 := Rp4.out.lt
 have hcr4 := fun i => Rr4.out.cell i
 have hfr4 := fun i => Rr4.out.frozen i
 have hlr4 := Rr4.out.lt
 go_wp2_with fail
 clear hcp4 hlp4 hcr4 hfr4 hlr4
 obtain ⟨w5, e5, Rr5, hz5, K5⟩ := storedSix Rr4.out a0 a1 a2 a3 a4 a5
 rw [← e5]
 clear e5
 have HS5 := LH (HS4.out.keep (w' := w5) (by omega) fun b h1 h2 => K5.out.block b h2 (by omega))
 have M5 := LH (M4.out.chg K5.out (by omega) (by omega))
 clear Rr4 M4 HS4
 have hcr5 := fun i => Rr5.out.cell i
 show BP _ _
 rw [HBP.out]
 refine bodyPost_ret (v := .tuple #[.agg #[a0, a1, a2, a3, a4, a5], q]) (by simp [results, Tryz.results42, go_sem, hcr5]) rfl ?_
 exact ⟨tx, v1, m1, v2, m2, v3, m3, v4, m4, s', a0, a1, a2, a3, a4, a5, q, rfl, HT.out, HU.out, HV.out, HS5.out.mono (by omega), M5.out⟩
theorem drawCode {l : List Int} {A : Option Addr} {c : Nat} {g : Nat} {w0 w : World} (hm0 : Dm l A c g w0 w) :
 Calls Tryz.prog 35 #[.pointer (some ⟨g, 0, none⟩)] w fun e w' => ∃ tx v1 m1 v2 m2 v3 m3 v4 m4 s a0 a1 a2 a3 a4 a5 q, e = .returned (.tuple #[.agg #[a0, a1, a2, a3, a4, a5], q]) ∧ T4 tx v1 m1 v2 m2 v3 m3 v4 m4 ∧ (∀ u ∈ [a0, a1, a2, a3, a4, a5], u.oneCell' = true) ∧ Ev.VR tx s .c (Ev.spn v3 (72 * 0) (Ev.mk 1)) q ∧ EvIn tx ⟨m3.h, m3.nx, []⟩ s w.heap.size w' ∧ Dm l A c g w w' := by
 have hm := hm0.again
 clear hm0
 have hgl := hm.lt
 have M0 := LH hm
 clear hm
 go_enter Tryz.func35, Tryz.ntmps35
 refine wp_hide (fun BP hBP => ?_)
 have HBP := LH hBP
 clear hBP
 go_wp2_with fail
 obtain ⟨w1, e1, Rr1, hz1, K1⟩ := boxed w 66 #[.slice none 0 0, .int .i64 0, .int .i64 0, .string ⟨#[]⟩, .string ⟨#[]⟩, .slice none 0 0]
 have M1 := LH (M0.out.chg K1.out (by omega) (by omega))
 rw [← e1]
 clear e1
 refine (drawClosed M1.out).mono ?_
 rintro e w2 ⟨tx, v1, m1, v2, m2, v3, m3, v4, m4, s, a0, a1, a2, a3, a4, a5, q0, rfl, hT, hu, hv, hst, hm2⟩
 have hz2 := hm2.size
 have K2 := LH hm2.bx
 have Rr2 := LH (K2.out.row Rr1.out (by omega))
 have M2 := LH (M1.out.trans hm2)
 have HT := LH hT
 have HV := LH hv
 have HS2 := LH hst
 have HU := LH hu
 have s0 := storeOne (hu a0 (by simp))
 have s1 := storeOne (hu a1 (by simp))
 have s2 := storeOne (hu a2 (by simp))
 have s3 := storeOne (hu a3 (by simp))
 have s4 := storeOne (hu a4 (by simp))
 have s5 := storeOne (hu a5 (by simp))
 clear Rr1 M1 hm2 hT hv hst hu
 go_wp2_with fail
 obtain ⟨w3, e3, Rp3, hz3, K3⟩ := boxed w2 66 #[a0, a1, a2, a3, a4, a5]
 have Rr3 := LH (K3.out.row Rr2.out (by omega))
 have HS3 := LH (HS2.out.keep (w' := w3) (by omega) fun b h1 h2 => K3.out.block b h2 (by omega))
 have M3 := LH (M2.out.chg K3.out (by omega) (by omega))
 clear Rr2 M2 HS2
 rw [← e3]
 clear e3
 obtain ⟨n1, n2, hF, hl1, hl2, hl3, hl4, c1, c2, c3, c4⟩ := id HT.out
 have HC := LH (EvIn.use (args := #[q0]) c3 (sigG tx) hl3 HS3.out (by omega) (Ev.part_argC tiK.1 tiK.2 HV.out))
 clear n1 n2 hF hl1 hl2 hl3 hl4 c1 c2 c3 c4 HS3 HV
 have hcp3 := fun i => Rp3.out.cell i
 have hfp3 := fun i => Rp3.out.frozen i
 have hlp3 := Rp3.out.lt
 go_wp2_with fail
 clear hcp3 hfp3 hlp3
 refine HC.out.mono ?_
 clear HC
 rintro e w4 ⟨s', u, rfl, hst, hv, hb4⟩
 rw [shG1] at hv
 obtain ⟨q, q2, rfl, hv2⟩ := twoCells hv
 have hz4 := hb4.size
 have K4 := LH (Bx.of_below (g := g) hb4 (Nat.le_refl _))
 have Rr4 := LH (K4.out.row Rr3.out (by omega))
 have Rp4 := LH (K4.out.row Rp3.out (by omega))
 have M4 := LH (M3.out.below hb4)
 have HV := LH hv2
 have HS4 := LH hst
 clear Rr3 Rp3 M3 hv hv2 hst hb4
 have hcp4 := fun i => Rp4.out.cell i
 have hlp4 := Rp4.out.lt
 have hcr4 := fun i => Rr4.out.cell i
 have hfr4 := fun i => Rr4.out.frozen i
 have hlr4 := Rr4.out.lt
 go_wp2_with fail
 clear hcp4 hlp4 hcr4 hfr4 hlr4
 obtain ⟨w5, e5, Rr5, hz5, K5⟩ := storedSix Rr4.out a0 a1 a2 a3 a4 a5
 rw [← e5]
 clear e5
 have HS5 := LH (HS4.out.keep (w' := w5) (by omega) fun b h1 h2 => K5.out.block b h2 (by omega))
 have M5 := LH (M4.out.chg K5.out (by omega) (by omega))
 clear Rr4 M4 HS4
 have hcr5 := fun i => Rr5.out.cell i
 show BP _ _
 rw [HBP.out]
 refine bodyPost_ret (v := .tuple #[.agg #[a0, a1, a2, a3, a4, a5], q]) (by simp [results, Tryz.results35, go_sem, hcr5]) rfl ?_
 exact ⟨tx, v1, m1, v2, m2, v3, m3, v4, m4, s', a0, a1, a2, a3, a4, a5, q, rfl, HT.out, HU.out, HV.out, HS5.out.mono (by omega), M5.out⟩
section
variable {lo : Nat} {w w' : World}
theorem FTurn.dm {l : List Int} {A : Option Addr} {c g : Nat} {a w w' : World} (hm : Dm l A c g a w) (k : Dm l A c g w w') : FTurn lo w w' := by
 obtain ⟨i, z, hc⟩ := hm.cur
 refine FTurn.of_same fun b t cs ht hr => k.bx.block b hr.lt.2 ?_
 rintro rfl
 have := (rowOne hr.2 hc.row).1
 subst this
 revert ht; decide
theorem FTurn.below (k : Below w.heap.size w w') : FTurn lo w w' := FTurn.of_same fun b t cs ht hr => k.block b hr.lt.2
theorem FnsOk.form {v : Value} {n : Nat} (h : FnsOk lo w v n) (h0 : 0 < n) : ∃ b o c cs, v = .slice (some ⟨b, o, none⟩) n c ∧ RwL lo w b 41 cs ∧ o % 2 = 0 ∧ o + n * 2 ≤ cs.size ∧ n ≤ c ∧ c ≤ maxLen ∧ ∀ j, j < n → IntAt cs (o + j * 2) ∧ ∃ u k, cs[o + j * 2 + 1]? = some u ∧ OpsOk lo w u k := by
 rcases h with ⟨_, h⟩ | ⟨b, o, c, cs, h1, h2, h3, h4, h5, h6, h7⟩
 · omega
 · exact ⟨b, o, c, cs, h1, h2, h3, by omega, h5, h6, h7⟩
theorem OpsOk.form {v : Value} {n : Nat} (h : OpsOk lo w v n) (h0 : 0 < n) : ∃ b o c cs, v = .slice (some ⟨b, o, none⟩) n c ∧ RwL lo w b 32 cs ∧ o % 3 = 0 ∧ o + n * 3 ≤ cs.size ∧ n ≤ c ∧ c ≤ maxLen ∧ n ≤ 256 ∧ ∀ i, i < n * 3 → IntAt cs (o + i) := by
 rcases h with ⟨_, h⟩ | ⟨b, o, c, cs, h1, h2, h3, h4, h5, h6, h7, h8⟩
 · omega
 · exact ⟨b, o, c, cs, h1, h2, h3, by omega, h5, h6, h7, h8⟩
theorem FnsOk.isSlice {v : Value} {n : Nat} (h : FnsOk lo w v n) : ∃ A c, v = .slice A n c := by
 rcases h with ⟨rfl, rfl⟩ | ⟨b, o, c, cs, rfl, _⟩
 · exact ⟨_, _, rfl⟩
 · exact ⟨_, _, rfl⟩
theorem OpsOk.isSlice {v : Value} {n : Nat} (h : OpsOk lo w v n) : ∃ A c, v = .slice A n c := by
 rcases h with ⟨rfl, rfl⟩ | ⟨b, o, c, cs, rfl, _⟩
 · exact ⟨_, _, rfl⟩
 · exact ⟨_, _, rfl⟩
theorem FnsOk.less {A : Option Addr} {c n k : Nat} (h : FnsOk lo w (.slice A n c) n) (hk : k ≤ n) (h0 : 0 < n) : FnsOk lo w (.slice A k c) k := by
 obtain ⟨b, o, c', cs, e, h2, h3, h4, h5, h6, h7⟩ := h.form h0
 rcases h with ⟨e', _⟩ | ⟨b, o, c', cs, e, h2, h3, h4, h5, h6, h7⟩
 · cases e'; omega
 · cases e
   exact .inr ⟨b, o, c, cs, rfl, h2, h3, h4, by omega, h6, fun j hj => h7 j (by omega)⟩
theorem OpsOk.less {A : Option Addr} {c n k : Nat} (h : OpsOk lo w (.slice A n c) n) (hk : k ≤ n) (h0 : 0 < n) : OpsOk lo w (.slice A k c) k := by
 rcases h with ⟨e', _⟩ | ⟨b, o, c', cs, e, h2, h3, h4, h5, h6, h7, h8⟩
 · cases e'; omega
 · cases e
   exact .inr ⟨b, o, c, cs, rfl, h2, h3, h4, by omega, h6, by omega, fun i hi => h8 i (by omega)⟩
end
set_option maxHeartbeats 4000000
theorem drawPickIntD {l : List Int} {A : Option Addr} {c : Nat} {g : Nat} {a w : World} (m : Dm l A c g a w) (vs : List Int) (b : Nat) (hb : b ≠ g) (t : TypeId) (hr : Row w b t (vs.map (Value.int .i64)).toArray) (h1 : 1 ≤ vs.length) (h2 : vs.length ≤ 256) (P : Int → Prop) (hP : ∀ x ∈ vs, P x) :
 Calls Tryz.prog 37 #[.pointer (some ⟨g, 0, none⟩), .slice (some ⟨b, 0, none⟩) vs.length vs.length] w fun e w' => ∃ x : Int, e = .returned (.int .i64 x) ∧ P x ∧ Dm l A c g w w' := by
 obtain ⟨i, h, hc⟩ := m.cur
 refine (drawPickInt hc vs b hb t hr h1 h2 P hP).mono ?_
 rintro e w1 ⟨x, i1, k1, rfl, hx, hc1, ht⟩
 exact ⟨x, rfl, hx, ⟨⟨i1, k1, hc1⟩, ht.bx⟩⟩
theorem pick7 : ∀ x ∈ ([-1, 0, 1, 2, 9, 99, 1073741824] : List Int), (Lit.int .i64 x).wf = true := by decide
theorem pick6 : ∀ x ∈ ([-1, 0, 1, 2, 9, 99] : List Int), (Lit.int .i64 x).wf = true := by decide
theorem draw13 {l : List Int} {A : Option Addr} {c : Nat} {g : Nat} {w0 w : World} (hm0 : Dm l A c g w0 w) :
 Calls Tryz.prog 22 #[.pointer (some ⟨g, 0, none⟩)] w fun e w' => ∃ u n, e = .returned u ∧ FnsOk w.heap.size w' u n ∧ n ≤ 200 ∧ Dm l A c g w w' := by
 have hm := hm0.again
 clear hm0
 have hgl := hm.lt
 have M0 := LH hm
 clear hm
 go_enter Tryz.func22, Tryz.ntmps22
 refine wp_hide (fun BP hBP => ?_)
 have HBP := LH hBP
 clear hBP
 go_wp2_with fail
 refine (drawCode M0.out).mono ?_
 rintro e w1 ⟨tx, v1, m1, v2, m2, v3, m3, v4, m4, s, a0, a1, a2, a3, a4, a5, q0, rfl, hT, hu, hv, hst, hm1⟩
 have hz1 := hm1.size
 have M1 := LH hm1
 have HT := LH hT
 have HV := LH hv
 have HS1 := LH hst
 have s0 := storeOne (hu a0 (by simp))
 have s1 := storeOne (hu a1 (by simp))
 have s2 := storeOne (hu a2 (by simp))
 have s3 := storeOne (hu a3 (by simp))
 have s4 := storeOne (hu a4 (by simp))
 have s5 := storeOne (hu a5 (by simp))
 clear hm1 hT hv hst hu
 go_wp2_with fail
 obtain ⟨w2, e2, Rp2, hz2, K2⟩ := boxed w1 66 #[a0, a1, a2, a3, a4, a5]
 rw [← e2]
 clear e2 Rp2
 have HS2 := LH (HS1.out.keep (w' := w2) (by omega) fun b h1 h2 => K2.out.block b h2 (by omega))
 have M2 := LH (M1.out.chg K2.out (by omega) (by omega))
 replace hz2 : w1.heap.size + 1 ≤ w2.heap.size ∧ w2.heap.size ≤ w1.heap.size + 1 := by omega
 obtain ⟨n1, n2, hF, hl1, hl2, hl3, hl4, c1, c2, c3, c4⟩ := id HT.out
 have HF := LH hF
 have HC := LH (EvIn.use (args := #[q0]) c4 (sigY tx) hl4 HS2.out (by omega) (Ev.part_argC tiF.1 tiF.2 HV.out))
 clear n1 n2 hF hl1 hl2 hl3 hl4 c1 c2 c3 c4 HS1 HS2 HV M1 K2
 refine HC.out.mono ?_
 clear HC
 rintro e w3 ⟨s', u, rfl, hst, hv, hb3⟩
 rw [shY1] at hv
 obtain ⟨n, hn, hn2⟩ := evOkV_t HF.out
 have hfn : FnsOk w.heap.size w3 u n := by
  obtain ⟨⟨X, hx⟩, hbk⟩ := hst
  exact evFns_ok hx (fun i b k e => (hbk i b k e).1) hn hv
 have hz3 := hb3.size
 have M3 := LH (M2.out.below hb3)
 obtain ⟨Af, cf, rfl⟩ := hfn.isSlice
 have F3 := LH hfn
 clear M2 hst hv hb3 hfn hn HF HT
 by_cases h0 : n = 0
 ·
  subst h0
  go_wp2_with fail
  show BP _ _
  rw [HBP.out]
  refine bodyPost_ret (v := .slice Af 0 cf) (by simp [results, Tryz.results22, go_sem]) rfl ?_
  exact ⟨_, 0, rfl, F3.out, (by omega), M3.out⟩
 have hn0 : 0 < n := by omega
 have hni : ¬ (n : Int) = 0 := by omega
 have dni : ((n : Int) == 0) = false := beq_eq_false_iff_ne.2 hni
 go_wp2_with fail
 refine (drawBelowD M3.out (n : Int) (by omega) (by omega)).mono ?_
 rintro e w4 ⟨x, rfl, hx, hm4⟩
 have hz4 := hm4.size
 have M4 := LH (M3.out.trans hm4)
 have F4 := LH (F3.out.turn (FTurn.dm M3.out hm4))
 obtain ⟨j, hj⟩ : ∃ j : Nat, x = (j : Int) := ⟨x.toNat, by omega⟩
 subst hj
 have hjn : j < n := by omega
 obtain ⟨b, of, cf', cs, hsl, hrf, hof, hcf, hnc, hcm, hall⟩ := F4.out.form hn0
 obtain ⟨rfl, rfl⟩ : Af = some ⟨b, of, none⟩ ∧ cf = cf' := by
  cases hsl
  exact ⟨rfl, rfl⟩
 obtain ⟨hi0, u1, k1, hu1, hop⟩ := hall j hjn
 obtain ⟨A1, c1, rfl⟩ := hop.isSlice
 have hc4 : w4.cell? ⟨b, of + j * 2 + 1, none⟩ = some (.slice A1 k1 c1) := (hrf.cell _).trans hu1
 clear hm4 M3 F3 hsl
 by_cases hk0 : k1 = 0
 ·
  subst hk0
  go_wp2_with fail
  show BP _ _
  rw [HBP.out]
  refine bodyPost_ret (v := .slice (some ⟨b, of, none⟩) n cf) (by simp [results, Tryz.results22, go_sem]) rfl ?_
  exact ⟨_, n, rfl, F4.out, hn2, M4.out⟩
 have hk1 : 0 < k1 := by omega
 have hki : ¬ (k1 : Int) = 0 := by omega
 have dki : ((k1 : Int) == 0) = false := beq_eq_false_iff_ne.2 hki
 obtain ⟨b2, o2, c2, cs2, hsl, hro, hoo, hco, hkc, hcm2, hk256, hint⟩ := hop.form hk1
 obtain ⟨rfl, rfl⟩ : A1 = some ⟨b2, o2, none⟩ ∧ c1 = c2 := by
  cases hsl
  exact ⟨rfl, rfl⟩
 clear hsl
 have hlf := hrf.lt.2
 have hlo2 := hro.lt.2
 have hng : ∀ x t' cs', (t' = 32 ∨ t' = 41) → Row w4 x t' cs' → x ≠ g := fun x t' cs' ht hr => by
  obtain ⟨i, z, hc⟩ := M4.out.cur
  rintro rfl
  have := (rowOne hr hc.row).1
  subst this
  revert ht; decide
 have hbg := hng b _ _ (.inr rfl) hrf.2
 have hb2g := hng b2 _ _ (.inl rfl) hro.2
 go_wp2_with fail
 refine wp_region_T (fun x => x.cell? ⟨b, of + j * 2 + 1, none⟩ = some (.slice (some ⟨b2, o2, none⟩) k1 c1)) 100 (by kernel_rfl) ?_
 obtain ⟨w5, e5⟩ : ∃ x, x = w4.drew := ⟨_, rfl⟩
 rw [← e5]
 have K5 := LH (show Below w4.heap.size w4 w5 by rw [e5]; exact (Below.refl _ _).drew)
 have hz5 : w5.heap.size ≤ w4.heap.size ∧ w4.heap.size ≤ w5.heap.size := by rw [e5]; exact ⟨Nat.le_refl _, Nat.le_refl _⟩
 have hS1 : w5.cell? ⟨b, of + j * 2 + 1, none⟩ = some (.slice (some ⟨b2, o2, none⟩) k1 c1) := by rw [e5]; exact hc4
 clear e5
 have M5 := LH (M4.out.below K5.out)
 have F5 := LH (F4.out.turn (FTurn.below K5.out))
 refine wpAnyT_tk (i := 0) (oi := _) (v := ?tvk1) rfl (Or.inl ⟨by rfl, ?thk1⟩) hS1 ?_
 case thk1 => (intro x hSx; (try dsimp only at hSx); go_simp; (try with_reducible rfl))
 try simp only [List.getElem_toArray, List.getElem_cons_succ, List.getElem_cons_zero, Act.put, List.setIfInBounds_toArray, List.set_cons_zero, List.set_cons_succ]
 refine wpAnyT_tk (i := 1) (oi := _) (v := ?tvk2) rfl (Or.inl ⟨by rfl, ?thk2⟩) hS1 ?_
 case thk2 => (intro x hSx; (try dsimp only at hSx); go_simp; (try with_reducible rfl))
 try simp only [List.getElem_toArray, List.getElem_cons_succ, List.getElem_cons_zero, Act.put, List.setIfInBounds_toArray, List.set_cons_zero, List.set_cons_succ]
 refine wpAnyT_tk (i := 2) (oi := _) (v := ?tvk3) rfl (Or.inl ⟨by rfl, ?thk3⟩) hS1 ?_
 case thk3 => (intro x hSx; (try dsimp only at hSx); go_simp; (try with_reducible rfl))
 try simp only [List.getElem_toArray, List.getElem_cons_succ, List.getElem_cons_zero, Act.put, List.setIfInBounds_toArray, List.set_cons_zero, List.set_cons_succ]
 refine wpAnyT_tk (i := 3) (oi := _) (v := ?tvk4) rfl (Or.inl ⟨by rfl, ?thk4⟩) hS1 ?_
 case thk4 => (intro x hSx; (try dsimp only at hSx); go_simp; (try with_reducible rfl))
 try simp only [List.getElem_toArray, List.getElem_cons_succ, List.getElem_cons_zero, Act.put, List.setIfInBounds_toArray, List.set_cons_zero, List.set_cons_succ]
 refine wpAnyT_tk (i := 4) (oi := _) (v := ?tvk5) rfl (Or.inl ⟨by rfl, ?thk5⟩) hS1 ?_
 case thk5 => (intro x hSx; (try dsimp only at hSx); go_simp; (try with_reducible rfl))
 try simp only [List.getElem_toArray, List.getElem_cons_succ, List.getElem_cons_zero, Act.put, List.setIfInBounds_toArray, List.set_cons_zero, List.set_cons_succ]
 refine wpAnyT_tk (i := 5) (oi := _) (v := ?tvk6) rfl (Or.inl ⟨by rfl, ?thk6⟩) hS1 ?_
 case thk6 => (intro x hSx; (try dsimp only at hSx); go_simp; (try with_reducible rfl))
 try simp only [List.getElem_toArray, List.getElem_cons_succ, List.getElem_cons_zero, Act.put, List.setIfInBounds_toArray, List.set_cons_zero, List.set_cons_succ]
 refine wpAnyT_tk (i := 6) (oi := _) (v := ?tvk7) rfl (Or.inl ⟨by rfl, ?thk7⟩) hS1 ?_
 case thk7 => (intro x hSx; (try dsimp only at hSx); go_simp; (try with_reducible rfl))
 try simp only [List.getElem_toArray, List.getElem_cons_succ, List.getElem_cons_zero, Act.put, List.setIfInBounds_toArray, List.set_cons_zero, List.set_cons_succ]
 refine wpAnyT_tk (i := 7) (oi := _) (v := ?tvk8) rfl (Or.inl ⟨by rfl, ?thk8⟩) hS1 ?_
 case thk8 => (intro x hSx; (try dsimp only at hSx); go_simp; (try with_reducible rfl))
 try simp only [List.getElem_toArray, List.getElem_cons_succ, List.getElem_cons_zero, Act.put, List.setIfInBounds_toArray, List.set_cons_zero, List.set_cons_succ]
 refine wpAnyT_tk (i := 8) (oi := _) (v := ?tvk9) rfl (Or.inl ⟨by rfl, ?thk9⟩) hS1 ?_
 case thk9 => (intro x hSx; (try dsimp only at hSx); go_simp; (try with_reducible rfl))
 try simp only [List.getElem_toArray, List.getElem_cons_succ, List.getElem_cons_zero, Act.put, List.setIfInBounds_toArray, List.set_cons_zero, List.set_cons_succ]
 refine wpAnyT_tk (i := 9) (oi := _) (v := ?tvk10) rfl (Or.inl ⟨by rfl, ?thk10⟩) hS1 ?_
 case thk10 => (intro x hSx; (try dsimp only at hSx); go_simp; (try with_reducible rfl))
 try simp only [List.getElem_toArray, List.getElem_cons_succ, List.getElem_cons_zero, Act.put, List.setIfInBounds_toArray, List.set_cons_zero, List.set_cons_succ]
 refine wpAnyT_step (i := 10) (by kernel_rfl) rfl (fun K hK => ?_)
 try simp only [List.getElem_toArray, List.getElem_cons_succ, List.getElem_cons_zero]
 go_simp
 refine (drawBelowD M5.out (k1 : Int) (by omega) (by omega)).mono ?_
 rintro e w6 ⟨y, rfl, hy, hm6⟩
 have hz6 := hm6.size
 have K6 := LH hm6.bx
 have M6 := LH (M5.out.trans hm6)
 have F6 := LH (F5.out.turn (FTurn.dm M5.out hm6))
 have hS2 : w6.cell? ⟨b, of + j * 2 + 1, none⟩ = some (.slice (some ⟨b2, o2, none⟩) k1 c1) := (World.cell?_of_block (a := ⟨b, of + j * 2 + 1, none⟩) (K6.out.block b (by omega) hbg)).trans hS1
 obtain ⟨i, hi⟩ : ∃ i : Nat, y = (i : Int) := ⟨y.toNat, by omega⟩
 subst hi
 have hik : i < k1 := by omega
 clear hm6 M5 F5
 try simp only [List.getElem_toArray, List.getElem_cons_succ, List.getElem_cons_zero]
 go_simp
 refine hK.out _ _ hS2 (fun _ => ?_)
 clear hK K hS1
 try simp only [List.getElem_toArray, List.getElem_cons_succ, List.getElem_cons_zero, Act.put, List.setIfInBounds_toArray, List.set_cons_zero, List.set_cons_succ]
 refine wpAnyT_step (i := 11) (by kernel_rfl) rfl (fun K hK => ?_)
 try simp only [List.getElem_toArray, List.getElem_cons_succ, List.getElem_cons_zero]
 go_simp
 refine hK.out _ _ hS2 (fun _ => ?_)
 clear hK K
 try simp only [List.getElem_toArray, List.getElem_cons_succ, List.getElem_cons_zero, Act.put, List.setIfInBounds_toArray, List.set_cons_zero, List.set_cons_succ]
 refine wpAnyT_step (i := 12) (by kernel_rfl) rfl (fun K hK => ?_)
 try simp only [List.getElem_toArray, List.getElem_cons_succ, List.getElem_cons_zero]
 go_simp
 refine hK.out _ _ hS2 (fun _ => ?_)
 clear hK K
 try simp only [List.getElem_toArray, List.getElem_cons_succ, List.getElem_cons_zero, Act.put, List.setIfInBounds_toArray, List.set_cons_zero, List.set_cons_succ]
 refine wpAnyT_done (by kernel_rfl) ?_ _
 have hrf6 : RwL w.heap.size w6 b 41 cs := ⟨hrf.1, (K6.out.block b (by omega) hbg).trans ((K5.out.block b hlf).trans hrf.2)⟩
 have hro6 : RwL w.heap.size w6 b2 32 cs2 := ⟨hro.1, (K6.out.block b2 (by omega) hb2g).trans ((K5.out.block b2 hlo2).trans hro.2)⟩
 clear hrf hro K5 K6 M4 F4
 go_wp2_with fail
 refine (drawBelowD M6.out 12 (by omega) (by omega)).mono ?_
 rintro e w7 ⟨x, rfl, hx, hm7⟩
 have hz7 := hm7.size
 have F7 := LH (F6.out.turn (FTurn.dm M6.out hm7))
 have hrf7 : RwL w.heap.size w7 b 41 cs := ⟨hrf6.1, (hm7.bx.block b hrf6.lt.2 hbg).trans hrf6.2⟩
 have hro7 : RwL w.heap.size w7 b2 32 cs2 := ⟨hro6.1, (hm7.bx.block b2 hro6.lt.2 hb2g).trans hro6.2⟩
 have M7 := LH (M6.out.trans hm7)
 have RF7 := LH hrf7
 have RO7 := LH hro7
 have HOP := LH hint
 have HI0 := LH hi0
 have HC1 := LH hu1
 have hbl7 := hrf7.lt
 have hb2l7 := hro7.lt
 have h3 : i * 3 + 2 < k1 * 3 := by omega
 clear hm7 hrf6 hro6 hrf7 hro7 hint hi0 hu1 M6 F6 hS2 hop hc4 hall
 by_cases x0 : x = 0
 ·
  have y0 : (x == 0) = true := beq_iff_eq.2 x0
  go_wp2_with fail
  refine (drawBelowD M7.out 24 (by omega) (by omega)).mono ?_
  rintro e w8 ⟨yy, rfl, hyy, hm8⟩
  have hz8 := hm8.size
  have F8 := LH (F7.out.turn (FTurn.dm M7.out hm8))
  have RF8 := LH (show RwL w.heap.size w8 b 41 cs from ⟨RF7.out.1, (hm8.bx.block b RF7.out.lt.2 hbg).trans RF7.out.2⟩)
  have RO8 := LH (show RwL w.heap.size w8 b2 32 cs2 from ⟨RO7.out.1, (hm8.bx.block b2 RO7.out.lt.2 hb2g).trans RO7.out.2⟩)
  have M8 := LH (M7.out.trans hm8)
  clear hm8
  have hwr : IntKind.i64.wrap (yy - 1) = yy - 1 := (IntWalk.i64_left _).trans (IntWalk.wrap64_in (yy - 1) (by omega))
  obtain ⟨zz, hzz, -⟩ := HOP.out (i * 3 + 0) (by omega)
  rw [Nat.add_zero] at hzz
  have kc : w8.cell? ⟨b2, o2 + i * 3, none⟩ = some (.int .i64 zz) := (RO8.out.cell _).trans hzz
  have kf := fun q => RO8.out.2.frozen q
  have kl := RO8.out.lt.2
  go_wp2_with fail
  obtain ⟨wz, ez⟩ : ∃ z, z = w8.setCell ⟨b2, o2 + i * 3, none⟩ (.int .i64 (yy - 1)) := ⟨_, rfl⟩
  rw [← ez]
  have ROM := RO8
  have FZ := LH (F8.out.turn (FTurn.op RO8.out (i := o2 + i * 3) (by have := (Array.getElem?_eq_some_iff.1 hzz).1; omega) (int_wfS ⟨by omega, by omega⟩) ez))
  have KZ := LH (show Bx b2 w8 wz by rw [ez]; exact (Bx.refl _ _).set (p := ⟨b2, o2 + i * 3, none⟩) (.inl rfl) _)
  have MZ := LH (M8.out.chg KZ.out ROM.out.1 hgl)
  clear ez kc kf kl hzz
  show BP _ _
  rw [HBP.out]
  refine bodyPost_ret (v := .slice (some ⟨b, of, none⟩) n cf) (by simp [results, Tryz.results22, go_sem]) rfl ?_
  exact ⟨_, n, rfl, FZ.out, hn2, MZ.out⟩
 by_cases x1 : x = 1
 ·
  have y1 : (x == 1) = true := beq_iff_eq.2 x1
  have y0 : (x == 0) = false := beq_eq_false_iff_ne.2 (by omega)
  go_wp2_with fail
  obtain ⟨w8, e8, Rw8, hz8, K8⟩ := boxed w7 3 #[.int .i64 (-1), .int .i64 (0), .int .i64 (1), .int .i64 (2), .int .i64 (9), .int .i64 (99), .int .i64 (1073741824)]
  rw [← e8]
  have KB8 := LH (show Below w7.heap.size w7 w8 by rw [e8]; exact (Below.refl _ _).alloc (Nat.le_refl _) _)
  clear e8
  have F8 := LH (F7.out.turn (FTurn.below KB8.out))
  have RF8 := LH (show RwL w.heap.size w8 b 41 cs from ⟨RF7.out.1, (KB8.out.block b RF7.out.lt.2).trans RF7.out.2⟩)
  have RO8 := LH (show RwL w.heap.size w8 b2 32 cs2 from ⟨RO7.out.1, (KB8.out.block b2 RO7.out.lt.2).trans RO7.out.2⟩)
  have M8 := LH (M7.out.below KB8.out)
  refine (drawPickIntD M8.out [-1, 0, 1, 2, 9, 99, 1073741824] w7.heap.size (by omega) 3 Rw8.out (by simp) (by simp) (fun z => (Lit.int .i64 z).wf = true) pick7).mono ?_
  rintro e w9 ⟨yy, rfl, hyy, hm9⟩
  have hz9 := hm9.size
  have F9 := LH (F8.out.turn (FTurn.dm M8.out hm9))
  have RF9 := LH (show RwL w.heap.size w9 b 41 cs from ⟨RF8.out.1, (hm9.bx.block b RF8.out.lt.2 hbg).trans RF8.out.2⟩)
  have RO9 := LH (show RwL w.heap.size w9 b2 32 cs2 from ⟨RO8.out.1, (hm9.bx.block b2 RO8.out.lt.2 hb2g).trans RO8.out.2⟩)
  have M9 := LH (M8.out.trans hm9)
  clear hm9
  obtain ⟨zz, hzz, -⟩ := HOP.out (i * 3 + 1) (by omega)
  rw [← Nat.add_assoc] at hzz
  have kc : w9.cell? ⟨b2, o2 + i * 3 + 1, none⟩ = some (.int .i64 zz) := (RO9.out.cell _).trans hzz
  have kf := fun q => RO9.out.2.frozen q
  have kl := RO9.out.lt.2
  go_wp2_with fail
  obtain ⟨wz, ez⟩ : ∃ z, z = w9.setCell ⟨b2, o2 + i * 3 + 1, none⟩ (.int .i64 yy) := ⟨_, rfl⟩
  rw [← ez]
  have ROM := RO9
  have FZ := LH (F9.out.turn (FTurn.op RO9.out (i := o2 + i * 3 + 1) (by have := (Array.getElem?_eq_some_iff.1 hzz).1; omega) hyy ez))
  have KZ := LH (show Bx b2 w9 wz by rw [ez]; exact (Bx.refl _ _).set (p := ⟨b2, o2 + i * 3 + 1, none⟩) (.inl rfl) _)
  have MZ := LH (M9.out.chg KZ.out ROM.out.1 hgl)
  clear ez kc kf kl hzz
  show BP _ _
  rw [HBP.out]
  refine bodyPost_ret (v := .slice (some ⟨b, of, none⟩) n cf) (by simp [results, Tryz.results22, go_sem]) rfl ?_
  exact ⟨_, n, rfl, FZ.out, hn2, MZ.out⟩
 by_cases x2 : x = 2
 ·
  have y2 : (x == 2) = true := beq_iff_eq.2 x2
  have y0 : (x == 0) = false := beq_eq_false_iff_ne.2 (by omega)
  have y1 : (x == 1) = false := beq_eq_false_iff_ne.2 (by omega)
  go_wp2_with fail
  obtain ⟨w8, e8, Rw8, hz8, K8⟩ := boxed w7 3 #[.int .i64 (-1), .int .i64 (0), .int .i64 (1), .int .i64 (2), .int .i64 (9), .int .i64 (99)]
  rw [← e8]
  have KB8 := LH (show Below w7.heap.size w7 w8 by rw [e8]; exact (Below.refl _ _).alloc (Nat.le_refl _) _)
  clear e8
  have F8 := LH (F7.out.turn (FTurn.below KB8.out))
  have RF8 := LH (show RwL w.heap.size w8 b 41 cs from ⟨RF7.out.1, (KB8.out.block b RF7.out.lt.2).trans RF7.out.2⟩)
  have RO8 := LH (show RwL w.heap.size w8 b2 32 cs2 from ⟨RO7.out.1, (KB8.out.block b2 RO7.out.lt.2).trans RO7.out.2⟩)
  have M8 := LH (M7.out.below KB8.out)
  refine (drawPickIntD M8.out [-1, 0, 1, 2, 9, 99] w7.heap.size (by omega) 3 Rw8.out (by simp) (by simp) (fun z => (Lit.int .i64 z).wf = true) pick6).mono ?_
  rintro e w9 ⟨yy, rfl, hyy, hm9⟩
  have hz9 := hm9.size
  have F9 := LH (F8.out.turn (FTurn.dm M8.out hm9))
  have RF9 := LH (show RwL w.heap.size w9 b 41 cs from ⟨RF8.out.1, (hm9.bx.block b RF8.out.lt.2 hbg).trans RF8.out.2⟩)
  have RO9 := LH (show RwL w.heap.size w9 b2 32 cs2 from ⟨RO8.out.1, (hm9.bx.block b2 RO8.out.lt.2 hb2g).trans RO8.out.2⟩)
  have M9 := LH (M8.out.trans hm9)
  clear hm9
  obtain ⟨zz, hzz, -⟩ := HOP.out (i * 3 + 2) (by omega)
  rw [← Nat.add_assoc] at hzz
  have kc : w9.cell? ⟨b2, o2 + i * 3 + 2, none⟩ = some (.int .i64 zz) := (RO9.out.cell _).trans hzz
  have kf := fun q => RO9.out.2.frozen q
  have kl := RO9.out.lt.2
  go_wp2_with fail
  obtain ⟨wz, ez⟩ : ∃ z, z = w9.setCell ⟨b2, o2 + i * 3 + 2, none⟩ (.int .i64 yy) := ⟨_, rfl⟩
  rw [← ez]
  have ROM := RO9
  have FZ := LH (F9.out.turn (FTurn.op RO9.out (i := o2 + i * 3 + 2) (by have := (Array.getElem?_eq_some_iff.1 hzz).1; omega) hyy ez))
  have KZ := LH (show Bx b2 w9 wz by rw [ez]; exact (Bx.refl _ _).set (p := ⟨b2, o2 + i * 3 + 2, none⟩) (.inl rfl) _)
  have MZ := LH (M9.out.chg KZ.out ROM.out.1 hgl)
  clear ez kc kf kl hzz
  show BP _ _
  rw [HBP.out]
  refine bodyPost_ret (v := .slice (some ⟨b, of, none⟩) n cf) (by simp [results, Tryz.results22, go_sem]) rfl ?_
  exact ⟨_, n, rfl, FZ.out, hn2, MZ.out⟩
 by_cases x3 : x = 3
 ·
  have y3 : (x == 3) = true := beq_iff_eq.2 x3
  have y0 : (x == 0) = false := beq_eq_false_iff_ne.2 (by omega)
  have y1 : (x == 1) = false := beq_eq_false_iff_ne.2 (by omega)
  have y2 : (x == 2) = false := beq_eq_false_iff_ne.2 (by omega)
  go_wp2_with fail
  refine (drawBelowD M7.out 5 (by omega) (by omega)).mono ?_
  rintro e w8 ⟨yy, rfl, hyy, hm8⟩
  have hz8 := hm8.size
  have F8 := LH (F7.out.turn (FTurn.dm M7.out hm8))
  have RF8 := LH (show RwL w.heap.size w8 b 41 cs from ⟨RF7.out.1, (hm8.bx.block b RF7.out.lt.2 hbg).trans RF7.out.2⟩)
  have RO8 := LH (show RwL w.heap.size w8 b2 32 cs2 from ⟨RO7.out.1, (hm8.bx.block b2 RO7.out.lt.2 hb2g).trans RO7.out.2⟩)
  have M8 := LH (M7.out.trans hm8)
  clear hm8
  have hwr : IntKind.i64.wrap (yy - 1) = yy - 1 := (IntWalk.i64_left _).trans (IntWalk.wrap64_in (yy - 1) (by omega))
  obtain ⟨zz, hzz, -⟩ := HI0.out
  have kc : w8.cell? ⟨b, of + j * 2, none⟩ = some (.int .i64 zz) := (RF8.out.cell _).trans hzz
  have kf := fun q => RF8.out.2.frozen q
  have kl := RF8.out.lt.2
  go_wp2_with fail
  obtain ⟨wz, ez⟩ : ∃ z, z = w8.setCell ⟨b, of + j * 2, none⟩ (.int .i64 (yy - 1)) := ⟨_, rfl⟩
  rw [← ez]
  have FZ := LH (F8.out.turn (FTurn.fn RF8.out (i := of + j * 2) (by have := (Array.getElem?_eq_some_iff.1 hzz).1; omega) ez (.inl ⟨by omega, _, rfl, int_wfS ⟨by omega, by omega⟩⟩)))
  have KZ := LH (show Bx b w8 wz by rw [ez]; exact (Bx.refl _ _).set (p := ⟨b, of + j * 2, none⟩) (.inl rfl) _)
  have MZ := LH (M8.out.chg KZ.out RF8.out.1 hgl)
  clear ez kc kf kl hzz
  show BP _ _
  rw [HBP.out]
  refine bodyPost_ret (v := .slice (some ⟨b, of, none⟩) n cf) (by simp [results, Tryz.results22, go_sem]) rfl ?_
  exact ⟨_, n, rfl, FZ.out, hn2, MZ.out⟩
 by_cases x4 : x = 4
 ·
  have y4 : (x == 4) = true := beq_iff_eq.2 x4
  have y0 : (x == 0) = false := beq_eq_false_iff_ne.2 (by omega)
  have y1 : (x == 1) = false := beq_eq_false_iff_ne.2 (by omega)
  have y2 : (x == 2) = false := beq_eq_false_iff_ne.2 (by omega)
  have y3 : (x == 3) = false := beq_eq_false_iff_ne.2 (by omega)
  obtain ⟨b', of', c', cs', e7, hr7, -, -, -, -, hall7⟩ := F7.out.form hn0
  obtain ⟨rfl, rfl, rfl⟩ : b = b' ∧ of = of' ∧ cf = c' := by cases e7; exact ⟨rfl, rfl, rfl⟩
  obtain ⟨-, rfl⟩ := rowOne RF7.out.2 hr7.2
  obtain ⟨-, u7, k7, hu7, hop7⟩ := hall7 j hjn
  have hu8 := HC1.out
  rw [hu7] at hu8
  cases hu8
  obtain ⟨A7, c7, e8⟩ := hop7.isSlice
  cases e8
  have HL := LH (hop7.less (k := k1 - 1) (by omega) hk1)
  have hc7 : w7.cell? ⟨b, of + j * 2 + 1, none⟩ = some (.slice (some ⟨b2, o2, none⟩) k1 c1) := (RF7.out.cell _).trans hu7
  clear hall7 hr7 e7 hop7
  obtain ⟨k2, hk2⟩ : ∃ k2 : Nat, k1 = k2 + 1 := ⟨k1 - 1, by omega⟩
  subst hk2
  have hwr : IntKind.i64.wrap (k2 : Int) = (k2 : Int) := (IntWalk.i64_left _).trans (IntWalk.wrap64_in (k2 : Int) (by omega))
  have hwr2 : IntKind.i64.wrap ((k2 : Int) + 1 - 1) = (k2 : Int) := by rw [show (k2 : Int) + 1 - 1 = (k2 : Int) by omega]; exact hwr
  have hb1 : (k2 : Int) ≤ (c1 : Int) := by omega
  have hb2 : (0 : Int) ≤ (k2 : Int) := by omega
  have hb3 : k2 ≤ c1 := by omega
  go_wp2_with fail
  refine wp_region_T (fun x => x.cell? ⟨b, of + j * 2 + 1, none⟩ = some (.slice (some ⟨b2, o2, none⟩) (k2 + 1) c1)) 14 (by kernel_rfl) ?_
  obtain ⟨w8, e8⟩ : ∃ x, x = w7.drew := ⟨_, rfl⟩
  rw [← e8]
  have KB8 := LH (show Below w7.heap.size w7 w8 by rw [e8]; exact (Below.refl _ _).drew)
  have hS1 : w8.cell? ⟨b, of + j * 2 + 1, none⟩ = some (.slice (some ⟨b2, o2, none⟩) (k2 + 1) c1) := by rw [e8]; exact hc7
  clear e8 hc7
  have F8 := LH (F7.out.turn (FTurn.below KB8.out))
  have RF8 := LH (show RwL w.heap.size w8 b 41 cs from ⟨RF7.out.1, (KB8.out.block b RF7.out.lt.2).trans RF7.out.2⟩)
  have HL8 := LH (HL.out.turn (FTurn.below KB8.out))
  have M8 := LH (M7.out.below KB8.out)
  refine wpAnyT_tk (i := 0) (oi := _) (v := ?tvk11) rfl (Or.inl ⟨by rfl, ?thk11⟩) hS1 ?_
  case thk11 => (intro x hSx; (try dsimp only at hSx); go_simp; (try with_reducible rfl))
  try simp only [List.getElem_toArray, List.getElem_cons_succ, List.getElem_cons_zero, Act.put, List.setIfInBounds_toArray, List.set_cons_zero, List.set_cons_succ]
  refine wpAnyT_tk (i := 1) (oi := _) (v := ?tvk12) rfl (Or.inl ⟨by rfl, ?thk12⟩) hS1 ?_
  case thk12 => (intro x hSx; (try dsimp only at hSx); go_simp; (try with_reducible rfl))
  try simp only [List.getElem_toArray, List.getElem_cons_succ, List.getElem_cons_zero, Act.put, List.setIfInBounds_toArray, List.set_cons_zero, List.set_cons_succ]
  refine wpAnyT_tk (i := 2) (oi := _) (v := ?tvk13) rfl (Or.inl ⟨by rfl, ?thk13⟩) hS1 ?_
  case thk13 => (intro x hSx; (try dsimp only at hSx); go_simp; (try with_reducible rfl))
  try simp only [List.getElem_toArray, List.getElem_cons_succ, List.getElem_cons_zero, Act.put, List.setIfInBounds_toArray, List.set_cons_zero, List.set_cons_succ]
  refine wpAnyT_tk (i := 3) (oi := _) (v := ?tvk14) rfl (Or.inl ⟨by rfl, ?thk14⟩) hS1 ?_
  case thk14 => (intro x hSx; (try dsimp only at hSx); go_simp; (try with_reducible rfl))
  try simp only [List.getElem_toArray, List.getElem_cons_succ, List.getElem_cons_zero, Act.put, List.setIfInBounds_toArray, List.set_cons_zero, List.set_cons_succ]
  refine wpAnyT_tk (i := 4) (oi := _) (v := ?tvk15) rfl (Or.inl ⟨by rfl, ?thk15⟩) hS1 ?_
  case thk15 => (intro x hSx; (try dsimp only at hSx); go_simp; (try with_reducible rfl))
  try simp only [List.getElem_toArray, List.getElem_cons_succ, List.getElem_cons_zero, Act.put, List.setIfInBounds_toArray, List.set_cons_zero, List.set_cons_succ]
  refine wpAnyT_tk (i := 5) (oi := _) (v := ?tvk16) rfl (Or.inl ⟨by rfl, ?thk16⟩) hS1 ?_
  case thk16 => (intro x hSx; (try dsimp only at hSx); go_simp; (try with_reducible rfl))
  try simp only [List.getElem_toArray, List.getElem_cons_succ, List.getElem_cons_zero, Act.put, List.setIfInBounds_toArray, List.set_cons_zero, List.set_cons_succ]
  refine wpAnyT_tk (i := 6) (oi := _) (v := ?tvk17) rfl (Or.inl ⟨by rfl, ?thk17⟩) hS1 ?_
  case thk17 => (intro x hSx; (try dsimp only at hSx); go_simp; (try with_reducible rfl))
  try simp only [List.getElem_toArray, List.getElem_cons_succ, List.getElem_cons_zero, Act.put, List.setIfInBounds_toArray, List.set_cons_zero, List.set_cons_succ]
  refine wpAnyT_tk (i := 7) (oi := _) (v := ?tvk18) rfl (Or.inl ⟨by rfl, ?thk18⟩) hS1 ?_
  case thk18 => (intro x hSx; (try dsimp only at hSx); go_simp; (try with_reducible rfl))
  try simp only [List.getElem_toArray, List.getElem_cons_succ, List.getElem_cons_zero, Act.put, List.setIfInBounds_toArray, List.set_cons_zero, List.set_cons_succ]
  refine wpAnyT_tk (i := 8) (oi := _) (v := ?tvk19) rfl (Or.inl ⟨by rfl, ?thk19⟩) hS1 ?_
  case thk19 => (intro x hSx; (try dsimp only at hSx); go_simp; (try with_reducible rfl))
  try simp only [List.getElem_toArray, List.getElem_cons_succ, List.getElem_cons_zero, Act.put, List.setIfInBounds_toArray, List.set_cons_zero, List.set_cons_succ]
  refine wpAnyT_tk (i := 9) (oi := _) (v := ?tvk20) rfl (Or.inl ⟨by rfl, ?thk20⟩) hS1 ?_
  case thk20 => (intro x hSx; (try dsimp only at hSx); go_simp; (try with_reducible rfl))
  try simp only [List.getElem_toArray, List.getElem_cons_succ, List.getElem_cons_zero, Act.put, List.setIfInBounds_toArray, List.set_cons_zero, List.set_cons_succ]
  refine wpAnyT_tk (i := 10) (oi := _) (v := ?tvk21) rfl (Or.inl ⟨by rfl, ?thk21⟩) hS1 ?_
  case thk21 => (intro x hSx; (try dsimp only at hSx); go_simp; (try with_reducible rfl))
  try simp only [List.getElem_toArray, List.getElem_cons_succ, List.getElem_cons_zero, Act.put, List.setIfInBounds_toArray, List.set_cons_zero, List.set_cons_succ]
  refine wpAnyT_tk (i := 11) (oi := _) (v := ?tvk22) rfl (Or.inl ⟨by rfl, ?thk22⟩) hS1 ?_
  case thk22 => (intro x hSx; (try dsimp only at hSx); go_simp; (try with_reducible rfl))
  try simp only [List.getElem_toArray, List.getElem_cons_succ, List.getElem_cons_zero, Act.put, List.setIfInBounds_toArray, List.set_cons_zero, List.set_cons_succ]
  refine wpAnyT_step (i := 12) (by kernel_rfl) rfl (fun K hK => ?_)
  try simp only [List.getElem_toArray, List.getElem_cons_succ, List.getElem_cons_zero]
  go_simp
  refine hK.out _ _ hS1 (fun _ => ?_)
  clear hK K
  try simp only [List.getElem_toArray, List.getElem_cons_succ, List.getElem_cons_zero, Act.put, List.setIfInBounds_toArray, List.set_cons_zero, List.set_cons_succ]
  refine wpAnyT_step (i := 13) (by kernel_rfl) rfl (fun K hK => ?_)
  try simp only [List.getElem_toArray, List.getElem_cons_succ, List.getElem_cons_zero]
  go_simp
  refine hK.out _ _ hS1 (fun _ => ?_)
  clear hK K
  try simp only [List.getElem_toArray, List.getElem_cons_succ, List.getElem_cons_zero, Act.put, List.setIfInBounds_toArray, List.set_cons_zero, List.set_cons_succ]
  have kf := fun q => RF8.out.2.frozen q
  have kl := RF8.out.lt.2
  refine wpAnyT_last (by kernel_rfl) (by kernel_rfl) rfl (fun K hK => ?_)
  try simp only [List.getElem_toArray, List.getElem_cons_succ, List.getElem_cons_zero]
  go_simp
  obtain ⟨wz, ez⟩ : ∃ z, z = w8.setCell ⟨b, of + j * 2 + 1, none⟩ (.slice (some ⟨b2, o2, none⟩) k2 c1) := ⟨_, rfl⟩
  rw [← ez]
  have FZ := LH (F8.out.turn (FTurn.fn RF8.out (i := of + j * 2 + 1) (by have := (Array.getElem?_eq_some_iff.1 hu7).1; omega) ez (.inr ⟨by omega, _, HL8.out⟩)))
  have KZ := LH (show Bx b w8 wz by rw [ez]; exact (Bx.refl _ _).set (p := ⟨b, of + j * 2 + 1, none⟩) (.inl rfl) _)
  have MZ := LH (M8.out.chg KZ.out RF8.out.1 hgl)
  clear ez kf kl hS1
  refine hK.out _ _ ?_
  clear hK K
  go_wp2_with fail
  show BP _ _
  rw [HBP.out]
  refine bodyPost_ret (v := .slice (some ⟨b, of, none⟩) n cf) (by simp [results, Tryz.results22, go_sem]) rfl ?_
  exact ⟨_, n, rfl, FZ.out, hn2, MZ.out⟩
 by_cases x5 : x = 5
 ·
  have y5 : (x == 5) = true := beq_iff_eq.2 x5
  have y0 : (x == 0) = false := beq_eq_false_iff_ne.2 (by omega)
  have y1 : (x == 1) = false := beq_eq_false_iff_ne.2 (by omega)
  have y2 : (x == 2) = false := beq_eq_false_iff_ne.2 (by omega)
  have y3 : (x == 3) = false := beq_eq_false_iff_ne.2 (by omega)
  have y4 : (x == 4) = false := beq_eq_false_iff_ne.2 (by omega)
  have FL := LH (F7.out.less (k := n - 1) (by omega) hn0)
  obtain ⟨n1, hn1⟩ : ∃ n1 : Nat, n = n1 + 1 := ⟨n - 1, by omega⟩
  subst hn1
  have hwr : IntKind.i64.wrap (n1 : Int) = (n1 : Int) := (IntWalk.i64_left _).trans (IntWalk.wrap64_in (n1 : Int) (by omega))
  have hwr2 : IntKind.i64.wrap ((n1 : Int) + 1 - 1) = (n1 : Int) := by rw [show (n1 : Int) + 1 - 1 = (n1 : Int) by omega]; exact hwr
  have hb1 : (n1 : Int) ≤ (cf : Int) := by omega
  have hb2 : (0 : Int) ≤ (n1 : Int) := by omega
  have hb3 : n1 ≤ cf := by omega
  go_wp2_with fail
  show BP _ _
  rw [HBP.out]
  refine bodyPost_ret (v := .slice (some ⟨b, of, none⟩) n1 cf) (by simp [results, Tryz.results22, go_sem]) rfl ?_
  exact ⟨_, n1, rfl, FL.out, (by omega), M7.out⟩
 have y0 : (x == 0) = false := beq_eq_false_iff_ne.2 (by omega)
 have y1 : (x == 1) = false := beq_eq_false_iff_ne.2 (by omega)
 have y2 : (x == 2) = false := beq_eq_false_iff_ne.2 (by omega)
 have y3 : (x == 3) = false := beq_eq_false_iff_ne.2 (by omega)
 have y4 : (x == 4) = false := beq_eq_false_iff_ne.2 (by omega)
 have y5 : (x == 5) = false := beq_eq_false_iff_ne.2 (by omega)
 go_wp2_with fail
 show BP _ _
 rw [HBP.out]
 refine bodyPost_ret (v := .slice (some ⟨b, of, none⟩) n cf) (by simp [results, Tryz.results22, go_sem]) rfl ?_
 exact ⟨_, n, rfl, F7.out, hn2, M7.out⟩
end Go.Proofs.YtehpobojopmilaaGreat
