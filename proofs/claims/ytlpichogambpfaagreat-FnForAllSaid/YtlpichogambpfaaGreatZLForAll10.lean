/- Texts of the claim LForAll in one: Draw GToken GNode GCon GData NumP Keyword PaP Take PaC Within PaD App AppS Grow AppM Grx PaK PaE PaG PaH PaI PaQ GValue Dn DnB Digits DrawNum DnF EwN EwQ EwR Focus MarkText Int RowI. Conditions: none but bounds on sizes. -/
import Derived.Test.YtlpichogambpfaaGreatRows
import Derived.Test.YtlpichogambpfaaGreatZLForAll0
import Derived.Test.YtlpichogambpfaaGreatZLForAll8
import Derived.Test.YtlpichogambpfaaGreatZLForAll9
import Derived.Lib.Hide
import Derived.Deep.RegionHeld3
import Derived.WalkKit
import Derived.BigQuiet
import Derived.Deep.AppendLies
import Derived.Maps.Range
import Derived.Maps.AppendAt
import Derived.Deep.AppendSrc
import Derived.Deep.CutRange
namespace Go.Proofs.YtlpichogambpfaaGreat
open Go Go.RowKit
theorem LH {p : Prop} (h : p) : Hid p := Lib.hid h
end Go.Proofs.YtlpichogambpfaaGreat
namespace Go.Proofs.YtlpichogambpfaaGreat
set_option maxRecDepth 20000
set_option linter.unusedVariables false
set_option linter.unusedSimpArgs false
open Go.ChangeShapes Go.WideShapes Go.ChangeAt Go.RowKit Go.Deep
set_option maxHeartbeats 1000000
theorem i64_and255 (n : Int) : bits .and .i64 n 255 = n % 256 := by
 have h127 : (BitVec.ofInt 64 255).toNat = 2 ^ 8 - 1 := by decide
 have key : (BitVec.ofInt 64 n &&& BitVec.ofInt 64 255).toNat = (n % ((2 ^ 64 : Nat) : Int)).toNat % 2 ^ 8 := by
  rw [BitVec.toNat_and, BitVec.toNat_ofInt, h127, Nat.and_two_pow_sub_one_eq_mod]
 show IntKind.i64.wrap ((BitVec.ofInt 64 n &&& BitVec.ofInt 64 255).toNat : Nat) = n % 256
 rw [key, IntKind.wrap_i64]
 omega
theorem i64_and30 (n : Int) : bits .and .i64 n 1073741823 = n % 1073741824 := by
 have h127 : (BitVec.ofInt 64 1073741823).toNat = 2 ^ 30 - 1 := by decide
 have key : (BitVec.ofInt 64 n &&& BitVec.ofInt 64 1073741823).toNat = (n % ((2 ^ 64 : Nat) : Int)).toNat % 2 ^ 30 := by
  rw [BitVec.toNat_and, BitVec.toNat_ofInt, h127, Nat.and_two_pow_sub_one_eq_mod]
 show IntKind.i64.wrap ((BitVec.ofInt 64 n &&& BitVec.ofInt 64 1073741823).toNat : Nat) = n % 1073741824
 rw [key, IntKind.wrap_i64]
 omega
theorem wf8 {a : Int} (h : (Lit.int .u8 a).wf = true) : 0 ≤ a ∧ a ≤ 255 := by
 simpa [Lit.wf, IntKind.min, IntKind.max, IntKind.signed, IntKind.bits] using h
theorem byteElem {w : World} {S : Nat → Prop} {A : Option Addr} {c : Nat} {l : List Int} (h : Sl w S 1 A c (l.map (D.num .u8))) (i : Nat) (hi : i < l.length) :
 ∃ b off, A = some ⟨b, off, none⟩ ∧ S b ∧ w.cell? ⟨b, off + i, none⟩ = some (.int .u8 l[i]) ∧ 0 ≤ l[i] ∧ l[i] ≤ 255 := by
 obtain ⟨b, off, cs, e, hb, hl, hc, hr⟩ := Sl.get h i (by simpa using hi)
 rw [List.getElem_map] at hr
 obtain ⟨rfl, h1⟩ := D.rd_num.1 hr
 have h2 := hc 0 _ rfl
 rw [Nat.mul_one, Nat.add_zero] at h2
 exact ⟨b, off, e, hb, h2, wf8 h1⟩
theorem open_byte_el {H : Type} {enc : TypeId × Value → H} {P : Program} {w : World} {sp : Nat → Bool} {held : Bool} {e : TypeId} (he : P.underlying e = some (.int .u8)) {n : Nat} {cs : List Value} {x : DataW H × List MemPlace} (h : DataW.trod enc P w 0 sp held n e cs = some x) : ∃ a : Int, (D.num .u8 a).rd w (Lt w.heap.size) cs := by
 obtain ⟨a, rfl, _, hw⟩ := DataW.trod_int he h
 exact ⟨a, D.rd_num.2 ⟨rfl, hw⟩⟩
theorem argBytes {H : Type} {enc : TypeId × Value → H} {w : World} {r : Go.Reach} {base : Nat} {sp : Nat → Bool} {held : Bool} {v : Value} {d : DataW H} {p : List MemPlace} (hv : Value.okWide Tryz.prog w r base 22 v) (h : DataW.Trod enc Tryz.prog w 0 sp held 22 v d p) :
 ∃ (l : List Int) (A : Option Addr) (c : Nat), v = .slice A l.length c ∧ Sl w (Lt w.heap.size) 1 A c (l.map (D.num .u8)) := by
 obtain ⟨a, len, cap, rfl⟩ := okWide_slice Tryz.underlying22 hv
 obtain ⟨fuel, hf⟩ := h
 obtain ⟨l, hl⟩ := open_sl 1 (by decide) Tryz.underlying22 (by kernel_rfl) (D.num .u8) (fun n2 cs x hn h => open_byte_el Tryz.underlying5 h) hf
 obtain ⟨A, c, e, hs⟩ := D.rd_sl.1 hl
 simp only [Value.cells, List.cons.injEq, List.length_map, and_true] at e
 exact ⟨l, A, c, e, hs⟩
structure Turned (g : Nat) (w w' : World) : Prop where
 os : w'.os = w.os
 tape : w'.tape = w.tape
 output : w'.output = w.output
 size : w.heap.size ≤ w'.heap.size
 block : ∀ k, k < w.heap.size → k ≠ g → w'.heap[k]? = w.heap[k]?
theorem Turned.refl (g : Nat) (w : World) : Turned g w w := ⟨rfl, rfl, rfl, Nat.le_refl _, fun _ _ _ => rfl⟩
theorem Turned.trans {g : Nat} {a b c : World} (h : Turned g a b) (k : Turned g b c) : Turned g a c :=
 ⟨k.os.trans h.os, k.tape.trans h.tape, k.output.trans h.output, Nat.le_trans h.size k.size, fun i hi hg => (k.block i (Nat.lt_of_lt_of_le hi h.size) hg).trans (h.block i hi hg)⟩
theorem Turned.setCell {g : Nat} {a w : World} (h : Turned g a w) (i : Nat) (u : Value) : Turned g a (w.setCell ⟨g, i, none⟩ u) :=
 h.trans ⟨rfl, rfl, rfl, by simp [World.setCell], fun k _ hg => Below.heap_setCell _ _ _ _ hg⟩
theorem Turned.drew {g : Nat} {a w : World} (h : Turned g a w) : Turned g a w.drew := ⟨h.os, h.tape, h.output, h.size, h.block⟩
theorem Turned.alloc {g : Nat} {a w : World} (h : Turned g a w) (o : Obj) : Turned g a (w.alloc o) :=
 h.trans ⟨rfl, rfl, rfl, by simp, fun k hk _ => Below.heap_alloc _ _ _ hk⟩
theorem Row.turned {g : Nat} {w w' : World} {k : Nat} {t : TypeId} {cs : Array Value} (h : Row w k t cs) (ht : Turned g w w') (hk : k ≠ g) : Row w' k t cs := (ht.block k h.lt hk).trans h
structure Cur (l : List Int) (A : Option Addr) (c : Nat) (w : World) (g : Nat) (i : Nat) (h : Int) : Prop where
 row : Row w g 72 #[.slice A l.length c, .int .i64 (i : Int), .int .i64 h]
 le : i ≤ l.length
 fit : -9223372036854775808 ≤ h ∧ h ≤ 9223372036854775807
 code : Sl w (Lt g) 1 A c (l.map (D.num .u8))
theorem Cur.turned {l : List Int} {A : Option Addr} {c : Nat} {w w' : World} {g i : Nat} {h : Int} (hc : Cur l A c w g i h) {g' : Nat} (ht : Turned g' w w') (hg : g < g') : Cur l A c w' g i h :=
 ⟨hc.row.turned ht (by omega), hc.le, hc.fit, hc.code.keep fun b hb => ⟨hb, ht.block b (Nat.lt_trans hb hc.row.lt) (by unfold Lt at hb; omega)⟩⟩
theorem Cur.below {l : List Int} {A : Option Addr} {c : Nat} {w w' : World} {g i : Nat} {h : Int} (hc : Cur l A c w g i h) {B : Nat} (ht : Below B w w') (hg : g < B) : Cur l A c w' g i h :=
 ⟨hc.row.below ht hg, hc.le, hc.fit, hc.code.keep fun b hb => ⟨hb, ht.block b (by unfold Lt at hb; omega)⟩⟩
def Drawn (l : List Int) (A : Option Addr) (c : Nat) (g : Nat) (P : Int → Prop) (w : World) (e : Ending) (w' : World) : Prop :=
 ∃ (x : Int) (i : Nat) (h : Int), e = .returned (.int .i64 x) ∧ P x ∧ Cur l A c w' g i h ∧ Turned g w w'
theorem drawByte {l : List Int} {A : Option Addr} {c : Nat} {w : World} {g i : Nat} {h : Int} (hc : Cur l A c w g i h) :
 Calls Tryz.prog 38 #[.pointer (some ⟨g, 0, none⟩)] w (Drawn l A c g (fun x => 0 ≤ x ∧ x ≤ 255) w) := by
 obtain ⟨hrow, hle, hfit, hcode⟩ := hc
 have R0 := LH hrow
 have c0 := fun i => hrow.cell i
 have f0 := fun i => hrow.frozen i
 have C0 := LH hcode
 clear hrow hcode
 have H : ∀ n, bits .and .i64 n 255 = n % 256 := i64_and255
 have hln : l.length ≤ 9223372036854775807 := by simpa using C0.out.len
 obtain ⟨h', eh⟩ : ∃ h', h' = wrap64 (wrap64 (h * 6364136223846793005) + 1442695040888963407) := ⟨_, rfl⟩
 have R1 := LH (show Row (w.setCell ⟨g, 2, none⟩ (.int .i64 h')) g 72 #[.slice A l.length c, .int .i64 (i : Int), .int .i64 h'] from R0.out.set 2 _)
 have c1 : ∀ k, (w.setCell ⟨g, 2, none⟩ (.int .i64 h')).drew.cell? ⟨g, k, none⟩ = (#[.slice A l.length c, .int .i64 (i : Int), .int .i64 h'] : Array Value)[k]? := fun k => R1.out.cell k
 have T1 := LH ((Turned.refl g w).setCell 2 (.int .i64 h'))
 have fit : -9223372036854775808 ≤ h' ∧ h' ≤ 9223372036854775807 := by rw [eh]; unfold wrap64; omega
 have EH := LH eh.symm
 have FIT := LH fit
 clear eh fit
 by_cases hi : i < l.length
 ·
  obtain ⟨b, off, rfl, hb, hcell, hb0, hb1⟩ := byteElem C0.out i hi
  have hbg : b ≠ g := by unfold Lt at hb; omega
  go_enter Tryz.func38, Tryz.ntmps38
  go_wp2_with fail
  rw [EH.out]
  have HC := LH (show (w.setCell ⟨g, 2, none⟩ (.int .i64 h')).cell? ⟨b, off + i, none⟩ = some (.int .u8 l[i]) from (World.cell?_setCell_other _ _ _ _ (fun e => hbg (congrArg Addr.block e).symm)).trans hcell)
  clear hcell c0 f0
  generalize w.setCell ⟨g, 2, none⟩ (.int .i64 h') = w1 at *
  go_region_held3 (fun w' => ∀ k, w'.cell? ⟨g, k, none⟩ = (#[.slice (some ⟨b, off, none⟩) l.length c, .int .i64 (i : Int), .int .i64 h'] : Array Value)[k]?) (first | exact c1) (fail)
  have hx0 : 0 ≤ bits BinOp.xor IntKind.i64 (h' / 8589934592) (h' / 35184372088832) % 256 := by omega
  have hx1 : bits BinOp.xor IntKind.i64 (h' / 8589934592) (h' / 35184372088832) % 256 ≤ 255 := by omega
  generalize bits BinOp.xor IntKind.i64 (h' / 8589934592) (h' / 35184372088832) % 256 = x at *
  go_wp2_with fail
  go_region_held3 (fun w' => ∀ k, w'.cell? ⟨g, k, none⟩ = (#[.slice (some ⟨b, off, none⟩) l.length c, .int .i64 (i : Int), .int .i64 h'] : Array Value)[k]?) (first | exact fun k => R1.out.cell k) (fail)
  go_wp2_with fail
  go_region_held3 (fun w' => (∀ k, w'.cell? ⟨g, k, none⟩ = (#[.slice (some ⟨b, off, none⟩) l.length c, .int .i64 (i : Int), .int .i64 h'] : Array Value)[k]?) ∧ w'.cell? ⟨b, off + i, none⟩ = some (.int .u8 l[i])) (first | exact ⟨fun k => R1.out.cell k, HC.out⟩) (fail)
  have c2 : ∀ k, w1.cell? ⟨g, k, none⟩ = (#[.slice (some ⟨b, off, none⟩) l.length c, .int .i64 (i : Int), .int .i64 h'] : Array Value)[k]? := fun k => R1.out.cell k
  have f2 : ∀ k, w1.frozen? ⟨g, k, none⟩ = false := fun k => R1.out.frozen k
  go_wp2_with fail
  have R2 := LH (show Row (w1.drew.drew.drew.setCell ⟨g, 1, none⟩ (.int .i64 ((i : Int) + 1))) g 72 #[.slice (some ⟨b, off, none⟩) l.length c, .int .i64 ((i : Int) + 1), .int .i64 h'] from Row.set (w := w1.drew.drew.drew) R1.out 1 _)
  have T2 := LH (((T1.out.drew.drew.drew).setCell 1 (.int .i64 ((i : Int) + 1))))
  go_ret
  exact ⟨_, i + 1, h', rfl, ⟨Int.emod_nonneg _ (by omega), by omega⟩, ⟨R2.out, hi, FIT.out, C0.out.keep fun k hk => ⟨hk, T2.out.block k (by have := R0.out.lt; unfold Lt at hk; omega) (by unfold Lt at hk; omega)⟩⟩, T2.out⟩
 ·
  go_enter Tryz.func38, Tryz.ntmps38
  go_wp2_with fail
  rw [EH.out]
  clear c0 f0
  generalize w.setCell ⟨g, 2, none⟩ (.int .i64 h') = w1 at *
  go_region_held3 (fun w' => ∀ k, w'.cell? ⟨g, k, none⟩ = (#[.slice A l.length c, .int .i64 (i : Int), .int .i64 h'] : Array Value)[k]?) (first | exact c1) (fail)
  have hx0 : 0 ≤ bits BinOp.xor IntKind.i64 (h' / 8589934592) (h' / 35184372088832) % 256 := by omega
  have hx1 : bits BinOp.xor IntKind.i64 (h' / 8589934592) (h' / 35184372088832) % 256 ≤ 255 := by omega
  generalize bits BinOp.xor IntKind.i64 (h' / 8589934592) (h' / 35184372088832) % 256 = x at *
  go_wp2_with fail
  go_region_held3 (fun w' => ∀ k, w'.cell? ⟨g, k, none⟩ = (#[.slice A l.length c, .int .i64 (i : Int), .int .i64 h'] : Array Value)[k]?) (first | exact fun k => R1.out.cell k) (fail)
  go_wp2_with fail
  have T2 := LH (T1.out.drew.drew)
  go_ret
  exact ⟨_, i, h', rfl, ⟨hx0, hx1⟩, ⟨R1.out, hle, FIT.out, C0.out.keep fun k hk => ⟨hk, T2.out.block k (by have := R0.out.lt; unfold Lt at hk; omega) (by unfold Lt at hk; omega)⟩⟩, T2.out⟩
theorem drawBelow {l : List Int} {A : Option Addr} {c : Nat} {w : World} {g i : Nat} {h : Int} (hc : Cur l A c w g i h) (n : Int) (h1 : 1 ≤ n) (h2 : n ≤ 256) :
 Calls Tryz.prog 20 #[.pointer (some ⟨g, 0, none⟩), .int .i64 n] w (Drawn l A c g (fun x => 0 ≤ x ∧ x < n) w) := by
 have C0 := LH hc
 clear hc
 have hn0 : ¬ n ≤ 0 := by omega
 go_enter Tryz.func20, Tryz.ntmps20
 go_wp2_with fail
 refine (drawByte C0.out).mono ?_
 rintro e w1 ⟨x, i1, h1', rfl, hx, hc1, ht⟩
 have C1 := LH hc1
 have T1 := LH ht
 clear hc1 ht
 obtain ⟨hx0, hx1⟩ := hx
 go_wp2_with fail
 go_ret
 exact ⟨_, i1, h1', rfl, ⟨Int.emod_nonneg _ (by omega), Int.emod_lt_of_pos _ (by omega)⟩, C1.out, T1.out⟩
def NewCur (l : List Int) (A : Option Addr) (c : Nat) (w : World) (e : Ending) (w' : World) : Prop :=
 ∃ (h : Int), e = .returned (.pointer (some ⟨w.heap.size, 0, none⟩)) ∧ Cur l A c w' w.heap.size 0 h ∧ Below w.heap.size w w'
theorem newCur (l : List Int) (A : Option Addr) (c : Nat) (w : World) (hs : Sl w (Lt w.heap.size) 1 A c (l.map (D.num .u8))) (hl : l.length ≤ 1048576) :
 Calls Tryz.prog 19 #[.slice A l.length c] w (NewCur l A c w) := by
 have S0 := LH hs
 have H : ∀ n, bits .and .i64 n 1073741823 = n % 1073741824 := i64_and30
 clear hs
 go_enter Tryz.func19, Tryz.ntmps19
 go_wp2_with fail
 have hln : l.length ≤ 9223372036854775807 := by omega
 go_loop [3, 4] (fun x i => ∃ (k : Nat) (hv : Int), k ≤ l.length ∧ i = .int .i64 (k : Int) ∧ x = .int .i64 hv ∧ 0 ≤ hv ∧ hv ≤ 1073741823) (fun _ i => l.length - (intOf i).toNat)
 case atStart => exact ⟨0, 21958 + l.length, by omega, by go_num, by go_num, by omega, by omega⟩
 case round =>
  obtain ⟨k, hv, hk, rfl, rfl, hv0, hv1⟩ := hrel
  by_cases hlt : k < l.length
  ·
   by_cases h4 : (k : Int) < 4000
   · obtain ⟨b, off, rfl, hb, hcell, hb0, hb1⟩ := byteElem S0.out k hlt
     go_wp2_with fail
     go_round
     case rel => exact ⟨k + 1, _, by omega, by go_num, rfl, Int.emod_nonneg _ (by omega), by omega⟩
     case measure => simp [intOf]; omega
   · go_wp2_with fail
     go_ret
     exact ⟨hv, rfl, ⟨Row.new _ _ _, Nat.zero_le _, by omega, S0.out.keep fun b hb => ⟨hb, Below.heap_alloc _ _ _ hb⟩⟩, (Below.refl _ _).alloc (Nat.le_refl _) _⟩
  · go_wp2_with fail
    go_ret
    exact ⟨hv, rfl, ⟨Row.new _ _ _, Nat.zero_le _, by omega, S0.out.keep fun b hb => ⟨hb, Below.heap_alloc _ _ _ hb⟩⟩, (Below.refl _ _).alloc (Nat.le_refl _) _⟩
def DrawnS (l : List Int) (A : Option Addr) (c : Nat) (g : Nat) (P : ByteArray → Prop) (w : World) (e : Ending) (w' : World) : Prop :=
 ∃ (x : ByteArray) (i : Nat) (h : Int), e = .returned (.string x) ∧ P x ∧ Cur l A c w' g i h ∧ Turned g w w'
theorem drawPick {l : List Int} {A : Option Addr} {c : Nat} {w : World} {g i : Nat} {h : Int} (hc : Cur l A c w g i h) (vs : List ByteArray) (b : Nat) (hb : b ≠ g) (t : TypeId) (hr : Row w b t (vs.map Value.string).toArray) (h1 : 1 ≤ vs.length) (h2 : vs.length ≤ 256)
 (P : ByteArray → Prop) (hP : ∀ x ∈ vs, P x) :
 Calls Tryz.prog 39 #[.pointer (some ⟨g, 0, none⟩), .slice (some ⟨b, 0, none⟩) vs.length vs.length] w (DrawnS l A c g P w) := by
 have C0 := LH hc
 have R0 := LH hr
 have HP := LH hP
 clear hc hr hP
 go_enter Tryz.func39, Tryz.ntmps39
 go_wp2_with fail
 refine (drawBelow C0.out (vs.length : Int) (by omega) (by omega)).mono ?_
 rintro e w1 ⟨x, i1, h1', rfl, hx, hc1, ht⟩
 obtain ⟨hx0, hx1⟩ := hx
 obtain ⟨n, rfl⟩ := Int.eq_ofNat_of_zero_le hx0
 have hn : n < vs.length := by omega
 have hcell : w1.cell? ⟨b, n, none⟩ = some (.string vs[n]) := ((R0.out.turned ht hb).cell n).trans (by simp [hn])
 have C1 := LH hc1
 have T1 := LH ht
 clear hc1 ht
 go_wp2_with fail
 go_ret
 exact ⟨_, i1, h1', rfl, HP.out _ (List.getElem_mem hn), C1.out, T1.out⟩
end Go.Proofs.YtlpichogambpfaaGreat
namespace Go.Proofs.YtlpichogambpfaaGreat
set_option maxRecDepth 20000
set_option linter.unusedVariables false
set_option linter.unusedSimpArgs false
open Go.RowKit
end Go.Proofs.YtlpichogambpfaaGreat
namespace Go.Proofs.YtlpichogambpfaaGreat
set_option maxRecDepth 20000
set_option linter.unusedVariables false
set_option linter.unusedSimpArgs false
open Go.RowKit
inductive GNode where
 | mk (op : Int) (n : Int) (s : ByteArray) (t : ByteArray) (kids : List GNode)
def GNode.op : GNode → Int | .mk x _ _ _ _ => x
def GNode.n : GNode → Int | .mk _ x _ _ _ => x
def GNode.s : GNode → ByteArray | .mk _ _ x _ _ => x
def GNode.t : GNode → ByteArray | .mk _ _ _ x _ => x
def GNode.kids : GNode → List GNode | .mk _ _ _ _ x => x
mutual
def GNode.toD : GNode → D | .mk op n s t kids => .agg [.num .i64 op, .num .i64 n, .str s, .str t, .sl 5 (GNode.toDs kids)]
def GNode.toDs : List GNode → List D | [] => [] | t :: r => t.toD :: GNode.toDs r
end
theorem GNode.toDs_map : ∀ l : List GNode, GNode.toDs l = l.map GNode.toD
 | [] => rfl
 | t :: r => by simp only [GNode.toDs, List.map_cons, GNode.toDs_map r]
mutual
def GNode.bulk : GNode → Nat | .mk _ _ s t kids => s.size + t.size + GNode.bulks kids
def GNode.bulks : List GNode → Nat | [] => 0 | t :: r => 1 + t.bulk + GNode.bulks r
end
theorem GNode.bulks_eq : ∀ l : List GNode, GNode.bulks l = bulkL GNode.bulk l
 | [] => rfl
 | t :: r => by simp only [GNode.bulks, bulkL, GNode.bulks_eq r]
theorem GNode.bulk_eq (t : GNode) : t.bulk = t.s.size + t.t.size + bulkL GNode.bulk t.kids := by
 cases t; simp only [GNode.bulk, GNode.bulks_eq, GNode.op, GNode.n, GNode.s, GNode.t, GNode.kids]
def GNode.At (w : World) (S : Nat → Prop) (A1 : Option Addr) (c1 : Nat) (t : GNode) : Prop :=
 (Lit.int .i64 t.op).wf = true ∧ (Lit.int .i64 t.n).wf = true ∧ t.s.size ≤ maxLen ∧ t.t.size ≤ maxLen ∧ Sl w S 5 A1 c1 (t.kids.map GNode.toD)
theorem GNode.rd {w : World} {S : Nat → Prop} {t : GNode} {cs : List Value} (h : t.toD.rd w S cs) : ∃ A1 c1, cs = [.int .i64 t.op, .int .i64 t.n, .string t.s, .string t.t, .slice A1 t.kids.length c1] ∧ GNode.At w S A1 c1 t := by
 cases t with
 | mk op n s t kids =>
 simp only [GNode.toD, GNode.toDs_map] at h
 rw [D.rd_agg] at h
 rw [D.rdF_cons] at h
 obtain ⟨x0, r0, rfl, k0, h⟩ := h
 obtain ⟨rfl, h0⟩ := D.rd_num.1 k0
 rw [D.rdF_cons] at h
 obtain ⟨x1, r1, rfl, k1, h⟩ := h
 obtain ⟨rfl, h1⟩ := D.rd_num.1 k1
 rw [D.rdF_cons] at h
 obtain ⟨x2, r2, rfl, k2, h⟩ := h
 obtain ⟨rfl, h2⟩ := D.rd_str.1 k2
 rw [D.rdF_cons] at h
 obtain ⟨x3, r3, rfl, k3, h⟩ := h
 obtain ⟨rfl, h3⟩ := D.rd_str.1 k3
 rw [D.rdF_cons] at h
 obtain ⟨x4, r4, rfl, k4, h⟩ := h
 obtain ⟨A1, c1, rfl, h4⟩ := D.rd_sl.1 k4
 obtain rfl := D.rdF_nil.1 h
 exact ⟨A1, c1, by simp [GNode.op, GNode.n, GNode.s, GNode.t, GNode.kids], h0, h1, h2, h3, h4⟩
theorem GNode.elem {w : World} {S : Nat → Prop} {A : Option Addr} {c : Nat} {l : List GNode} (h : Sl w S 5 A c (l.map GNode.toD)) (i : Nat) (hi : i < l.length) :
 ∃ b off A1 c1, A = some ⟨b, off, none⟩ ∧ S b ∧ w.cell? ⟨b, off + i * 5, none⟩ = some (.int .i64 l[i].op) ∧ w.cell? ⟨b, off + i * 5 + 1, none⟩ = some (.int .i64 l[i].n) ∧ w.cell? ⟨b, off + i * 5 + 2, none⟩ = some (.string l[i].s) ∧ w.cell? ⟨b, off + i * 5 + 3, none⟩ = some (.string l[i].t) ∧ w.cell? ⟨b, off + i * 5 + 4, none⟩ = some (.slice A1 l[i].kids.length c1) ∧ GNode.At w S A1 c1 l[i] := by
 obtain ⟨b, off, cs, e, hb, hl, hc, hr⟩ := Sl.get h i (by simpa using hi)
 rw [List.getElem_map] at hr
 obtain ⟨A1, c1, rfl, h1⟩ := GNode.rd hr
 exact ⟨b, off, A1, c1, e, hb, hc 0 _ rfl, hc 1 _ rfl, hc 2 _ rfl, hc 3 _ rfl, hc 4 _ rfl, h1⟩
theorem GNode.At.keep {w w' : World} {S S' : Nat → Prop} {t : GNode} {A1 : Option Addr} {c1 : Nat} (h : GNode.At w S A1 c1 t) (hk : ∀ b, S b → S' b ∧ w'.heap[b]? = w.heap[b]?) : GNode.At w' S' A1 c1 t := by
 unfold GNode.At at h ⊢
 obtain ⟨h0, h1, h2, h3, h4⟩ := h
 exact ⟨h0, h1, h2, h3, h4.keep hk⟩
theorem GNode.At.below {w w' : World} {B B' : Nat} {t : GNode} {A1 : Option Addr} {c1 : Nat} (h : GNode.At w (Lt B) A1 c1 t) (hb : Below B w w') (hB : B ≤ B') : GNode.At w' (Lt B') A1 c1 t :=
 h.keep (keep_below hb hB)
def GNode.Ow (w : World) (S : Nat → Prop) (A1 : Option Addr) (c1 : Nat) (t : GNode) : Prop :=
 (Lit.int .i64 t.op).wf = true ∧ (Lit.int .i64 t.n).wf = true ∧ t.s.size ≤ maxLen ∧ t.t.size ≤ maxLen ∧ Osl w S 5 A1 c1 (t.kids.map GNode.toD)
theorem GNode.own_mk {w : World} {S : Nat → Prop} {t : GNode} {A1 : Option Addr} {c1 : Nat} (h : GNode.Ow w S A1 c1 t) : t.toD.own w S [.int .i64 t.op, .int .i64 t.n, .string t.s, .string t.t, .slice A1 t.kids.length c1] := by
 cases t with
 | mk op n s t kids =>
 simp only [GNode.toD, GNode.toDs_map]
 unfold GNode.Ow at h
 obtain ⟨h0, h1, h2, h3, h4⟩ := h
 rw [D.own_agg]
 exact D.ownF_plain (c1 := [_]) (c2 := [_, _, _, _]) (D.own_num.2 ⟨rfl, h0⟩) (D.ownF_plain (c1 := [_]) (c2 := [_, _, _]) (D.own_num.2 ⟨rfl, h1⟩) (D.ownF_plain (c1 := [_]) (c2 := [_, _]) (D.own_str.2 ⟨rfl, h2⟩) (D.ownF_plain (c1 := [_]) (c2 := [_]) (D.own_str.2 ⟨rfl, h3⟩) (D.ownF_last (D.own_sl.2 ⟨A1, c1, by simp [GNode.kids], h4⟩)))))
theorem GNode.Ow.keep {w w' : World} {S S' : Nat → Prop} {t : GNode} {A1 : Option Addr} {c1 : Nat} (h : GNode.Ow w S A1 c1 t) (hk : ∀ b, S b → S' b ∧ w'.heap[b]? = w.heap[b]?) : GNode.Ow w' S' A1 c1 t := by
 unfold GNode.Ow at h ⊢
 obtain ⟨h0, h1, h2, h3, h4⟩ := h
 exact ⟨h0, h1, h2, h3, h4.keep hk⟩
theorem GNode.Ow.at {w : World} {S : Nat → Prop} {t : GNode} {A1 : Option Addr} {c1 : Nat} (h : GNode.Ow w S A1 c1 t) : GNode.At w S A1 c1 t := by
 unfold GNode.Ow at h
 unfold GNode.At
 obtain ⟨h0, h1, h2, h3, h4⟩ := h
 exact ⟨h0, h1, h2, h3, h4.sl⟩
end Go.Proofs.YtlpichogambpfaaGreat
namespace Go.Proofs.YtlpichogambpfaaGreat
set_option maxRecDepth 20000
set_option linter.unusedVariables false
set_option linter.unusedSimpArgs false
open Go.RowKit
open Go.RowKit
open Go.RowKit
end Go.Proofs.YtlpichogambpfaaGreat
namespace Go.Proofs.YtlpichogambpfaaGreat
set_option maxRecDepth 20000
set_option linter.unusedVariables false
set_option linter.unusedSimpArgs false
open Go.RowKit
set_option maxHeartbeats 400000
set_option maxRecDepth 100000
end Go.Proofs.YtlpichogambpfaaGreat
namespace Go.Proofs.YtlpichogambpfaaGreat
set_option maxRecDepth 20000
set_option linter.unusedVariables false
set_option linter.unusedSimpArgs false
open Go Go.RowKit
section
variable {P : Program} {ops : Array Oper} {Q : Exit → Act → World → Prop} {md : Region.Mode} {S : World → Prop} {n : Nat}
def wpAnyT (P : Program) (md : Region.Mode) (ops : Array Oper) (Q : Exit → Act → World → Prop) (S : World → Prop) (n : Nat) : Nat → Array Bool → Act → World → Prop
 | 0, listed, a, w => Region.ready md ops listed = [] ∧ Q .normal a w
 | fuel + 1, listed, a, w =>
  (Region.ready md ops listed = [] → Q .normal a w) ∧
  ∀ i ∈ Region.ready md ops listed, wpOp P ops Q i (fun a' w' => (i = n ∨ S w') ∧ wpAnyT P md ops Q S n fuel (listed.setIfInBounds i true) a' w') a w
theorem wpAny_of_T : ∀ (fuel : Nat) (listed : Array Bool) (a : Act) (w : World), wpAnyT P md ops Q S n fuel listed a w → wpAny P md ops Q fuel listed a w
 | 0, _, _, _, h => h
 | fuel + 1, _, _, _, h => ⟨h.1, fun i hi => wpOp_mono (fun a' w' h' => wpAny_of_T fuel _ a' w' h'.2) (h.2 i hi)⟩
def lastWaits (md : Region.Mode) (ops : Array Oper) (n i : Nat) : Bool :=
 match ops[n]? with
 | some o => o.after.any fun e => Region.binds md e && e.on == i
 | none => true
theorem lastWaits_spec {i : Nat} (h : lastWaits md ops n i = true) (oj : Oper) (hj : ops[n]? = some oj) (hno : ∀ e ∈ oj.after, Region.binds md e = true → e.on ≠ i) : False := by
 unfold lastWaits at h
 simp only [hj] at h
 obtain ⟨e, he, hb⟩ := Array.any_eq_true'.1 h
 simp only [Bool.and_eq_true, beq_iff_eq] at hb
 exact hno e he hb.1 hb.2
theorem wpAnyT_first {i : Nat} {oi : Oper} {v : Value} (hi : ops[i]? = some oi) (hsel : ∀ (j : Nat) (o : Oper) cs b, ops[j]? = some o → o.op ≠ .select cs b)
 (hQ : ∀ c a w, Q (.panic c) (a.put oi.dst v) w → Q (.panic c) a w) (hn : lastWaits md ops n i = true) :
 ∀ (fuel : Nat) (listed : Array Bool) (a : Act) (w : World),
  (∀ j oj, ops[j]? = some oj → j ≠ i → listed.getD j true = false → (∀ e ∈ oj.after, Region.binds md e = true → e.on ≠ i) → oi.apart ops oj = true) →
  i ∈ Region.ready md ops listed → YieldsIf P ops S oi v a → S w →
  wpAnyT P md ops Q S n fuel (listed.setIfInBounds i true) (a.put oi.dst v) w → wpAnyT P md ops Q S n (fuel + 1) listed a w := by
 intro fuel
 induction fuel with
 | zero =>
  intro listed a w _ hr hy hS H
  refine ⟨fun h => (by rw [h] at hr; cases hr), fun j hj => ?_⟩
  by_cases hji : j = i
  · subst hji; exact hy.wpOp hi hS ⟨.inr hS, H⟩
  · have := ready_mono hj hji
    rw [H.1] at this
    cases this
 | succ fuel ih =>
  intro listed a w hfree hr hy hS H
  refine ⟨fun h => (by rw [h] at hr; cases hr), fun j hj => ?_⟩
  by_cases hji : j = i
  · subst hji; exact hy.wpOp hi hS ⟨.inr hS, H⟩
  ·
   have h1 := H.2 j (ready_mono hj hji)
   obtain ⟨hjun, oj, hoj, hall⟩ := mem_ready.1 hj
   have hnot : ∀ e ∈ oj.after, Region.binds md e = true → e.on ≠ i := fun e he hb heq => by
    have h1 := hall e he hb
    have h0 := (mem_ready.1 hr).1
    rw [heq] at h1
    rcases Nat.lt_or_ge i listed.size with h' | h'
    · simp [h'] at h0 h1; rw [h0] at h1; cases h1
    · simp [Array.getElem?_eq_none h'] at h1
   have hjn : j ≠ n := fun e => lastWaits_spec hn oj (e ▸ hoj) hnot
   have h2 := wpOp_putIf hoj (hfree j oj hoj hji hjun hnot) (fun cs b => hsel i oi cs b hi) (fun cs b => hsel j oj cs b hoj) hQ hy h1
   have hfree' : ∀ k ok, ops[k]? = some ok → k ≠ i → (listed.setIfInBounds j true).getD k true = false →
    (∀ e ∈ ok.after, Region.binds md e = true → e.on ≠ i) → oi.apart ops ok = true := fun k ok hk hki hun hno => by
    refine hfree k ok hk hki ?_ hno
    by_cases hjk : j = k
    · subst hjk; exact hjun
    · rw [getD_set_ne true hjk] at hun; exact hun
   refine wpOp_mono (fun a' w' h3 => ?_) h2
   have hS' := h3.2.1.resolve_left hjn
   refine ⟨.inr hS', ih (listed.setIfInBounds j true) a' w' hfree' (ready_mono hr (Ne.symm hji)) h3.1 hS' ?_⟩
   rw [Array.setIfInBounds_comm _ _ hji]
   exact h3.2.2
theorem wpAnyT_take {i : Nat} {oi : Oper} {v : Value} {fuel : Nat} {listed : Array Bool} {a : Act} {w : World} (hi : ops[i]? = some oi)
 (hs : Region.noSelect ops = true) (hf : Region.free md ops listed i = true) (hr : (Region.ready md ops listed).contains i = true) (hn : lastWaits md ops n i = true)
 (hQ : ∀ c a w, Q (.panic c) (a.put oi.dst v) w → Q (.panic c) a w) (hy : YieldsIf P ops S oi v a) (hS : S w)
 (h : wpAnyT P md ops Q S n fuel (listed.setIfInBounds i true) (a.put oi.dst v) w) : wpAnyT P md ops Q S n (fuel + 1) listed a w :=
 wpAnyT_first hi (Region.noSelect_spec hs) hQ hn fuel listed a w (Region.free_spec hi hf) (by simpa using hr) hy hS h
theorem wpAnyT_tk {i : Nat} {oi : Oper} {v : Value} {fuel : Nat} {listed : Array Bool} {a : Act} {w : World} (hi : ops[i]? = some oi)
 (hy : YieldsIf P ops S oi v a) (hS : S w)
 (h : wpAnyT P md ops Q S n fuel (listed.setIfInBounds i true) (a.put oi.dst v) w)
 (hs : Region.noSelect ops = true := by kernel_rfl) (hf : Region.free md ops listed i = true := by kernel_rfl) (hr : (Region.ready md ops listed).contains i = true := by kernel_rfl) (hn : lastWaits md ops n i = true := by kernel_rfl)
 (hQ : ∀ c a w, Q (.panic c) (a.put oi.dst v) w → Q (.panic c) a w := by exact fun _ _ _ h => h) : wpAnyT P md ops Q S n (fuel + 1) listed a w :=
 wpAnyT_take hi hs hf hr hn hQ hy hS h
theorem wpAnyT_step {i : Nat} {o : Oper} {fuel : Nat} {listed : Array Bool} {a : Act} {w : World} (hr : Region.ready md ops listed = [i]) (ho : ops[i]? = some o)
 (h : ∀ K' : Act → World → Prop, Shut (∀ a w, S w → (S w → wpAnyT P md ops Q S n fuel (listed.setIfInBounds i true) a w) → K' a w) → if Region.wanted o (yielded ops a.tmps) = true then Oper.wp P o a w K' Q else K' (a.put o.dst undef) w) : wpAnyT P md ops Q S n (fuel + 1) listed a w :=
 ⟨fun h0 => (by rw [hr] at h0; cases h0), fun j hj => by
   rw [hr] at hj
   obtain rfl := List.mem_singleton.1 hj
   exact wpOp_step ho (fun K' hK => h K' (fun a w hS hW => hK a w ⟨.inr hS, hW hS⟩))⟩
theorem wpAnyT_two {i j : Nat} {o o' : Oper} {fuel : Nat} {listed : Array Bool} {a : Act} {w : World} (hr : Region.ready md ops listed = [i, j]) (ho : ops[i]? = some o) (ho' : ops[j]? = some o')
 (h : ∀ K' : Act → World → Prop, Shut (∀ a w, S w → (S w → wpAnyT P md ops Q S n fuel (listed.setIfInBounds i true) a w) → K' a w) → if Region.wanted o (yielded ops a.tmps) = true then Oper.wp P o a w K' Q else K' (a.put o.dst undef) w)
 (h' : ∀ K' : Act → World → Prop, Shut (∀ a w, S w → (S w → wpAnyT P md ops Q S n fuel (listed.setIfInBounds j true) a w) → K' a w) → if Region.wanted o' (yielded ops a.tmps) = true then Oper.wp P o' a w K' Q else K' (a.put o'.dst undef) w) : wpAnyT P md ops Q S n (fuel + 1) listed a w :=
 ⟨fun h0 => (by rw [hr] at h0; cases h0), fun q hq => by
   rw [hr] at hq
   rcases List.mem_cons.1 hq with rfl | hq
   · exact wpOp_step ho (fun K' hK => h K' (fun a w hS hW => hK a w ⟨.inr hS, hW hS⟩))
   · obtain rfl := List.mem_singleton.1 hq
     exact wpOp_step ho' (fun K' hK => h' K' (fun a w hS hW => hK a w ⟨.inr hS, hW hS⟩))⟩
theorem wpAnyT_done {listed : Array Bool} {a : Act} {w : World} (hr : Region.ready md ops listed = []) (h : Q .normal a w) : ∀ fuel, wpAnyT P md ops Q S n fuel listed a w
 | 0 => ⟨hr, h⟩
 | _ + 1 => ⟨fun _ => h, by rw [hr]; simp⟩
theorem wpAnyT_last {o : Oper} {fuel : Nat} {listed : Array Bool} {a : Act} {w : World} (hr : Region.ready md ops listed = [n]) (hr2 : Region.ready md ops (listed.setIfInBounds n true) = []) (ho : ops[n]? = some o)
 (h : ∀ K' : Act → World → Prop, Shut (∀ a w, Q .normal a w → K' a w) → if Region.wanted o (yielded ops a.tmps) = true then Oper.wp P o a w K' Q else K' (a.put o.dst undef) w) : wpAnyT P md ops Q S n (fuel + 1) listed a w :=
 ⟨fun h0 => (by rw [hr] at h0; cases h0), fun j hj => by
   rw [hr] at hj
   obtain rfl := List.mem_singleton.1 hj
   refine wpOp_step ho (fun K' hK => h K' (fun a w hq => hK a w ⟨.inl rfl, ?_⟩))
   cases fuel with
   | zero => exact ⟨hr2, hq⟩
   | succ f => exact ⟨fun _ => hq, by rw [hr2]; simp⟩⟩
theorem wp_region_T (S : World → Prop) (n : Nat) {id : Nat} {a : Act} {w : World} (hm : P.follows .mixedOrders = true)
 (h : wpAnyT P .any ops Q S n ops.size (Array.replicate ops.size false) a w.drew) : (Code.region id ops true).wp P Q a w :=
 wp_region_any hm (wpAny_of_T _ _ _ _ h)
end
end Go.Proofs.YtlpichogambpfaaGreat
namespace Go.Proofs.YtlpichogambpfaaGreat
set_option maxRecDepth 20000
set_option linter.unusedVariables false
set_option linter.unusedSimpArgs false
open Go.RowKit
set_option maxHeartbeats 1000000
theorem belowN {B : Nat} {a w : World} (h : Below B a w) (n : Nat) : Below B a (w.drewN n) := ⟨h.os, h.tape, h.output, h.size, h.block⟩
def ownC (w : World) (size : Nat) : List D → (Nat → Prop) → List Value → Prop
 | [], _, cs => cs = []
 | d :: r, S, cs => ∃ (S1 S2 : Nat → Prop) (c1 c2 : List Value), (∀ x, S1 x → S x ∧ ¬ S2 x) ∧ (∀ x, S2 x → S x) ∧ cs = c1 ++ c2 ∧ c1.length = size ∧ d.own w S1 c1 ∧ ownC w size r S2 c2
theorem ownC_keep {w w' : World} {size : Nat} : ∀ (xs : List D) (S S' : Nat → Prop) (cs : List Value), (∀ b, S b → S' b ∧ w'.heap[b]? = w.heap[b]?) → ownC w size xs S cs → ownC w' size xs S' cs
 | [], _, _, _, _, h => h
 | d :: r, S, S', cs, hk, h => by
  simp only [ownC] at h ⊢
  obtain ⟨S1, S2, c1, c2, g1, g2, e, hl, h1, h2⟩ := h
  exact ⟨S1, S2, c1, c2, fun x hx => ⟨(hk x (g1 x hx).1).1, (g1 x hx).2⟩, fun x hx => (hk x (g2 x hx)).1, e, hl, D.own_keep d S1 S1 c1 (fun b hb => ⟨hb, (hk b (g1 b hb).1).2⟩) h1, ownC_keep r S2 S2 c2 (fun b hb => ⟨hb, (hk b (g2 b hb)).2⟩) h2⟩
theorem ownC_snoc {w : World} {size : Nat} {d : D} {c : List Value} {T S : Nat → Prop} (hd : d.own w T c) (hc : c.length = size) (hT : ∀ x, T x → S x) :
 ∀ (xs : List D) (U : Nat → Prop) (cs : List Value), (∀ x, U x → S x ∧ ¬ T x) → ownC w size xs U cs → ownC w size (xs ++ [d]) (fun x => U x ∨ T x) (cs ++ c)
 | [], U, cs, _, h => by
  simp only [ownC] at h
  subst h
  simp only [List.nil_append, ownC]
  exact ⟨T, fun _ => False, c, [], fun x hx => ⟨.inr hx, fun h => h⟩, fun x hx => hx.elim, by simp, hc, hd, rfl⟩
 | e :: r, U, cs, hU, h => by
  simp only [ownC, List.cons_append] at h ⊢
  obtain ⟨S1, S2, c1, c2, g1, g2, rfl, hl, h1, h2⟩ := h
  refine ⟨S1, fun x => S2 x ∨ T x, c1, c2 ++ c, fun x hx => ⟨.inl (g1 x hx).1, fun h => ?_⟩, fun x hx => hx.elim (fun h => .inl (g2 x h)) .inr, by simp, hl, h1, ownC_snoc hd hc hT r S2 c2 (fun x hx => hU x (g2 x hx)) h2⟩
  rcases h with h | h
  · exact (g1 x hx).2 h
  · exact (hU x (g1 x hx).1).2 h
theorem ownC_row {w : World} {size b : Nat} : ∀ (xs : List D) (S : Nat → Prop) (cs : List Value) (off : Nat), (∀ j v, cs[j]? = some v → w.cell? ⟨b, off + j, none⟩ = some v) → ownC w size xs S cs → D.ownR w size b xs S off
 | [], _, _, _, _, _ => by simp only [D.ownR]
 | d :: r, S, cs, off, hc, h => by
  simp only [ownC, D.ownR] at h ⊢
  obtain ⟨S1, S2, c1, c2, g1, g2, rfl, hl, h1, h2⟩ := h
  refine ⟨S1, S2, c1, g1, g2, hl, fun j v hj => hc j v ?_, h1, ownC_row r S2 c2 (off + size) (fun j v hj => ?_) h2⟩
  · have : j < c1.length := (List.getElem?_eq_some_iff.1 hj).1
    rw [List.getElem?_append_left this]; exact hj
  · have := hc (size + j) v (by rw [List.getElem?_append_right (by omega), hl]; simpa using hj)
    rwa [← Nat.add_assoc] at this
def Gow (w : World) (B m : Nat) (e : TypeId) (size : Nat) (v : Value) (n : Nat) (xs : List D) : Prop :=
 xs.length = n ∧ ∃ cs, w.ownsRow B e size v n cs ∧ (∀ g, v.ownBlock = some g → g < m) ∧ ownC w size xs (fun b => B ≤ b ∧ b < m ∧ v.ownBlock ≠ some b) cs
theorem Gow.nil (w : World) (B m : Nat) (e : TypeId) (size : Nat) : Gow w B m e size (.slice none 0 0) 0 [] :=
 ⟨rfl, [], World.ownsRow_nil w B e size, fun g h => by simp [Value.ownBlock] at h, rfl⟩
theorem Gow.keep {w w' : World} {B m m' : Nat} {e : TypeId} {size : Nat} {v : Value} {n : Nat} {xs : List D} (h : Gow w B m e size v n xs) (hm : m ≤ m') (hk : ∀ b, B ≤ b → b < m → w'.heap[b]? = w.heap[b]?) : Gow w' B m' e size v n xs := by
 obtain ⟨h1, cs, h2, h3, h4⟩ := h
 refine ⟨h1, cs, ?_, fun g hg => Nat.lt_of_lt_of_le (h3 g hg) hm, ownC_keep xs _ _ cs (fun b hb => ⟨⟨hb.1, Nat.lt_of_lt_of_le hb.2.1 hm, hb.2.2⟩, hk b hb.1 hb.2.1⟩) h4⟩
 refine ⟨h2.1, ?_⟩
 rcases h2.2 with h | ⟨g, cap, cur, rfl, a1, a2, a3⟩
 · exact .inl h
 · exact .inr ⟨g, cap, cur, rfl, a1, (hk g a1 (h3 g rfl)).trans a2, a3⟩
theorem Gow.below {w w' : World} {B m m' : Nat} {e : TypeId} {size : Nat} {v : Value} {n : Nat} {xs : List D} (h : Gow w B m e size v n xs) (hb : Below m w w') (hm : m ≤ m') : Gow w' B m' e size v n xs :=
 h.keep hm fun b _ hb' => hb.block b hb'
theorem Gow.made {w : World} {B m g : Nat} {e : TypeId} {size : Nat} (hr : Row w g e #[]) (hB : B ≤ g) (hm : g < m) : Gow w B m e size (.slice (some ⟨g, 0, none⟩) 0 0) 0 [] :=
 ⟨rfl, [], ⟨by simp, .inr ⟨g, 0, #[], rfl, hB, hr, Nat.le_refl _, by unfold maxLen; omega, by simp, by simp⟩⟩, fun g' h => by simp [Value.ownBlock] at h; omega, rfl⟩
theorem Gow.osl {w : World} {B m : Nat} {e : TypeId} {size : Nat} {v : Value} {n : Nat} {xs : List D} (h : Gow w B m e size v n xs) : ∃ A c, v = .slice A n c ∧ Osl w (Btw B m) size A c xs := by
 obtain ⟨h1, cs, h2, h3, h4⟩ := h
 rcases h2.2 with ⟨rfl, h⟩ | ⟨g, cap, cur, rfl, a1, a2, a3, a4, a5, a6⟩
 · have : xs = [] := List.eq_nil_of_length_eq_zero (by omega)
   subst this
   exact ⟨none, 0, by rw [h], Osl.nil (by unfold maxLen; omega)⟩
 ·
  refine ⟨_, cap, rfl, by omega, a4, .inr ⟨g, rfl, ⟨a1, h3 g rfl⟩, fun o => Row.frozen (t := e) (cs := cur) a2 o, ?_⟩⟩
  refine ownC_row xs _ cs 0 (fun j v hj => ?_) (ownC_keep xs _ _ cs (fun b hb => ⟨⟨⟨hb.1, hb.2.1⟩, fun e => hb.2.2 (by rw [e]; rfl)⟩, rfl⟩) h4)
  rw [Nat.zero_add, Row.cell (t := e) (cs := cur) a2]
  rw [← a6, List.getElem?_take] at hj
  split at hj
  · simpa using hj
  · cases hj
theorem Gow.step {w w' : World} {B m g cap H : Nat} {e e' : TypeId} {size : Nat} {v : Value} {n : Nat} {xs : List D} {d : D} {cs : List Value} {cells : List Value} (hB : B ≤ m) (hm : m ≤ w.heap.size)
 (hxs : xs.length = n) (hlt0 : ∀ g, v.ownBlock = some g → g < m) (hoc : ownC w size xs (fun b => B ≤ b ∧ b < m ∧ v.ownBlock ≠ some b) cells) (hd : d.own w (Btw m w.heap.size) cs) (hcs : cs.length = size)
 (hH : H = w.heap.size + 1) (hown : w'.ownsRow B e size (.slice (some ⟨g, 0, none⟩) (n + 1) cap) (n + 1) (cells ++ cs)) (hgrow : (w.alloc (.cells cs.toArray e')).grownBy w' v.ownBlock) (hat : v.ownBlock = some g ∨ g = H) (hlt : g < w'.heap.size) :
 Gow w' B w'.heap.size e size (.slice (some ⟨g, 0, none⟩) (n + 1) cap) (n + 1) (xs ++ [d]) := by
 have hsz : (w.alloc (.cells cs.toArray e')).heap.size ≤ w'.heap.size := hgrow.size
 have hsz' : w.heap.size + 1 ≤ w'.heap.size := by simpa using hsz
 have hne : ∀ b, b < w.heap.size → v.ownBlock ≠ some b → w'.heap[b]? = w.heap[b]? := fun b hb hb2 =>
  (hgrow.block b (by simp; omega) (fun e => hb2 e.symm)).trans (Below.heap_alloc w _ b hb)
 refine ⟨by simp [hxs], cells ++ cs, hown, fun g' hg' => by simp [Value.ownBlock] at hg'; omega, ?_⟩
 have hgm : g < m ∨ g = H := by
  rcases hat with h | h
  · exact .inl (hlt0 g h)
  · exact .inr h
 have k1 := ownC_keep (w' := w') xs _ (fun b => B ≤ b ∧ b < m ∧ v.ownBlock ≠ some b) cells (fun b hb => ⟨hb, hne b (by omega) hb.2.2⟩) hoc
 have k2 := D.own_keep (w' := w') d _ (Btw m w.heap.size) cs (fun b hb => ⟨hb, hne b hb.2 (fun e => by have := hlt0 b e; have := hb.1; omega)⟩) hd
 have k3 := ownC_snoc (S := fun b => B ≤ b) k2 hcs (fun x hx => Nat.le_trans hB hx.1) xs _ cells (fun x hx => ⟨hx.1, fun h => by have := h.1; omega⟩) k1
 refine ownC_keep _ _ _ _ (fun b hb => ⟨?_, rfl⟩) k3
 rcases hb with ⟨b1, b2, b3⟩ | ⟨b1, b2⟩
 ·
  refine ⟨b1, by omega, fun e => ?_⟩
  simp only [Value.ownBlock, Option.some.injEq] at e
  subst e
  rcases hat with h | h
  · exact b3 h
  · omega
 · refine ⟨by omega, by omega, fun e => ?_⟩
   simp only [Value.ownBlock, Option.some.injEq] at e
   omega
theorem Gow.grown {w w' : World} {B m : Nat} {e : TypeId} {size : Nat} {v : Value} {n : Nat} {xs : List D} (h : Gow w B m e size v n xs) (hg : w.grownBy w' v.ownBlock) (hm : B ≤ w.heap.size) : Below B w w' := by
 refine ⟨hg.os, hg.tape, hg.output, hg.size, fun b hb => hg.block b (by omega) (fun e => ?_)⟩
 obtain ⟨_, cs, h2, _, _⟩ := h
 have := h2.lt b e.symm
 omega
theorem wpList_append_D {P : Program} (w : World) {ops : Array Oper} {rest : List Oper} {o : Oper} {a : Act} {Q : Exit → Act → World → Prop} (hgd : o.guard = none) (s x : Operand) (t : TypeId) (ho : o.op = .call { callee := .builtin .append, args := #[s, x], argTypes := #[t, t] })
 (e : TypeId) (z : Value) (size bytes : Nat) (ht : P.underlying t = some (.slice e)) (hi : (P.info? e).map (fun i => (i.zero, i.size, i.bytes)) = some (some z, size, bytes)) (hzs : z.cells.size = size) (hsz : 0 < size)
 (B m : Nat) (v : Value) (n : Nat) (xs : List D) (hg : Gow w B m e size v n xs) (d : D) (cs : List Value) (hd : d.own w (Btw m w.heap.size) cs) (hB : B ≤ m) (hm : m ≤ w.heap.size) (hcs : cs.length = size) (h1 : ∀ u ∈ cs, u.oneCell' = true)
 (hn : n < 1048577) (hby : bytes ≤ 1048576) (e' : TypeId) (hs : a.eval s = v) (A : Nat) (hA : A = w.heap.size) (hx : a.eval x = .slice (some ⟨A, 0, none⟩) 1 1)
 (h : ∀ g cap w', Gow w' B w'.heap.size e size (.slice (some ⟨g, 0, none⟩) (n + 1) cap) (n + 1) (xs ++ [d]) → Below B w w' → w.heap.size ≤ w'.heap.size → B ≤ g → g < w'.heap.size → wpList P ops Q rest (a.put o.dst (.slice (some ⟨g, 0, none⟩) (n + 1) cap)) w') : wpList P ops Q (o :: rest) a (w.alloc (.cells cs.toArray e')) := by
 obtain ⟨i, i1, i2, i3, i4⟩ := info_parts hi
 obtain ⟨hxs, cells, g2, g3, g4⟩ := id hg
 have e1 : w.heap.size < (w.alloc (.cells cs.toArray e')).heap.size := by simp
 have hga := g2.alloc (.cells cs.toArray e')
 have hnews : ∀ j u, cs[j]? = some u → (w.alloc (.cells cs.toArray e')).cell? ((⟨A, 0, none⟩ : Addr).add j) = some u := fun j u hu => by
  subst hA
  exact World.news_of_block (cs := cs.toArray) (heap_alloc_new w _) j u (by simpa using hu)
 have hbt : (n + 1) * bytes ≤ 140737488355328 := Nat.le_trans (Nat.mul_le_mul (show n + 1 ≤ 1048577 by omega) hby) (by omega)
 exact wpList_append_lies (w.alloc (.cells cs.toArray e')) hgd s x t ho B e i z size bytes ht i1 i2 i3 i4 hzs hsz v n cells hs hga ⟨A, 0, none⟩ 1 1 cs hx (by omega) hnews h1 (by omega) (by unfold maxLen; omega) hbt (by simp; omega) _ rfl fun g cap w' h2 h3 h4 h5 => h g cap w' (Gow.step (e' := e') hB hm hxs g3 g4 hd hcs (by simp) h2 h3 h4 h5)
  (((Below.refl _ _).alloc (by omega) _).trans (Gow.grown (hg.below (m := m) (m' := m) ((Below.refl _ _).alloc hm _) (Nat.le_refl _)) h3 (by omega))) (Nat.le_trans (Nat.le_of_lt e1) h3.size) (h2.lt g rfl).1 h5
theorem step_append_D {P : Program} (w : World) {ops : Array Oper} {o : Oper} {a : Act} {K : Act → World → Prop} {Q : Exit → Act → World → Prop} {E : Prop} (hgd : o.guard = none) (s x : Operand) (t : TypeId) (ho : o.op = .call { callee := .builtin .append, args := #[s, x], argTypes := #[t, t] })
 (e : TypeId) (z : Value) (size bytes : Nat) (ht : P.underlying t = some (.slice e)) (hi : (P.info? e).map (fun i => (i.zero, i.size, i.bytes)) = some (some z, size, bytes)) (hzs : z.cells.size = size) (hsz : 0 < size)
 (B m : Nat) (v : Value) (n : Nat) (xs : List D) (hg : Gow w B m e size v n xs) (d : D) (cs : List Value) (hd : d.own w (Btw m w.heap.size) cs) (hB : B ≤ m) (hm : m ≤ w.heap.size) (hcs : cs.length = size) (h1 : ∀ u ∈ cs, u.oneCell' = true)
 (hn : n < 1048577) (hby : bytes ≤ 1048576) (e' : TypeId) (hs : a.eval s = v) (A : Nat) (hA : A = w.heap.size) (hx : a.eval x = .slice (some ⟨A, 0, none⟩) 1 1)
 (h : ∀ g cap w', Gow w' B w'.heap.size e size (.slice (some ⟨g, 0, none⟩) (n + 1) cap) (n + 1) (xs ++ [d]) → Below B w w' → w.heap.size ≤ w'.heap.size → B ≤ g → g < w'.heap.size → K (a.put o.dst (.slice (some ⟨g, 0, none⟩) (n + 1) cap)) w') : if Region.wanted o (yielded ops a.tmps) = true then Oper.wp P o a (w.alloc (.cells cs.toArray e')) K Q else E := by
 obtain ⟨i, i1, i2, i3, i4⟩ := info_parts hi
 obtain ⟨hxs, cells, g2, g3, g4⟩ := id hg
 have e1 : w.heap.size < (w.alloc (.cells cs.toArray e')).heap.size := by simp
 have hga := g2.alloc (.cells cs.toArray e')
 have hnews : ∀ j u, cs[j]? = some u → (w.alloc (.cells cs.toArray e')).cell? ((⟨A, 0, none⟩ : Addr).add j) = some u := fun j u hu => by
  subst hA
  exact World.news_of_block (cs := cs.toArray) (heap_alloc_new w _) j u (by simpa using hu)
 have hbt : (n + 1) * bytes ≤ 140737488355328 := Nat.le_trans (Nat.mul_le_mul (show n + 1 ≤ 1048577 by omega) hby) (by omega)
 exact step_append_lies (w.alloc (.cells cs.toArray e')) hgd s x t ho B e i z size bytes ht i1 i2 i3 i4 hzs hsz v n cells hs hga ⟨A, 0, none⟩ 1 1 cs hx (by omega) hnews h1 (by omega) (by unfold maxLen; omega) hbt (by simp; omega) _ rfl fun g cap w' h2 h3 h4 h5 => h g cap w' (Gow.step (e' := e') hB hm hxs g3 g4 hd hcs (by simp) h2 h3 h4 h5)
  (((Below.refl _ _).alloc (by omega) _).trans (Gow.grown (hg.below (m := m) (m' := m) ((Below.refl _ _).alloc hm _) (Nat.le_refl _)) h3 (by omega))) (Nat.le_trans (Nat.le_of_lt e1) h3.size) (h2.lt g rfl).1 h5
def rdC (w : World) (size : Nat) (S : Nat → Prop) : List D → List Value → Prop
 | [], cs => cs = []
 | d :: r, cs => ∃ c1 c2, cs = c1 ++ c2 ∧ c1.length = size ∧ d.rd w S c1 ∧ rdC w size S r c2
theorem rdC_keep {w w' : World} {size : Nat} {S S' : Nat → Prop} (hk : ∀ b, S b → S' b ∧ w'.heap[b]? = w.heap[b]?) : ∀ (xs : List D) (cs : List Value), rdC w size S xs cs → rdC w' size S' xs cs
 | [], _, h => h
 | d :: r, cs, h => by
  simp only [rdC] at h ⊢
  obtain ⟨c1, c2, e, hl, h1, h2⟩ := h
  exact ⟨c1, c2, e, hl, D.rd_keep hk d c1 h1, rdC_keep hk r c2 h2⟩
theorem rdC_snoc {w : World} {size : Nat} {S : Nat → Prop} {d : D} {c : List Value} (hd : d.rd w S c) (hc : c.length = size) : ∀ (xs : List D) (cs : List Value), rdC w size S xs cs → rdC w size S (xs ++ [d]) (cs ++ c)
 | [], cs, h => by
  simp only [rdC] at h
  subst h
  simp only [List.nil_append, rdC]
  exact ⟨c, [], by simp, hc, hd, rfl⟩
 | e :: r, cs, h => by
  simp only [rdC, List.cons_append] at h ⊢
  obtain ⟨c1, c2, rfl, hl, h1, h2⟩ := h
  exact ⟨c1, c2 ++ c, by simp, hl, h1, rdC_snoc hd hc r c2 h2⟩
theorem rdC_row {w : World} {size b : Nat} {S : Nat → Prop} : ∀ (xs : List D) (cs : List Value) (off : Nat), (∀ j v, cs[j]? = some v → w.cell? ⟨b, off + j, none⟩ = some v) → rdC w size S xs cs → D.rdR w S size b xs off
 | [], _, _, _, _ => by simp only [D.rdR]
 | d :: r, cs, off, hc, h => by
  simp only [rdC, D.rdR] at h ⊢
  obtain ⟨c1, c2, rfl, hl, h1, h2⟩ := h
  refine ⟨⟨c1, hl, fun j v hj => hc j v ?_, h1⟩, rdC_row r c2 (off + size) (fun j v hj => ?_) h2⟩
  · have : j < c1.length := (List.getElem?_eq_some_iff.1 hj).1
    rw [List.getElem?_append_left this]; exact hj
  · have := hc (size + j) v (by rw [List.getElem?_append_right (by omega), hl]; simpa using hj)
    rwa [← Nat.add_assoc] at this
def Gsh (w : World) (B : Nat) (e : TypeId) (size : Nat) (v : Value) (n : Nat) (xs : List D) : Prop :=
 xs.length = n ∧ ∃ cs, w.ownsRow B e size v n cs ∧ rdC w size (Lt B) xs cs
theorem Gsh.made {w : World} {B g : Nat} {e : TypeId} {size : Nat} (hr : Row w g e #[]) (hB : B ≤ g) : Gsh w B e size (.slice (some ⟨g, 0, none⟩) 0 0) 0 [] :=
 ⟨rfl, [], ⟨by simp, .inr ⟨g, 0, #[], rfl, hB, hr, Nat.le_refl _, by unfold maxLen; omega, by simp, by simp⟩⟩, rfl⟩
theorem Gsh.below {w w' : World} {B : Nat} {e : TypeId} {size : Nat} {v : Value} {n : Nat} {xs : List D} (h : Gsh w B e size v n xs) (hb : Below w.heap.size w w') (hB : B ≤ w.heap.size) : Gsh w' B e size v n xs := by
 obtain ⟨h1, cs, h2, h4⟩ := h
 refine ⟨h1, cs, ?_, rdC_keep (fun b hb' => ⟨hb', hb.block b (Nat.lt_of_lt_of_le hb' hB)⟩) xs cs h4⟩
 refine ⟨h2.1, ?_⟩
 rcases h2.2 with h | ⟨g, cap, cur, rfl, a1, a2, a3⟩
 · exact .inl h
 · exact .inr ⟨g, cap, cur, rfl, a1, (hb.block g (h2.lt g rfl).2).trans a2, a3⟩
theorem Gsh.sl {w : World} {B : Nat} {e : TypeId} {size : Nat} {v : Value} {n : Nat} {xs : List D} (h : Gsh w B e size v n xs) (hB : B ≤ w.heap.size) : ∃ A c, v = .slice A n c ∧ Sl w (Lt w.heap.size) size A c xs := by
 obtain ⟨h1, cs, h2, h4⟩ := h
 have hlt := h2.lt
 rcases h2.2 with ⟨rfl, h⟩ | ⟨g, cap, cur, rfl, a1, a2, a3, a4, a5, a6⟩
 · have : xs = [] := List.eq_nil_of_length_eq_zero (by omega)
   subst this
   exact ⟨none, 0, by rw [h], Sl.nil (by unfold maxLen; omega)⟩
 ·
  refine ⟨_, cap, rfl, by omega, a4, .inr ⟨g, 0, rfl, (hlt g rfl).2, ?_⟩⟩
  refine rdC_row xs cs 0 (fun j v hj => ?_) (rdC_keep (fun b hb => ⟨Nat.lt_of_lt_of_le hb hB, rfl⟩) xs cs h4)
  rw [Nat.zero_add, Row.cell (t := e) (cs := cur) a2]
  rw [← a6, List.getElem?_take] at hj
  split at hj
  · simpa using hj
  · cases hj
theorem Gsh.step {w w' : World} {B g cap : Nat} {e e' : TypeId} {size : Nat} {v : Value} {n : Nat} {xs : List D} {d : D} {cs cells : List Value} (hB : B ≤ w.heap.size)
 (hxs : xs.length = n) (hbase : ∀ g, v.ownBlock = some g → B ≤ g) (hoc : rdC w size (Lt B) xs cells) (hd : d.rd w (Lt B) cs) (hcs : cs.length = size)
 (hown : w'.ownsRow B e size (.slice (some ⟨g, 0, none⟩) (n + 1) cap) (n + 1) (cells ++ cs)) (hgrow : (w.alloc (.cells cs.toArray e')).grownBy w' v.ownBlock) :
 Gsh w' B e size (.slice (some ⟨g, 0, none⟩) (n + 1) cap) (n + 1) (xs ++ [d]) := by
 have hne : ∀ b, b < B → w'.heap[b]? = w.heap[b]? := fun b hb =>
  (hgrow.block b (by simp; omega) (fun e => by have := hbase b e.symm; omega)).trans (Below.heap_alloc w _ b (by omega))
 exact ⟨by simp [hxs], cells ++ cs, hown, rdC_snoc (D.rd_keep (fun b hb => ⟨hb, hne b hb⟩) d cs hd) hcs xs cells (rdC_keep (fun b hb => ⟨hb, hne b hb⟩) xs cells hoc)⟩
theorem wpList_append_S {P : Program} (w : World) {ops : Array Oper} {rest : List Oper} {o : Oper} {a : Act} {Q : Exit → Act → World → Prop} (hgd : o.guard = none) (s x : Operand) (t : TypeId) (ho : o.op = .call { callee := .builtin .append, args := #[s, x], argTypes := #[t, t] })
 (e : TypeId) (z : Value) (size bytes : Nat) (ht : P.underlying t = some (.slice e)) (hi : (P.info? e).map (fun i => (i.zero, i.size, i.bytes)) = some (some z, size, bytes)) (hzs : z.cells.size = size) (hsz : 0 < size)
 (B : Nat) (v : Value) (n : Nat) (xs : List D) (hg : Gsh w B e size v n xs) (d : D) (cs : List Value) (hd : d.rd w (Lt B) cs) (hB : B ≤ w.heap.size) (hcs : cs.length = size) (h1 : ∀ u ∈ cs, u.oneCell' = true)
 (hn : n < 1048577) (hby : bytes ≤ 1048576) (e' : TypeId) (hs : a.eval s = v) (A : Nat) (hA : A = w.heap.size) (hx : a.eval x = .slice (some ⟨A, 0, none⟩) 1 1)
 (h : ∀ g cap w', Gsh w' B e size (.slice (some ⟨g, 0, none⟩) (n + 1) cap) (n + 1) (xs ++ [d]) → Below B w w' → w.heap.size ≤ w'.heap.size → B ≤ g → g < w'.heap.size → wpList P ops Q rest (a.put o.dst (.slice (some ⟨g, 0, none⟩) (n + 1) cap)) w') : wpList P ops Q (o :: rest) a (w.alloc (.cells cs.toArray e')) := by
 obtain ⟨i, i1, i2, i3, i4⟩ := info_parts hi
 obtain ⟨hxs, cells, g2, g4⟩ := id hg
 have e1 : w.heap.size < (w.alloc (.cells cs.toArray e')).heap.size := by simp
 have hga := g2.alloc (.cells cs.toArray e')
 have hnews : ∀ j u, cs[j]? = some u → (w.alloc (.cells cs.toArray e')).cell? ((⟨A, 0, none⟩ : Addr).add j) = some u := fun j u hu => by
  subst hA
  exact World.news_of_block (cs := cs.toArray) (heap_alloc_new w _) j u (by simpa using hu)
 have hbt : (n + 1) * bytes ≤ 140737488355328 := Nat.le_trans (Nat.mul_le_mul (show n + 1 ≤ 1048577 by omega) hby) (by omega)
 exact wpList_append_lies (w.alloc (.cells cs.toArray e')) hgd s x t ho B e i z size bytes ht i1 i2 i3 i4 hzs hsz v n cells hs hga ⟨A, 0, none⟩ 1 1 cs hx (by omega) hnews h1 (by omega) (by unfold maxLen; omega) hbt (by simp; omega) _ rfl fun g cap w' h2 h3 h4 h5 => h g cap w' (Gsh.step (e' := e') hB hxs (fun g hg => (g2.lt g hg).1) g4 hd hcs h2 h3)
  (((Below.refl _ _).alloc (by omega) _).trans (⟨h3.os, h3.tape, h3.output, h3.size, fun b hb => h3.block b (by omega) (fun e => by have := (g2.lt b e.symm).1; omega)⟩)) (Nat.le_trans (Nat.le_of_lt e1) h3.size) (h2.lt g rfl).1 h5
theorem step_append_S {P : Program} (w : World) {ops : Array Oper} {o : Oper} {a : Act} {K : Act → World → Prop} {Q : Exit → Act → World → Prop} {E : Prop} (hgd : o.guard = none) (s x : Operand) (t : TypeId) (ho : o.op = .call { callee := .builtin .append, args := #[s, x], argTypes := #[t, t] })
 (e : TypeId) (z : Value) (size bytes : Nat) (ht : P.underlying t = some (.slice e)) (hi : (P.info? e).map (fun i => (i.zero, i.size, i.bytes)) = some (some z, size, bytes)) (hzs : z.cells.size = size) (hsz : 0 < size)
 (B : Nat) (v : Value) (n : Nat) (xs : List D) (hg : Gsh w B e size v n xs) (d : D) (cs : List Value) (hd : d.rd w (Lt B) cs) (hB : B ≤ w.heap.size) (hcs : cs.length = size) (h1 : ∀ u ∈ cs, u.oneCell' = true)
 (hn : n < 1048577) (hby : bytes ≤ 1048576) (e' : TypeId) (hs : a.eval s = v) (A : Nat) (hA : A = w.heap.size) (hx : a.eval x = .slice (some ⟨A, 0, none⟩) 1 1)
 (h : ∀ g cap w', Gsh w' B e size (.slice (some ⟨g, 0, none⟩) (n + 1) cap) (n + 1) (xs ++ [d]) → Below B w w' → w.heap.size ≤ w'.heap.size → B ≤ g → g < w'.heap.size → K (a.put o.dst (.slice (some ⟨g, 0, none⟩) (n + 1) cap)) w') : if Region.wanted o (yielded ops a.tmps) = true then Oper.wp P o a (w.alloc (.cells cs.toArray e')) K Q else E := by
 obtain ⟨i, i1, i2, i3, i4⟩ := info_parts hi
 obtain ⟨hxs, cells, g2, g4⟩ := id hg
 have e1 : w.heap.size < (w.alloc (.cells cs.toArray e')).heap.size := by simp
 have hga := g2.alloc (.cells cs.toArray e')
 have hnews : ∀ j u, cs[j]? = some u → (w.alloc (.cells cs.toArray e')).cell? ((⟨A, 0, none⟩ : Addr).add j) = some u := fun j u hu => by
  subst hA
  exact World.news_of_block (cs := cs.toArray) (heap_alloc_new w _) j u (by simpa using hu)
 have hbt : (n + 1) * bytes ≤ 140737488355328 := Nat.le_trans (Nat.mul_le_mul (show n + 1 ≤ 1048577 by omega) hby) (by omega)
 exact step_append_lies (w.alloc (.cells cs.toArray e')) hgd s x t ho B e i z size bytes ht i1 i2 i3 i4 hzs hsz v n cells hs hga ⟨A, 0, none⟩ 1 1 cs hx (by omega) hnews h1 (by omega) (by unfold maxLen; omega) hbt (by simp; omega) _ rfl fun g cap w' h2 h3 h4 h5 => h g cap w' (Gsh.step (e' := e') hB hxs (fun g hg => (g2.lt g hg).1) g4 hd hcs h2 h3)
  (((Below.refl _ _).alloc (by omega) _).trans (⟨h3.os, h3.tape, h3.output, h3.size, fun b hb => h3.block b (by omega) (fun e => by have := (g2.lt b e.symm).1; omega)⟩)) (Nat.le_trans (Nat.le_of_lt e1) h3.size) (h2.lt g rfl).1 h5
structure Gr (w w' : World) (v v' : Value) : Prop where
 grow : w.grownBy w' v.ownBlock
 own : v'.ownBlock = v.ownBlock ∨ ∃ g, v'.ownBlock = some g ∧ w.heap.size ≤ g
theorem Gr.refl (w : World) (v : Value) : Gr w w v v := ⟨⟨rfl, rfl, rfl, Nat.le_refl _, fun _ _ _ => rfl⟩, .inl rfl⟩
theorem Gr.size {w w' : World} {v v' : Value} (h : Gr w w' v v') : w.heap.size ≤ w'.heap.size := h.grow.size
theorem Gr.trans {a b c : World} {v v1 v2 : Value} (h : Gr a b v v1) (k : Gr b c v1 v2) : Gr a c v v2 := by
 refine ⟨h.grow.andThen k.grow fun j e => ?_, ?_⟩
 · rcases h.own with h1 | ⟨g, h1, h2⟩
   · exact .inr (h1.symm.trans e)
   · rw [h1] at e; cases e; exact .inl h2
 · rcases k.own with h1 | ⟨g, h1, h2⟩
   · rw [h1]; exact h.own
   · exact .inr ⟨g, h1, Nat.le_trans h.size h2⟩
theorem Gr.of_below {w w' : World} {v : Value} (h : Below w.heap.size w w') : Gr w w' v v := ⟨⟨h.os, h.tape, h.output, h.size, fun b hb _ => h.block b hb⟩, .inl rfl⟩
theorem Gr.below {B : Nat} {w w' : World} {v v' : Value} (h : Gr w w' v v') (hB : B ≤ w.heap.size) (hv : ∀ g, v.ownBlock = some g → B ≤ g) : Below B w w' :=
 ⟨h.grow.os, h.grow.tape, h.grow.output, h.size, fun b hb => h.grow.block b (by omega) fun e => by have := hv b e.symm; omega⟩
theorem Gr.row {w w' : World} {v v' : Value} {b : Nat} {T : TypeId} {cs : Array Value} (h : Gr w w' v v') (hr : Row w b T cs) (hne : v.ownBlock ≠ some b) : Row w' b T cs :=
 (h.grow.block b hr.lt fun e => hne e.symm).trans hr
theorem Gr.ne {w w' : World} {v v' : Value} {b : Nat} (h : Gr w w' v v') (hv : v.ownBlock ≠ some b) (hb : b < w.heap.size) : v'.ownBlock ≠ some b := by
 rcases h.own with h1 | ⟨g, h1, h2⟩
 · rw [h1]; exact hv
 · rw [h1]; intro e; cases e; omega
theorem run_append_many {P : Program} (w : World) (base : Nat) (t ty e : TypeId) (i : TypeInfo) (z : Value) (size bytes : Nat) (ht : P.underlying t = some (.slice e)) (hi : P.info? e = some i) (hz : i.zero = some z)
 (hsize : i.size = size) (hby : i.bytes = bytes) (hzs : z.cells.size = size) (hsz : 0 < size)
 (v : Value) (n : Nat) (xs : List Value) (hown : w.ownsRow base e size v n xs)
 (A : Option Addr) (m c : Nat) (news : List Value) (hA : A = none → m = 0) (hl : news.length = m * size) (hnews : ∀ a, A = some a → ∀ j u, news[j]? = some u → w.cell? (a.add j) = some u) (h1 : ∀ u ∈ news, u.oneCell' = true)
 (h63 : n + m ≤ maxLen) (hbytes : (n + m) * bytes ≤ 140737488355328) (hbase : base ≤ w.heap.size) :
 ∃ v' w', (Builtin.append_ #[t, t] ty #[v, .slice A m c]).run P w = .ok v' w' ∧ w'.ownsRow base e size v' (n + m) (xs ++ news) ∧ w.grownBy w' v.ownBlock ∧ (v'.ownBlock = v.ownBlock ∨ v'.ownBlock = some w.heap.size) := by
 match A with
 | some a =>
  obtain ⟨v', w', a1, a2, a3, _, a4⟩ := run_append_own_at (P := P) w base t ty e i z size bytes ht hi hz hsize hby hzs hsz v n xs hown a m c news hl (hnews a rfl) h1 h63 hbytes hbase
  exact ⟨v', w', a1, a2, a3, a4⟩
 | none =>
  have hm := hA rfl
  subst hm
  have hn : news = [] := List.eq_nil_of_length_eq_zero (by simpa using hl)
  subst hn
  subst hsize
  subst hby
  refine ⟨v, w, ?_, by simpa using hown, ⟨rfl, rfl, rfl, Nat.le_refl _, fun _ _ _ => rfl⟩, .inl rfl⟩
  rcases hown.2 with ⟨rfl, rfl⟩ | ⟨g, cap, cur, rfl, hbg, hg, hnc, hcm, hcs, htake⟩
  · simp [Builtin.append_, run_underlying ht, sizeOf, typeInfo, hi, Builtin.lenOf, Builtin.firstCells, loadCells, loadCellsFrom]
  · have hr := run_append_room_src (P := P) w t t ty e i ht hi g 0 n cap (.slice none 0 c) 0 [] (Src.ofNil w ht c) (by omega) (by simp) (by simp)
    simpa [World.setCells] using hr
mutual
theorem D.rd_one {w : World} {S : Nat → Prop} : ∀ (d : D) (cs : List Value), d.rd w S cs → ∀ u ∈ cs, u.oneCell' = true
 | .num k n, cs, h, u, hu => by obtain ⟨rfl, _⟩ := D.rd_num.1 h; simp at hu; subst hu; rfl
 | .str s, cs, h, u, hu => by obtain ⟨rfl, _⟩ := D.rd_str.1 h; simp at hu; subst hu; rfl
 | .bool b, cs, h, u, hu => by obtain rfl := D.rd_bool.1 h; simp at hu; subst hu; rfl
 | .agg fs, cs, h, u, hu => D.rdF_one fs cs (D.rd_agg.1 h) u hu
 | .sl size xs, cs, h, u, hu => by obtain ⟨A, c, rfl, _⟩ := D.rd_sl.1 h; simp at hu; subst hu; rfl
theorem D.rdF_one {w : World} {S : Nat → Prop} : ∀ (fs : List D) (cs : List Value), D.rdF w S fs cs → ∀ u ∈ cs, u.oneCell' = true
 | [], cs, h, u, hu => by obtain rfl := D.rdF_nil.1 h; simp at hu
 | d :: r, cs, h, u, hu => by
  obtain ⟨c1, c2, rfl, h1, h2⟩ := D.rdF_cons.1 h
  rcases List.mem_append.1 hu with hu | hu
  · exact D.rd_one d c1 h1 u hu
  · exact D.rdF_one r c2 h2 u hu
end
theorem rdC_one {w : World} {size : Nat} {S : Nat → Prop} : ∀ (xs : List D) (cs : List Value), rdC w size S xs cs → ∀ u ∈ cs, u.oneCell' = true
 | [], cs, h, u, hu => by simp only [rdC] at h; subst h; simp at hu
 | d :: r, cs, h, u, hu => by
  simp only [rdC] at h
  obtain ⟨c1, c2, rfl, hl, h1, h2⟩ := h
  rcases List.mem_append.1 hu with hu | hu
  · exact D.rd_one d c1 h1 u hu
  · exact rdC_one r c2 h2 u hu
theorem rdC_length {w : World} {size : Nat} {S : Nat → Prop} : ∀ (xs : List D) (cs : List Value), rdC w size S xs cs → cs.length = xs.length * size
 | [], cs, h => by simp only [rdC] at h; simp [h]
 | d :: r, cs, h => by
  simp only [rdC] at h
  obtain ⟨c1, c2, rfl, hl, _, h2⟩ := h
  have := rdC_length r c2 h2
  rw [List.length_append, hl, this, List.length_cons, Nat.add_mul]; omega
theorem rdC_append {w : World} {size : Nat} {S : Nat → Prop} {ys : List D} {es : List Value} (hy : rdC w size S ys es) : ∀ (xs : List D) (cs : List Value), rdC w size S xs cs → rdC w size S (xs ++ ys) (cs ++ es)
 | [], cs, h => by simp only [rdC] at h; subst h; simpa using hy
 | d :: r, cs, h => by
  simp only [rdC, List.cons_append] at h ⊢
  obtain ⟨c1, c2, rfl, hl, h1, h2⟩ := h
  exact ⟨c1, c2 ++ es, by simp, hl, h1, rdC_append hy r c2 h2⟩
theorem rdR_cells {w : World} {size b : Nat} {S : Nat → Prop} : ∀ (xs : List D) (off : Nat), D.rdR w S size b xs off → ∃ cs, rdC w size S xs cs ∧ ∀ j u, cs[j]? = some u → w.cell? ⟨b, off + j, none⟩ = some u
 | [], off, _ => ⟨[], rfl, fun j u h => by simp at h⟩
 | d :: r, off, h => by
  simp only [D.rdR] at h
  obtain ⟨⟨c1, hl, hc, h1⟩, h2⟩ := h
  obtain ⟨c2, k1, k2⟩ := rdR_cells r (off + size) h2
  refine ⟨c1 ++ c2, by simp only [rdC]; exact ⟨c1, c2, rfl, hl, h1, k1⟩, fun j u hj => ?_⟩
  by_cases hlt : j < c1.length
  · rw [List.getElem?_append_left hlt] at hj; exact hc j u hj
  · rw [List.getElem?_append_right (by omega)] at hj
    have := k2 (j - c1.length) u hj
    rwa [show off + size + (j - c1.length) = off + j by omega] at this
theorem rdR_take {w : World} {size b : Nat} {S : Nat → Prop} : ∀ (xs : List D) (off j : Nat), D.rdR w S size b xs off → D.rdR w S size b (xs.take j) off
 | [], _, j, h => by simpa using h
 | x :: r, off, 0, h => by simp only [List.take_zero, D.rdR]
 | x :: r, off, j + 1, h => by
  simp only [List.take_succ_cons, D.rdR] at h ⊢
  exact ⟨h.1, rdR_take r (off + size) j h.2⟩
theorem rdR_drop {w : World} {size b : Nat} {S : Nat → Prop} : ∀ (xs : List D) (off j : Nat), D.rdR w S size b xs off → D.rdR w S size b (xs.drop j) (off + j * size)
 | [], _, j, h => by simp only [List.drop_nil, D.rdR]
 | x :: r, off, 0, h => by simpa using h
 | x :: r, off, j + 1, h => by
  simp only [D.rdR] at h
  have := rdR_drop r (off + size) j h.2
  rw [List.drop_succ_cons, Nat.add_mul, Nat.one_mul, show off + (j * size + size) = off + size + j * size by omega]
  exact this
theorem Sl.take {w : World} {S : Nat → Prop} {size : Nat} {A : Option Addr} {c : Nat} {xs : List D} (h : Sl w S size A c xs) (j : Nat) : Sl w S size A c (xs.take j) := by
 obtain ⟨h1, h2, h3⟩ := h
 refine ⟨by rw [List.length_take]; omega, h2, ?_⟩
 rcases h3 with rfl | ⟨b, off, e, hS, hr⟩
 · exact .inl (by simp)
 · exact .inr ⟨b, off, e, hS, rdR_take xs off j hr⟩
theorem Sl.drop {w : World} {S : Nat → Prop} {size b off c : Nat} {xs : List D} (h : Sl w S size (some ⟨b, off, none⟩) c xs) (j : Nat) (hj : j ≤ xs.length) : Sl w S size (some ⟨b, off + j * size, none⟩) (c - j) (xs.drop j) := by
 obtain ⟨h1, h2, h3⟩ := h
 refine ⟨by rw [List.length_drop]; omega, by omega, ?_⟩
 rcases h3 with rfl | ⟨b', off', e, hS, hr⟩
 · exact .inl (by simp)
 · obtain ⟨rfl, rfl⟩ : b = b' ∧ off = off' := by simpa using e
   exact .inr ⟨b, off + j * size, rfl, hS, rdR_drop xs off j hr⟩
def Gre (w : World) (B : Nat) (e : TypeId) (size : Nat) (v : Value) (n : Nat) (xs : List D) : Prop :=
 xs.length = n ∧ ∃ cs, w.ownsRow B e size v n cs ∧ rdC w size (fun b => b < w.heap.size ∧ v.ownBlock ≠ some b) xs cs
theorem Gre.nil (w : World) (B : Nat) (e : TypeId) (size : Nat) : Gre w B e size (.slice none 0 0) 0 [] := ⟨rfl, [], World.ownsRow_nil w B e size, rfl⟩
theorem Gre.made {w : World} {B g : Nat} {e : TypeId} {size : Nat} (hr : Row w g e #[]) (hB : B ≤ g) : Gre w B e size (.slice (some ⟨g, 0, none⟩) 0 0) 0 [] :=
 ⟨rfl, [], ⟨by simp, .inr ⟨g, 0, #[], rfl, hB, hr, Nat.le_refl _, by unfold maxLen; omega, by simp, by simp⟩⟩, rfl⟩
theorem Gre.own {w : World} {B : Nat} {e : TypeId} {size : Nat} {v : Value} {n : Nat} {xs : List D} (h : Gre w B e size v n xs) : ∀ g, v.ownBlock = some g → B ≤ g ∧ g < w.heap.size := by
 obtain ⟨h1, cs, h2, h4⟩ := h
 exact fun g hg => h2.lt g hg
theorem Gre.keep {w w' : World} {B : Nat} {e : TypeId} {size : Nat} {v : Value} {n : Nat} {xs : List D} (h : Gre w B e size v n xs) (hs : w.heap.size ≤ w'.heap.size) (hk : ∀ b, b < w.heap.size → w'.heap[b]? = w.heap[b]?) : Gre w' B e size v n xs := by
 have ho := h.own
 obtain ⟨h1, cs, h2, h4⟩ := h
 refine ⟨h1, cs, ⟨h2.1, ?_⟩, rdC_keep (fun b hb => ⟨⟨Nat.lt_of_lt_of_le hb.1 hs, hb.2⟩, hk b hb.1⟩) xs cs h4⟩
 rcases h2.2 with h | ⟨g, cap, cur, rfl, a1, a2, a3⟩
 · exact .inl h
 · exact .inr ⟨g, cap, cur, rfl, a1, (hk g (ho g rfl).2).trans a2, a3⟩
theorem Gre.below {w w' : World} {B : Nat} {e : TypeId} {size : Nat} {v : Value} {n : Nat} {xs : List D} (h : Gre w B e size v n xs) (hb : Below w.heap.size w w') : Gre w' B e size v n xs := h.keep hb.size hb.block
theorem Gre.sl {w : World} {B : Nat} {e : TypeId} {size : Nat} {v : Value} {n : Nat} {xs : List D} (h : Gre w B e size v n xs) : ∃ A c, v = .slice A n c ∧ Sl w (Lt w.heap.size) size A c xs := by
 have hlt := h.own
 obtain ⟨h1, cs, h2, h4⟩ := h
 rcases h2.2 with ⟨rfl, h⟩ | ⟨g, cap, cur, rfl, a1, a2, a3, a4, a5, a6⟩
 · have : xs = [] := List.eq_nil_of_length_eq_zero (by omega)
   subst this
   exact ⟨none, 0, by rw [h], Sl.nil (by unfold maxLen; omega)⟩
 ·
  refine ⟨_, cap, rfl, by omega, a4, .inr ⟨g, 0, rfl, (hlt g rfl).2, ?_⟩⟩
  refine rdC_row xs cs 0 (fun j v hj => ?_) (rdC_keep (fun b hb => ⟨hb.1, rfl⟩) xs cs h4)
  rw [Nat.zero_add, Row.cell (t := e) (cs := cur) a2]
  rw [← a6, List.getElem?_take] at hj
  split at hj
  · simpa using hj
  · cases hj
theorem Gre.step {P : Program} (w : World) (t ty e : TypeId) (z : Value) (size bytes : Nat) (ht : P.underlying t = some (.slice e)) (hi : (P.info? e).map (fun i => (i.zero, i.size, i.bytes)) = some (some z, size, bytes)) (hzs : z.cells.size = size) (hsz : 0 < size)
 (B : Nat) (v : Value) (n : Nat) (xs : List D) (hg : Gre w B e size v n xs) (A : Option Addr) (c m : Nat) (ys : List D) (hm : ys.length = m) (hy : Sl w (fun b => b < w.heap.size ∧ v.ownBlock ≠ some b) size A c ys) (hB : B ≤ w.heap.size)
 (hn : n + m ≤ maxLen) (hbt : (n + m) * bytes ≤ 140737488355328) :
 ∃ A' c' w', (Builtin.append_ #[t, t] ty #[v, .slice A m c]).run P w = .ok (.slice A' (n + m) c') w' ∧ Gre w' B e size (.slice A' (n + m) c') (n + m) (xs ++ ys) ∧ Gr w w' v (.slice A' (n + m) c') := by
 obtain ⟨i, i1, i2, i3, i4⟩ := info_parts hi
 have ho := hg.own
 obtain ⟨hxs, cells, g2, g4⟩ := id hg
 obtain ⟨es, k1, k2, k3⟩ : ∃ es, rdC w size (fun b => b < w.heap.size ∧ v.ownBlock ≠ some b) ys es ∧ (A = none → m = 0) ∧ ∀ a, A = some a → ∀ j u, es[j]? = some u → w.cell? (a.add j) = some u := by
  rcases hy.2.2 with rfl | ⟨b, off, rfl, hS, hr⟩
  · exact ⟨[], rfl, fun _ => by simpa using hm.symm, fun _ _ j u h => by simp at h⟩
  · obtain ⟨es, h1, h2⟩ := rdR_cells ys off hr
    refine ⟨es, h1, fun h => by simp at h, fun a ha j u hj => ?_⟩
    obtain rfl : ⟨b, off, none⟩ = a := by simpa using ha
    have hadd : (⟨b, off, none⟩ : Addr).add j = ⟨b, off + j, none⟩ := by unfold Addr.add; split <;> simp_all
    rw [hadd]; exact h2 j u hj
 obtain ⟨v', w', hr, hown, hgr, hat⟩ := run_append_many (P := P) w B t ty e i z size bytes ht i1 i2 i3 i4 hzs hsz v n cells g2 A m c es k2 (by rw [rdC_length _ _ k1, hm]) k3 (rdC_one _ _ k1) hn hbt hB
 have hfm : ∃ A' c', v' = .slice A' (n + m) c' := by
  rcases hown.2 with ⟨rfl, h0⟩ | ⟨g, cap, cur, rfl, _⟩
  · exact ⟨none, 0, by rw [h0]⟩
  · exact ⟨_, cap, rfl⟩
 obtain ⟨A', c', rfl⟩ := hfm
 have hG : Gr w w' v (.slice A' (n + m) c') := ⟨hgr, hat.imp id fun h => ⟨_, h, Nat.le_refl _⟩⟩
 refine ⟨A', c', w', hr, ⟨by simp [hxs, hm], cells ++ es, hown, rdC_keep (fun b hb => ⟨⟨Nat.lt_of_lt_of_le hb.1 hgr.size, hG.ne hb.2 hb.1⟩, hgr.block b hb.1 fun e => hb.2 e.symm⟩) _ _ (rdC_append k1 _ _ g4)⟩, hG⟩
theorem wp_append_M {P : Program} {o : Oper} {a : Act} {K : Act → World → Prop} {Q : Exit → Act → World → Prop} (w : World) (s x : Operand) (t : TypeId) (ho : o.op = .call { callee := .builtin .append, args := #[s, x], argTypes := #[t, t] })
 (e : TypeId) (z : Value) (size bytes : Nat) (ht : P.underlying t = some (.slice e)) (hi : (P.info? e).map (fun i => (i.zero, i.size, i.bytes)) = some (some z, size, bytes)) (hzs : z.cells.size = size) (hsz : 0 < size)
 (B : Nat) (v : Value) (n : Nat) (xs : List D) (hg : Gre w B e size v n xs) (A : Option Addr) (c m : Nat) (ys : List D) (hm : ys.length = m) (hy : Sl w (fun b => b < w.heap.size ∧ v.ownBlock ≠ some b) size A c ys) (hB : B ≤ w.heap.size)
 (hn : n + m ≤ maxLen) (hbt : (n + m) * bytes ≤ 140737488355328) (hs : a.eval s = v) (hx : a.eval x = .slice A m c)
 (h : ∀ A' c' w', Gre w' B e size (.slice A' (n + m) c') (n + m) (xs ++ ys) → Gr w w' v (.slice A' (n + m) c') → K (a.put o.dst (.slice A' (n + m) c')) w') : o.wp P a w K Q := by
 obtain ⟨A', c', w', hr, h2, h3⟩ := Gre.step (P := P) w t o.type e z size bytes ht hi hzs hsz B v n xs hg A c m ys hm hy hB hn hbt
 unfold Oper.wp execOp
 simp only [ho, resolve, invoke, builtin, Sem.run_bind, Sem.run_pure, Result.andThen_ok, List.map_toArray, List.map_cons, List.map_nil, hs, hx, hr]
 exact h A' c' w' h2 h3
theorem wpList_append_M {P : Program} {ops : Array Oper} {rest : List Oper} {o : Oper} {a : Act} {Q : Exit → Act → World → Prop} (w : World) (hgd : o.guard = none) (s x : Operand) (t : TypeId) (ho : o.op = .call { callee := .builtin .append, args := #[s, x], argTypes := #[t, t] })
 (e : TypeId) (z : Value) (size bytes : Nat) (ht : P.underlying t = some (.slice e)) (hi : (P.info? e).map (fun i => (i.zero, i.size, i.bytes)) = some (some z, size, bytes)) (hzs : z.cells.size = size) (hsz : 0 < size)
 (B : Nat) (v : Value) (n : Nat) (xs : List D) (hg : Gre w B e size v n xs) (A : Option Addr) (c m : Nat) (ys : List D) (hm : ys.length = m) (hy : Sl w (fun b => b < w.heap.size ∧ v.ownBlock ≠ some b) size A c ys) (hB : B ≤ w.heap.size)
 (hn : n + m ≤ maxLen) (hbt : (n + m) * bytes ≤ 140737488355328) (hs : a.eval s = v) (hx : a.eval x = .slice A m c)
 (h : ∀ A' c' w', Gre w' B e size (.slice A' (n + m) c') (n + m) (xs ++ ys) → Gr w w' v (.slice A' (n + m) c') → wpList P ops Q rest (a.put o.dst (.slice A' (n + m) c')) w') : wpList P ops Q (o :: rest) a w :=
 wpList_plain hgd fun _ hK => wp_append_M w s x t ho e z size bytes ht hi hzs hsz B v n xs hg A c m ys hm hy hB hn hbt hs hx fun A' c' w' h2 h3 => hK _ _ (h A' c' w' h2 h3)
end Go.Proofs.YtlpichogambpfaaGreat
namespace Go.Proofs.YtlpichogambpfaaGreat
set_option maxRecDepth 20000
set_option linter.unusedVariables false
set_option linter.unusedSimpArgs false
open Go.RowKit
end Go.Proofs.YtlpichogambpfaaGreat
namespace Go.Proofs.YtlpichogambpfaaGreat
set_option maxRecDepth 20000
set_option linter.unusedVariables false
set_option linter.unusedSimpArgs false
open Go.RowKit
set_option maxHeartbeats 1000000
theorem boxed (w : World) (T : TypeId) (cs : Array Value) : ∃ x, x = w.alloc (.cells cs T) ∧ Hid (Row x w.heap.size T cs) ∧ x.heap.size = w.heap.size + 1 ∧ Hid (Bx w.heap.size w x) :=
 ⟨_, rfl, LH (Row.new _ _ _), by simp, LH ((Bx.refl _ _).alloc _)⟩
theorem storedF {w : World} {n : Nat} {T : TypeId} {cs : Array Value} (h : Row w n T cs) (i : Nat) (v : Value) : ∃ x, x = w.setCell ⟨n, i, none⟩ v ∧ Hid (Row x n T (cs.setIfInBounds i v)) ∧ x.heap.size = w.heap.size ∧ Hid (Bx n w x) :=
 ⟨_, rfl, LH (h.set i v), by simp [World.setCell], LH ((Bx.refl _ _).set (p := ⟨n, i, none⟩) (.inl rfl) _)⟩
set_option maxHeartbeats 2000000
def hidQ (Q : Exit → Act → World → Prop) (R : Act → World → Prop) : Exit → Act → World → Prop
 | .ret, a, w => R a w
 | e, a, w => Q e a w
theorem wp_hide {P : Program} {c : Code} {Q : Exit → Act → World → Prop} {a : Act} {w : World} (h : ∀ BP : Act → World → Prop, BP = Q .ret → c.wp P (hidQ Q BP) a w) : c.wp P Q a w := by
 have e : hidQ Q (Q .ret) = Q := by funext e a w; cases e <;> rfl
 have := h _ rfl
 rwa [e] at this
end Go.Proofs.YtlpichogambpfaaGreat
namespace Go.Proofs.YtlpichogambpfaaGreat
set_option maxRecDepth 20000
set_option linter.unusedVariables false
set_option linter.unusedSimpArgs false
open Go.RowKit
end Go.Proofs.YtlpichogambpfaaGreat
namespace Go.Proofs.YtlpichogambpfaaGreat
set_option maxRecDepth 20000
set_option linter.unusedVariables false
set_option linter.unusedSimpArgs false
open Go.RowKit
set_option maxHeartbeats 1000000
structure Dm (l : List Int) (A : Option Addr) (c : Nat) (g : Nat) (w w' : World) : Prop where
 cur : ∃ (i : Nat) (h : Int), Cur l A c w' g i h
 bx : Bx g w w'
theorem Turned.bx {g : Nat} {w w' : World} (h : Turned g w w') : Bx g w w' := ⟨h.os, h.tape, h.output, h.size, h.block⟩
theorem Bx.turned {g : Nat} {w w' : World} (h : Bx g w w') : Turned g w w' := ⟨h.os, h.tape, h.output, h.size, h.block⟩
section
variable {l : List Int} {A : Option Addr} {c : Nat} {g : Nat} {w a b d : World}
theorem Dm.start {i : Nat} {h : Int} (hc : Cur l A c w g i h) : Dm l A c g w w := ⟨⟨i, h, hc⟩, Bx.refl _ _⟩
theorem Dm.lt (h : Dm l A c g a b) : g < b.heap.size := by obtain ⟨i, k, hc⟩ := h.cur; exact hc.row.lt
theorem Dm.size (h : Dm l A c g a b) : a.heap.size ≤ b.heap.size := h.bx.size
theorem Dm.trans (h : Dm l A c g a b) (k : Dm l A c g b d) : Dm l A c g a d := ⟨k.cur, h.bx.trans k.bx⟩
theorem Dm.below (h : Dm l A c g a b) (k : Below b.heap.size b d) : Dm l A c g a d := by
 obtain ⟨i, x, hc⟩ := h.cur
 exact ⟨⟨i, x, hc.below k hc.row.lt⟩, h.bx.trans (Bx.of_below k (Nat.le_refl _))⟩
theorem Dm.again (h : Dm l A c g a b) : Dm l A c g b b := ⟨h.cur, Bx.refl _ _⟩
theorem Dm.chg {q : Nat} (h : Dm l A c g a b) (k : Bx q b d) (hq : a.heap.size ≤ q) (hg : g < a.heap.size) : Dm l A c g a d := by
 obtain ⟨i, x, hc⟩ := h.cur
 have hz := h.size
 exact ⟨⟨i, x, hc.turned k.turned (by omega)⟩, ⟨k.os.trans h.bx.os, k.tape.trans h.bx.tape, k.output.trans h.bx.output, Nat.le_trans hz k.size, fun y hy hyg => (k.block y (by omega) (by omega)).trans (h.bx.block y hy hyg)⟩⟩
end
theorem drawBelowD {l : List Int} {A : Option Addr} {c : Nat} {g : Nat} {a w : World} (m : Dm l A c g a w) (n : Int) (h1 : 1 ≤ n) (h2 : n ≤ 256) :
 Calls Tryz.prog 20 #[.pointer (some ⟨g, 0, none⟩), .int .i64 n] w fun e w' => ∃ x : Int, e = .returned (.int .i64 x) ∧ (0 ≤ x ∧ x < n) ∧ Dm l A c g w w' := by
 obtain ⟨i, h, hc⟩ := m.cur
 refine (drawBelow hc n h1 h2).mono ?_
 rintro e w1 ⟨x, i1, k1, rfl, hx, hc1, ht⟩
 exact ⟨x, rfl, hx, ⟨⟨i1, k1, hc1⟩, ht.bx⟩⟩
theorem drawOnceD {l : List Int} {A : Option Addr} {c : Nat} {g : Nat} {a w : World} (m : Dm l A c g a w) (n : Int) (h1 : 1 ≤ n) (h2 : n ≤ 256) :
 Calls Tryz.prog 28 #[.pointer (some ⟨g, 0, none⟩), .int .i64 n] w fun e w' => ∃ b : Bool, e = .returned (.bool b) ∧ Dm l A c g w w' := by
 have M := LH m
 clear m
 go_enter Tryz.func28, Tryz.ntmps28
 go_wp2_with fail
 refine (drawBelowD M.out n h1 h2).mono ?_
 rintro e w1 ⟨x, rfl, hx, hm⟩
 have M1 := LH hm
 clear hm hx
 go_wp2_with fail
 go_ret
 exact ⟨_, rfl, M1.out⟩
theorem int_wfS {n : Int} (h : -1000 ≤ n ∧ n ≤ 1000) : (Lit.int .i64 n).wf = true := by
 simp [Lit.wf, IntKind.min, IntKind.max, IntKind.signed, IntKind.bits]; omega
set_option maxHeartbeats 2000000
end Go.Proofs.YtlpichogambpfaaGreat
namespace Go.Proofs.YtlpichogambpfaaGreat
set_option maxRecDepth 20000
set_option linter.unusedVariables false
set_option linter.unusedSimpArgs false
open Go.RowKit
end Go.Proofs.YtlpichogambpfaaGreat
namespace Go.Proofs.YtlpichogambpfaaGreat
set_option maxRecDepth 20000
set_option linter.unusedVariables false
set_option linter.unusedSimpArgs false
open Go.RowKit
set_option maxHeartbeats 1000000
set_option maxHeartbeats 2000000
theorem drawPickD {l : List Int} {A : Option Addr} {c : Nat} {g : Nat} {a w : World} (m : Dm l A c g a w) (vs : List ByteArray) (b : Nat) (hb : b ≠ g) (t : TypeId) (hr : Row w b t (vs.map Value.string).toArray) (h1 : 1 ≤ vs.length) (h2 : vs.length ≤ 256) (P : ByteArray → Prop) (hP : ∀ x ∈ vs, P x) :
 Calls Tryz.prog 39 #[.pointer (some ⟨g, 0, none⟩), .slice (some ⟨b, 0, none⟩) vs.length vs.length] w fun e w' => ∃ x : ByteArray, e = .returned (.string x) ∧ P x ∧ Dm l A c g w w' := by
 obtain ⟨i, h, hc⟩ := m.cur
 refine (drawPick hc vs b hb t hr h1 h2 P hP).mono ?_
 rintro e w1 ⟨x, i1, k1, rfl, hx, hc1, ht⟩
 exact ⟨x, rfl, hx, ⟨⟨i1, k1, hc1⟩, ht.bx⟩⟩
set_option maxRecDepth 100000 in
theorem progTextsE (w : World) : Calls Tryz.prog 85 #[] w fun e w' => ∃ b, e = .returned (.slice (some ⟨b, 0, none⟩) 7 7) ∧ w.heap.size ≤ b ∧ Hid (Row w' b 9 ([evp0, evp1, evp2, evp3, evp4, evp5, evp6].map Value.string).toArray) ∧ Below w.heap.size w w' := by
 go_enter Tryz.func85, Tryz.ntmps85
 go_wp2_with fail
 go_ret
 exact ⟨w.heap.size, rfl, Nat.le_refl _, LH (Row.new w 9 ([evp0, evp1, evp2, evp3, evp4, evp5, evp6].map Value.string).toArray), (Below.refl _ _).alloc (Nat.le_refl _) _⟩
theorem drawSourceE {l : List Int} {A : Option Addr} {c : Nat} {g : Nat} {w0 w : World} (hm0 : Dm l A c g w0 w) : Calls Tryz.prog 68 #[.pointer (some ⟨g, 0, none⟩)] w fun e w' => ∃ s, e = .returned (.string s) ∧ PrgE s ∧ Dm l A c g w w' := by
 have hm := hm0.again
 clear hm0
 have hgl := hm.lt
 have M0 := LH hm
 clear hm
 go_enter Tryz.func68, Tryz.ntmps68
 go_wp2_with fail
 refine (progTextsE w).mono ?_
 rintro e w1 ⟨b, rfl, hb, hr, hb1⟩
 have M1 := LH (M0.out.below hb1)
 clear hb1 M0
 go_wp2_with fail
 refine (drawPickD M1.out [evp0, evp1, evp2, evp3, evp4, evp5, evp6] b (by omega) 9 hr.out (by simp) (by simp) PrgE evps_ok).mono ?_
 rintro e w2 ⟨s, rfl, hs, hm⟩
 have M2 := LH (M1.out.trans hm)
 clear hm
 go_wp2_with fail
 go_ret
 exact ⟨s, rfl, hs, M2.out⟩
def T3 (tx : Ev.Tx) (v1 : Nat) (m1 : Ev.Me) (v2 : Nat) (m2 : Ev.Me) (v3 : Nat) (m3 : Ev.Me) : Prop :=
 8 < tx.n ∧ tx.n < 4096 ∧ evOkF v3 m3 = true ∧ m1.lg = [] ∧ m2.lg = [] ∧ m3.lg = [] ∧ Ev.CallOk Ev.P tx Ev.TY 67 (Ev.arg0 tx) ⟨.e, 0, []⟩ v1 m1 ∧ Ev.CallOk Ev.P tx Ev.TY 54 (Ev.arg2 6 v1) ⟨m1.h, m1.nx, []⟩ v2 m2 ∧ Ev.CallOk Ev.P tx Ev.TY 47 (Ev.arg3 11 v2) ⟨m2.h, m2.nx, []⟩ v3 m3
def EvIn (tx : Ev.Tx) (m : Ev.Me) (s : Ev.Sg) (hs : Nat) (w : World) : Prop := (∃ X, Ev.EvSt tx m s X w) ∧ ∀ i b k, s i = some (b, k) → hs ≤ b ∧ b < w.heap.size
theorem EvIn.keep {tx : Ev.Tx} {m : Ev.Me} {s : Ev.Sg} {hs : Nat} {w w' : World} (h : EvIn tx m s hs w) (hz : w.heap.size ≤ w'.heap.size) (hk : ∀ b, hs ≤ b → b < w.heap.size → w'.heap[b]? = w.heap[b]?) : EvIn tx m s hs w' := by
 obtain ⟨⟨X, h1⟩, h2⟩ := h
 exact ⟨⟨X, h1.keep hz fun i b k e => hk b (h2 i b k e).1 (h2 i b k e).2⟩, fun i b k e => ⟨(h2 i b k e).1, Nat.lt_of_lt_of_le (h2 i b k e).2 hz⟩⟩
theorem EvIn.mono {tx : Ev.Tx} {m : Ev.Me} {s : Ev.Sg} {hs hs' : Nat} {w : World} (h : EvIn tx m s hs w) (hz : hs' ≤ hs) : EvIn tx m s hs' w := ⟨h.1, fun i b k e => ⟨Nat.le_trans hz (h.2 i b k e).1, (h.2 i b k e).2⟩⟩
theorem EvIn.start (tx : Ev.Tx) (w : World) (hs : Nat) : EvIn tx ⟨.e, 0, []⟩ (fun _ => none) hs w := ⟨⟨_, Ev.EvSt.start tx w⟩, fun i b k e => by cases e⟩
theorem EvIn.use {tx : Ev.Tx} {g a v : Nat} {m m' : Ev.Me} (h : Ev.CallOk Ev.P tx Ev.TY g a m v m') {fn : Func} {ts rs : List Ev.TI} (hs : Ev.Sig (evE tx) g fn ts rs) (hlg : m'.lg = []) {s : Ev.Sg} {h0 : Nat} {w : World} (hst : EvIn tx m s h0 w) (hz : h0 ≤ w.heap.size) {args : Array Value} (hA : Ev.ArgsAre tx s ts 1 a args.toList) :
 Calls Tryz.prog g args w fun e w' => ∃ s' u, e = .returned u ∧ EvIn tx ⟨m'.h, m'.nx, []⟩ s' h0 w' ∧ Ev.VR tx s' (Ev.retSh rs) v u ∧ Below w.heap.size w w' := by
 obtain ⟨⟨X, h1⟩, h2⟩ := hst
 refine Calls.mono (h.use hs.f hs.t hs.r hlg h1 hA) ?_
 rintro e w' ⟨s', X', u, rfl, h3, h4, h5, h6, h7⟩
 refine ⟨s', u, rfl, ⟨⟨X', h3.lg []⟩, fun i b k e => ⟨?_, h3.rel.lt i b k e⟩⟩, h4, h5⟩
 cases e' : s i with
 | none => exact Nat.le_trans hz (h7 i b k e e')
 | some x =>
  obtain ⟨b', k'⟩ := x
  have := h6 i _ e'
  rw [e] at this
  cases this
  exact (h2 i _ _ e').1
theorem storedSix {w : World} {n : Nat} {T : TypeId} {a0 a1 a2 a3 a4 a5 : Value} (h : Row w n T #[a0, a1, a2, a3, a4, a5]) (v0 v1 v2 v3 v4 v5 : Value) : ∃ x, x = ((((((w.setCell ⟨n, 0, none⟩ v0).setCell ⟨n, 1, none⟩ v1).setCell ⟨n, 2, none⟩ v2).setCell ⟨n, 3, none⟩ v3).setCell ⟨n, 4, none⟩ v4).setCell ⟨n, 5, none⟩ v5) ∧ Hid (Row x n T #[v0, v1, v2, v3, v4, v5]) ∧ x.heap.size = w.heap.size ∧ Hid (Bx n w x) :=
 ⟨_, rfl, LH ((((((h.set 0 v0).set 1 v1).set 2 v2).set 3 v3).set 4 v4).set 5 v5), by simp [World.setCell], LH (((((((Bx.refl _ _).set (p := ⟨n, 0, none⟩) (.inl rfl) _).set (p := ⟨n, 1, none⟩) (.inl rfl) _).set (p := ⟨n, 2, none⟩) (.inl rfl) _).set (p := ⟨n, 3, none⟩) (.inl rfl) _).set (p := ⟨n, 4, none⟩) (.inl rfl) _).set (p := ⟨n, 5, none⟩) (.inl rfl) _)⟩
theorem len6 {α : Type} {l : List α} (h : l.length = 6) : ∃ a0 a1 a2 a3 a4 a5, l = [a0, a1, a2, a3, a4, a5] :=
 match l, h with
 | [a0, a1, a2, a3, a4, a5], _ => ⟨a0, a1, a2, a3, a4, a5, rfl⟩
theorem len11 {α : Type} {l : List α} (h : l.length = 11) : ∃ a0 a1 a2 a3 a4 a5 a6 a7 a8 a9 a10, l = [a0, a1, a2, a3, a4, a5, a6, a7, a8, a9, a10] :=
 match l, h with
 | [a0, a1, a2, a3, a4, a5, a6, a7, a8, a9, a10], _ => ⟨a0, a1, a2, a3, a4, a5, a6, a7, a8, a9, a10, rfl⟩
theorem twoParts {tx : Ev.Tx} {s : Ev.Sg} {k v : Nat} {u : Value} (h : Ev.VR tx s (.t [(k, true), (1, false)]) v u) : ∃ (cs : List Value) (q : Value), u = .tuple #[.agg cs.toArray, q] ∧ cs.length = k ∧ Ev.VR tx s (.g k) (Ev.spn v (72 * 0) (Ev.mk k)) (.agg cs.toArray) := by
 obtain ⟨vs, p, e1, e2, e3⟩ := Ev.part_at h (i := 0) (x := (0, k, true)) rfl
 obtain ⟨vs', e4, q, r, rfl, -, q', r', rfl, -, rfl, -⟩ := h
 rw [e4] at e1
 cases e1
 obtain ⟨cs, rfl, h6⟩ := e3
 have : q = .agg cs.toArray := by simpa using e2
 subst this
 exact ⟨cs, q', e4, h6.1, cs, rfl, h6⟩
theorem storeOne {u : Value} (h : u.oneCell' = true) (b : Addr) (m : Mode) (W : World) : (store b u m).run Tryz.prog W = stored Tryz.prog W b u m := run_store _ W b u m h
theorem vrOne {tx : Ev.Tx} {s : Ev.Sg} {k c : Nat} {cs : List Value} (h : Ev.VR tx s (.g k) c (.agg cs.toArray)) : ∀ u ∈ cs, u.oneCell' = true := by
 obtain ⟨cs', e, h1, h2, h3⟩ := h
 have : cs = cs' := by simpa using e
 subst this
 intro u hu
 obtain ⟨i, hi, rfl⟩ := List.getElem_of_mem hu
 exact (h3 i hi).one.2
theorem drawRightE {l : List Int} {A : Option Addr} {c : Nat} {g : Nat} {w0 w : World} (hm0 : Dm l A c g w0 w) :
 Calls Tryz.prog 53 #[.pointer (some ⟨g, 0, none⟩)] w fun e w' => ∃ tx v1 m1 v2 m2 v3 m3 s a0 a1 a2 a3 a4 a5, e = .returned (.agg #[a0, a1, a2, a3, a4, a5]) ∧ T3 tx v1 m1 v2 m2 v3 m3 ∧ Ev.VR tx s (.g 6) (Ev.spn v1 (72 * 0) (Ev.mk 6)) (.agg #[a0, a1, a2, a3, a4, a5]) ∧ EvIn tx ⟨m1.h, m1.nx, []⟩ s w.heap.size w' ∧ Dm l A c g w w' := by
 have hm := hm0.again
 clear hm0
 have hgl := hm.lt
 have M0 := LH hm
 clear hm
 go_enter Tryz.func53, Tryz.ntmps53
 refine wp_hide (fun BP hBP => ?_)
 have HBP := LH hBP
 clear hBP
 go_wp2_with fail
 obtain ⟨w1, e1, Rr1, hz1, K1⟩ := boxed w 64 #[.slice none 0 0, .int .i64 0, .int .i64 0, .string ⟨#[]⟩, .string ⟨#[]⟩, .slice none 0 0]
 have M1 := LH (M0.out.chg K1.out (by omega) (by omega))
 rw [← e1]
 clear e1
 refine (drawSourceE M1.out).mono ?_
 rintro e w2 ⟨s0, rfl, hs, hm2⟩
 have hz2 := hm2.size
 have K2 := LH hm2.bx
 have Rr2 := LH (K2.out.row Rr1.out (by omega))
 have M2 := LH (M1.out.trans hm2)
 clear Rr1 M1
 clear hm2
 obtain ⟨tx, rfl, ht3⟩ := hs
 obtain ⟨v1, m1, v2, m2, v3, m3, hF, hl1, hl2, hl3, c1, c2, c3⟩ := ht3.ok
 have HT := LH (show T3 tx v1 m1 v2 m2 v3 m3 from ⟨ht3.n1, ht3.n2, hF, hl1, hl2, hl3, c1, c2, c3⟩)
 have HC := LH (EvIn.use (args := #[.string ⟨⟨Ev.txL tx 0 tx.n⟩⟩]) c1 (sigP tx) hl1 (EvIn.start tx w2 w2.heap.size) (Nat.le_refl _) (Ev.text_arg tiS.1 tiS.2 ht3.n1 ht3.n2))
 clear ht3 hF hl1 hl2 hl3 c1 c2 c3
 go_wp2_with fail
 refine HC.out.mono ?_
 clear HC
 rintro e w3 ⟨s, u, rfl, hst, hv, hb3⟩
 rw [shP1] at hv
 obtain ⟨cs, q, rfl, hlen, hv⟩ := twoParts hv
 obtain ⟨a0, a1, a2, a3, a4, a5, rfl⟩ := len6 hlen
 clear hlen
 have hu := vrOne hv
 have s0 := storeOne (hu a0 (by simp))
 have s1 := storeOne (hu a1 (by simp))
 have s2 := storeOne (hu a2 (by simp))
 have s3 := storeOne (hu a3 (by simp))
 have s4 := storeOne (hu a4 (by simp))
 have s5 := storeOne (hu a5 (by simp))
 clear hu
 have hz3 := hb3.size
 have K3 := LH (Bx.of_below (g := g) hb3 (Nat.le_refl _))
 have Rr3 := LH (K3.out.row Rr2.out (by omega))
 have M3 := LH (M2.out.below hb3)
 have HV := LH hv
 have HS3 := LH hst
 clear Rr2 M2 hv hst hb3
 go_upto_region 2 with (fail)
 obtain ⟨w4, e4, Rp4, hz4, K4⟩ := boxed w3 64 #[a0, a1, a2, a3, a4, a5]
 have Rr4 := LH (K4.out.row Rr3.out (by omega))
 have HS4 := LH (HS3.out.keep (w' := w4) (by omega) fun b h1 h2 => K4.out.block b h2 (by omega))
 have M4 := LH (M3.out.chg K4.out (by omega) (by omega))
 clear Rr3 M3 HS3
 rw [← e4]
 clear e4
 have hlu4 := M4.out.lt
 have hcr4 := fun i => Rr4.out.cell i
 have hfr4 := fun i => Rr4.out.frozen i
 have hlr4 := Rr4.out.lt
 have hcp4 := fun i => Rp4.out.cell i
 have hfp4 := fun i => Rp4.out.frozen i
 have hlp4 := Rp4.out.lt
 go_wp2_with fail
 clear hlu4 hcr4 hfr4 hlr4 hcp4 hfp4 hlp4
 obtain ⟨w5, e5, RN5, hz5, K5⟩ := storedSix Rr4.out a0 a1 a2 a3 a4 a5
 have HS5 := LH (HS4.out.keep (w' := w5) (by omega) fun b h1 h2 => K5.out.block b h2 (by omega))
 have M5 := LH (M4.out.chg K5.out (by omega) (by omega))
 clear M4 HS4
 clear Rr4
 rw [← e5]
 clear e5
 have hcr5 := fun i => RN5.out.cell i
 show BP _ _
 rw [HBP.out]
 refine bodyPost_ret (v := .agg #[a0, a1, a2, a3, a4, a5]) (by simp [results, Tryz.results53, go_sem, hcr5]) rfl ?_
 exact ⟨tx, v1, m1, v2, m2, v3, m3, s, a0, a1, a2, a3, a4, a5, rfl, HT.out, HV.out, HS5.out.mono (by omega), M5.out⟩
theorem storedEleven {w : World} {n : Nat} {T : TypeId} {x0 x1 x2 x3 x4 x5 x6 x7 x8 x9 x10 : Value} (h : Row w n T #[x0, x1, x2, x3, x4, x5, x6, x7, x8, x9, x10]) (y0 y1 y2 y3 y4 y5 y6 y7 y8 y9 y10 : Value) : ∃ x, x = (((((((((((w.setCell ⟨n, 0, none⟩ y0).setCell ⟨n, 1, none⟩ y1).setCell ⟨n, 2, none⟩ y2).setCell ⟨n, 3, none⟩ y3).setCell ⟨n, 4, none⟩ y4).setCell ⟨n, 5, none⟩ y5).setCell ⟨n, 6, none⟩ y6).setCell ⟨n, 7, none⟩ y7).setCell ⟨n, 8, none⟩ y8).setCell ⟨n, 9, none⟩ y9).setCell ⟨n, 10, none⟩ y10) ∧ Hid (Row x n T #[y0, y1, y2, y3, y4, y5, y6, y7, y8, y9, y10]) ∧ x.heap.size = w.heap.size ∧ Hid (Bx n w x) := by
 obtain ⟨u0, e0, r0, z0, k0⟩ := storedF h 0 y0
 have q0 : Row u0 n T #[y0, x1, x2, x3, x4, x5, x6, x7, x8, x9, x10] := r0.out
 clear r0
 obtain ⟨u1, e1, r1, z1, k1⟩ := storedF q0 1 y1
 have q1 : Row u1 n T #[y0, y1, x2, x3, x4, x5, x6, x7, x8, x9, x10] := r1.out
 clear r1
 obtain ⟨u2, e2, r2, z2, k2⟩ := storedF q1 2 y2
 have q2 : Row u2 n T #[y0, y1, y2, x3, x4, x5, x6, x7, x8, x9, x10] := r2.out
 clear r2
 obtain ⟨u3, e3, r3, z3, k3⟩ := storedF q2 3 y3
 have q3 : Row u3 n T #[y0, y1, y2, y3, x4, x5, x6, x7, x8, x9, x10] := r3.out
 clear r3
 obtain ⟨u4, e4, r4, z4, k4⟩ := storedF q3 4 y4
 have q4 : Row u4 n T #[y0, y1, y2, y3, y4, x5, x6, x7, x8, x9, x10] := r4.out
 clear r4
 obtain ⟨u5, e5, r5, z5, k5⟩ := storedF q4 5 y5
 have q5 : Row u5 n T #[y0, y1, y2, y3, y4, y5, x6, x7, x8, x9, x10] := r5.out
 clear r5
 obtain ⟨u6, e6, r6, z6, k6⟩ := storedF q5 6 y6
 have q6 : Row u6 n T #[y0, y1, y2, y3, y4, y5, y6, x7, x8, x9, x10] := r6.out
 clear r6
 obtain ⟨u7, e7, r7, z7, k7⟩ := storedF q6 7 y7
 have q7 : Row u7 n T #[y0, y1, y2, y3, y4, y5, y6, y7, x8, x9, x10] := r7.out
 clear r7
 obtain ⟨u8, e8, r8, z8, k8⟩ := storedF q7 8 y8
 have q8 : Row u8 n T #[y0, y1, y2, y3, y4, y5, y6, y7, y8, x9, x10] := r8.out
 clear r8
 obtain ⟨u9, e9, r9, z9, k9⟩ := storedF q8 9 y9
 have q9 : Row u9 n T #[y0, y1, y2, y3, y4, y5, y6, y7, y8, y9, x10] := r9.out
 clear r9
 obtain ⟨u10, e10, r10, z10, k10⟩ := storedF q9 10 y10
 have q10 : Row u10 n T #[y0, y1, y2, y3, y4, y5, y6, y7, y8, y9, y10] := r10.out
 clear r10
 refine ⟨u10, ?_, LH q10, by omega, LH ((((((((((k0.out.trans k1.out).trans k2.out).trans k3.out).trans k4.out).trans k5.out).trans k6.out).trans k7.out).trans k8.out).trans k9.out).trans k10.out)⟩
 rw [e10, e9, e8, e7, e6, e5, e4, e3, e2, e1, e0]
theorem drawTyped {l : List Int} {A : Option Addr} {c : Nat} {g : Nat} {w0 w : World} (hm0 : Dm l A c g w0 w) :
 Calls Tryz.prog 46 #[.pointer (some ⟨g, 0, none⟩)] w fun e w' => ∃ tx v1 m1 v2 m2 v3 m3 s a0 a1 a2 a3 a4 a5 b0 b1 b2 b3 b4 b5 b6 b7 b8 b9 b10, e = .returned (.tuple #[.agg #[a0, a1, a2, a3, a4, a5], .agg #[b0, b1, b2, b3, b4, b5, b6, b7, b8, b9, b10]]) ∧ T3 tx v1 m1 v2 m2 v3 m3 ∧ (∀ u ∈ [a0, a1, a2, a3, a4, a5], u.oneCell' = true) ∧ Ev.VR tx s (.g 11) (Ev.spn v2 (72 * 0) (Ev.mk 11)) (.agg #[b0, b1, b2, b3, b4, b5, b6, b7, b8, b9, b10]) ∧ EvIn tx ⟨m2.h, m2.nx, []⟩ s w.heap.size w' ∧ Dm l A c g w w' := by
 have hm := hm0.again
 clear hm0
 have hgl := hm.lt
 have M0 := LH hm
 clear hm
 go_enter Tryz.func46, Tryz.ntmps46
 refine wp_hide (fun BP hBP => ?_)
 have HBP := LH hBP
 clear hBP
 go_wp2_with fail
 obtain ⟨w1, e1, Rr1, hz1, K1⟩ := boxed w 64 #[.slice none 0 0, .int .i64 0, .int .i64 0, .string ⟨#[]⟩, .string ⟨#[]⟩, .slice none 0 0]
 have M1 := LH (M0.out.chg K1.out (by omega) (by omega))
 rw [← e1]
 clear e1
 obtain ⟨w2, e2, Rq2, hz2, K2⟩ := boxed w1 40 #[.int .i64 0, .int .i64 0, .string ⟨#[]⟩, .string ⟨#[]⟩, .int .i64 0, .int .i64 0, .string ⟨#[]⟩, .slice none 0 0, .slice none 0 0, .slice none 0 0, .slice none 0 0]
 have Rr2 := LH (K2.out.row Rr1.out (by omega))
 have M2 := LH (M1.out.chg K2.out (by omega) (by omega))
 have hw1 : w1.heap.size = w.heap.size + 1 := hz1
 rw [hz1] at Rq2
 rw [← e2]
 clear e2 Rr1 M1 K1 K2
 refine (drawRightE M2.out).mono ?_
 rintro e w3 ⟨tx, v1, m1, v2, m2, v3, m3, s, a0, a1, a2, a3, a4, a5, rfl, hT, hv, hst, hm3⟩
 have hz3 := hm3.size
 have K3 := LH hm3.bx
 have Rr3 := LH (K3.out.row Rr2.out (by omega))
 have Rq3 := LH (K3.out.row Rq2.out (by omega))
 have M3 := LH (M2.out.trans hm3)
 have HT := LH hT
 have HV := LH hv
 have HS3 := LH hst
 have hu := vrOne (cs := [a0, a1, a2, a3, a4, a5]) hv
 have HU := LH hu
 have s0 := storeOne (hu a0 (by simp))
 have s1 := storeOne (hu a1 (by simp))
 have s2 := storeOne (hu a2 (by simp))
 have s3 := storeOne (hu a3 (by simp))
 have s4 := storeOne (hu a4 (by simp))
 have s5 := storeOne (hu a5 (by simp))
 clear Rr2 Rq2 M2 hm3 hT hv hst hu
 go_wp2_with fail
 obtain ⟨w4, e4, Rp4, hz4, K4⟩ := boxed w3 64 #[a0, a1, a2, a3, a4, a5]
 have Rr4 := LH (K4.out.row Rr3.out (by omega))
 have Rq4 := LH (K4.out.row Rq3.out (by omega))
 have HS4 := LH (HS3.out.keep (w' := w4) (by omega) fun b h1 h2 => K4.out.block b h2 (by omega))
 have M4 := LH (M3.out.chg K4.out (by omega) (by omega))
 clear Rr3 Rq3 M3 HS3
 rw [← e4]
 clear e4
 obtain ⟨n1, n2, hF, hl1, hl2, hl3, c1, c2, c3⟩ := id HT.out
 have HC := LH (EvIn.use (args := #[.agg #[a0, a1, a2, a3, a4, a5]]) c2 (sigI tx) hl2 HS4.out (by omega) (Ev.part_arg tiP.1 tiP.2 HV.out))
 clear n1 n2 hF hl1 hl2 hl3 c1 c2 c3 HS4 HV
 have hcp4 := fun i => Rp4.out.cell i
 have hfp4 := fun i => Rp4.out.frozen i
 have hlp4 := Rp4.out.lt
 go_wp2_with fail
 clear hcp4 hfp4 hlp4
 refine HC.out.mono ?_
 clear HC
 rintro e w5 ⟨s', u, rfl, hst, hv, hb5⟩
 rw [shI1] at hv
 obtain ⟨cs, q, rfl, hlen, hv⟩ := twoParts hv
 obtain ⟨b0, b1, b2, b3, b4, b5, b6, b7, b8, b9, b10, rfl⟩ := len11 hlen
 clear hlen
 have hu := vrOne hv
 have t0 := storeOne (hu b0 (by simp))
 have t1 := storeOne (hu b1 (by simp))
 have t2 := storeOne (hu b2 (by simp))
 have t3 := storeOne (hu b3 (by simp))
 have t4 := storeOne (hu b4 (by simp))
 have t5 := storeOne (hu b5 (by simp))
 have t6 := storeOne (hu b6 (by simp))
 have t7 := storeOne (hu b7 (by simp))
 have t8 := storeOne (hu b8 (by simp))
 have t9 := storeOne (hu b9 (by simp))
 have t10 := storeOne (hu b10 (by simp))
 clear hu
 have hz5 := hb5.size
 have K5 := LH (Bx.of_below (g := g) hb5 (Nat.le_refl _))
 have Rr5 := LH (K5.out.row Rr4.out (by omega))
 have Rq5 := LH (K5.out.row Rq4.out (by omega))
 have Rp5 := LH (K5.out.row Rp4.out (by omega))
 have M5 := LH (M4.out.below hb5)
 have HV := LH hv
 have HS5 := LH hst
 clear Rr4 Rq4 Rp4 M4 hv hst hb5
 go_upto_region 3 with (fail)
 obtain ⟨w6, e6, Rt6, hz6, K6⟩ := boxed w5 40 #[b0, b1, b2, b3, b4, b5, b6, b7, b8, b9, b10]
 have Rr6 := LH (K6.out.row Rr5.out (by omega))
 have Rq6 := LH (K6.out.row Rq5.out (by omega))
 have Rp6 := LH (K6.out.row Rp5.out (by omega))
 have HS6 := LH (HS5.out.keep (w' := w6) (by omega) fun b h1 h2 => K6.out.block b h2 (by omega))
 have M6 := LH (M5.out.chg K6.out (by omega) (by omega))
 clear Rr5 Rq5 Rp5 M5 HS5
 rw [← e6]
 clear e6
 refine wp_region_T (fun x => Row x w3.heap.size 64 #[a0, a1, a2, a3, a4, a5] ∧ Row x w5.heap.size 40 #[b0, b1, b2, b3, b4, b5, b6, b7, b8, b9, b10]) 100 (by kernel_rfl) ?_
 obtain ⟨w7, e7⟩ : ∃ x, x = w6.drew := ⟨_, rfl⟩
 rw [← e7]
 have K7 := LH (show Below w6.heap.size w6 w7 by rw [e7]; exact (Below.refl _ _).drew)
 have hz7 : w7.heap.size ≤ w6.heap.size ∧ w6.heap.size ≤ w7.heap.size := by rw [e7]; exact ⟨Nat.le_refl _, Nat.le_refl _⟩
 clear e7
 have Rr7 := LH (Rr6.out.below K7.out (by omega))
 have Rq7 := LH (Rq6.out.below K7.out (by omega))
 have Rp7 := Rp6.out.below K7.out (by omega)
 have Rt7 := Rt6.out.below K7.out (by omega)
 have HS7 := LH (HS6.out.keep (w' := w7) (by omega) fun b h1 h2 => K7.out.block b h2)
 have M7 := LH (M6.out.below K7.out)
 clear Rr6 Rq6 Rp6 Rt6 M6 HS6
 refine wpAnyT_tk (i := 0) (oi := _) (v := ?tv1) rfl (Or.inl ⟨by rfl, ?th1⟩) ⟨Rp7, Rt7⟩ ?_
 case th1 => (intro x hSx; have hcS := fun i => hSx.1.cell i; clear hSx; go_simp; (try with_reducible rfl))
 try simp only [List.getElem_toArray, List.getElem_cons_succ, List.getElem_cons_zero, Act.put, List.setIfInBounds_toArray, List.set_cons_zero, List.set_cons_succ]
 refine wpAnyT_tk (i := 1) (oi := _) (v := ?tv2) rfl (Or.inl ⟨by rfl, ?th2⟩) ⟨Rp7, Rt7⟩ ?_
 case th2 => (intro x hSx; have hcS := fun i => hSx.2.cell i; clear hSx; go_simp; (try with_reducible rfl))
 try simp only [List.getElem_toArray, List.getElem_cons_succ, List.getElem_cons_zero, Act.put, List.setIfInBounds_toArray, List.set_cons_zero, List.set_cons_succ]
 have hcr7 := fun i => Rr7.out.cell i
 have hfr7 := fun i => Rr7.out.frozen i
 have hlr7 := Rr7.out.lt
 refine wpAnyT_step (i := 2) (by kernel_rfl) rfl (fun K hK => ?_)
 try simp only [List.getElem_toArray, List.getElem_cons_succ, List.getElem_cons_zero]
 go_simp
 obtain ⟨w8, e8, Rr8, hz8, K8⟩ := storedSix Rr7.out a0 a1 a2 a3 a4 a5
 rw [← e8]
 clear e8 hcr7 hfr7
 have Rp8 := K8.out.row Rp7 (by omega)
 have Rt8 := K8.out.row Rt7 (by omega)
 have Rq8 := LH (K8.out.row Rq7.out (by omega))
 have HS8 := LH (HS7.out.keep (w' := w8) (by omega) fun b h1 h2 => K8.out.block b h2 (by omega))
 have M8 := LH (M7.out.chg K8.out (by omega) (by omega))
 clear Rr7 Rq7 M7 HS7
 refine hK.out _ _ ⟨Rp8, Rt8⟩ (fun _ => ?_)
 clear hK K
 try simp only [List.getElem_toArray, List.getElem_cons_succ, List.getElem_cons_zero, Act.put, List.setIfInBounds_toArray, List.set_cons_zero, List.set_cons_succ]
 have hcq8 := fun i => Rq8.out.cell i
 have hfq8 := fun i => Rq8.out.frozen i
 have hlq8 := Rq8.out.lt
 refine wpAnyT_step (i := 3) (by kernel_rfl) rfl (fun K hK => ?_)
 try simp only [List.getElem_toArray, List.getElem_cons_succ, List.getElem_cons_zero]
 go_simp
 obtain ⟨w9, e9, Rq9, hz9, K9⟩ := storedEleven Rq8.out b0 b1 b2 b3 b4 b5 b6 b7 b8 b9 b10
 rw [← e9]
 clear e9 hcq8 hfq8
 have Rp9 := K9.out.row Rp8 (by omega)
 have Rt9 := K9.out.row Rt8 (by omega)
 have Rr9 := LH (K9.out.row Rr8.out (by omega))
 have HS9 := LH (HS8.out.keep (w' := w9) (by omega) fun b h1 h2 => K9.out.block b h2 (by omega))
 have M9 := LH (M8.out.chg K9.out (by omega) (by omega))
 clear Rr8 Rq8 M8 HS8
 refine hK.out _ _ ⟨Rp9, Rt9⟩ (fun _ => ?_)
 refine wpAnyT_done (by kernel_rfl) ?_ _
 clear hK K Rp7 Rt7 Rp8 Rt8 Rp9 Rt9
 have hcr9 := fun i => Rr9.out.cell i
 have hcq9 := fun i => Rq9.out.cell i
 go_wp2_with fail
 show BP _ _
 rw [HBP.out]
 refine bodyPost_ret (v := .tuple #[.agg #[a0, a1, a2, a3, a4, a5], .agg #[b0, b1, b2, b3, b4, b5, b6, b7, b8, b9, b10]]) (by simp [results, Tryz.results46, go_sem, hcr9, hcq9]) rfl ?_
 exact ⟨tx, v1, m1, v2, m2, v3, m3, s', a0, a1, a2, a3, a4, a5, b0, b1, b2, b3, b4, b5, b6, b7, b8, b9, b10, rfl, HT.out, HU.out, HV.out, HS9.out.mono (by omega), M9.out⟩
theorem sumTo_ge (f : Nat → Nat) : ∀ n j, j < n → f j ≤ sumTo f n
 | n + 1, j, h => by
  show f j ≤ sumTo f n + f n
  by_cases e : j = n
  · subst e; exact Nat.le_add_left _ _
  · exact Nat.le_trans (sumTo_ge f n j (by omega)) (Nat.le_add_right _ _)
def Pt0 (lo : Nat) (w : World) (f b off ν : Nat) : Prop := PtOk lo w (fun _ => False) 100 8 2400 f b off ν ∧ ν ≤ 250 ∧ lo ≤ b
theorem Pt0.kids {lo : Nat} {w : World} {f nb off ν : Nat} (h : Pt0 lo w f nb off ν) : ∃ A n c, w.cell? ⟨nb, off + 10, none⟩ = some (.slice A n c) ∧ n ≤ 250 ∧ ∀ m, m < n → ∃ b3, A = some ⟨b3, 0, none⟩ ∧ ∃ f' ν', Pt0 lo w f' b3 (m * 11) ν' := by
 obtain ⟨⟨cs, hr, ho, hnd, u, hu, hk⟩, hν, hlo⟩ := h
 have hc : w.cell? ⟨nb, off + 10, none⟩ = some u := (hr.cell _).trans hu
 cases f with
 | zero => exact hk.elim
 | succ f =>
  rcases hk with rfl | ⟨b, n, c, cs', rfl, h2, h3, h4, h5, ks, h6, h7⟩
  · exact ⟨none, 0, 0, hc, by omega, fun m hm => absurd hm (Nat.not_lt_zero _)⟩
  · have hn := sumTo_len ks n
    refine ⟨_, n, c, hc, by omega, fun m hm => ⟨b, rfl, f, ks m, ⟨cs', h2, by omega, (h6 m hm).1, (h6 m hm).2⟩, ?_, h2.1⟩⟩
    have := sumTo_ge (fun j => 1 + ks j) n m hm
    omega
theorem Pt0.dm {lo : Nat} {l : List Int} {A : Option Addr} {c g : Nat} {a w w' : World} {f nb off ν : Nat} (h : Pt0 lo w f nb off ν) (hm : Dm l A c g a w) (k : Dm l A c g w w') : Pt0 lo w' f nb off ν := by
 obtain ⟨i, z, hc⟩ := hm.cur
 have hne : ∀ b t cs, (t = 3 ∨ t = 27 ∨ t = 40) → RwL lo w b t cs → w'.heap[b]? = w.heap[b]? := fun b t cs ht hr => k.bx.block b hr.lt.2 (by
   rintro rfl
   have := (rowSame hr.2 hc.row).1
   subst this
   revert ht; decide)
 exact ⟨h.1.turn ((Turn0.of_same (fun _ h => h.elim) fun b t cs ht hr => hne b t cs (by rcases ht with h | h <;> simp [h]) hr).same (Nat.le_refl _) fun b cs hr => hne b _ cs (.inr (.inr rfl)) hr), h.2⟩
theorem Pt0.cell {lo : Nat} {l : List Int} {A : Option Addr} {c g : Nat} {a w w' : World} {f nb off ν : Nat} (h : Pt0 lo w f nb off ν) (hm : Dm l A c g a w) (k : Dm l A c g w w') (i : Nat) : w'.cell? ⟨nb, i, none⟩ = w.cell? ⟨nb, i, none⟩ := by
 obtain ⟨j, z, hc⟩ := hm.cur
 obtain ⟨⟨cs, hr, -⟩, -⟩ := h
 refine World.cell?_of_block (a := ⟨nb, i, none⟩) (k.bx.block nb hr.lt.2 ?_)
 rintro rfl
 have := (rowSame hr.2 hc.row).1
 revert this; decide
theorem Pt0.below {lo : Nat} {w w' : World} {f nb off ν : Nat} (h : Pt0 lo w f nb off ν) (k : Below w.heap.size w w') : Pt0 lo w' f nb off ν :=
 ⟨h.1.turn ((Turn0.of_same (fun _ h => h.elim) fun b t cs ht hr => k.block b hr.lt.2).same (Nat.le_refl _) fun b cs hr => k.block b hr.lt.2), h.2⟩
theorem pickTyped {lo : Nat} {l : List Int} {A : Option Addr} {c : Nat} {g : Nat} {w0 w : World} {f0 b0 off0 ν0 : Nat} (hn : Pt0 lo w f0 b0 off0 ν0) (hm0 : Dm l A c g w0 w) :
 Calls Tryz.prog 48 #[.pointer (some ⟨g, 0, none⟩), .pointer (some ⟨b0, off0, none⟩)] w fun e w' => ∃ nb off f ν, e = .returned (.pointer (some ⟨nb, off, none⟩)) ∧ Pt0 lo w' f nb off ν ∧ Dm l A c g w w' := by
 have hm := hm0.again
 clear hm0
 have hgl := hm.lt
 have M0 := LH hm
 have N0 := LH hn
 clear hm hn
 go_enter Tryz.func48, Tryz.ntmps48
 refine wp_hide (fun BP hBP => ?_)
 have HBP := LH hBP
 clear hBP
 go_wp2_with fail
 go_loopw [1, 5] (fun x i wr => ∃ (k nb off f ν : Nat), i = .int .i64 k ∧ x = .pointer (some ⟨nb, off, none⟩) ∧ k ≤ 9 ∧ Hid (Pt0 lo wr f nb off ν) ∧ Hid (Dm l A c g w wr)) (fun _ i _ => 9 - (intOf i).toNat)
 case atStart => exact ⟨0, b0, off0, f0, ν0, by go_num, rfl, by omega, N0, M0⟩
 case round =>
  clear N0 M0
  obtain ⟨k, nb, off, f, ν, rfl, rfl, hk, HN, HM⟩ := hrel
  have hzr := HM.out.size
  have hwk : IntKind.i64.wrap ((k : Int) + 1) = (k : Int) + 1 := (IntWalk.i64_left _).trans (IntWalk.wrap64_in ((k : Int) + 1) (by omega))
  obtain ⟨A3, n3, c3, hc4, hn3, hk3⟩ := HN.out.kids
  by_cases hk9 : k < 9
  ·
   have hki : (k : Int) < 9 := by omega
   have dk : decide ((k : Int) < 9) = true := decide_eq_true hki
   by_cases h0 : 0 < n3
   ·
    have hni : (0 : Int) < (n3 : Int) := by omega
    have dn : decide ((0 : Int) < (n3 : Int)) = true := decide_eq_true hni
    go_wp2_with fail
    refine (drawOnceD HM.out 5 (by omega) (by omega)).mono ?_
    rintro e w2 ⟨b1, rfl, hm2⟩
    have hz2 := hm2.size
    have M2 := LH (HM.out.trans hm2)
    have N2 := LH (HN.out.dm HM.out hm2)
    have hc2 := (HN.out.cell HM.out hm2 (off + 10)).trans hc4
    cases b1
    ·
     obtain ⟨b3, rfl, -⟩ := hk3 0 h0
     replace hk3 : ∀ m, m < n3 → ∃ f' ν', Pt0 lo w2 f' b3 (m * 11) ν' := fun m hm => by
      obtain ⟨b3', e3, f', ν', h'⟩ := hk3 m hm
      cases e3
      exact ⟨f', ν', h'.dm HM.out hm2⟩
     clear hm2 HM HN hc4
     go_wp2_with fail
     refine wp_region_T (fun x => x.cell? ⟨nb, off + 10, none⟩ = some (.slice (some ⟨b3, 0, none⟩) n3 c3)) 100 (by kernel_rfl) ?_
     obtain ⟨w3, e3⟩ : ∃ x, x = w2.drew := ⟨_, rfl⟩
     rw [← e3]
     have K3 := LH (show Below w2.heap.size w2 w3 by rw [e3]; exact (Below.refl _ _).drew)
     have hz3 : w3.heap.size ≤ w2.heap.size ∧ w2.heap.size ≤ w3.heap.size := by rw [e3]; exact ⟨Nat.le_refl _, Nat.le_refl _⟩
     have hS1 : w3.cell? ⟨nb, off + 10, none⟩ = some (.slice (some ⟨b3, 0, none⟩) n3 c3) := by rw [e3]; exact hc2
     clear e3
     have M3 := LH (M2.out.below K3.out)
     have N3 := LH (N2.out.below K3.out)
     replace hk3 : ∀ m, m < n3 → ∃ f' ν', Pt0 lo w3 f' b3 (m * 11) ν' := fun m hm => by
      obtain ⟨f', ν', h'⟩ := hk3 m hm
      exact ⟨f', ν', h'.below K3.out⟩
     clear hc2 M2 N2 K3
     refine wpAnyT_tk (i := 0) (oi := _) (v := ?tv1) rfl (Or.inl ⟨by rfl, ?th1⟩) hS1 ?_
     case th1 => (intro x hSx; (try dsimp only at hSx); go_simp; (try with_reducible rfl))
     try simp only [List.getElem_toArray, List.getElem_cons_succ, List.getElem_cons_zero, Act.put, List.setIfInBounds_toArray, List.set_cons_zero, List.set_cons_succ]
     refine wpAnyT_tk (i := 1) (oi := _) (v := ?tv2) rfl (Or.inl ⟨by rfl, ?th2⟩) hS1 ?_
     case th2 => (intro x hSx; (try dsimp only at hSx); go_simp; (try with_reducible rfl))
     try simp only [List.getElem_toArray, List.getElem_cons_succ, List.getElem_cons_zero, Act.put, List.setIfInBounds_toArray, List.set_cons_zero, List.set_cons_succ]
     refine wpAnyT_tk (i := 2) (oi := _) (v := ?tv3) rfl (Or.inl ⟨by rfl, ?th3⟩) hS1 ?_
     case th3 => (intro x hSx; (try dsimp only at hSx); go_simp; (try with_reducible rfl))
     try simp only [List.getElem_toArray, List.getElem_cons_succ, List.getElem_cons_zero, Act.put, List.setIfInBounds_toArray, List.set_cons_zero, List.set_cons_succ]
     refine wpAnyT_tk (i := 3) (oi := _) (v := ?tv4) rfl (Or.inl ⟨by rfl, ?th4⟩) hS1 ?_
     case th4 => (intro x hSx; (try dsimp only at hSx); go_simp; (try with_reducible rfl))
     try simp only [List.getElem_toArray, List.getElem_cons_succ, List.getElem_cons_zero, Act.put, List.setIfInBounds_toArray, List.set_cons_zero, List.set_cons_succ]
     refine wpAnyT_tk (i := 4) (oi := _) (v := ?tv5) rfl (Or.inl ⟨by rfl, ?th5⟩) hS1 ?_
     case th5 => (intro x hSx; (try dsimp only at hSx); go_simp; (try with_reducible rfl))
     try simp only [List.getElem_toArray, List.getElem_cons_succ, List.getElem_cons_zero, Act.put, List.setIfInBounds_toArray, List.set_cons_zero, List.set_cons_succ]
     refine wpAnyT_tk (i := 5) (oi := _) (v := ?tv6) rfl (Or.inl ⟨by rfl, ?th6⟩) hS1 ?_
     case th6 => (intro x hSx; (try dsimp only at hSx); go_simp; (try with_reducible rfl))
     try simp only [List.getElem_toArray, List.getElem_cons_succ, List.getElem_cons_zero, Act.put, List.setIfInBounds_toArray, List.set_cons_zero, List.set_cons_succ]
     refine wpAnyT_tk (i := 6) (oi := _) (v := ?tv7) rfl (Or.inl ⟨by rfl, ?th7⟩) hS1 ?_
     case th7 => (intro x hSx; (try dsimp only at hSx); go_simp; (try with_reducible rfl))
     try simp only [List.getElem_toArray, List.getElem_cons_succ, List.getElem_cons_zero, Act.put, List.setIfInBounds_toArray, List.set_cons_zero, List.set_cons_succ]
     refine wpAnyT_tk (i := 7) (oi := _) (v := ?tv8) rfl (Or.inl ⟨by rfl, ?th8⟩) hS1 ?_
     case th8 => (intro x hSx; (try dsimp only at hSx); go_simp; (try with_reducible rfl))
     try simp only [List.getElem_toArray, List.getElem_cons_succ, List.getElem_cons_zero, Act.put, List.setIfInBounds_toArray, List.set_cons_zero, List.set_cons_succ]
     refine wpAnyT_tk (i := 8) (oi := _) (v := ?tv9) rfl (Or.inl ⟨by rfl, ?th9⟩) hS1 ?_
     case th9 => (intro x hSx; (try dsimp only at hSx); go_simp; (try with_reducible rfl))
     try simp only [List.getElem_toArray, List.getElem_cons_succ, List.getElem_cons_zero, Act.put, List.setIfInBounds_toArray, List.set_cons_zero, List.set_cons_succ]
     refine wpAnyT_tk (i := 9) (oi := _) (v := ?tv10) rfl (Or.inl ⟨by rfl, ?th10⟩) hS1 ?_
     case th10 => (intro x hSx; (try dsimp only at hSx); go_simp; (try with_reducible rfl))
     try simp only [List.getElem_toArray, List.getElem_cons_succ, List.getElem_cons_zero, Act.put, List.setIfInBounds_toArray, List.set_cons_zero, List.set_cons_succ]
     refine wpAnyT_step (i := 10) (by kernel_rfl) rfl (fun K hK => ?_)
     try simp only [List.getElem_toArray, List.getElem_cons_succ, List.getElem_cons_zero]
     go_simp
     refine (drawBelowD M3.out (n3 : Int) (by omega) (by omega)).mono ?_
     rintro e w4 ⟨x, rfl, hx, hm4⟩
     have hz4 := hm4.size
     have M4 := LH (M3.out.trans hm4)
     have hS2 := (N3.out.cell M3.out hm4 (off + 10)).trans hS1
     obtain ⟨m, hm⟩ : ∃ m : Nat, x = (m : Int) := ⟨x.toNat, by omega⟩
     subst hm
     have hml : m < n3 := by omega
     obtain ⟨f', ν', h'⟩ := hk3 m hml
     have N5 := LH (h'.dm M3.out hm4)
     clear hm4 M3 N3 h' hk3
     try simp only [List.getElem_toArray, List.getElem_cons_succ, List.getElem_cons_zero]
     go_simp
     refine hK.out _ _ hS2 (fun hS3 => ?_)
     clear hK K hS1 hS2
     try simp only [List.getElem_toArray, List.getElem_cons_succ, List.getElem_cons_zero, Act.put, List.setIfInBounds_toArray, List.set_cons_zero, List.set_cons_succ]
     refine wpAnyT_step (i := 11) (by kernel_rfl) rfl (fun K hK => ?_)
     try simp only [List.getElem_toArray, List.getElem_cons_succ, List.getElem_cons_zero]
     go_simp
     refine hK.out _ _ hS3 (fun hS4 => ?_)
     clear hK K hS3
     try simp only [List.getElem_toArray, List.getElem_cons_succ, List.getElem_cons_zero, Act.put, List.setIfInBounds_toArray, List.set_cons_zero, List.set_cons_succ]
     refine wpAnyT_step (i := 12) (by kernel_rfl) rfl (fun K hK => ?_)
     try simp only [List.getElem_toArray, List.getElem_cons_succ, List.getElem_cons_zero]
     go_simp
     refine hK.out _ _ hS4 (fun hS5 => ?_)
     clear hK K hS4
     try simp only [List.getElem_toArray, List.getElem_cons_succ, List.getElem_cons_zero, Act.put, List.setIfInBounds_toArray, List.set_cons_zero, List.set_cons_succ]
     refine wpAnyT_done (by kernel_rfl) ?_ _
     clear hS5
     go_wp2_with fail
     go_roundw
     case rel => exact ⟨k + 1, b3, m * 11, f', ν', by go_num, by simp, by omega, N5, M4⟩
     case measure => simp [intOf]; omega
    · go_wp2_with fail
      show BP _ _
      rw [HBP.out]
      refine bodyPost_ret (v := .pointer (some ⟨nb, off, none⟩)) (by simp [results, Tryz.results48, go_sem]) rfl ?_
      exact ⟨nb, off, f, ν, rfl, N2.out, M2.out⟩
   · have hni : ¬ (0 : Int) < (n3 : Int) := by omega
     have dn : decide ((0 : Int) < (n3 : Int)) = false := decide_eq_false hni
     go_wp2_with fail
     show BP _ _
     rw [HBP.out]
     refine bodyPost_ret (v := .pointer (some ⟨nb, off, none⟩)) (by simp [results, Tryz.results48, go_sem]) rfl ?_
     exact ⟨nb, off, f, ν, rfl, HN.out, HM.out⟩
  ·
   have hki : ¬ (k : Int) < 9 := by omega
   have dk : decide ((k : Int) < 9) = false := decide_eq_false hki
   go_wp2_with fail
   show BP _ _
   rw [HBP.out]
   refine bodyPost_ret (v := .pointer (some ⟨nb, off, none⟩)) (by simp [results, Tryz.results48, go_sem]) rfl ?_
   exact ⟨nb, off, f, ν, rfl, HN.out, HM.out⟩
end Go.Proofs.YtlpichogambpfaaGreat
namespace Go.Proofs.YtlpichogambpfaaGreat
set_option maxRecDepth 20000
set_option linter.unusedVariables false
set_option linter.unusedSimpArgs false
open Go.RowKit
end Go.Proofs.YtlpichogambpfaaGreat
namespace Go.Proofs.YtlpichogambpfaaGreat
set_option maxRecDepth 20000
set_option linter.unusedVariables false
set_option linter.unusedSimpArgs false
open Go.RowKit
set_option maxHeartbeats 1000000
theorem wfNat (n : Nat) (h : n ≤ 9223372036854775807) : (Lit.int .i64 (n : Int)).wf = true := by
 simp [Lit.wf, IntKind.min, IntKind.max, IntKind.signed, IntKind.bits]; omega
theorem int_elem {w : World} {S : Nat → Prop} {A : Option Addr} {c : Nat} {l : List Int} (h : Sl w S 1 A c (l.map (D.num .i64))) (i : Nat) (hi : i < l.length) :
 ∃ b off, A = some ⟨b, off, none⟩ ∧ S b ∧ w.cell? ⟨b, off + i, none⟩ = some (.int .i64 l[i]) ∧ (Lit.int .i64 l[i]).wf = true := by
 obtain ⟨b, off, cs, e, hb, hl, hc, hr⟩ := Sl.get h i (by simpa using hi)
 rw [List.getElem_map, D.rd_num] at hr
 obtain ⟨rfl, hw⟩ := hr
 exact ⟨b, off, e, hb, by simpa using hc 0 _ rfl, hw⟩
def rowI (l : List Int) : Array Value := (l.map (Value.int .i64)).toArray
theorem rowI_get {l : List Int} {k : Nat} (h : k < l.length) : (rowI l)[k]? = some (.int .i64 l[k]) := by
 unfold rowI; simp [h]
theorem wf_i64 {n : Int} (h1 : -9223372036854775808 ≤ n) (h2 : n ≤ 9223372036854775807) : (Lit.int .i64 n).wf = true := by
 simp [Lit.wf, IntKind.min, IntKind.max, IntKind.signed, IntKind.bits]; omega
theorem rowI_ownR {w : World} {b : Nat} : ∀ (l : List Int) (S : Nat → Prop) (off : Nat), (∀ x ∈ l, (Lit.int .i64 x).wf = true) → (∀ k (h : k < l.length), w.cell? ⟨b, off + k, none⟩ = some (.int .i64 l[k])) → D.ownR w 1 b (l.map (D.num .i64)) S off
 | [], _, _, _, _ => by simp only [List.map_nil, D.ownR]
 | x :: r, S, off, hw, hc => by
  simp only [List.map_cons, D.ownR]
  refine ⟨fun _ => False, S, [.int .i64 x], fun _ h => h.elim, fun _ h => h, rfl, fun j v hj => ?_, D.own_num.2 ⟨rfl, hw x (by simp)⟩, rowI_ownR r S (off + 1) (fun y hy => hw y (by simp [hy])) fun k h => ?_⟩
  · match j with
    | 0 => have := hc 0 (by simp); simp at hj; subst hj; simpa using this
    | j + 1 => simp at hj
  · have := hc (k + 1) (by simpa using h)
    rw [show off + 1 + k = off + (k + 1) by omega]
    simpa using this
theorem rowI_osl {w : World} {g B : Nat} {t : TypeId} {l : List Int} (h : Row w g t (rowI l)) (hB : B ≤ g) (hl : l.length ≤ maxLen) (hw : ∀ x ∈ l, (Lit.int .i64 x).wf = true) : Osl w (Btw B w.heap.size) 1 (some ⟨g, 0, none⟩) l.length (l.map (D.num .i64)) :=
 ⟨by simp, hl, .inr ⟨g, rfl, ⟨hB, h.lt⟩, fun o => h.frozen o, rowI_ownR l _ 0 hw fun k hk => by rw [Nat.zero_add, h.cell, rowI_get hk]⟩⟩
theorem rdC_int {w : World} {S : Nat → Prop} : ∀ (l : List Int), (∀ x ∈ l, (Lit.int .i64 x).wf = true) → rdC w 1 S (l.map (D.num .i64)) (l.map (Value.int .i64))
 | [], _ => rfl
 | x :: r, h => by
  simp only [List.map_cons, rdC]
  exact ⟨[.int .i64 x], r.map (Value.int .i64), rfl, rfl, D.rd_num.2 ⟨rfl, h x (by simp)⟩, rdC_int r fun y hy => h y (by simp [hy])⟩
end Go.Proofs.YtlpichogambpfaaGreat
