/- Texts of the claim LMostGeneral in one: SortL GOp Effect GFun Within OpOk FunsOk DepthsP Depths DepthsS FreeVars TySize FTy TyOk FInt. Conditions: none but bounds on sizes. -/
import Derived.Test.YtghldoiblbcacaaZLMostGeneral1
import Derived.Shelf.SortM.Plain
import Derived.Shelf.SortM.SortNone
import Derived.Test.YtghldoiblbcacaaZLMostGeneral0
import Derived.Test.YtghldoiblbcacaaRows
import Derived.Lib.Hide
import Derived.BigQuiet
import Derived.Deep.LoopGhost
import Derived.Deep.RegionHeld3
import Derived.IntWalk
import Derived.OwnWalk
import Derived.Deep.RegionLaw
import Derived.Sort.OwnSortedInts
/- The library's sort of numbers, laid in this program. Conditions: none. -/
namespace Go.Proofs.Ytghldoiblbcacaa
open Go.RowKit
set_option linter.unusedVariables false
set_option linter.unusedSimpArgs false

def sortRen : Go.Shelf.Ren := ⟨fun | 5 => 56  | 8 => 94  | 7 => 93  | 19 => 127  | 20 => 128  | 10 => 118  | 11 => 119  | 12 => 120  | 13 => 121  | 14 => 122  | 15 => 123  | 16 => 124  | 17 => 125  | 18 => 126  | 30 => 146  | 31 => 147  | 32 => 148  | 33 => 149  | 34 => 150  | 35 => 151  | 40 => 158 | n => n, fun | 23 => 42  | 25 => 3  | 3 => 3  | 32 => 138  | 22 => 42  | 0 => 0  | 44 => 170  | 46 => 172  | 4 => 4  | 36 => 162  | 35 => 161  | 41 => 167  | 5 => 5  | 9 => 9  | 53 => 185  | 57 => 189  | 63 => 197  | 64 => 141 | n => n, fun | n => n⟩
theorem sortLays : SlLaysM.n5 Try.prog sortRen :=
  { mixed := by kernel_rfl
    f5 := ⟨Try.f56.name, by decide, Try.func56.trans (congrArg some (by kernel_rfl))⟩
    f7 := ⟨Try.f93.name, by decide, Try.func93.trans (congrArg some (by kernel_rfl))⟩
    f8 := Try.func94.trans (congrArg some (by kernel_rfl))
    f10 := ⟨Try.f118.name, by decide, Try.func118.trans (congrArg some (by kernel_rfl))⟩
    f11 := ⟨Try.f119.name, by decide, Try.func119.trans (congrArg some (by kernel_rfl))⟩
    f12 := ⟨Try.f120.name, by decide, Try.func120.trans (congrArg some (by kernel_rfl))⟩
    f13 := ⟨Try.f121.name, by decide, Try.func121.trans (congrArg some (by kernel_rfl))⟩
    f14 := ⟨Try.f122.name, by decide, Try.func122.trans (congrArg some (by kernel_rfl))⟩
    f15 := ⟨Try.f123.name, by decide, Try.func123.trans (congrArg some (by kernel_rfl))⟩
    f16 := ⟨Try.f124.name, by decide, Try.func124.trans (congrArg some (by kernel_rfl))⟩
    f17 := ⟨Try.f125.name, by decide, Try.func125.trans (congrArg some (by kernel_rfl))⟩
    f18 := ⟨Try.f126.name, by decide, Try.func126.trans (congrArg some (by kernel_rfl))⟩
    f19 := Try.func127.trans (congrArg some (by kernel_rfl))
    f20 := Try.func128.trans (congrArg some (by kernel_rfl))
    f30 := ⟨Try.f146.name, by decide, Try.func146.trans (congrArg some (by kernel_rfl))⟩
    f31 := Try.func147.trans (congrArg some (by kernel_rfl))
    f32 := Try.func148.trans (congrArg some (by kernel_rfl))
    f33 := ⟨Try.f149.name, by decide, Try.func149.trans (congrArg some (by kernel_rfl))⟩
    f34 := ⟨Try.f150.name, by decide, Try.func150.trans (congrArg some (by kernel_rfl))⟩
    f35 := ⟨Try.f151.name, by decide, Try.func151.trans (congrArg some (by kernel_rfl))⟩
    f40 := ⟨Try.f158.name, by decide, Try.func158.trans (congrArg some (by kernel_rfl))⟩
    t0 := Try.underlying0
    a0 := Try.isAgg0
    z0 := Try.sizeOf0
    v0 := Try.zeroValue0
    t3 := Try.underlying3
    a3 := Try.isAgg3
    z3 := Try.sizeOf3
    v3 := Try.zeroValue3
    t4 := Try.underlying4
    a4 := Try.isAgg4
    z4 := Try.sizeOf4
    v4 := Try.zeroValue4
    t5 := Try.underlying5
    a5 := Try.isAgg5
    z5 := Try.sizeOf5
    v5 := Try.zeroValue5
    t9 := Try.underlying9
    a9 := Try.isAgg9
    z9 := Try.sizeOf9
    v9 := Try.zeroValue9
    t22 := Try.underlying42
    a22 := Try.isAgg42
    z22 := Try.sizeOf42
    v22 := Try.zeroValue42
    t23 := Try.underlying42
    a23 := Try.isAgg42
    z23 := Try.sizeOf42
    v23 := Try.zeroValue42
    t25 := Try.underlying3
    a25 := Try.isAgg3
    z25 := Try.sizeOf3
    v25 := Try.zeroValue3
    t32 := Try.underlying138
    a32 := Try.isAgg138
    z32 := Try.sizeOf138
    v32 := Try.zeroValue138
    t35 := Try.underlying161
    a35 := Try.isAgg161
    z35 := Try.sizeOf161
    v35 := Try.zeroValue161
    t36 := Try.underlying162
    a36 := Try.isAgg162
    z36 := Try.sizeOf162
    v36 := Try.zeroValue162
    t41 := Try.underlying167
    a41 := Try.isAgg167
    z41 := Try.sizeOf167
    v41 := Try.zeroValue167
    t44 := Try.underlying170
    a44 := Try.isAgg170
    z44 := Try.sizeOf170
    v44 := Try.zeroValue170
    t46 := Try.underlying172
    a46 := Try.isAgg172
    z46 := Try.sizeOf172
    v46 := Try.zeroValue172
    t53 := Try.underlying185
    a53 := Try.isAgg185
    z53 := Try.sizeOf185
    v53 := Try.zeroValue185
    t57 := Try.underlying189
    a57 := Try.isAgg189
    z57 := Try.sizeOf189
    v57 := Try.zeroValue189
    t63 := Try.underlying197
    a63 := Try.isAgg197
    z63 := Try.sizeOf197
    v63 := Try.zeroValue197
    t64 := Try.underlying141
    a64 := Try.isAgg141
    z64 := Try.sizeOf141
    v64 := Try.zeroValue141 }
end Go.Proofs.Ytghldoiblbcacaa

/- The data of the Go struct Op: how it lies in memory (no program in sight). Conditions: none. -/
namespace Go.Proofs.Ytghldoiblbcacaa
open Go.RowKit
set_option linter.unusedVariables false
set_option linter.unusedSimpArgs false

structure GOp where
  code : Int
  n : Int
  m : Int

def GOp.toD (x : GOp) : D := .agg [.num .i64 x.code, .num .i64 x.n, .num .i64 x.m]

/-- how much it holds, as the laws count it -/
def GOp.bulk (x : GOp) : Nat := 0

theorem GOp.bulk_eq (t : GOp) : t.bulk = 0 := rfl

/-- the facts of a struct that lies in memory: its cells are .int .i64 t.code, .int .i64 t.n, .int .i64 t.m -/
def GOp.At (w : World) (S : Nat → Prop)  (t : GOp) : Prop :=
  (Lit.int .i64 t.code).wf = true ∧ (Lit.int .i64 t.n).wf = true ∧ (Lit.int .i64 t.m).wf = true

theorem GOp.rd {w : World} {S : Nat → Prop} {t : GOp} {cs : List Value} (h : t.toD.rd w S cs) : cs = [.int .i64 t.code, .int .i64 t.n, .int .i64 t.m] ∧ GOp.At w S  t := by
  unfold GOp.toD at h
  rw [D.rd_agg] at h
  rw [D.rdF_cons] at h
  obtain ⟨x0, r0, rfl, k0, h⟩ := h
  obtain ⟨rfl, h0⟩ := D.rd_num.1 k0
  rw [D.rdF_cons] at h
  obtain ⟨x1, r1, rfl, k1, h⟩ := h
  obtain ⟨rfl, h1⟩ := D.rd_num.1 k1
  rw [D.rdF_cons] at h
  obtain ⟨x2, r2, rfl, k2, h⟩ := h
  obtain ⟨rfl, h2⟩ := D.rd_num.1 k2
  obtain rfl := D.rdF_nil.1 h
  exact ⟨by simp [List.length_map], h0, h1, h2⟩

theorem GOp.rd_mk {w : World} {S : Nat → Prop} {t : GOp}  (h : GOp.At w S  t) : t.toD.rd w S [.int .i64 t.code, .int .i64 t.n, .int .i64 t.m] := by
  unfold GOp.toD
  unfold GOp.At at h
  obtain ⟨h0, h1, h2⟩ := h
  rw [D.rd_agg]
  exact D.rdF_cons.2 ⟨[_], [_, _], rfl, D.rd_num.2 ⟨rfl, h0⟩, D.rdF_cons.2 ⟨[_], [_], rfl, D.rd_num.2 ⟨rfl, h1⟩, D.rdF_cons.2 ⟨[_], [], rfl, D.rd_num.2 ⟨rfl, h2⟩, D.rdF_nil.2 rfl⟩⟩⟩

theorem GOp.elem {w : World} {S : Nat → Prop} {A : Option Addr} {c : Nat} {l : List GOp} (h : Sl w S 3 A c (l.map GOp.toD)) (i : Nat) (hi : i < l.length) :
    ∃ b off , A = some ⟨b, off, none⟩ ∧ S b ∧ w.cell? ⟨b, off + i * 3, none⟩ = some (.int .i64 l[i].code) ∧ w.cell? ⟨b, off + i * 3 + 1, none⟩ = some (.int .i64 l[i].n) ∧ w.cell? ⟨b, off + i * 3 + 2, none⟩ = some (.int .i64 l[i].m) ∧ GOp.At w S  l[i] := by
  obtain ⟨b, off, cs, e, hb, hl, hc, hr⟩ := Sl.get h i (by simpa using hi)
  rw [List.getElem_map] at hr
  obtain ⟨rfl, h1⟩ := GOp.rd hr
  exact ⟨b, off, e, hb, hc 0 _ rfl, hc 1 _ rfl, hc 2 _ rfl, h1⟩

theorem GOp.At.keep {w w' : World} {S S' : Nat → Prop} {t : GOp}  (h : GOp.At w S  t) (hk : ∀ b, S b → S' b ∧ w'.heap[b]? = w.heap[b]?) : GOp.At w' S'  t := by
  unfold GOp.At at h ⊢
  obtain ⟨h0, h1, h2⟩ := h
  exact ⟨h0, h1, h2⟩
theorem GOp.At.below {w w' : World} {B B' : Nat} {t : GOp}  (h : GOp.At w (Lt B)  t) (hb : Below B w w') (hB : B ≤ B') : GOp.At w' (Lt B')  t :=
  h.keep (keep_below hb hB)

/-- the same, owned -/
def GOp.Ow (w : World) (S : Nat → Prop)  (t : GOp) : Prop :=
  (Lit.int .i64 t.code).wf = true ∧ (Lit.int .i64 t.n).wf = true ∧ (Lit.int .i64 t.m).wf = true

theorem GOp.own_mk {w : World} {S : Nat → Prop} {t : GOp}  (h : GOp.Ow w S  t) : t.toD.own w S [.int .i64 t.code, .int .i64 t.n, .int .i64 t.m] := by
  unfold GOp.toD
  unfold GOp.Ow at h
  obtain ⟨h0, h1, h2⟩ := h
  rw [D.own_agg]
  exact D.ownF_plain (c1 := [_]) (c2 := [_, _]) (D.own_num.2 ⟨rfl, h0⟩) (D.ownF_plain (c1 := [_]) (c2 := [_]) (D.own_num.2 ⟨rfl, h1⟩) (D.ownF_plain (S := S) (c1 := [_]) (c2 := []) (D.own_num.2 ⟨rfl, h2⟩) (D.ownF_nil.2 rfl)))

theorem GOp.Ow.keep {w w' : World} {S S' : Nat → Prop} {t : GOp}  (h : GOp.Ow w S  t) (hk : ∀ b, S b → S' b ∧ w'.heap[b]? = w.heap[b]?) : GOp.Ow w' S'  t := by
  unfold GOp.Ow at h ⊢
  obtain ⟨h0, h1, h2⟩ := h
  exact ⟨h0, h1, h2⟩
theorem GOp.Ow.at {w : World} {S : Nat → Prop} {t : GOp}  (h : GOp.Ow w S  t) : GOp.At w S  t := by
  unfold GOp.Ow at h
  unfold GOp.At
  obtain ⟨h0, h1, h2⟩ := h
  exact ⟨h0, h1, h2⟩

end Go.Proofs.Ytghldoiblbcacaa

/- What Effect gives, in the program and in the reference. Conditions: none. -/
namespace Go.Proofs.Ytghldoiblbcacaa
open Go.RowKit
set_option linter.unusedVariables false
set_option maxHeartbeats 1000000

/-- what Effect gives of a code and its M -/
def effI (c m : Int) : Int × Int :=
  if c = 1 ∨ c = 2 ∨ c = 3 ∨ c = 4 then (0, 1) else if c = 5 ∨ c = 8 then (m, 1) else
  if c = 6 ∨ c = 12 ∨ c = 13 ∨ c = 14 ∨ c = 15 ∨ c = 16 ∨ c = 20 then (2, 1) else if c = 7 ∨ c = 10 ∨ c = 11 ∨ c = 18 then (1, 0) else if c = 9 ∨ c = 17 then (1, 1) else (0, 0)

theorem effI_cases (c : Int) : c = 1 ∨ c = 2 ∨ c = 3 ∨ c = 4 ∨ c = 5 ∨ c = 6 ∨ c = 7 ∨ c = 8 ∨ c = 9 ∨ c = 10 ∨ c = 11 ∨ c = 12 ∨ c = 13 ∨ c = 14 ∨ c = 15 ∨ c = 16 ∨ c = 17 ∨ c = 18 ∨ c = 19 ∨ c = 20 ∨ (c < 1 ∨ 20 < c) := by omega

theorem ret_two {k : IntKind} {a b c d : Int} (h : c = a) (h2 : d = b) : Ending.returned (.tuple #[.int k a, .int k b]) = .returned (.tuple #[.int k c, .int k d]) := by rw [h, h2]

theorem effI_else {c m : Int} (h : c < 1 ∨ 20 < c) : effI c m = (0, 0) := by
  unfold effI; repeat rw [if_neg (by omega)]

end Go.Proofs.Ytghldoiblbcacaa

/- The data of the Go struct Fun: how it lies in memory (no program in sight). Conditions: none. -/
namespace Go.Proofs.Ytghldoiblbcacaa
open Go.RowKit
set_option linter.unusedVariables false
set_option linter.unusedSimpArgs false

structure GFun where
  free : Int
  list : List GOp

def GFun.toD (x : GFun) : D := .agg [.num .i64 x.free, .sl 3 (x.list.map GOp.toD)]

/-- how much it holds, as the laws count it -/
def GFun.bulk (x : GFun) : Nat := bulkL GOp.bulk x.list

theorem GFun.bulk_eq (t : GFun) : t.bulk = bulkL GOp.bulk t.list := rfl

/-- the facts of a struct that lies in memory: its cells are .int .i64 t.free, .slice A1 t.list.length c1 -/
def GFun.At (w : World) (S : Nat → Prop) (A1 : Option Addr) (c1 : Nat) (t : GFun) : Prop :=
  (Lit.int .i64 t.free).wf = true ∧ Sl w S 3 A1 c1 (t.list.map GOp.toD)

theorem GFun.rd {w : World} {S : Nat → Prop} {t : GFun} {cs : List Value} (h : t.toD.rd w S cs) : ∃ A1 c1, cs = [.int .i64 t.free, .slice A1 t.list.length c1] ∧ GFun.At w S A1 c1 t := by
  unfold GFun.toD at h
  rw [D.rd_agg] at h
  rw [D.rdF_cons] at h
  obtain ⟨x0, r0, rfl, k0, h⟩ := h
  obtain ⟨rfl, h0⟩ := D.rd_num.1 k0
  rw [D.rdF_cons] at h
  obtain ⟨x1, r1, rfl, k1, h⟩ := h
  obtain ⟨A1, c1, rfl, h1⟩ := D.rd_sl.1 k1
  obtain rfl := D.rdF_nil.1 h
  exact ⟨A1, c1, by simp [List.length_map], h0, h1⟩

theorem GFun.rd_mk {w : World} {S : Nat → Prop} {t : GFun} {A1 : Option Addr} {c1 : Nat} (h : GFun.At w S A1 c1 t) : t.toD.rd w S [.int .i64 t.free, .slice A1 t.list.length c1] := by
  unfold GFun.toD
  unfold GFun.At at h
  obtain ⟨h0, h1⟩ := h
  rw [D.rd_agg]
  exact D.rdF_cons.2 ⟨[_], [_], rfl, D.rd_num.2 ⟨rfl, h0⟩, D.rdF_cons.2 ⟨[_], [], rfl, D.rd_sl.2 ⟨A1, c1, by simp [List.length_map], h1⟩, D.rdF_nil.2 rfl⟩⟩

theorem GFun.elem {w : World} {S : Nat → Prop} {A : Option Addr} {c : Nat} {l : List GFun} (h : Sl w S 2 A c (l.map GFun.toD)) (i : Nat) (hi : i < l.length) :
    ∃ b off A1 c1, A = some ⟨b, off, none⟩ ∧ S b ∧ w.cell? ⟨b, off + i * 2, none⟩ = some (.int .i64 l[i].free) ∧ w.cell? ⟨b, off + i * 2 + 1, none⟩ = some (.slice A1 l[i].list.length c1) ∧ GFun.At w S A1 c1 l[i] := by
  obtain ⟨b, off, cs, e, hb, hl, hc, hr⟩ := Sl.get h i (by simpa using hi)
  rw [List.getElem_map] at hr
  obtain ⟨A1, c1, rfl, h1⟩ := GFun.rd hr
  exact ⟨b, off, A1, c1, e, hb, hc 0 _ rfl, hc 1 _ rfl, h1⟩

theorem GFun.At.keep {w w' : World} {S S' : Nat → Prop} {t : GFun} {A1 : Option Addr} {c1 : Nat} (h : GFun.At w S A1 c1 t) (hk : ∀ b, S b → S' b ∧ w'.heap[b]? = w.heap[b]?) : GFun.At w' S' A1 c1 t := by
  unfold GFun.At at h ⊢
  obtain ⟨h0, h1⟩ := h
  exact ⟨h0, h1.keep hk⟩
theorem GFun.At.below {w w' : World} {B B' : Nat} {t : GFun} {A1 : Option Addr} {c1 : Nat} (h : GFun.At w (Lt B) A1 c1 t) (hb : Below B w w') (hB : B ≤ B') : GFun.At w' (Lt B') A1 c1 t :=
  h.keep (keep_below hb hB)

/-- the same, owned -/
def GFun.Ow (w : World) (S : Nat → Prop) (A1 : Option Addr) (c1 : Nat) (t : GFun) : Prop :=
  (Lit.int .i64 t.free).wf = true ∧ Osl w S 3 A1 c1 (t.list.map GOp.toD)

theorem GFun.own_mk {w : World} {S : Nat → Prop} {t : GFun} {A1 : Option Addr} {c1 : Nat} (h : GFun.Ow w S A1 c1 t) : t.toD.own w S [.int .i64 t.free, .slice A1 t.list.length c1] := by
  unfold GFun.toD
  unfold GFun.Ow at h
  obtain ⟨h0, h1⟩ := h
  rw [D.own_agg]
  exact D.ownF_plain (c1 := [_]) (c2 := [_]) (D.own_num.2 ⟨rfl, h0⟩) (D.ownF_last (D.own_sl.2 ⟨A1, c1, by simp [List.length_map], h1⟩))

theorem GFun.Ow.keep {w w' : World} {S S' : Nat → Prop} {t : GFun} {A1 : Option Addr} {c1 : Nat} (h : GFun.Ow w S A1 c1 t) (hk : ∀ b, S b → S' b ∧ w'.heap[b]? = w.heap[b]?) : GFun.Ow w' S' A1 c1 t := by
  unfold GFun.Ow at h ⊢
  obtain ⟨h0, h1⟩ := h
  exact ⟨h0, h1.keep hk⟩
theorem GFun.Ow.at {w : World} {S : Nat → Prop} {t : GFun} {A1 : Option Addr} {c1 : Nat} (h : GFun.Ow w S A1 c1 t) : GFun.At w S A1 c1 t := by
  unfold GFun.Ow at h
  unfold GFun.At
  obtain ⟨h0, h1⟩ := h
  exact ⟨h0, h1.sl⟩

end Go.Proofs.Ytghldoiblbcacaa

/- within and l1In: a number between two. Conditions: none. -/
namespace Go.Proofs.Ytghldoiblbcacaa
open Go.RowKit
set_option linter.unusedVariables false

/-- behind draws -/
theorem belowN {B : Nat} {a w : World} (h : Below B a w) (n : Nat) : Below B a (w.drewN n) := ⟨h.os, h.tape, h.output, h.size, h.block⟩

/-- is a number from one on, up to another? -/
def inB (n lo hi : Int) : Bool := decide (lo ≤ n ∧ n ≤ hi)
theorem inB_true {n lo hi : Int} (h : lo ≤ n ∧ n ≤ hi) : inB n lo hi = true := decide_eq_true h
theorem inB_false {n lo hi : Int} (h : ¬ (lo ≤ n ∧ n ≤ hi)) : inB n lo hi = false := decide_eq_false h


end Go.Proofs.Ytghldoiblbcacaa

/- Whether a place of a function is right, in the program and in the reference. Conditions: the function is one of the list, its Free from 0 to 20. -/
namespace Go.Proofs.Ytghldoiblbcacaa
open Go.RowKit
set_option linter.unusedVariables false
set_option linter.unusedSimpArgs false
set_option maxHeartbeats 2000000

def freeAt (l : List GFun) (n : Int) : Int := match l[n.toNat]? with | some g => g.free | none => 0
/-- is a place (c, n, m) of function number i right; fr: its Free, ln: how many places it has, ll: how many functions there are -/
def opP (fr : Int) (ln ll : Nat) (fa : Int → Int) (i : Nat) (c n m : Int) : Prop :=
  if c = 1 then (-1073741824 ≤ n ∧ n ≤ 1073741823) ∧ m = 0
  else if c = 2 then (0 ≤ n ∧ n ≤ 2999) ∧ m = 0
  else if c = 3 then (0 ≤ n ∧ n ≤ fr - 1) ∧ m = 0
  else if c = 4 then 0 < i ∧ n = 0 ∧ m = 0
  else if c = 5 then (1 ≤ n ∧ n ≤ (ll : Int) - 1) ∧ m = fa n
  else if c = 8 then (0 ≤ n ∧ n ≤ 59) ∧ 0 ≤ m ∧ m ≤ 20
  else if c = 9 then (0 ≤ n ∧ n ≤ 59) ∧ m = 0
  else if c = 10 then (0 ≤ n ∧ n ≤ 59) ∧ 0 ≤ m ∧ m ≤ (ln : Int) - 1
  else if c = 11 then (-1073741824 ≤ n ∧ n ≤ 1073741823) ∧ 0 ≤ m ∧ m ≤ (ln : Int) - 1
  else if c = 18 ∨ c = 19 then (0 ≤ n ∧ n ≤ (ln : Int) - 1) ∧ m = 0
  else (1 ≤ c ∧ c ≤ 21) ∧ n = 0 ∧ m = 0
instance (fr : Int) (ln ll : Nat) (fa : Int → Int) (i : Nat) (c n m : Int) : Decidable (opP fr ln ll fa i c n m) := by unfold opP; infer_instance
def opB (l : List GFun) (i : Nat) (f : GFun) (o : GOp) : Bool := decide (opP f.free f.list.length l.length (freeAt l) i o.code o.n o.m)

theorem opP_cases (c : Int) : c = 1 ∨ c = 2 ∨ c = 3 ∨ c = 4 ∨ c = 5 ∨ c = 8 ∨ c = 9 ∨ c = 10 ∨ c = 11 ∨ c = 18 ∨ c = 19 ∨ (¬ c = 1 ∧ ¬ c = 2 ∧ ¬ c = 3 ∧ ¬ c = 4 ∧ ¬ c = 5 ∧ ¬ c = 8 ∧ ¬ c = 9 ∧ ¬ c = 10 ∧ ¬ c = 11 ∧ ¬ c = 18 ∧ ¬ c = 19) := by omega

theorem opP_else {fr : Int} {ln ll : Nat} {fa : Int → Int} {i : Nat} {c : Int} (h : ¬ c = 1 ∧ ¬ c = 2 ∧ ¬ c = 3 ∧ ¬ c = 4 ∧ ¬ c = 5 ∧ ¬ c = 8 ∧ ¬ c = 9 ∧ ¬ c = 10 ∧ ¬ c = 11 ∧ ¬ c = 18 ∧ ¬ c = 19) (n m : Int) : opP fr ln ll fa i c n m ↔ (1 ≤ c ∧ c ≤ 21) ∧ n = 0 ∧ m = 0 := by
  unfold opP
  repeat rw [if_neg (by omega)]

theorem eq_dec {x : Bool} {p : Prop} {d : Decidable p} (h : x = true ↔ p) : x = @decide p d := by
  rw [Bool.eq_iff_iff]; simpa using h

end Go.Proofs.Ytghldoiblbcacaa

/- FunsOk: whether functions are right, in the program and in the reference. Conditions: none. -/
namespace Go.Proofs.Ytghldoiblbcacaa
open Go.RowKit
set_option linter.unusedVariables false
set_option linter.unusedSimpArgs false
set_option maxHeartbeats 1000000

/-- the head of a function: its Free, how many places it has -/
def headB (f : GFun) : Bool := inB f.free 0 20 && inB (f.list.length : Int) 1 3000
def lastB (f : GFun) : Bool := match f.list.getLast? with | some o => decide (o.code = 7 ∨ o.code = 19 ∨ o.code = 21) | none => false
def tailB (l : List GFun) (i : Nat) (f : GFun) : Bool := f.list.all (opB l i f) && lastB f
def AllHead (l : List GFun) (j : Nat) : Prop := ∀ (i : Nat) (h : i < l.length), i < j → headB l[i] = true
def AllTail (l : List GFun) (j : Nat) : Prop := ∀ (i : Nat) (h : i < l.length), i < j → tailB l i l[i] = true
def topB (l : List GFun) : Prop := (1 ≤ l.length ∧ l.length ≤ 60) ∧ (∃ f, l[0]? = some f ∧ f.free = 0)
open Classical in
/-- are functions right -/
noncomputable def funsB (l : List GFun) : Bool := decide (topB l ∧ AllHead l l.length ∧ AllTail l l.length)

open Classical in
theorem funsB_false {l : List GFun} (h : ¬ (topB l ∧ AllHead l l.length ∧ AllTail l l.length)) : funsB l = false := by
  unfold funsB; exact decide_eq_false h
theorem funsB_top {l : List GFun} (h : ¬ topB l) : funsB l = false := funsB_false fun e => h e.1
theorem funsB_head {l : List GFun} (j : Nat) (h : j < l.length) (e : headB l[j] = false) : funsB l = false := funsB_false fun ⟨_, h1, _⟩ => by
  have := h1 j h h; rw [e] at this; cases this
theorem funsB_tail {l : List GFun} (j : Nat) (h : j < l.length) (e : tailB l j l[j] = false) : funsB l = false := funsB_false fun ⟨_, _, h1⟩ => by
  have := h1 j h h; rw [e] at this; cases this
open Classical in
theorem funsB_true {l : List GFun} (h0 : topB l) (h1 : AllHead l l.length) (h2 : AllTail l l.length) : funsB l = true := by
  unfold funsB; exact decide_eq_true ⟨h0, h1, h2⟩
theorem AllHead.succ {l : List GFun} {j : Nat} (h : AllHead l j) (hj : j < l.length) (e : headB l[j] = true) : AllHead l (j + 1) := fun i hi hij => by
  rcases Nat.lt_or_ge i j with h1 | h1
  · exact h i hi h1
  · have : i = j := by omega
    subst this; exact e
theorem AllTail.succ {l : List GFun} {j : Nat} (h : AllTail l j) (hj : j < l.length) (e : tailB l j l[j] = true) : AllTail l (j + 1) := fun i hi hij => by
  rcases Nat.lt_or_ge i j with h1 | h1
  · exact h i hi h1
  · have : i = j := by omega
    subst this; exact e
/-- the first k places are right -/
def OpsTo (l : List GFun) (i : Nat) (f : GFun) (k : Nat) : Prop := ∀ (q : Nat) (h : q < f.list.length), q < k → opB l i f f.list[q] = true
theorem OpsTo.succ {l : List GFun} {i : Nat} {f : GFun} {k : Nat} (h : OpsTo l i f k) (hk : k < f.list.length) (e : opB l i f f.list[k] = true) : OpsTo l i f (k + 1) := fun q hq hqk => by
  rcases Nat.lt_or_ge q k with h1 | h1
  · exact h q hq h1
  · have : q = k := by omega
    subst this; exact e
theorem tailB_op {l : List GFun} {i : Nat} {f : GFun} (k : Nat) (hk : k < f.list.length) (e : opB l i f f.list[k] = false) : tailB l i f = false := by
  unfold tailB
  have : f.list.all (opB l i f) = false := by
    rw [List.all_eq_false]; exact ⟨_, List.getElem_mem hk, by simp [e]⟩
  rw [this]; rfl
theorem tailB_ops {l : List GFun} {i : Nat} {f : GFun} (h : OpsTo l i f f.list.length) : tailB l i f = lastB f := by
  unfold tailB
  have : f.list.all (opB l i f) = true := by
    rw [List.all_eq_true]; intro x hx
    obtain ⟨q, hq, rfl⟩ := List.getElem_of_mem hx
    exact h q hq hq
  rw [this]; rfl
theorem lastB_at {f : GFun} (k : Nat) (h : f.list.length = k + 1) : lastB f = decide ((f.list[k]'(by omega)).code = 7 ∨ (f.list[k]'(by omega)).code = 19 ∨ (f.list[k]'(by omega)).code = 21) := by
  unfold lastB
  have : f.list.getLast? = some (f.list[k]'(by omega)) := by
    rw [List.getLast?_eq_getElem?, List.getElem?_eq_getElem (by omega)]
    congr 1; congr 1; omega
  rw [this]
theorem headB_in {f : GFun} (h : headB f = true) : 0 ≤ f.free ∧ f.free ≤ 20 ∧ 1 ≤ f.list.length ∧ f.list.length ≤ 3000 := by
  unfold headB inB at h; simp at h; omega

theorem headB_eq {f : GFun} {a b : Bool} (h1 : inB f.free 0 20 = a) (h2 : inB (f.list.length : Int) 1 3000 = b) : headB f = (a && b) := by
  unfold headB; rw [h1, h2]
theorem topB_mk {l : List GFun} (h1 : 1 ≤ l.length) (h2 : l.length ≤ 60) (h : (l[0]'(by omega)).free = 0) : topB l :=
  ⟨⟨h1, h2⟩, _, List.getElem?_eq_getElem (by omega), h⟩
theorem topB_not {l : List GFun} (h1 : 1 ≤ l.length) (h : ¬ (l[0]'(by omega)).free = 0) : ¬ topB l := by
  rintro ⟨_, f, e, hf⟩
  rw [List.getElem?_eq_getElem (by omega)] at e
  have e2 := Option.some.inj e
  rw [e2] at h
  exact h hf

end Go.Proofs.Ytghldoiblbcacaa

/- How deep the values stand at the places of a function: what is reached, what is bad, and that a search finds it (no program in sight). Conditions: none. -/
namespace Go.Proofs.Ytghldoiblbcacaa
open Go.RowKit
set_option linter.unusedVariables false
set_option linter.unusedSimpArgs false
set_option maxHeartbeats 1000000

/-- how many values there are behind a place; none where it may not be -/
def afterI (o : GOp) (d : Int) : Option Int :=
  if d - 1 < (effI o.code o.m).1 ∨ (o.code = 2 ∧ d ≤ o.n) ∨ 60 < d - (effI o.code o.m).1 + (effI o.code o.m).2 ∨ (o.code = 7 ∧ ¬ d = 2) then none else some (d - (effI o.code o.m).1 + (effI o.code o.m).2)
/-- the places that may come behind a place -/
def nextI (o : GOp) (q : Nat) : List Int :=
  if o.code = 7 ∨ o.code = 21 then [] else if o.code = 19 then [o.n] else if o.code = 10 ∨ o.code = 11 then [((q + 1 : Nat) : Int), o.m] else if o.code = 18 then [((q + 1 : Nat) : Int), o.n] else [((q + 1 : Nat) : Int)]

theorem effI_snd (c m : Int) : 0 ≤ (effI c m).2 := by
  unfold effI
  split <;> (try split) <;> (try split) <;> (try split) <;> (try split) <;> simp
theorem afterI_ge {o : GOp} {d d' : Int} (h : afterI o d = some d') : 1 ≤ d' := by
  unfold afterI at h
  split at h
  · cases h
  · rename_i hn
    simp only [Option.some.injEq] at h
    have := effI_snd o.code o.m
    omega

inductive Reach (ops : List GOp) : Nat → Int → Prop
  | start : Reach ops 0 1
  | step {q p : Nat} {d d' : Int} (h : q < ops.length) : Reach ops q d → afterI ops[q] d = some d' → (p : Int) ∈ nextI ops[q] q → Reach ops p d'
theorem Reach.ge {ops : List GOp} {k : Nat} {d : Int} (h : Reach ops k d) : 1 ≤ d := by
  cases h with
  | start => omega
  | step hq hr ha hp => exact afterI_ge ha
/-- something is wrong -/
def Bad (ops : List GOp) : Prop := (∃ q d, ∃ h : q < ops.length, Reach ops q d ∧ afterI ops[q] d = none) ∨ ∃ q d1 d2, Reach ops q d1 ∧ Reach ops q d2 ∧ ¬ d1 = d2
/-- what is found -/
def Found (ops : List GOp) : Option (List Int) → Prop
  | none => Bad ops
  | some l => ¬ Bad ops ∧ l.length = ops.length ∧ ∀ k (h : k < l.length), (l[k] = -1 ∧ ∀ d, ¬ Reach ops k d) ∨ Reach ops k l[k]
theorem Found.one {ops : List GOp} {r r' : Option (List Int)} (h : Found ops r) (h' : Found ops r') : r = r' := by
  match r, r' with
  | none, none => rfl
  | none, some _ => exact absurd h h'.1
  | some _, none => exact absurd h' h.1
  | some l, some l' =>
    congr 1
    refine List.ext_getElem (h.2.1.trans h'.2.1.symm) fun k h1 h2 => ?_
    rcases h.2.2 k h1 with ⟨a, b⟩ | a <;> rcases h'.2.2 k h2 with ⟨a', b'⟩ | a'
    · rw [a, a']
    · exact absurd a' (b _)
    · exact absurd a (b' _)
    · exact Classical.byContradiction fun e => h.1 (.inr ⟨k, _, _, a, a', e⟩)

/-- the jumps stay within -/
def JumpsIn (ops : List GOp) : Prop := 1 ≤ ops.length ∧ ∀ q (h : q < ops.length), ∀ x ∈ nextI ops[q] q, 0 ≤ x ∧ x < ops.length
/-- what an op takes and puts is small -/
def EffIn (ops : List GOp) : Prop := ∀ q (h : q < ops.length), 0 ≤ (effI ops[q].code ops[q].m).1 ∧ (effI ops[q].code ops[q].m).1 ≤ 1048576 ∧ 0 ≤ (effI ops[q].code ops[q].m).2 ∧ (effI ops[q].code ops[q].m).2 ≤ 1

/-- a place is done: what comes behind it has its depth -/
def Closed (ops : List GOp) (out : List Int) (k : Nat) : Prop := ∃ d', ∃ h : k < ops.length, ∃ h' : k < out.length, afterI ops[k] out[k] = some d' ∧ ∀ x ∈ nextI ops[k] k, out[x.toNat]? = some d'
structure SInv (ops : List GOp) (out : List Int) (todo : List Nat) (ex : Nat → Prop) : Prop where
  len : out.length = ops.length
  val : ∀ k (h : k < out.length), out[k] = -1 ∨ (1 ≤ out[k] ∧ out[k] ≤ 60 ∧ Reach ops k out[k])
  stk : ∀ k ∈ todo, ∃ h : k < out.length, ¬ out[k] = -1
  done : ∀ k (h : k < out.length), ¬ out[k] = -1 → k ∈ todo ∨ ex k ∨ Closed ops out k
  first : out[0]? = some 1
/-- at a place that is being done -/
structure PInv (ops : List GOp) (out : List Int) (todo : List Nat) (q : Nat) (d' : Int) (don : Int → Prop) : Prop where
  base : SInv ops out todo (fun k => k = q)
  hq : q < ops.length
  hq' : q < out.length
  at' : afterI ops[q] out[q] = some d'
  mark : ¬ out[q] = -1
  rng : 1 ≤ d' ∧ d' ≤ 60
  nxt : ∀ x ∈ nextI ops[q] q, don x → out[x.toNat]? = some d'

theorem SInv.start {ops : List GOp} {out : List Int} (h1 : 1 ≤ ops.length) (hl : out.length = ops.length) (h0 : out[0]? = some 1) (hr : ∀ k (h : k < out.length), 0 < k → out[k] = -1) : SInv ops out [0] (fun _ => False) := by
  have e0 : out[0]'(by omega) = 1 := by rw [List.getElem?_eq_getElem (by omega)] at h0; exact Option.some.inj h0
  refine ⟨hl, fun k h => ?_, fun k hk => ?_, fun k h hne => ?_, h0⟩
  · by_cases hk : k = 0
    · subst hk; right; rw [e0]; exact ⟨by omega, by omega, .start⟩
    · left; exact hr k h (by omega)
  · simp only [List.mem_singleton] at hk
    subst hk
    exact ⟨by omega, by rw [e0]; omega⟩
  · left
    by_cases hk : k = 0
    · subst hk; simp
    · exact absurd (hr k h (by omega)) hne

theorem SInv.pop {ops : List GOp} {out : List Int} {todo : List Nat} {q : Nat} {d' : Int} (h : SInv ops out (todo ++ [q]) (fun _ => False)) (h' : q < out.length) (hq : q < ops.length) (ha : afterI ops[q] out[q] = some d') : PInv ops out todo q d' (fun _ => False) := by
  obtain ⟨_, hm⟩ := h.stk q (by simp)
  refine ⟨⟨h.len, h.val, fun k hk => h.stk k (by simp [hk]), fun k hk hne => ?_, h.first⟩, hq, h', ha, hm, ?_, fun _ _ hf => hf.elim⟩
  · rcases h.done k hk hne with h1 | h1 | h1
    · rcases List.mem_append.1 h1 with h2 | h2
      · exact .inl h2
      · exact .inr (.inl (by simpa using h2))
    · exact h1.elim
    · exact .inr (.inr h1)
  · have h1 := afterI_ge ha
    unfold afterI at ha
    split at ha
    · cases ha
    · rename_i hn
      simp only [Option.some.injEq] at ha
      omega
theorem SInv.bad {ops : List GOp} {out : List Int} {todo : List Nat} {ex : Nat → Prop} {q : Nat} (h : SInv ops out (todo ++ [q]) ex) (h' : q < out.length) (hq : q < ops.length) (ha : afterI ops[q] out[q] = none) : Bad ops := by
  obtain ⟨_, hm⟩ := h.stk q (by simp)
  rcases h.val q h' with e | ⟨_, _, e⟩
  · exact absurd e hm
  · exact .inl ⟨q, _, hq, e, ha⟩
theorem PInv.reach {ops : List GOp} {out : List Int} {todo : List Nat} {q : Nat} {d' : Int} {don : Int → Prop} (h : PInv ops out todo q d' don) {p : Nat} (hp : (p : Int) ∈ nextI (ops[q]'h.hq) q) : Reach ops p d' := by
  rcases h.base.val q h.hq' with e | ⟨_, _, e⟩
  · exact absurd e h.mark
  · exact .step h.hq e h.at' hp
theorem PInv.bad {ops : List GOp} {out : List Int} {todo : List Nat} {q : Nat} {d' : Int} {don : Int → Prop} (h : PInv ops out todo q d' don) {p : Nat} (hp : (p : Int) ∈ nextI (ops[q]'h.hq) q) (hl : p < out.length) (h1 : ¬ out[p] = -1) (h2 : ¬ out[p] = d') : Bad ops := by
  rcases h.base.val p hl with e | ⟨_, _, e⟩
  · exact absurd e h1
  · exact .inr ⟨p, _, _, e, h.reach hp, h2⟩
theorem PInv.same {ops : List GOp} {out : List Int} {todo : List Nat} {q : Nat} {d' : Int} {don : Int → Prop} (h : PInv ops out todo q d' don) {p : Nat} (hl : p < out.length) (h2 : out[p] = d') : PInv ops out todo q d' (fun x => don x ∨ x = p) :=
  ⟨h.base, h.hq, h.hq', h.at', h.mark, h.rng, fun x hx hd => by
    rcases hd with hd | rfl
    · exact h.nxt x hx hd
    · rw [Int.toNat_natCast, List.getElem?_eq_getElem hl, h2]⟩
theorem PInv.set {ops : List GOp} {out : List Int} {todo : List Nat} {q : Nat} {d' : Int} {don : Int → Prop} (h : PInv ops out todo q d' don) {p : Nat} (hp : (p : Int) ∈ nextI (ops[q]'h.hq) q) (hl : p < out.length) (h1 : out[p] = -1) : PInv ops (out.set p d') (todo ++ [p]) q d' (fun x => don x ∨ x = p) := by
  have hpq : ¬ p = q := fun e => by subst e; exact h.mark h1
  have hd1 : ¬ d' = -1 := by have := h.rng; omega
  have hget : ∀ k (hk : k < (out.set p d').length), ¬ k = p → (out.set p d')[k] = out[k]'(by simpa using hk) := fun k hk hne => List.getElem_set_ne (by omega) _
  have hkeep : ∀ (x : Nat) (d : Int), ¬ d = -1 → out[x]? = some d → (out.set p d')[x]? = some d := fun x d hd he => by
    by_cases hx : x = p
    · subst hx; rw [List.getElem?_eq_getElem hl, h1] at he; simp at he; omega
    · rw [List.getElem?_set_ne (by omega)]; exact he
  refine ⟨⟨by simp [h.base.len], fun k hk => ?_, fun k hk => ?_, fun k hk hne => ?_, ?_⟩, h.hq, by simpa using h.hq', ?_, ?_, h.rng, fun x hx hd => ?_⟩
  · by_cases e : k = p
    · subst e
      right
      rw [List.getElem_set_self]
      exact ⟨h.rng.1, h.rng.2, h.reach hp⟩
    · rw [hget k hk e]; exact h.base.val k (by simpa using hk)
  · rcases List.mem_append.1 hk with h2 | h2
    · obtain ⟨a, b⟩ := h.base.stk k h2
      have e : ¬ k = p := fun e => by subst e; exact b h1
      exact ⟨by simpa using a, by rw [hget k (by simpa using a) e]; exact b⟩
    · obtain rfl : k = p := by simpa using h2
      exact ⟨by simpa using hl, by rw [List.getElem_set_self]; exact hd1⟩
  · by_cases e : k = p
    · subst e; left; simp
    · rw [hget k hk e] at hne
      rcases h.base.done k (by simpa using hk) hne with h2 | h2 | ⟨d2, a1, a2, a3, a4⟩
      · left; simp [h2]
      · exact .inr (.inl h2)
      · refine .inr (.inr ⟨d2, a1, hk, by rw [hget k hk e]; exact a3, fun x hx => hkeep _ _ ?_ (a4 x hx)⟩)
        have := afterI_ge a3; omega
  · rw [List.getElem?_set]
    split
    · rename_i e
      subst e
      have := h.base.first
      rw [List.getElem?_eq_getElem hl, h1] at this
      simp at this
    · exact h.base.first
  · rw [hget q _ (by omega)]; exact h.at'
  · rw [hget q _ (by omega)]; exact h.mark
  · rcases hd with hd | rfl
    · exact hkeep _ _ hd1 (h.nxt x hx hd)
    · rw [Int.toNat_natCast, List.getElem?_set_self hl]
theorem PInv.end {ops : List GOp} {out : List Int} {todo : List Nat} {q : Nat} {d' : Int} {don : Int → Prop} (h : PInv ops out todo q d' don) (hd : ∀ x ∈ nextI (ops[q]'h.hq) q, don x) : SInv ops out todo (fun _ => False) :=
  ⟨h.base.len, h.base.val, h.base.stk, fun k hk hne => by
    rcases h.base.done k hk hne with h2 | rfl | h2
    · exact .inl h2
    · exact .inr (.inr ⟨d', h.hq, h.hq', h.at', fun x hx => h.nxt x hx (hd x hx)⟩)
    · exact .inr (.inr h2), h.base.first⟩
theorem SInv.end {ops : List GOp} {out : List Int} (h : SInv ops out [] (fun _ => False)) : Found ops (some out) := by
  have key : ∀ k d, Reach ops k d → out[k]? = some d := by
    intro k d hr
    induction hr with
    | start => exact h.first
    | @step q p d d' hq hr ha hp ih =>
      obtain ⟨h1, e⟩ := List.getElem?_eq_some_iff.1 ih
      have hne : ¬ out[q] = -1 := by
        rw [e]; have := hr.ge; omega
      rcases h.done q h1 hne with h2 | h2 | ⟨d2, a1, a2, a3, a4⟩
      · cases h2
      · exact h2.elim
      · rw [e, ha] at a3
        cases a3
        have := a4 _ hp
        rwa [Int.toNat_natCast] at this
  refine ⟨?_, h.len, fun k hk => ?_⟩
  · rintro (⟨q, d, hq, hr, ha⟩ | ⟨q, d1, d2, h1, h2, hne⟩)
    · obtain ⟨h1, e⟩ := List.getElem?_eq_some_iff.1 (key q d hr)
      rcases h.val q h1 with e3 | ⟨e3, _, _⟩
      · rw [e3] at e; have := hr.ge; omega
      · rcases h.done q h1 (by omega) with h2 | h2 | ⟨d2, a1, a2, a3, a4⟩
        · cases h2
        · exact h2.elim
        · rw [e, ha] at a3; cases a3
    · have e1 := key _ _ h1
      rw [key _ _ h2] at e1
      cases e1; exact hne rfl
  · rcases h.val k hk with e | ⟨_, _, e⟩
    · left
      refine ⟨e, fun d hr => ?_⟩
      have e1 := key _ _ hr
      rw [List.getElem?_eq_getElem hk, e] at e1
      simp at e1
      have := hr.ge
      omega
    · exact .inr e

/-- how many places are not reached yet -/
def negs : List Int → Nat | [] => 0 | x :: r => (if x = -1 then 1 else 0) + negs r
theorem negs_set : ∀ {l : List Int} {p : Nat} {d : Int} (h : p < l.length), l[p] = -1 → ¬ d = -1 → negs (l.set p d) + 1 = negs l
  | x :: r, 0, d, h, e, hd => by simp at e; simp [negs, e, hd]; omega
  | x :: r, p + 1, d, h, e, hd => by
    have := negs_set (l := r) (p := p) (by simpa using h) (by simpa using e) hd
    simp [negs]; omega

open Classical in
theorem funsB_out {l : List GFun} (h : funsB l = true) : topB l ∧ AllHead l l.length ∧ AllTail l l.length := by
  unfold funsB at h; exact of_decide_eq_true h
theorem funs_op {l : List GFun} (h : funsB l = true) (i : Nat) (hi : i < l.length) (q : Nat) (hq : q < l[i].list.length) : opP l[i].free l[i].list.length l.length (freeAt l) i l[i].list[q].code l[i].list[q].n l[i].list[q].m := by
  have h1 := (funsB_out h).2.2 i hi hi
  unfold tailB at h1
  rw [Bool.and_eq_true, List.all_eq_true] at h1
  have h2 := h1.1 _ (List.getElem_mem hq)
  unfold opB at h2
  exact of_decide_eq_true h2
theorem funs_last {l : List GFun} (h : funsB l = true) (i : Nat) (hi : i < l.length) (q : Nat) (hq : q + 1 = l[i].list.length) : l[i].list[q].code = 7 ∨ l[i].list[q].code = 19 ∨ l[i].list[q].code = 21 := by
  have h1 := (funsB_out h).2.2 i hi hi
  unfold tailB at h1
  rw [Bool.and_eq_true, lastB_at q hq.symm] at h1
  exact of_decide_eq_true h1.2
theorem funs_in {l : List GFun} (h : funsB l = true) (i : Nat) (hi : i < l.length) : JumpsIn l[i].list ∧ EffIn l[i].list ∧ l[i].list.length ≤ 3000 := by
  have hh := headB_in ((funsB_out h).2.1 i hi hi)
  refine ⟨⟨hh.2.2.1, fun q hq x hx => ?_⟩, fun q hq => ?_, hh.2.2.2⟩
  · have ho := funs_op h i hi q hq
    have hl := funs_last h i hi q
    generalize hc : (l[i].list[q]).code = c at *
    generalize hn : (l[i].list[q]).n = n at *
    generalize hm : (l[i].list[q]).m = m at *
    unfold nextI at hx
    rw [hc, hn, hm] at hx
    unfold opP at ho
    split at hx
    · cases hx
    · split at hx
      · rename_i h1 h2
        obtain rfl : x = n := by simpa using hx
        subst h2
        simp at ho
        omega
      · split at hx
        · rename_i h1 h2 h3
          have hq1 : q + 1 < l[i].list.length := by
            rcases Nat.lt_or_ge (q + 1) l[i].list.length with h4 | h4
            · exact h4
            · have := hl (by omega); omega
          simp only [List.mem_cons, List.not_mem_nil, or_false] at hx
          rcases hx with rfl | rfl
          · omega
          · rcases h3 with rfl | rfl <;> simp at ho <;> omega
        · split at hx
          · rename_i h1 h2 h3 h5
            have hq1 : q + 1 < l[i].list.length := by
              rcases Nat.lt_or_ge (q + 1) l[i].list.length with h4 | h4
              · exact h4
              · have := hl (by omega); omega
            simp only [List.mem_cons, List.not_mem_nil, or_false] at hx
            rcases hx with rfl | rfl
            · omega
            · subst h5; simp at ho; omega
          · have hq1 : q + 1 < l[i].list.length := by
              rcases Nat.lt_or_ge (q + 1) l[i].list.length with h4 | h4
              · exact h4
              · have := hl (by omega); omega
            simp only [List.mem_cons, List.not_mem_nil, or_false] at hx
            subst hx
            omega
  · have ho := funs_op h i hi q hq
    have hf : ∀ n : Int, 1 ≤ n → n ≤ (l.length : Int) - 1 → 0 ≤ freeAt l n ∧ freeAt l n ≤ 20 := fun n h1 h2 => by
      have hk : n.toNat < l.length := by omega
      have h3 := headB_in ((funsB_out h).2.1 n.toNat hk hk)
      unfold freeAt
      rw [List.getElem?_eq_getElem hk]
      exact ⟨h3.1, h3.2.1⟩
    generalize hc : (l[i].list[q]).code = c at *
    generalize hn : (l[i].list[q]).n = n at *
    generalize hm : (l[i].list[q]).m = m at *
    unfold opP at ho
    have hm2 : c = 5 ∨ c = 8 → 0 ≤ m ∧ m ≤ 20 := by
      rintro (rfl | rfl)
      · simp at ho; obtain ⟨a, b⟩ := ho; subst b; exact hf n (by omega) (by omega)
      · simp at ho; omega
    unfold effI
    split
    · simp
    · split
      · rename_i h1 h2
        have := hm2 h2
        simp; omega
      · split
        · simp
        · split
          · simp
          · split <;> simp

/-- what Depths gives: none, or the depths -/
def IsDepths (l : List GFun) (i : Int) (r : Option (List Int)) : Prop :=
  (funsB l = false ∧ r = none) ∨ (funsB l = true ∧ ¬ (0 ≤ i ∧ i ≤ (l.length : Int) - 1) ∧ r = none) ∨ (funsB l = true ∧ ∃ h : i.toNat < l.length, 0 ≤ i ∧ Found l[i.toNat].list r)
theorem IsDepths.one {l : List GFun} {i : Int} {r r' : Option (List Int)} (h : IsDepths l i r) (h' : IsDepths l i r') : r = r' := by
  rcases h with ⟨a, rfl⟩ | ⟨a, b, rfl⟩ | ⟨a, b, c, d⟩ <;> rcases h' with ⟨a', rfl⟩ | ⟨a', b', rfl⟩ | ⟨a', b', c', d'⟩
  · rfl
  · rfl
  · rw [a] at a'; cases a'
  · rfl
  · rfl
  · omega
  · rw [a] at a'; cases a'
  · omega
  · exact d.one d'
open Classical in
noncomputable def depthsV (l : List GFun) (i : Int) : Option (List Int) := if h : ∃ r, IsDepths l i r then h.choose else none
theorem depthsV_eq {l : List GFun} {i : Int} {r : Option (List Int)} (h : IsDepths l i r) : depthsV l i = r := by
  unfold depthsV
  have he : ∃ r, IsDepths l i r := ⟨r, h⟩
  rw [dif_pos he]
  exact he.choose_spec.one h

end Go.Proofs.Ytghldoiblbcacaa

/- Depths: how deep the values stand, in the program and in the reference. Conditions: none but what a Go value may be. -/
namespace Go.Proofs.Ytghldoiblbcacaa
open Go.RowKit
set_option linter.unusedVariables false
set_option linter.unusedSimpArgs false
set_option maxHeartbeats 2000000

theorem ret_ib {a b : Int} {c d : Bool} (h : a = b) (h2 : c = d) : Ending.returned (.tuple #[.int .i64 a, .bool c]) = .returned (.tuple #[.int .i64 b, .bool d]) := by rw [h, h2]
def aftR (x : Option Int) : Int := match x with | some d => d | none => 0

/-- a list of numbers that a call lays -/
def FollowsTo (l : List Int) (w : World) (e : Ending) (w' : World) : Prop := ∃ A c, e = .returned (.slice A l.length c) ∧ Sl w' (Btw w.heap.size w'.heap.size) 1 A c (l.map (D.num .i64)) ∧ Below w.heap.size w w'
/-- what Depths hands back -/
def DepthsTo (l : List GFun) (i : Int) (w : World) (e : Ending) (w' : World) : Prop :=
  ∃ r A c, IsDepths l i r ∧ e = .returned (.tuple #[.slice A (r.getD []).length c, .bool r.isSome]) ∧ Osl w' (Btw w.heap.size w'.heap.size) 1 A c ((r.getD []).map (D.num .i64)) ∧ Below w.heap.size w w'
theorem DepthsTo.no {l : List GFun} {i : Int} {w w' : World} {A : Option Addr} {c : Nat} (h : IsDepths l i none) (hc : c ≤ maxLen) (hb : Below w.heap.size w w') : DepthsTo l i w (.returned (.tuple #[.slice A 0 c, .bool false])) w' :=
  ⟨none, A, c, h, rfl, Osl.nil hc, hb⟩
theorem DepthsTo.yes {l : List GFun} {i : Int} {w w' : World} {g n : Nat} {t : TypeId} {out : List Int} (h : IsDepths l i (some out)) (hr : Row w' g t (rowI out)) (hg : w.heap.size ≤ g) (hl : out.length = n) (hn : n ≤ 3000) (hw : ∀ x ∈ out, (Lit.int .i64 x).wf = true) (hb : Below w.heap.size w w') : DepthsTo l i w (.returned (.tuple #[.slice (some ⟨g, 0, none⟩) n n, .bool true])) w' := by
  subst hl
  exact ⟨some out, _, _, h, rfl, rowI_osl hr hg (by unfold maxLen; omega) hw, hb⟩
theorem SInv.wf {ops : List GOp} {out : List Int} {todo : List Nat} {ex : Nat → Prop} (h : SInv ops out todo ex) : ∀ x ∈ out, (Lit.int .i64 x).wf = true := fun x hx => by
  obtain ⟨k, hk, rfl⟩ := List.getElem_of_mem hx
  rcases h.val k hk with e | ⟨a, b, _⟩
  · rw [e]; exact wf_i64 (by omega) (by omega)
  · exact wf_i64 (by omega) (by omega)
/-- places as numbers -/
def tdI (todo : List Nat) : List Int := todo.map fun k => ((k : Nat) : Int)
theorem tdI_length (todo : List Nat) : (tdI todo).length = todo.length := by unfold tdI; simp
theorem replicate_all {n : Nat} {v : Int} {out : List Int} (h : out.length = n) (h2 : ∀ k (h : k < out.length), k < n → out[k] = v) : out = List.replicate n v := by
  apply List.ext_getElem (by simp [h])
  intro k h3 h4
  rw [List.getElem_replicate]; exact h2 k h3 (by omega)
theorem rdC_num {w w' : World} {S S' : Nat → Prop} : ∀ (l : List Int) (cs : List Value), rdC w 1 S (l.map (D.num .i64)) cs → rdC w' 1 S' (l.map (D.num .i64)) cs
  | [], _, h => h
  | x :: r, cs, h => by
    simp only [List.map_cons, rdC] at h ⊢
    obtain ⟨c1, c2, e, hl, h1, h2⟩ := h
    exact ⟨c1, c2, e, hl, D.rd_num.2 (D.rd_num.1 h1), rdC_num r c2 h2⟩
theorem Gsh.setFar {w : World} {B : Nat} {e : TypeId} {v : Value} {n : Nat} {l : List Int} (h : Gsh w B e 1 v n (l.map (D.num .i64))) {p : Addr} (hp : p.block < B) (u : Value) : Gsh (w.setCell p u) B e 1 v n (l.map (D.num .i64)) := by
  obtain ⟨h1, cs, h2, h4⟩ := h
  refine ⟨h1, cs, ⟨h2.1, ?_⟩, rdC_num l cs h4⟩
  rcases h2.2 with h | ⟨g, cap, cur, hv, a1, a2, a3⟩
  · exact .inl h
  · exact .inr ⟨g, cap, cur, hv, a1, (Below.heap_setCell w p u g (by omega)).trans a2, a3⟩
theorem Gsh.top {w : World} {B : Nat} {e : TypeId} {A : Option Addr} {c n : Nat} {ts : List Nat} {q : Nat} (h : Gsh w B e 1 (.slice A (n + 1) c) (n + 1) ((tdI (ts ++ [q])).map (D.num .i64))) (hB : B ≤ w.heap.size) (hn : ts.length = n) :
    ∃ b off, A = some ⟨b, off, none⟩ ∧ w.cell? ⟨b, off + n, none⟩ = some (.int .i64 (q : Int)) ∧ n + 1 ≤ c ∧ c ≤ maxLen := by
  obtain ⟨A', c', e', hs⟩ := h.sl hB
  obtain ⟨rfl, rfl⟩ : A = A' ∧ c = c' := by simpa using e'
  have hl : (tdI (ts ++ [q])).length = n + 1 := by rw [tdI_length]; simp [hn]
  obtain ⟨b, off, e1, hS, hc, hw⟩ := int_elem hs n (by omega)
  have h1 := hs.1
  rw [List.length_map, hl] at h1
  refine ⟨b, off, e1, ?_, h1, hs.2.1⟩
  rw [hc]
  congr 2
  subst hn
  simp [tdI]
theorem tdI_snoc (ts : List Nat) (q : Nat) : (tdI (ts ++ [q])).map (D.num .i64) = (tdI ts).map (D.num .i64) ++ [D.num .i64 (q : Int)] := by simp [tdI]
theorem SInv.rng {ops : List GOp} {out : List Int} {todo : List Nat} {ex : Nat → Prop} (h : SInv ops out todo ex) {q : Nat} (hq : q < out.length) (hne : ¬ out[q] = -1) : 1 ≤ out[q] ∧ out[q] ≤ 60 := by
  rcases h.val q hq with e | ⟨a, b, _⟩
  · exact absurd e hne
  · exact ⟨a, b⟩
theorem PInv.mono {ops : List GOp} {out : List Int} {todo : List Nat} {q : Nat} {d' : Int} {don don' : Int → Prop} (h : PInv ops out todo q d' don) (hd : ∀ x, don' x → don x) : PInv ops out todo q d' don' :=
  ⟨h.base, h.hq, h.hq', h.at', h.mark, h.rng, fun x hx hd' => h.nxt x hx (hd x hd')⟩
theorem mem_take_succ {ns : List Int} {j : Nat} (h : j < ns.length) {x : Int} (hx : x ∈ ns.take (j + 1)) : x ∈ ns.take j ∨ x = ns[j] := by
  rw [take_snoc' ns j h, List.mem_append] at hx
  exact hx.imp id fun h => by simpa using h
theorem SInv.begin {ops : List GOp} {out : List Int} (h1 : 1 ≤ ops.length) (hl : out.length = ops.length) (h2 : ∀ k (h : k < out.length), k < ops.length → out[k] = -1) : SInv ops (out.set 0 1) [0] (fun _ => False) :=
  SInv.start h1 (by simp [hl]) (by rw [List.getElem?_set_self (by omega)]) (fun k h hk => by rw [List.getElem_set_ne (by omega)]; exact h2 k (by simpa using h) (by simp at h; omega))
theorem negs_le : ∀ (l : List Int), negs l ≤ l.length
  | [] => by simp [negs]
  | x :: r => by have := negs_le r; simp only [negs, List.length_cons]; split <;> omega

end Go.Proofs.Ytghldoiblbcacaa

/- Depths of the reference: its state in memory, l15Go, l15One. Conditions: none but what a Go value may be. -/
namespace Go.Proofs.Ytghldoiblbcacaa
open Go.RowKit
set_option linter.unusedVariables false
set_option linter.unusedSimpArgs false
set_option maxHeartbeats 2000000

theorem GI.keep {w w' : World} {B : Nat} {e : TypeId} {v : Value} {n : Nat} {l : List Int} (h : Gre w B e 1 v n (l.map (D.num .i64))) (hk : ∀ b, v.ownBlock = some b → w'.heap[b]? = w.heap[b]?) : Gre w' B e 1 v n (l.map (D.num .i64)) := by
  obtain ⟨h1, cs, h2, h4⟩ := h
  refine ⟨h1, cs, ⟨h2.1, ?_⟩, rdC_num l cs h4⟩
  rcases h2.2 with h | ⟨g, cap, cur, rfl, a1, a2, a3⟩
  · exact .inl h
  · exact .inr ⟨g, cap, cur, rfl, a1, (hk g rfl).trans a2, a3⟩
theorem GI.setNe {w : World} {B : Nat} {e : TypeId} {v : Value} {n : Nat} {l : List Int} (h : Gre w B e 1 v n (l.map (D.num .i64))) {p : Addr} (hp : v.ownBlock ≠ some p.block) (u : Value) : Gre (w.setCell p u) B e 1 v n (l.map (D.num .i64)) :=
  GI.keep h fun b hb => Below.heap_setCell w p u b fun e => hp (by rw [hb, e])
theorem GI.grow {w w' : World} {B : Nat} {e : TypeId} {v v2 v2' : Value} {n : Nat} {l : List Int} (h : Gre w B e 1 v n (l.map (D.num .i64))) (hg : Gr w w' v2 v2') (hne : ∀ b, v.ownBlock = some b → v2.ownBlock ≠ some b) : Gre w' B e 1 v n (l.map (D.num .i64)) :=
  GI.keep h fun b hb => hg.grow.block b (h.own b hb).2 fun e => hne b hb e.symm
theorem rdC_intC {w : World} {S : Nat → Prop} : ∀ (l : List Int) (cs : List Value), rdC w 1 S (l.map (D.num .i64)) cs → cs = l.map (Value.int .i64)
  | [], cs, h => h
  | x :: r, cs, h => by
    simp only [List.map_cons, rdC] at h
    obtain ⟨c1, c2, rfl, hl, h1, h2⟩ := h
    rw [(D.rd_num.1 h1).1, rdC_intC r c2 h2]; rfl
theorem GI.form {w : World} {B : Nat} {e : TypeId} {A : Option Addr} {c n : Nat} {l : List Int} (h : Gre w B e 1 (.slice A n c) n (l.map (D.num .i64))) (k : Nat) (hk : k < l.length) :
    ∃ g, A = some ⟨g, 0, none⟩ ∧ w.cell? ⟨g, k, none⟩ = some (.int .i64 l[k]) ∧ (∀ q, w.frozen? ⟨g, q, none⟩ = false) ∧ n ≤ c ∧ c ≤ maxLen := by
  obtain ⟨h1, cs, h2, h4⟩ := h
  have hcs := rdC_intC l cs h4
  simp only [List.length_map] at h1
  rcases h2.2 with ⟨_, h⟩ | ⟨g, cap, cur, hv, a1, a2, a3, a4, a5, a6⟩
  · omega
  · simp only [Value.slice.injEq] at hv
    obtain ⟨rfl, _, rfl⟩ := hv
    refine ⟨g, rfl, ?_, fun q => Row.frozen (t := e) (cs := cur) a2 q, a3, a4⟩
    rw [Row.cell (t := e) (cs := cur) a2, ← Array.getElem?_toList]
    have : (cur.toList.take (n * 1))[k]? = some (.int .i64 l[k]) := by rw [a6, hcs]; simp [hk]
    rwa [List.getElem?_take_of_lt (by omega)] at this
theorem GI.set {w : World} {B : Nat} {e : TypeId} {g c n : Nat} {l : List Int} (h : Gre w B e 1 (.slice (some ⟨g, 0, none⟩) n c) n (l.map (D.num .i64))) (k : Nat) (hk : k < l.length) (d : Int) (hd : (Lit.int .i64 d).wf = true) :
    Gre (w.setCell ⟨g, k, none⟩ (.int .i64 d)) B e 1 (.slice (some ⟨g, 0, none⟩) n c) n ((l.set k d).map (D.num .i64)) := by
  obtain ⟨h1, cs, h2, h4⟩ := h
  have hcs := rdC_intC l cs h4
  simp only [List.length_map] at h1
  have hw : ∀ x ∈ l, (Lit.int .i64 x).wf = true := by
    clear hk h1 h2
    revert cs
    induction l with
    | nil => intro _ _ _ x hx; cases hx
    | cons y r ih =>
      intro cs h4 hcs x hx
      simp only [List.map_cons, rdC] at h4
      obtain ⟨c1, c2, e1, hl, k1, k2⟩ := h4
      rcases List.mem_cons.1 hx with rfl | hx
      · exact (D.rd_num.1 k1).2
      · exact ih c2 k2 (rdC_intC r c2 k2) x hx
  refine ⟨by simpa using h1, (l.set k d).map (Value.int .i64), ⟨by simp [h1], ?_⟩, rdC_int _ fun x hx => ?_⟩
  · rcases h2.2 with ⟨h, _⟩ | ⟨g', cap, cur, hv, a1, a2, a3, a4, a5, a6⟩
    · cases h
    · simp only [Value.slice.injEq, Option.some.injEq, Addr.mk.injEq, and_true, true_and] at hv
      obtain ⟨rfl, rfl⟩ := hv
      refine .inr ⟨g, c, cur.setIfInBounds k (.int .i64 d), rfl, a1, Row.set (t := e) (cs := cur) a2 k _, a3, a4, by simp [a5], ?_⟩
      rw [Array.toList_setIfInBounds, List.take_set, a6, hcs, List.map_set]
  · rcases List.mem_or_eq_of_mem_set hx with h | rfl
    · exact hw x h
    · exact hd
theorem GI.pop {w : World} {B : Nat} {e : TypeId} {A : Option Addr} {c n : Nat} {d : Int} {l : List Int} (h : Gre w B e 1 (.slice A (n + 1) c) (n + 1) ((l ++ [d]).map (D.num .i64))) (hB : B ≤ w.heap.size) : Gre w B e 1 (.slice A n c) n (l.map (D.num .i64)) := by
  obtain ⟨h1, cs, h2, h4⟩ := h
  have h5 := rdC_num (w' := w) (S' := Lt B) (l ++ [d]) cs h4
  rw [List.map_append] at h5
  have hg : Gsh w B e 1 (.slice A (n + 1) c) (n + 1) (l.map (D.num .i64) ++ [D.num .i64 d]) := ⟨by simpa using h1, cs, h2, h5⟩
  exact Gre.of_gsh (Gsh.pop hg) hB

/-- what l15Go does -/
def goS (out : List Int) (todo : List Nat) (ok : Bool) (q : Nat) (d : Int) : List Int × List Nat × Bool :=
  if out.length ≤ q ∨ 60 < d then (out, todo, false) else if out.getD q 0 < 0 then (out.set q d, todo ++ [q], ok) else if out.getD q 0 = d then (out, todo, ok) else (out, todo, false)
theorem bool_wf : True := trivial

theorem goS_len (out : List Int) (todo : List Nat) (ok : Bool) (q : Nat) (d : Int) : (goS out todo ok q d).1.length = out.length ∧ (goS out todo ok q d).2.1.length ≤ todo.length + 1 := by
  unfold goS; split
  · simp
  · split
    · simp
    · split <;> simp
theorem goS_false (out : List Int) (todo : List Nat) (q : Nat) (d : Int) : (goS out todo false q d).2.2 = false := by
  unfold goS; split
  · rfl
  · split
    · rfl
    · split <;> rfl
theorem goS_big {out : List Int} {todo : List Nat} {ok : Bool} {q : Nat} {d : Int} (h : 60 < d) : goS out todo ok q d = (out, todo, false) := by unfold goS; rw [if_pos (.inr h)]
theorem goS_step {ops : List GOp} {out : List Int} {todo : List Nat} {q : Nat} {d' : Int} {don : Int → Prop} (h : PInv ops out todo q d' don) {p : Nat} (hp : (p : Int) ∈ nextI (ops[q]'h.hq) q) (hl : p < out.length) :
    ((goS out todo true p d').2.2 = true → PInv ops (goS out todo true p d').1 (goS out todo true p d').2.1 q d' (fun x => don x ∨ x = p) ∧ 2 * negs (goS out todo true p d').1 + (goS out todo true p d').2.1.length ≤ 2 * negs out + todo.length) ∧
    ((goS out todo true p d').2.2 = false → Bad ops) := by
  have hr := h.rng
  have eg : out.getD p 0 = out[p] := by simp [List.getD, List.getElem?_eq_getElem hl]
  have e : goS out todo true p d' = if out[p] < 0 then (out.set p d', todo ++ [p], true) else if out[p] = d' then (out, todo, true) else (out, todo, false) := by
    unfold goS; rw [if_neg (by omega), eg]
  by_cases h1 : out[p] < 0
  · rw [e, if_pos h1]
    have h2 : out[p] = -1 := by rcases h.base.val p hl with h2 | ⟨h2, _, _⟩; exact h2; omega
    have h3 := negs_set (d := d') hl h2 (by omega)
    exact ⟨fun _ => ⟨h.set hp hl h2, by simp only [List.length_append, List.length_singleton]; omega⟩, fun h => by cases h⟩
  · have h4 : ¬ out[p] = -1 := by omega
    by_cases h2 : out[p] = d'
    · rw [e, if_neg h1, if_pos h2]
      exact ⟨fun _ => ⟨h.same hl h2, Nat.le_refl _⟩, fun h => by cases h⟩
    · rw [e, if_neg h1, if_neg h2]
      exact ⟨fun h => (by cases h), fun _ => h.bad hp hl h4 h2⟩

/-- what l15One leaves: the search goes on, or something is wrong -/
def OneR (ops : List GOp) (M : Nat) (r : List Int × List Nat × Bool) : Prop := (r.2.2 = true → SInv ops r.1 r.2.1 (fun _ => False) ∧ 2 * negs r.1 + r.2.1.length < M) ∧ (r.2.2 = false → Bad ops) ∧ r.1.length = ops.length
theorem one0 {ops : List GOp} {out : List Int} {ts : List Nat} {q : Nat} {d' : Int} (h : SInv ops out (ts ++ [q]) (fun _ => False)) (hq : q < ops.length) (h' : q < out.length) (hn : nextI ops[q] q = []) (ha : afterI ops[q] out[q] = some d') : OneR ops (2 * negs out + ts.length + 1) (out, ts, true) :=
  ⟨fun _ => ⟨(h.pop h' hq ha).end (by rw [hn]; simp), Nat.lt_succ_self _⟩, fun h => by simp at h, h.len⟩
theorem oneBad {ops : List GOp} {out : List Int} {ts : List Nat} {q : Nat} {M : Nat} (h : SInv ops out (ts ++ [q]) (fun _ => False)) (hq : q < ops.length) (h' : q < out.length) (ha : afterI ops[q] out[q] = none) : OneR ops M (out, ts, false) :=
  ⟨fun h => by simp at h, fun _ => h.bad h' hq ha, h.len⟩
theorem one1 {ops : List GOp} {out : List Int} {ts : List Nat} {q : Nat} {nx : Int} (h : SInv ops out (ts ++ [q]) (fun _ => False)) (hJ : JumpsIn ops) (hq : q < ops.length) (h' : q < out.length) (p : Nat) (hn : nextI ops[q] q = [(p : Int)]) (ha : afterI ops[q] out[q] = if 60 < nx then none else some nx) :
    OneR ops (2 * negs out + ts.length + 1) (goS out ts true p nx) := by
  by_cases hb : 60 < nx
  · rw [goS_big hb]; rw [if_pos hb] at ha; exact oneBad h hq h' ha
  · rw [if_neg hb] at ha
    have hp := h.pop h' hq ha
    have hm : (p : Int) ∈ nextI ops[q] q := by rw [hn]; simp
    have hpl := hJ.2 q hq _ hm
    have hs := goS_step hp hm (by have := h.len; omega)
    refine ⟨fun e => ?_, hs.2, by rw [(goS_len _ _ _ _ _).1]; exact h.len⟩
    obtain ⟨a, b⟩ := hs.1 e
    exact ⟨a.end (by rw [hn]; simp), by omega⟩
theorem one2 {ops : List GOp} {out : List Int} {ts : List Nat} {q : Nat} {nx : Int} (h : SInv ops out (ts ++ [q]) (fun _ => False)) (hJ : JumpsIn ops) (hq : q < ops.length) (h' : q < out.length) (p : Nat) (hn : nextI ops[q] q = [((q + 1 : Nat) : Int), (p : Int)]) (ha : afterI ops[q] out[q] = if 60 < nx then none else some nx) :
    OneR ops (2 * negs out + ts.length + 1) (goS (goS out ts true p nx).1 (goS out ts true p nx).2.1 (goS out ts true p nx).2.2 (q + 1) nx) := by
  by_cases hb : 60 < nx
  · rw [goS_big hb, goS_big hb]; rw [if_pos hb] at ha; exact oneBad h hq h' ha
  · rw [if_neg hb] at ha
    have hp := h.pop h' hq ha
    have hm : (p : Int) ∈ nextI ops[q] q := by rw [hn]; simp
    have hm1 : ((q + 1 : Nat) : Int) ∈ nextI ops[q] q := by rw [hn]; simp
    have hpl := hJ.2 q hq _ hm
    have hpl1 := hJ.2 q hq _ hm1
    have hs := goS_step hp hm (by have := h.len; omega)
    have hl1 := (goS_len out ts true p nx).1
    cases he : (goS out ts true p nx).2.2 with
    | false =>
      refine ⟨fun e => ?_, fun _ => hs.2 he, by rw [(goS_len _ _ _ _ _).1, hl1]; exact h.len⟩
      rw [goS_false] at e; cases e
    | true =>
      obtain ⟨a, b⟩ := hs.1 he
      have hs2 := goS_step a hm1 (by have := h.len; omega)
      refine ⟨fun e => ?_, hs2.2, by rw [(goS_len _ _ _ _ _).1, hl1]; exact h.len⟩
      obtain ⟨a2, b2⟩ := hs2.1 e
      exact ⟨a2.end (by rw [hn]; simp), by omega⟩

theorem GI.osl {w : World} {B : Nat} {e : TypeId} {A : Option Addr} {c n : Nat} {l : List Int} (h : Gre w B e 1 (.slice A n c) n (l.map (D.num .i64))) (hw : ∀ x ∈ l, (Lit.int .i64 x).wf = true) : Osl w (Btw B w.heap.size) 1 A c (l.map (D.num .i64)) := by
  have hl : l.length = n := by have := h.1; simpa using this
  by_cases hn : 0 < l.length
  · obtain ⟨g, rfl, _, hf, h1, h2⟩ := GI.form h 0 hn
    have ho := h.own g rfl
    refine ⟨by simpa [hl] using h1, h2, .inr ⟨g, rfl, ho, hf, rowI_ownR l _ 0 hw fun k hk => ?_⟩⟩
    obtain ⟨g', e', hc, _⟩ := GI.form h k hk
    obtain rfl : g = g' := by simpa using e'
    rw [Nat.zero_add]; exact hc
  · have hn' : l = [] := List.eq_nil_of_length_eq_zero (by omega)
    subst hn'
    obtain ⟨A', c', e', hs⟩ := h.sl
    obtain ⟨rfl, rfl⟩ : A = A' ∧ c = c' := by simpa using e'
    exact Osl.nil hs.2.1
theorem DepthsTo.yesG {l : List GFun} {i : Int} {w w' : World} {B : Nat} {t : TypeId} {A : Option Addr} {c : Nat} {out : List Int} (h : IsDepths l i (some out)) (hr : Gre w' B t 1 (.slice A out.length c) out.length (out.map (D.num .i64))) (hg : w.heap.size ≤ B) (hw : ∀ x ∈ out, (Lit.int .i64 x).wf = true) (hb : Below w.heap.size w w') : DepthsTo l i w (.returned (.tuple #[.slice A out.length c, .bool true])) w' :=
  ⟨some out, A, c, h, rfl, (GI.osl hr hw).keep fun b hb => ⟨⟨by have := hb.1; omega, hb.2⟩, rfl⟩, hb⟩

end Go.Proofs.Ytghldoiblbcacaa

/- FreeVars of both: the library's sort of a list of one's own, and both roads. Conditions: none. -/
namespace Go.Proofs.Ytghldoiblbcacaa
open Go.RowKit Go.Sort
set_option linter.unusedVariables false
set_option linter.unusedSimpArgs false

theorem rdC_wf {w : World} {S : Nat → Prop} : ∀ (l : List Int) (cs : List Value), rdC w 1 S (l.map (D.num .i64)) cs → ∀ x ∈ l, (Lit.int .i64 x).wf = true
  | [], _, _, _, h => by cases h
  | x :: r, cs, h, y, hy => by
    simp only [List.map_cons, rdC] at h
    obtain ⟨c1, c2, rfl, hl, h1, h2⟩ := h
    rcases List.mem_cons.1 hy with rfl | hy
    · exact (D.rd_num.1 h1).2
    · exact rdC_wf r c2 h2 y hy
theorem GI.wf {w : World} {B : Nat} {e : TypeId} {v : Value} {n : Nat} {l : List Int} (h : Gre w B e 1 v n (l.map (D.num .i64))) : ∀ x ∈ l, (Lit.int .i64 x).wf = true := by
  obtain ⟨_, cs, _, h4⟩ := h
  exact rdC_wf l cs h4

theorem implSort (B : Nat) (xs : List Int) (A : Option Addr) (c : Nat) (w : World) (hl : xs.length ≤ 1048577) (hG : Gre w B 3 1 (.slice A xs.length c) xs.length (xs.map (D.num .i64))) :
    Calls Try.prog 56 #[.slice A xs.length c] w (fun e w' => e = .returned (.tuple #[]) ∧ Gre w' B 3 1 (.slice A xs.length c) xs.length ((xs.mergeSort fun x y => decide (x ≤ y)).map (D.num .i64)) ∧ Gr w w' (.slice A xs.length c) (.slice A xs.length c)) := by
  by_cases hn : xs.length = 0
  · have hx : xs = [] := List.eq_nil_of_length_eq_zero hn
    subst hx
    refine (AnyM.slices_Sort_int_none sortLays A c w).mono ?_
    rintro e w' ⟨rfl, rfl⟩
    exact ⟨rfl, by simpa using hG, Gr.refl _ _⟩
  · obtain ⟨h1, cs, h2, h4⟩ := hG
    have hcs := rdC_intC xs cs h4
    subst hcs
    have hwf := rdC_wf xs _ h4
    rcases h2.2 with ⟨_, h⟩ | ⟨g, cap, cur, hv, a1, a2, a3, a4, a5, a6⟩
    · exact absurd h hn
    · simp only [Value.slice.injEq] at hv
      obtain ⟨rfl, _, rfl⟩ := hv
      have hg : g < w.heap.size := (Array.getElem?_eq_some_iff.1 a2).1
      have hlen : xs.length < 4611686018427387904 := by omega
      refine (AnyM.slices_Sort_int sortLays g 0 c xs w (holds_of_blockI a2 (by simpa using a6)) hg hlen).mono ?_
      rintro e w' ⟨rfl, n, os, rfl⟩
      have hp := List.mergeSort_perm xs (fun x y => decide (x ≤ y))
      refine ⟨rfl, ⟨by simp [hp.length_eq], _, ownsRow_sortedI hp.length_eq a1 a2 a3 a4 a5, ?_⟩, ⟨grownBy_sortedI _, .inl rfl⟩⟩
      exact rdC_int _ fun x hx => hwf x (hp.mem_iff.1 hx)

/-- the list of a type's own variables that both hand back -/
def FVTo (t : GTy) (w : World) (e : Ending) (w' : World) : Prop := ∃ A c, e = .returned (.slice A (t.vs []).length c) ∧ Osl w' (Btw w.heap.size w'.heap.size) 1 A c ((t.vs []).map (D.num .i64)) ∧ Below w.heap.size w w'

set_option maxRecDepth 20000 in
theorem specFreeVars (t : GTy) (A1 : Option Addr) (c1 : Nat) (w : World) (hb : t.bulk ≤ 1048576) (hat : GTy.At w (Lt w.heap.size) A1 c1 t) :
    Calls Try.prog 21 #[.agg #[.int .i64 t.op, .int .i64 t.n, .string t.s, .slice A1 t.kids.length c1]] w (FVTo t w) := by
  have T0 := Lib.hid hat
  obtain ⟨w0, e0⟩ : ∃ w0, w0 = w.alloc (.cells #[.int .i64 t.op, .int .i64 t.n, .string t.s, .slice A1 t.kids.length c1] 27) := ⟨_, rfl⟩
  have E0 := Lib.hid (show Below w.heap.size w w0 by rw [e0]; exact (Below.refl _ _).alloc (Nat.le_refl _) _)
  have Ra0 := Lib.hid (show Row w0 w.heap.size 27 #[.int .i64 t.op, .int .i64 t.n, .string t.s, .slice A1 t.kids.length c1] by rw [e0]; exact Row.new' _ _ _ rfl)
  have S0 : w0.heap.size = w.heap.size + 1 := by rw [e0]; simp
  have hca0 := fun i => Ra0.out.cell i
  obtain ⟨w1, e1⟩ : ∃ w1, w1 = w0.alloc (.cells #[] 3) := ⟨_, rfl⟩
  have E1 := Lib.hid (show Below w.heap.size w w1 by rw [e1]; exact E0.out.alloc (by omega) _)
  have R1 := Lib.hid (show Row w1 w0.heap.size 3 #[] by rw [e1]; exact Row.new' _ _ _ rfl)
  have S1 : w1.heap.size = w.heap.size + 2 := by rw [e1]; simp [S0]
  clear hat
  go_enter Try.func21, Try.ntmps21
  go_wp2_with fail
  rw [← e0]
  rw [← e1]
  clear e0 e1 hca0
  have HG := Lib.hid (show Gre w1 w.heap.size 3 1 (.slice (some ⟨w.heap.size + 1, 0, none⟩) 0 0) 0 (([] : List Int).map (D.num .i64)) from Gre.made (by rw [← S0]; exact R1.out) (by omega))
  have HC := specVars w.heap.size (t.bulk + 1) t A1 c1 [] (some ⟨w.heap.size + 1, 0, none⟩) 0 w1 (by omega) (by simp; omega) (by omega) HG.out (T0.out.below E1.out (by omega))
  simp only [List.length_nil] at HC
  refine HC.mono ?_
  clear HC
  rintro e w2 ⟨A, c, rfl, hG, hb2⟩
  have B2 := Lib.hid (E1.out.trans (hb2.mono (by omega)))
  have HG2 := Lib.hid hG
  clear hG hb2
  go_wp2_with fail
  go_ret
  exact ⟨A, c, rfl, GI.osl HG2.out (GI.wf HG2.out), B2.out⟩

set_option maxRecDepth 20000 in
theorem implFreeVars (t : GTy) (A1 : Option Addr) (c1 : Nat) (w : World) (hb : t.bulk ≤ 1048576) (hat : GTy.At w (Lt w.heap.size) A1 c1 t) :
    Calls Try.prog 20 #[.agg #[.int .i64 t.op, .int .i64 t.n, .string t.s, .slice A1 t.kids.length c1]] w (FVTo t w) := by
  have HL := Lib.hid (t.vi_len [])
  have HB := Lib.hid hb
  have HS := Lib.hid ((GTy.same t [] [] ⟨List.Pairwise.nil, List.nodup_nil, fun _ => Iff.rfl⟩).sorted)
  obtain ⟨w0, e0⟩ : ∃ w0, w0 = w.alloc (.cells #[.int .i64 t.op, .int .i64 t.n, .string t.s, .slice A1 t.kids.length c1] 27) := ⟨_, rfl⟩
  have E0 := Lib.hid (show Below w.heap.size w w0 by rw [e0]; exact (Below.refl _ _).alloc (Nat.le_refl _) _)
  have Ra0 := Lib.hid (show Row w0 w.heap.size 27 #[.int .i64 t.op, .int .i64 t.n, .string t.s, .slice A1 t.kids.length c1] by rw [e0]; exact Row.new' _ _ _ rfl)
  have S0 : w0.heap.size = w.heap.size + 1 := by rw [e0]; simp
  have T0 := Lib.hid (hat.below E0.out (Nat.le_refl _))
  have hca0 := fun i => Ra0.out.cell i
  clear hat hb
  go_enter Try.func20, Try.ntmps20
  go_wp2_with fail
  rw [← e0]
  clear e0
  refine (implVars w.heap.size (t.bulk + 1) t A1 c1 [] none 0 w0 (by omega) (by have := HB.out; simp; omega) (by omega) (Gre.nil _ _ _ _) T0.out).mono ?_
  rintro e w1 ⟨A, c, rfl, hG, hGr⟩
  have HG := Lib.hid hG
  have B1 := Lib.hid (E0.out.trans (hGr.below (by omega) (fun g h => by cases h)))
  clear hG hGr hca0
  go_wp2_with fail
  refine (implSort w.heap.size (t.vi []) A c w1 (by have h1 := HL.out; have h2 := HB.out; simp at h1; omega) HG.out).mono ?_
  rintro e w2 ⟨rfl, hG2, hGr2⟩
  rw [HS.out] at hG2
  have HG2 := Lib.hid hG2
  have B2 := Lib.hid (B1.out.trans (hGr2.below (by have := B1.out.size; omega) (fun g h => (HG.out.own g h).1)))
  have HLE := Lib.hid (show (t.vi []).length = (t.vs []).length from by rw [← HS.out]; exact (List.mergeSort_perm _ _).length_eq.symm)
  clear hG2 hGr2
  go_wp2_with fail
  go_ret
  have h := HG2.out
  rw [HLE.out] at h ⊢
  exact ⟨A, c, rfl, GI.osl h (GI.wf h), B2.out⟩
end Go.Proofs.Ytghldoiblbcacaa

/- TySize. Conditions: none but a bound on the result. -/
namespace Go.Proofs.Ytghldoiblbcacaa
open Go.RowKit
set_option linter.unusedVariables false
set_option linter.unusedSimpArgs false
set_option maxHeartbeats 400000

mutual
/-- the number of nodes within a tree, itself too -/
def GTy.nodes : GTy → Nat | .mk _ _ _ kids => 1 + GTy.nodesL kids
def GTy.nodesL : List GTy → Nat | [] => 0 | t :: r => t.nodes + GTy.nodesL r
end

theorem GTy.nodes_eq (t : GTy) : t.nodes = 1 + GTy.nodesL t.kids := by cases t; simp only [GTy.nodes, GTy.kids]

theorem GTy.nodesL_take (l : List GTy) (i : Nat) (h : i < l.length) : GTy.nodesL (l.take (i + 1)) = GTy.nodesL (l.take i) + (l[i]).nodes := by
  induction l generalizing i with
  | nil => simp at h
  | cons t r ih =>
    match i with
    | 0 => simp [GTy.nodesL]
    | i + 1 => simp only [List.take_succ_cons, GTy.nodesL, List.getElem_cons_succ]; rw [ih i (by simpa using h)]; omega

theorem GTy.nodesL_le (l : List GTy) (i : Nat) : GTy.nodesL (l.take i) ≤ GTy.nodesL l := by
  induction l generalizing i with
  | nil => simp
  | cons t r ih =>
    match i with
    | 0 => simp [GTy.nodesL]
    | i + 1 => simp only [List.take_succ_cons, GTy.nodesL]; have := ih i; omega

mutual
theorem GTy.nodes_bulk : ∀ t : GTy, t.nodes ≤ t.bulk + 1
  | .mk op n s kids => by simp only [GTy.nodes, GTy.bulk]; have := GTy.nodesL_bulk kids; omega
theorem GTy.nodesL_bulk : ∀ l : List GTy, GTy.nodesL l ≤ GTy.bulks l
  | [] => by simp [GTy.nodesL]
  | t :: r => by simp only [GTy.nodesL, GTy.bulks]; have := GTy.nodes_bulk t; have := GTy.nodesL_bulk r; omega
end

theorem implTySize (k : Nat) : ∀ (t : GTy) (A1 : Option Addr) (c1 : Nat) (w : World), t.nodes ≤ k → t.nodes ≤ 4611686018427387904 → GTy.At w (Lt w.heap.size) A1 c1 t →
    Calls Try.prog 14 #[.agg #[.int .i64 t.op, .int .i64 t.n, .string t.s, .slice A1 t.kids.length c1]] w fun e w' => e = .returned (.int .i64 t.nodes) ∧ Below w.heap.size w w' := by
  induction k with
  | zero => intro t A1 c1 w h; rw [GTy.nodes_eq] at h; omega
  | succ k ih =>
    intro t A1 c1 w hk hb ht
    obtain ⟨-, -, -, hs⟩ := id ht
    have hlen : t.kids.length ≤ 9223372036854775807 := by simpa using hs.len
    go_enter Try.func14, Try.ntmps14
    go_wp2_with fail
    go_loopw [3, 9] (fun n i wr => ∃ j : Nat, j ≤ t.kids.length ∧ i = .int .i64 j ∧ n = .int .i64 (1 + GTy.nodesL (t.kids.take j)) ∧ Below w.heap.size w wr) (fun _ i _ => t.kids.length - (intOf i).toNat)
    case atStart => exact ⟨0, by omega, by go_num, by simp [GTy.nodesL], (Below.refl _ _).alloc (Nat.le_refl _) _⟩
    case round =>
      obtain ⟨j, hj, rfl, rfl, hbl⟩ := hrel
      have hsz := hbl.size
      by_cases hlt : j < t.kids.length
      · have htr := GTy.elem (hs.below hbl (Nat.le_refl _)) j hlt
        obtain ⟨b, off, A'1, c'1, rfl, hSb, g0, g1, g2, g3, hat⟩ := htr
        have hs1 := GTy.nodesL_take t.kids j hlt
        have hs2 := GTy.nodesL_le t.kids (j + 1)
        have hs3 := t.nodes_eq
        have Hs := Lib.hid hs1
        have hs4 : GTy.nodesL (t.kids.take j) + (t.kids[j]).nodes ≤ 4611686018427387904 := by omega
        have hs5 : (t.kids[j]).nodes ≤ k := by omega
        have hs6 : (t.kids[j]).nodes ≤ 4611686018427387904 := by omega
        clear hs1 hs2 hs3
        go_wp2_with fail
        refine (ih _ _ _ _ hs5 hs6 (hat.below ((Below.refl _ _).alloc (by omega) _) (by simp; omega))).mono ?_
        rintro e w1 ⟨rfl, hb1⟩
        go_wp2_with fail
        go_roundw
        case rel => exact ⟨j + 1, by omega, by go_num, by rw [Hs.out]; congr 1; omega, hbl.trans (((Below.refl _ _).alloc hsz _).trans (hb1.mono (by simp; omega)))⟩
        case measure => simp [intOf]; omega
      · have hjl : j = t.kids.length := by omega
        have Hj := Lib.hid hjl
        clear hjl
        have hbd := t.nodes_eq
        have hbd2 := GTy.nodesL_le t.kids j
        have hbd3 : GTy.nodesL (t.kids.take j) ≤ 4611686018427387904 := by omega
        clear hbd hbd2
        go_wp2_with fail
        go_ret
        exact ⟨ret_int (by rw [t.nodes_eq, Hj.out, List.take_length]; simp), hbl⟩

theorem specTySize (k : Nat) : ∀ (t : GTy) (A1 : Option Addr) (c1 : Nat) (w : World), t.nodes ≤ k → t.nodes ≤ 4611686018427387904 → GTy.At w (Lt w.heap.size) A1 c1 t →
    Calls Try.prog 84 #[.agg #[.int .i64 t.op, .int .i64 t.n, .string t.s, .slice A1 t.kids.length c1]] w fun e w' => e = .returned (.int .i64 t.nodes) ∧ Below w.heap.size w w' := by
  induction k with
  | zero => intro t A1 c1 w h; rw [GTy.nodes_eq] at h; omega
  | succ k ih =>
    intro t A1 c1 w hk hb ht
    obtain ⟨-, -, -, hs⟩ := id ht
    have hlen : t.kids.length ≤ 9223372036854775807 := by simpa using hs.len
    go_enter Try.func84, Try.ntmps84
    go_wp2_with fail
    go_loopw [3, 4] (fun n i wr => ∃ j : Nat, j ≤ t.kids.length ∧ i = .int .i64 j ∧ n = .int .i64 (1 + GTy.nodesL (t.kids.take j)) ∧ Below w.heap.size w wr ∧ Row wr w.heap.size 27 #[.int .i64 t.op, .int .i64 t.n, .string t.s, .slice A1 t.kids.length c1]) (fun _ i _ => t.kids.length - (intOf i).toNat)
    case atStart => exact ⟨0, by omega, by go_num, by simp [GTy.nodesL], (Below.refl _ _).alloc (Nat.le_refl _) _, Row.new _ _ _⟩
    case round =>
      obtain ⟨j, hj, rfl, rfl, hbl, hrow⟩ := hrel
      have hsz := hbl.size
      have hgl := hrow.lt
      have hc := fun i => hrow.cell i
      by_cases hlt : j < t.kids.length
      · have htr := GTy.elem (hs.below hbl (Nat.le_refl _)) j hlt
        obtain ⟨b, off, A'1, c'1, rfl, hSb, g0, g1, g2, g3, hat⟩ := htr
        have hs1 := GTy.nodesL_take t.kids j hlt
        have hs2 := GTy.nodesL_le t.kids (j + 1)
        have hs3 := t.nodes_eq
        have Hs := Lib.hid hs1
        have hs4 : GTy.nodesL (t.kids.take j) + (t.kids[j]).nodes ≤ 4611686018427387904 := by omega
        have hs5 : (t.kids[j]).nodes ≤ k := by omega
        have hs6 : (t.kids[j]).nodes ≤ 4611686018427387904 := by omega
        clear hs1 hs2 hs3
        go_wp2_with fail
        refine (ih _ _ _ _ hs5 hs6 (hat.below (Below.refl _ _) (by omega))).mono ?_
        rintro e w1 ⟨rfl, hb1⟩
        go_wp2_with fail
        go_roundw
        case rel => exact ⟨j + 1, by omega, by go_num, by rw [Hs.out]; congr 1; omega, hbl.trans (hb1.mono hsz), hrow.below hb1 hgl⟩
        case measure => simp [intOf]; omega
      · have hjl : j = t.kids.length := by omega
        have Hj := Lib.hid hjl
        clear hjl
        have hbd := t.nodes_eq
        have hbd2 := GTy.nodesL_le t.kids j
        have hbd3 : GTy.nodesL (t.kids.take j) ≤ 4611686018427387904 := by omega
        clear hbd hbd2
        go_wp2_with fail
        go_ret
        exact ⟨ret_int (by rw [t.nodes_eq, Hj.out, List.take_length]; simp), hbl⟩

end Go.Proofs.Ytghldoiblbcacaa

/- slices.IndexFunc and slices.ContainsFunc at Ty, with whatever predicate that only makes memory of its own. Conditions: none. -/
namespace Go.Proofs.Ytghldoiblbcacaa
open Go.RowKit
set_option linter.unusedVariables false
set_option linter.unusedSimpArgs false
set_option maxHeartbeats 400000

theorem indexFuncTy (K : Nat) (hK : ∀ (args : Array Value) (w : World), (callFunc K args).run Try.prog w = .ok (.enter K args) w) (caps : Array Value) (p : GTy → Bool) (l : List GTy) (A : Option Addr) (c : Nat) (w : World) (hs : Sl w (Lt w.heap.size) 4 A c (l.map GTy.toD))
    (H : ∀ x, x ∈ l → ∀ (A1 : Option Addr) (c1 : Nat) (w2 : World), Below w.heap.size w w2 → GTy.At w2 (Lt w2.heap.size) A1 c1 x →
      Calls Try.prog K (#[.agg #[.int .i64 x.op, .int .i64 x.n, .string x.s, .slice A1 x.kids.length c1]] ++ caps) w2 fun e w' => e = .returned (.bool (p x)) ∧ Below w2.heap.size w2 w') :
    Calls Try.prog 116 #[.slice A l.length c, .func (.func K) #[] caps] w fun e w' => e = .returned (.int .i64 (idxI p l)) ∧ Below w.heap.size w w' := by
  have hlen : l.length ≤ 9223372036854775807 := by simpa using hs.len
  have HH := Lib.hid H
  clear H
  go_enter Try.func116, Try.ntmps116
  go_wp2_with fail
  go_loopw [8] (fun i wr => ∃ j : Nat, j ≤ l.length ∧ i = .int .i64 j ∧ noneTo p l j ∧ Below w.heap.size w wr) (fun i _ => l.length - (intOf i).toNat)
  case atStart => exact ⟨0, by omega, by go_num, noneTo_zero p l, Below.refl _ _⟩
  case round =>
    obtain ⟨j, hj, rfl, hno, hbl⟩ := hrel
    have Hno := Lib.hid hno
    clear hno
    have hsz := hbl.size
    by_cases hlt : j < l.length
    · have htr := GTy.elem (hs.below hbl (Nat.le_refl _)) j hlt
      obtain ⟨b, off, A1, c1, rfl, hSb, g0, g1, g2, g3, hat⟩ := htr
      have hmem : l[j] ∈ l := List.getElem_mem hlt
      go_wp2_with fail
      refine (HH.out _ hmem _ _ _ hbl (hat.below (Below.refl _ _) hsz)).mono ?_
      rintro e w1 ⟨rfl, hb1⟩
      cases he : p l[j]
      · have hn := Lib.hid (noneTo_succ Hno.out hlt he)
        go_wp2_with fail
        go_roundw
        case rel => exact ⟨j + 1, by omega, by go_num, hn.out, hbl.trans (hb1.mono hsz)⟩
        case measure => simp [intOf]; omega
      · have hn := Lib.hid (idxI_at Hno.out hlt he)
        go_wp2_with fail
        go_ret
        exact ⟨ret_int hn.out.symm, hbl.trans (hb1.mono hsz)⟩
    · have hjl : j = l.length := by omega
      have Hj := Lib.hid hjl
      clear hjl
      go_wp2_with fail
      go_ret
      exact ⟨ret_int (idxI_none (by have := Hno.out; rw [Hj.out] at this; exact this)).symm, hbl⟩

theorem containsFuncTy (K : Nat) (hK : ∀ (args : Array Value) (w : World), (callFunc K args).run Try.prog w = .ok (.enter K args) w) (caps : Array Value) (p : GTy → Bool) (l : List GTy) (A : Option Addr) (c : Nat) (w : World) (hs : Sl w (Lt w.heap.size) 4 A c (l.map GTy.toD))
    (H : ∀ x, x ∈ l → ∀ (A1 : Option Addr) (c1 : Nat) (w2 : World), Below w.heap.size w w2 → GTy.At w2 (Lt w2.heap.size) A1 c1 x →
      Calls Try.prog K (#[.agg #[.int .i64 x.op, .int .i64 x.n, .string x.s, .slice A1 x.kids.length c1]] ++ caps) w2 fun e w' => e = .returned (.bool (p x)) ∧ Below w2.heap.size w2 w') :
    Calls Try.prog 90 #[.slice A l.length c, .func (.func K) #[] caps] w fun e w' => e = .returned (.bool (l.any p)) ∧ Below w.heap.size w w' := by
  have HH := Lib.hid H
  clear H
  go_enter Try.func90, Try.ntmps90
  go_wp2_with fail
  refine (indexFuncTy K hK caps p l A c w hs HH.out).mono ?_
  rintro e w1 ⟨rfl, hb1⟩
  cases ha : l.any p
  · have hi := idxI_any_false ha
    rw [hi]
    have Ha := Lib.hid ha
    clear ha hi
    go_wp2_with fail
    go_ret
    exact ⟨ret_bool Ha.out.symm, hb1⟩
  · have hi := idxI_any_true ha
    have Ha := Lib.hid ha
    clear ha
    generalize idxI p l = x at *
    go_wp2_with fail
    go_ret
    exact ⟨ret_bool Ha.out.symm, hb1⟩

end Go.Proofs.Ytghldoiblbcacaa

/- TyOk. Conditions: none but a bound on the size. -/
namespace Go.Proofs.Ytghldoiblbcacaa
open Go.RowKit
set_option linter.unusedVariables false
set_option linter.unusedSimpArgs false
set_option maxHeartbeats 1000000

/-- is one type right by itself, with so many kids? -/
def tyOk1 (op n : Int) (s : ByteArray) (k : Nat) : Bool :=
  if op = 1 then n == 0 && (s.toList.isEmpty && k == 0)
  else if op = 2 then decide (0 ≤ n) && (s.toList.isEmpty && k == 0)
  else if op = 3 then n == 0 && (s.toList.isEmpty && k == 2)
  else if op = 4 then n == 0 && !s.toList.isEmpty else false

mutual
/-- is a type right, whatever its size? -/
def GTy.okS : GTy → Bool | .mk op n s kids => tyOk1 op n s kids.length && GTy.okSL kids
def GTy.okSL : List GTy → Bool | [] => true | t :: r => t.okS && GTy.okSL r
end

theorem GTy.okS_eq (t : GTy) : t.okS = (tyOk1 t.op t.n t.s t.kids.length && GTy.okSL t.kids) := by
  cases t; simp only [GTy.okS, GTy.op, GTy.n, GTy.s, GTy.kids]
theorem GTy.okSL_all : ∀ l : List GTy, GTy.okSL l = l.all GTy.okS
  | [] => rfl
  | t :: r => by simp only [GTy.okSL, List.all_cons, GTy.okSL_all r]
theorem GTy.okSL_any (l : List GTy) : GTy.okSL l = !(l.any fun t => !t.okS) := by
  rw [GTy.okSL_all]; induction l with
  | nil => rfl
  | cons t r ih => simp only [List.all_cons, List.any_cons, ih, Bool.not_or, Bool.not_not]

/-- TyOk -/
def GTy.ok (t : GTy) : Bool := decide (t.nodes ≤ 200) && t.okS

theorem implTyShape (k : Nat) : ∀ (t : GTy) (A1 : Option Addr) (c1 : Nat) (w : World), t.bulk < k → GTy.At w (Lt w.heap.size) A1 c1 t →
    Calls Try.prog 49 #[.agg #[.int .i64 t.op, .int .i64 t.n, .string t.s, .slice A1 t.kids.length c1]] w fun e w' => e = .returned (.bool t.okS) ∧ Below w.heap.size w w' := by
  induction k with
  | zero => intro t A1 c1 w h; omega
  | succ k ih =>
    intro t A1 c1 w hk0 ht
    obtain ⟨h0, h1, h2, hs⟩ := id ht
    have hlen : t.kids.length ≤ 9223372036854775807 := by simpa using hs.len
    have hte := Lib.hid t.okS_eq
    have hbe := t.bulk_eq
    have E : Below w.heap.size w (w.alloc (.cells #[.int .i64 t.op, .int .i64 t.n, .string t.s, .slice A1 t.kids.length c1] 27)) := (Below.refl _ _).alloc (Nat.le_refl _) _
    -- the literal that asks a kid
    have HC : ∀ x, x ∈ t.kids → ∀ (A1 : Option Addr) (c1 : Nat) (w2 : World), GTy.At w2 (Lt w2.heap.size) A1 c1 x →
        Calls Try.prog 91 #[.agg #[.int .i64 x.op, .int .i64 x.n, .string x.s, .slice A1 x.kids.length c1]] w2 fun e w' => e = .returned (.bool (!x.okS)) ∧ Below w2.heap.size w2 w' := by
      intro x hx A1 c1 w2 hx2
      have hxb : x.bulk < k := by have := bulkL_mem GTy.bulk t.kids x hx; omega
      have E2 : Below w2.heap.size w2 (w2.alloc (.cells #[.int .i64 x.op, .int .i64 x.n, .string x.s, .slice A1 x.kids.length c1] 27)) := (Below.refl _ _).alloc (Nat.le_refl _) _
      clear hbe h0 h1 h2 hs ht hlen
      go_enter Try.func91, Try.ntmps91
      go_wp2_with fail
      refine (ih x A1 c1 _ hxb (hx2.below E2 E2.size)).mono ?_
      rintro e w3 ⟨rfl, hb3⟩
      go_wp2_with fail
      go_ret
      exact ⟨rfl, E2.trans (hb3.mono E2.size)⟩
    have HH := Lib.hid HC
    clear HC ih hbe
    cases o1 : (t.op == 1)
    · skip
      cases o2 : (t.op == 2)
      · skip
        cases o3 : (t.op == 3)
        · skip
          cases o4 : (t.op == 4)
          · skip
            have hv := Lib.hid (show tyOk1 t.op t.n t.s t.kids.length = false from by
              unfold tyOk1; simp only [beq_iff_eq, beq_eq_false_iff_ne, ne_eq] at o1 o2 o3 o4; simp [o1, o2, o3, o4])
            go_enter Try.func49, Try.ntmps49
            go_wp2_with fail
            go_ret
            exact ⟨ret_bool (by rw [hte.out, hv.out]; rfl), E⟩
          · skip
            cases a : (t.n == 0)
            · skip
              have hv := Lib.hid (show tyOk1 t.op t.n t.s t.kids.length = false from by
                unfold tyOk1; simp only [beq_iff_eq, beq_eq_false_iff_ne, ne_eq] at o1 o2 o3 o4 a; simp [o1, o2, o3, o4, a])
              go_enter Try.func49, Try.ntmps49
              go_wp2_with fail
              go_ret
              exact ⟨ret_bool (by rw [hte.out, hv.out]; rfl), E⟩
            · skip
              cases b : (t.s.toList.isEmpty)
              · skip
                have hv := Lib.hid (show tyOk1 t.op t.n t.s t.kids.length = true from by
                  unfold tyOk1; simp only [beq_iff_eq, beq_eq_false_iff_ne, ne_eq] at o1 o2 o3 o4 a b; simp [o1, o2, o3, o4, a, b])
                go_enter Try.func49, Try.ntmps49
                go_wp2_with fail
                refine (containsFuncTy 91 (enters Try.func91 (by kernel_rfl) (by kernel_rfl)) #[] (fun x => !x.okS) t.kids A1 c1 _ (hs.below E E.size) (fun x hx A2 c2 w2 _ hx2 => HH.out x hx A2 c2 w2 hx2)).mono ?_
                rintro e w1 ⟨rfl, hb1⟩
                go_wp2_with fail
                go_ret
                exact ⟨ret_bool (by rw [hte.out, hv.out, GTy.okSL_any]; rfl), E.trans (hb1.mono E.size)⟩
              · skip
                have hv := Lib.hid (show tyOk1 t.op t.n t.s t.kids.length = false from by
                  unfold tyOk1; simp only [beq_iff_eq, beq_eq_false_iff_ne, ne_eq] at o1 o2 o3 o4 a b; simp [o1, o2, o3, o4, a, b])
                go_enter Try.func49, Try.ntmps49
                go_wp2_with fail
                go_ret
                exact ⟨ret_bool (by rw [hte.out, hv.out]; rfl), E⟩
        · skip
          cases a : (t.n == 0)
          · skip
            have hv := Lib.hid (show tyOk1 t.op t.n t.s t.kids.length = false from by
              unfold tyOk1; simp only [beq_iff_eq, beq_eq_false_iff_ne, ne_eq] at o1 o2 o3 a; simp [o1, o2, o3, a])
            go_enter Try.func49, Try.ntmps49
            go_wp2_with fail
            go_ret
            exact ⟨ret_bool (by rw [hte.out, hv.out]; rfl), E⟩
          · skip
            cases b : (t.s.toList.isEmpty)
            · skip
              have hv := Lib.hid (show tyOk1 t.op t.n t.s t.kids.length = false from by
                unfold tyOk1; simp only [beq_iff_eq, beq_eq_false_iff_ne, ne_eq] at o1 o2 o3 a b; simp [o1, o2, o3, a, b])
              go_enter Try.func49, Try.ntmps49
              go_wp2_with fail
              go_ret
              exact ⟨ret_bool (by rw [hte.out, hv.out]; rfl), E⟩
            · skip
              by_cases hk : t.kids.length = 2
              · have hk1 : (t.kids.length == 2) = true := by simp [hk]
                have hk2 : ((t.kids.length : Int) == 2) = true := by rw [beq_iff_eq]; omega
                have hv := Lib.hid (show tyOk1 t.op t.n t.s t.kids.length = true from by
                  unfold tyOk1; simp only [beq_iff_eq, beq_eq_false_iff_ne, ne_eq] at o1 o2 o3 a b; simp [o1, o2, o3, a, b, hk])
                have Hk := Lib.hid hk
                clear hk
                go_enter Try.func49, Try.ntmps49
                go_wp2_with fail
                refine (containsFuncTy 91 (enters Try.func91 (by kernel_rfl) (by kernel_rfl)) #[] (fun x => !x.okS) t.kids A1 c1 _ (hs.below E E.size) (fun x hx A2 c2 w2 _ hx2 => HH.out x hx A2 c2 w2 hx2)).mono ?_
                rintro e w1 ⟨rfl, hb1⟩
                go_wp2_with fail
                go_ret
                exact ⟨ret_bool (by rw [hte.out, hv.out, GTy.okSL_any]; rfl), E.trans (hb1.mono E.size)⟩
              · have hk1 : (t.kids.length == 2) = false := by simp [hk]
                have hk2 : ((t.kids.length : Int) == 2) = false := by rw [beq_eq_false_iff_ne]; omega
                have hv := Lib.hid (show tyOk1 t.op t.n t.s t.kids.length = false from by
                  unfold tyOk1; simp only [beq_iff_eq, beq_eq_false_iff_ne, ne_eq] at o1 o2 o3 a b; simp [o1, o2, o3, a, b, hk])
                have Hk := Lib.hid hk
                clear hk
                go_enter Try.func49, Try.ntmps49
                go_wp2_with fail
                go_ret
                exact ⟨ret_bool (by rw [hte.out, hv.out]; rfl), E⟩
      · skip
        by_cases a : 0 ≤ t.n
        · skip
          cases b : (t.s.toList.isEmpty)
          · skip
            have hv := Lib.hid (show tyOk1 t.op t.n t.s t.kids.length = false from by
              unfold tyOk1; simp only [beq_iff_eq, beq_eq_false_iff_ne, ne_eq] at o1 o2 b; simp [o1, o2, a, b])
            go_enter Try.func49, Try.ntmps49
            go_wp2_with fail
            go_ret
            exact ⟨ret_bool (by rw [hte.out, hv.out]; rfl), E⟩
          · skip
            by_cases hk : t.kids.length = 0
            · have hk1 : (t.kids.length == 0) = true := by simp [hk]
              have hk2 : ((t.kids.length : Int) == 0) = true := by rw [beq_iff_eq]; omega
              have hv := Lib.hid (show tyOk1 t.op t.n t.s t.kids.length = true from by
                unfold tyOk1; simp only [beq_iff_eq, beq_eq_false_iff_ne, ne_eq] at o1 o2 b; simp [o1, o2, a, b, hk])
              have Hk := Lib.hid hk
              clear hk
              go_enter Try.func49, Try.ntmps49
              go_wp2_with fail
              refine (containsFuncTy 91 (enters Try.func91 (by kernel_rfl) (by kernel_rfl)) #[] (fun x => !x.okS) t.kids A1 c1 _ (hs.below E E.size) (fun x hx A2 c2 w2 _ hx2 => HH.out x hx A2 c2 w2 hx2)).mono ?_
              rintro e w1 ⟨rfl, hb1⟩
              go_wp2_with fail
              go_ret
              exact ⟨ret_bool (by rw [hte.out, hv.out, GTy.okSL_any]; rfl), E.trans (hb1.mono E.size)⟩
            · have hk1 : (t.kids.length == 0) = false := by simp [hk]
              have hk2 : ((t.kids.length : Int) == 0) = false := by rw [beq_eq_false_iff_ne]; omega
              have hv := Lib.hid (show tyOk1 t.op t.n t.s t.kids.length = false from by
                unfold tyOk1; simp only [beq_iff_eq, beq_eq_false_iff_ne, ne_eq] at o1 o2 b; simp [o1, o2, a, b, hk])
              have Hk := Lib.hid hk
              clear hk
              go_enter Try.func49, Try.ntmps49
              go_wp2_with fail
              go_ret
              exact ⟨ret_bool (by rw [hte.out, hv.out]; rfl), E⟩
        · skip
          have hv := Lib.hid (show tyOk1 t.op t.n t.s t.kids.length = false from by
            unfold tyOk1; simp only [beq_iff_eq, beq_eq_false_iff_ne, ne_eq] at o1 o2; simp [o1, o2, a])
          go_enter Try.func49, Try.ntmps49
          go_wp2_with fail
          go_ret
          exact ⟨ret_bool (by rw [hte.out, hv.out]; rfl), E⟩
    · skip
      cases a : (t.n == 0)
      · skip
        have hv := Lib.hid (show tyOk1 t.op t.n t.s t.kids.length = false from by
          unfold tyOk1; simp only [beq_iff_eq, beq_eq_false_iff_ne, ne_eq] at o1 a; simp [o1, a])
        go_enter Try.func49, Try.ntmps49
        go_wp2_with fail
        go_ret
        exact ⟨ret_bool (by rw [hte.out, hv.out]; rfl), E⟩
      · skip
        cases b : (t.s.toList.isEmpty)
        · skip
          have hv := Lib.hid (show tyOk1 t.op t.n t.s t.kids.length = false from by
            unfold tyOk1; simp only [beq_iff_eq, beq_eq_false_iff_ne, ne_eq] at o1 a b; simp [o1, a, b])
          go_enter Try.func49, Try.ntmps49
          go_wp2_with fail
          go_ret
          exact ⟨ret_bool (by rw [hte.out, hv.out]; rfl), E⟩
        · skip
          by_cases hk : t.kids.length = 0
          · have hk1 : (t.kids.length == 0) = true := by simp [hk]
            have hk2 : ((t.kids.length : Int) == 0) = true := by rw [beq_iff_eq]; omega
            have hv := Lib.hid (show tyOk1 t.op t.n t.s t.kids.length = true from by
              unfold tyOk1; simp only [beq_iff_eq, beq_eq_false_iff_ne, ne_eq] at o1 a b; simp [o1, a, b, hk])
            have Hk := Lib.hid hk
            clear hk
            go_enter Try.func49, Try.ntmps49
            go_wp2_with fail
            refine (containsFuncTy 91 (enters Try.func91 (by kernel_rfl) (by kernel_rfl)) #[] (fun x => !x.okS) t.kids A1 c1 _ (hs.below E E.size) (fun x hx A2 c2 w2 _ hx2 => HH.out x hx A2 c2 w2 hx2)).mono ?_
            rintro e w1 ⟨rfl, hb1⟩
            go_wp2_with fail
            go_ret
            exact ⟨ret_bool (by rw [hte.out, hv.out, GTy.okSL_any]; rfl), E.trans (hb1.mono E.size)⟩
          · have hk1 : (t.kids.length == 0) = false := by simp [hk]
            have hk2 : ((t.kids.length : Int) == 0) = false := by rw [beq_eq_false_iff_ne]; omega
            have hv := Lib.hid (show tyOk1 t.op t.n t.s t.kids.length = false from by
              unfold tyOk1; simp only [beq_iff_eq, beq_eq_false_iff_ne, ne_eq] at o1 a b; simp [o1, a, b, hk])
            have Hk := Lib.hid hk
            clear hk
            go_enter Try.func49, Try.ntmps49
            go_wp2_with fail
            go_ret
            exact ⟨ret_bool (by rw [hte.out, hv.out]; rfl), E⟩

theorem specTyShape (k : Nat) : ∀ (t : GTy) (A1 : Option Addr) (c1 : Nat) (w : World), t.bulk < k → GTy.At w (Lt w.heap.size) A1 c1 t →
    Calls Try.prog 85 #[.agg #[.int .i64 t.op, .int .i64 t.n, .string t.s, .slice A1 t.kids.length c1]] w fun e w' => e = .returned (.bool t.okS) ∧ Below w.heap.size w w' := by
  induction k with
  | zero => intro t A1 c1 w h; omega
  | succ k ih =>
    intro t A1 c1 w hk0 ht
    obtain ⟨h0, h1, h2, hs⟩ := id ht
    have hlen : t.kids.length ≤ 9223372036854775807 := by simpa using hs.len
    have hte := Lib.hid t.okS_eq
    have hbe := t.bulk_eq
    go_enter Try.func85, Try.ntmps85
    go_wp2_with fail
    go_loopw [3] (fun i wr => ∃ j : Nat, j ≤ t.kids.length ∧ i = .int .i64 j ∧ (t.kids.take j).all GTy.okS = true ∧ Below w.heap.size w wr ∧ Row wr w.heap.size 27 #[.int .i64 t.op, .int .i64 t.n, .string t.s, .slice A1 t.kids.length c1]) (fun i _ => t.kids.length - (intOf i).toNat)
    case atStart => exact ⟨0, by omega, by go_num, by simp, (Below.refl _ _).alloc (Nat.le_refl _) _, Row.new _ _ _⟩
    case round =>
      obtain ⟨j, hj, rfl, hall, hbl, hrow⟩ := hrel
      have Hall := Lib.hid hall
      clear hall
      have hsz := hbl.size
      have hgl := hrow.lt
      have hc := fun i => hrow.cell i
      by_cases hlt : j < t.kids.length
      · have htr := GTy.elem (hs.below hbl (Nat.le_refl _)) j hlt
        obtain ⟨b, off, A2, c2, rfl, hSb, g0, g1, g2, g3, hat⟩ := htr
        have hmem : t.kids[j] ∈ t.kids := List.getElem_mem hlt
        have hxb : (t.kids[j]).bulk < k := by have := bulkL_mem GTy.bulk t.kids _ hmem; omega
        clear hbe
        go_wp2_with fail
        refine (ih _ A2 c2 _ hxb (hat.below (Below.refl _ _) hsz)).mono ?_
        rintro e w1 ⟨rfl, hb1⟩
        cases he : (t.kids[j]).okS
        · have hn := Lib.hid (show t.kids.all GTy.okS = false from by rw [← Bool.not_eq_true]; intro h; have := List.all_eq_true.1 h _ hmem; rw [he] at this; cases this)
          clear he
          go_wp2_with fail
          go_ret
          exact ⟨ret_bool (by rw [hte.out, GTy.okSL_all, hn.out]; simp), hbl.trans (hb1.mono hsz)⟩
        · have he2 := Lib.hid he
          clear he
          go_wp2_with fail
          go_roundw
          case rel => exact ⟨j + 1, by omega, by go_num, by rw [take_snoc' _ j hlt, List.all_append, Hall.out]; simp [he2.out], hbl.trans (hb1.mono hsz), hrow.below hb1 hgl⟩
          case measure => simp [intOf]; omega
      · have hjl : j = t.kids.length := by omega
        have hko := Lib.hid (show GTy.okSL t.kids = true from by rw [GTy.okSL_all]; have := Hall.out; rwa [hjl, List.take_length] at this)
        clear hjl ih hbe Hall
        cases o1 : (t.op == 1)
        · skip
          cases o2 : (t.op == 2)
          · skip
            cases o3 : (t.op == 3)
            · skip
              cases o4 : (t.op == 4)
              · skip
                have hv := Lib.hid (show tyOk1 t.op t.n t.s t.kids.length = false from by
                  unfold tyOk1; simp only [beq_iff_eq, beq_eq_false_iff_ne, ne_eq] at o1 o2 o3 o4; simp [o1, o2, o3, o4])
                go_wp2_with fail
                go_ret
                exact ⟨ret_bool (by rw [hte.out, hv.out, hko.out]; rfl), hbl⟩
              · skip
                cases a : (t.n == 0)
                · skip
                  have hv := Lib.hid (show tyOk1 t.op t.n t.s t.kids.length = false from by
                    unfold tyOk1; simp only [beq_iff_eq, beq_eq_false_iff_ne, ne_eq] at o1 o2 o3 o4 a; simp [o1, o2, o3, o4, a])
                  go_wp2_with fail
                  go_ret
                  exact ⟨ret_bool (by rw [hte.out, hv.out, hko.out]; rfl), hbl⟩
                · skip
                  cases b : (t.s.toList.isEmpty)
                  · skip
                    have hv := Lib.hid (show tyOk1 t.op t.n t.s t.kids.length = true from by
                      unfold tyOk1; simp only [beq_iff_eq, beq_eq_false_iff_ne, ne_eq] at o1 o2 o3 o4 a b; simp [o1, o2, o3, o4, a, b])
                    go_wp2_with fail
                    go_ret
                    exact ⟨ret_bool (by rw [hte.out, hv.out, hko.out]; rfl), hbl⟩
                  · skip
                    have hv := Lib.hid (show tyOk1 t.op t.n t.s t.kids.length = false from by
                      unfold tyOk1; simp only [beq_iff_eq, beq_eq_false_iff_ne, ne_eq] at o1 o2 o3 o4 a b; simp [o1, o2, o3, o4, a, b])
                    go_wp2_with fail
                    go_ret
                    exact ⟨ret_bool (by rw [hte.out, hv.out, hko.out]; rfl), hbl⟩
            · skip
              cases a : (t.n == 0)
              · skip
                have hv := Lib.hid (show tyOk1 t.op t.n t.s t.kids.length = false from by
                  unfold tyOk1; simp only [beq_iff_eq, beq_eq_false_iff_ne, ne_eq] at o1 o2 o3 a; simp [o1, o2, o3, a])
                go_wp2_with fail
                go_ret
                exact ⟨ret_bool (by rw [hte.out, hv.out, hko.out]; rfl), hbl⟩
              · skip
                cases b : (t.s.toList.isEmpty)
                · skip
                  have hv := Lib.hid (show tyOk1 t.op t.n t.s t.kids.length = false from by
                    unfold tyOk1; simp only [beq_iff_eq, beq_eq_false_iff_ne, ne_eq] at o1 o2 o3 a b; simp [o1, o2, o3, a, b])
                  go_wp2_with fail
                  go_ret
                  exact ⟨ret_bool (by rw [hte.out, hv.out, hko.out]; rfl), hbl⟩
                · skip
                  by_cases hk : t.kids.length = 2
                  · have hk1 : (t.kids.length == 2) = true := by simp [hk]
                    have hk2 : ((t.kids.length : Int) == 2) = true := by rw [beq_iff_eq]; omega
                    have hv := Lib.hid (show tyOk1 t.op t.n t.s t.kids.length = true from by
                      unfold tyOk1; simp only [beq_iff_eq, beq_eq_false_iff_ne, ne_eq] at o1 o2 o3 a b; simp [o1, o2, o3, a, b, hk])
                    have Hk := Lib.hid hk
                    clear hk
                    go_wp2_with fail
                    go_ret
                    exact ⟨ret_bool (by rw [hte.out, hv.out, hko.out]; rfl), hbl⟩
                  · have hk1 : (t.kids.length == 2) = false := by simp [hk]
                    have hk2 : ((t.kids.length : Int) == 2) = false := by rw [beq_eq_false_iff_ne]; omega
                    have hv := Lib.hid (show tyOk1 t.op t.n t.s t.kids.length = false from by
                      unfold tyOk1; simp only [beq_iff_eq, beq_eq_false_iff_ne, ne_eq] at o1 o2 o3 a b; simp [o1, o2, o3, a, b, hk])
                    have Hk := Lib.hid hk
                    clear hk
                    go_wp2_with fail
                    go_ret
                    exact ⟨ret_bool (by rw [hte.out, hv.out, hko.out]; rfl), hbl⟩
          · skip
            by_cases a : 0 ≤ t.n
            · skip
              cases b : (t.s.toList.isEmpty)
              · skip
                have hv := Lib.hid (show tyOk1 t.op t.n t.s t.kids.length = false from by
                  unfold tyOk1; simp only [beq_iff_eq, beq_eq_false_iff_ne, ne_eq] at o1 o2 b; simp [o1, o2, a, b])
                go_wp2_with fail
                go_ret
                exact ⟨ret_bool (by rw [hte.out, hv.out, hko.out]; rfl), hbl⟩
              · skip
                by_cases hk : t.kids.length = 0
                · have hk1 : (t.kids.length == 0) = true := by simp [hk]
                  have hk2 : ((t.kids.length : Int) == 0) = true := by rw [beq_iff_eq]; omega
                  have hv := Lib.hid (show tyOk1 t.op t.n t.s t.kids.length = true from by
                    unfold tyOk1; simp only [beq_iff_eq, beq_eq_false_iff_ne, ne_eq] at o1 o2 b; simp [o1, o2, a, b, hk])
                  have Hk := Lib.hid hk
                  clear hk
                  go_wp2_with fail
                  go_ret
                  exact ⟨ret_bool (by rw [hte.out, hv.out, hko.out]; rfl), hbl⟩
                · have hk1 : (t.kids.length == 0) = false := by simp [hk]
                  have hk2 : ((t.kids.length : Int) == 0) = false := by rw [beq_eq_false_iff_ne]; omega
                  have hv := Lib.hid (show tyOk1 t.op t.n t.s t.kids.length = false from by
                    unfold tyOk1; simp only [beq_iff_eq, beq_eq_false_iff_ne, ne_eq] at o1 o2 b; simp [o1, o2, a, b, hk])
                  have Hk := Lib.hid hk
                  clear hk
                  go_wp2_with fail
                  go_ret
                  exact ⟨ret_bool (by rw [hte.out, hv.out, hko.out]; rfl), hbl⟩
            · skip
              have hv := Lib.hid (show tyOk1 t.op t.n t.s t.kids.length = false from by
                unfold tyOk1; simp only [beq_iff_eq, beq_eq_false_iff_ne, ne_eq] at o1 o2; simp [o1, o2, a])
              go_wp2_with fail
              go_ret
              exact ⟨ret_bool (by rw [hte.out, hv.out, hko.out]; rfl), hbl⟩
        · skip
          cases a : (t.n == 0)
          · skip
            have hv := Lib.hid (show tyOk1 t.op t.n t.s t.kids.length = false from by
              unfold tyOk1; simp only [beq_iff_eq, beq_eq_false_iff_ne, ne_eq] at o1 a; simp [o1, a])
            go_wp2_with fail
            go_ret
            exact ⟨ret_bool (by rw [hte.out, hv.out, hko.out]; rfl), hbl⟩
          · skip
            cases b : (t.s.toList.isEmpty)
            · skip
              have hv := Lib.hid (show tyOk1 t.op t.n t.s t.kids.length = false from by
                unfold tyOk1; simp only [beq_iff_eq, beq_eq_false_iff_ne, ne_eq] at o1 a b; simp [o1, a, b])
              go_wp2_with fail
              go_ret
              exact ⟨ret_bool (by rw [hte.out, hv.out, hko.out]; rfl), hbl⟩
            · skip
              by_cases hk : t.kids.length = 0
              · have hk1 : (t.kids.length == 0) = true := by simp [hk]
                have hk2 : ((t.kids.length : Int) == 0) = true := by rw [beq_iff_eq]; omega
                have hv := Lib.hid (show tyOk1 t.op t.n t.s t.kids.length = true from by
                  unfold tyOk1; simp only [beq_iff_eq, beq_eq_false_iff_ne, ne_eq] at o1 a b; simp [o1, a, b, hk])
                have Hk := Lib.hid hk
                clear hk
                go_wp2_with fail
                go_ret
                exact ⟨ret_bool (by rw [hte.out, hv.out, hko.out]; rfl), hbl⟩
              · have hk1 : (t.kids.length == 0) = false := by simp [hk]
                have hk2 : ((t.kids.length : Int) == 0) = false := by rw [beq_eq_false_iff_ne]; omega
                have hv := Lib.hid (show tyOk1 t.op t.n t.s t.kids.length = false from by
                  unfold tyOk1; simp only [beq_iff_eq, beq_eq_false_iff_ne, ne_eq] at o1 a b; simp [o1, a, b, hk])
                have Hk := Lib.hid hk
                clear hk
                go_wp2_with fail
                go_ret
                exact ⟨ret_bool (by rw [hte.out, hv.out, hko.out]; rfl), hbl⟩

theorem implTyOk (t : GTy) (A1 : Option Addr) (c1 : Nat) (w : World) (hn : t.nodes ≤ 4611686018427387904) (ht : GTy.At w (Lt w.heap.size) A1 c1 t) :
    Calls Try.prog 11 #[.agg #[.int .i64 t.op, .int .i64 t.n, .string t.s, .slice A1 t.kids.length c1]] w fun e w' => e = .returned (.bool t.ok) ∧ Below w.heap.size w w' := by
  have E : Below w.heap.size w (w.alloc (.cells #[.int .i64 t.op, .int .i64 t.n, .string t.s, .slice A1 t.kids.length c1] 27)) := (Below.refl _ _).alloc (Nat.le_refl _) _
  have r0 := Lib.hid (Row.new w 27 #[.int .i64 t.op, .int .i64 t.n, .string t.s, .slice A1 t.kids.length c1])
  have ht' := Lib.hid ht
  clear ht
  go_enter Try.func11, Try.ntmps11
  go_wp2_with fail
  refine (implTySize t.nodes t A1 c1 _ (Nat.le_refl _) hn (ht'.out.below E E.size)).mono ?_
  rintro e w1 ⟨rfl, hb1⟩
  have B1 := E.trans (hb1.mono E.size)
  have r1 := Lib.hid (r0.out.below hb1 r0.out.lt)
  have hc1 := fun i => r1.out.cell i
  by_cases h : t.nodes ≤ 200
  · have hI : (t.nodes : Int) ≤ 200 := by omega
    go_wp2_with fail
    refine (implTyShape (t.bulk + 1) t A1 c1 _ (by omega) (ht'.out.below B1 B1.size)).mono ?_
    rintro e w2 ⟨rfl, hb2⟩
    go_wp2_with fail
    go_ret
    exact ⟨ret_bool (by unfold GTy.ok; simp [h]), B1.trans (hb2.mono B1.size)⟩
  · have hI : ¬ (t.nodes : Int) ≤ 200 := by omega
    have hI2 : decide ((t.nodes : Int) ≤ 200) = false := by simpa using hI
    go_wp2_with fail
    go_ret
    exact ⟨ret_bool (by unfold GTy.ok; simp [h]), B1⟩

theorem specTyOk (t : GTy) (A1 : Option Addr) (c1 : Nat) (w : World) (hn : t.nodes ≤ 4611686018427387904) (ht : GTy.At w (Lt w.heap.size) A1 c1 t) :
    Calls Try.prog 43 #[.agg #[.int .i64 t.op, .int .i64 t.n, .string t.s, .slice A1 t.kids.length c1]] w fun e w' => e = .returned (.bool t.ok) ∧ Below w.heap.size w w' := by
  have E : Below w.heap.size w (w.alloc (.cells #[.int .i64 t.op, .int .i64 t.n, .string t.s, .slice A1 t.kids.length c1] 27)) := (Below.refl _ _).alloc (Nat.le_refl _) _
  have r0 := Lib.hid (Row.new w 27 #[.int .i64 t.op, .int .i64 t.n, .string t.s, .slice A1 t.kids.length c1])
  have ht' := Lib.hid ht
  clear ht
  go_enter Try.func43, Try.ntmps43
  go_wp2_with fail
  refine (specTySize t.nodes t A1 c1 _ (Nat.le_refl _) hn (ht'.out.below E E.size)).mono ?_
  rintro e w1 ⟨rfl, hb1⟩
  have B1 := E.trans (hb1.mono E.size)
  have r1 := Lib.hid (r0.out.below hb1 r0.out.lt)
  have hc1 := fun i => r1.out.cell i
  by_cases h : t.nodes ≤ 200
  · have hI : (t.nodes : Int) ≤ 200 := by omega
    go_wp2_with fail
    refine (specTyShape (t.bulk + 1) t A1 c1 _ (by omega) (ht'.out.below B1 B1.size)).mono ?_
    rintro e w2 ⟨rfl, hb2⟩
    go_wp2_with fail
    go_ret
    exact ⟨ret_bool (by unfold GTy.ok; simp [h]), B1.trans (hb2.mono B1.size)⟩
  · have hI : ¬ (t.nodes : Int) ≤ 200 := by omega
    have hI2 : decide ((t.nodes : Int) ≤ 200) = false := by simpa using hI
    go_wp2_with fail
    go_ret
    exact ⟨ret_bool (by unfold GTy.ok; simp [h]), B1⟩

end Go.Proofs.Ytghldoiblbcacaa

/- slices.IndexFunc and slices.ContainsFunc at int, with whatever predicate that only makes memory of its own. Conditions: none. -/
namespace Go.Proofs.Ytghldoiblbcacaa
open Go.RowKit
set_option linter.unusedVariables false
set_option linter.unusedSimpArgs false
set_option maxHeartbeats 400000

theorem indexFuncint (K : Nat) (hK : ∀ (args : Array Value) (w : World), (callFunc K args).run Try.prog w = .ok (.enter K args) w) (caps : Array Value) (p : Int → Bool) (l : List Int) (A : Option Addr) (c : Nat) (w : World) (hs : Sl w (Lt w.heap.size) 1 A c (l.map (D.num .i64)))
    (H : ∀ x, x ∈ l → ∀ (w2 : World), Below w.heap.size w w2 → True →
      Calls Try.prog K (#[.int .i64 x] ++ caps) w2 fun e w' => e = .returned (.bool (p x)) ∧ Below w2.heap.size w2 w') :
    Calls Try.prog 89 #[.slice A l.length c, .func (.func K) #[] caps] w fun e w' => e = .returned (.int .i64 (idxI p l)) ∧ Below w.heap.size w w' := by
  have hlen : l.length ≤ 9223372036854775807 := by simpa using hs.len
  have HH := Lib.hid H
  clear H
  go_enter Try.func89, Try.ntmps89
  go_wp2_with fail
  go_loopw [8] (fun i wr => ∃ j : Nat, j ≤ l.length ∧ i = .int .i64 j ∧ noneTo p l j ∧ Below w.heap.size w wr) (fun i _ => l.length - (intOf i).toNat)
  case atStart => exact ⟨0, by omega, by go_num, noneTo_zero p l, Below.refl _ _⟩
  case round =>
    obtain ⟨j, hj, rfl, hno, hbl⟩ := hrel
    have Hno := Lib.hid hno
    clear hno
    have hsz := hbl.size
    by_cases hlt : j < l.length
    · have htr := int_elem (hs.below hbl (Nat.le_refl _)) j hlt
      obtain ⟨b, off, rfl, hSb, g0, hat⟩ := htr
      have hmem : l[j] ∈ l := List.getElem_mem hlt
      go_wp2_with fail
      refine (HH.out _ hmem  _ hbl trivial).mono ?_
      rintro e w1 ⟨rfl, hb1⟩
      cases he : p l[j]
      · have hn := Lib.hid (noneTo_succ Hno.out hlt he)
        go_wp2_with fail
        go_roundw
        case rel => exact ⟨j + 1, by omega, by go_num, hn.out, hbl.trans (hb1.mono hsz)⟩
        case measure => simp [intOf]; omega
      · have hn := Lib.hid (idxI_at Hno.out hlt he)
        go_wp2_with fail
        go_ret
        exact ⟨ret_int hn.out.symm, hbl.trans (hb1.mono hsz)⟩
    · have hjl : j = l.length := by omega
      have Hj := Lib.hid hjl
      clear hjl
      go_wp2_with fail
      go_ret
      exact ⟨ret_int (idxI_none (by have := Hno.out; rw [Hj.out] at this; exact this)).symm, hbl⟩

theorem containsFuncint (K : Nat) (hK : ∀ (args : Array Value) (w : World), (callFunc K args).run Try.prog w = .ok (.enter K args) w) (caps : Array Value) (p : Int → Bool) (l : List Int) (A : Option Addr) (c : Nat) (w : World) (hs : Sl w (Lt w.heap.size) 1 A c (l.map (D.num .i64)))
    (H : ∀ x, x ∈ l → ∀ (w2 : World), Below w.heap.size w w2 → True →
      Calls Try.prog K (#[.int .i64 x] ++ caps) w2 fun e w' => e = .returned (.bool (p x)) ∧ Below w2.heap.size w2 w') :
    Calls Try.prog 47 #[.slice A l.length c, .func (.func K) #[] caps] w fun e w' => e = .returned (.bool (l.any p)) ∧ Below w.heap.size w w' := by
  have HH := Lib.hid H
  clear H
  go_enter Try.func47, Try.ntmps47
  go_wp2_with fail
  refine (indexFuncint K hK caps p l A c w hs HH.out).mono ?_
  rintro e w1 ⟨rfl, hb1⟩
  cases ha : l.any p
  · have hi := idxI_any_false ha
    rw [hi]
    have Ha := Lib.hid ha
    clear ha hi
    go_wp2_with fail
    go_ret
    exact ⟨ret_bool Ha.out.symm, hb1⟩
  · have hi := idxI_any_true ha
    have Ha := Lib.hid ha
    clear ha
    generalize idxI p l = x at *
    go_wp2_with fail
    go_ret
    exact ⟨ret_bool Ha.out.symm, hb1⟩

end Go.Proofs.Ytghldoiblbcacaa
