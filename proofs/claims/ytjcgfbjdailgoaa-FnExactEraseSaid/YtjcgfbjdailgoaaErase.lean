/- Erase of both: the tree without its types. Conditions: none but a bound on the size. -/
import Derived.Test.YtjcgfbjdailgoaaANode
import Derived.Test.YtjcgfbjdailgoaaGTyped
import Derived.Test.YtjcgfbjdailgoaaApp
import Derived.OwnWalk
import Derived.Deep.RegionLaw
namespace Go.Proofs.Ytjcgfbjdailgoaa
open Go.RowKit
set_option linter.unusedVariables false
set_option linter.unusedSimpArgs false
set_option maxHeartbeats 1000000

mutual
/-- a tree without its types -/
def GTyped.erase : GTyped → GNode | .mk op n s t ty inst vars kids => .mk op n s t (GTyped.eraseL kids)
def GTyped.eraseL : List GTyped → List GNode | [] => [] | t :: r => t.erase :: GTyped.eraseL r
end
theorem GTyped.eraseL_map : ∀ l : List GTyped, GTyped.eraseL l = l.map GTyped.erase
  | [] => rfl
  | t :: r => by simp only [GTyped.eraseL, List.map_cons, GTyped.eraseL_map r]
theorem GTyped.erase_eq (t : GTyped) : t.erase = .mk t.op t.n t.s t.t (t.kids.map GTyped.erase) := by
  cases t; simp only [GTyped.erase, GTyped.eraseL_map, GTyped.op, GTyped.n, GTyped.s, GTyped.t, GTyped.kids]
theorem bulkL_map_le {α β : Type} (f : α → Nat) (g : β → Nat) (h : α → β) : ∀ (l : List α), (∀ x ∈ l, g (h x) ≤ f x) → bulkL g (l.map h) ≤ bulkL f l
  | [], _ => by simp [bulkL]
  | x :: r, hl => by
    have h1 := hl x (by simp)
    have h2 := bulkL_map_le f g h r (fun y hy => hl y (by simp [hy]))
    simp only [List.map_cons, bulkL]; omega
theorem GTyped.erase_bulk (k : Nat) : ∀ t : GTyped, t.bulk < k → t.erase.bulk ≤ t.bulk := by
  induction k with
  | zero => intro t h; omega
  | succ k ih =>
    intro t h
    have e1 := t.bulk_eq
    have e2 := t.erase.bulk_eq
    have e3 : bulkL GNode.bulk t.erase.kids ≤ bulkL GTyped.bulk t.kids := by
      rw [GTyped.erase_eq]; simp only [GNode.kids]
      exact bulkL_map_le _ _ _ t.kids fun x hx => ih x (by have := bulkL_mem GTyped.bulk t.kids x hx; omega)
    have e4 : t.erase.s = t.s ∧ t.erase.t = t.t := by rw [GTyped.erase_eq]; exact ⟨rfl, rfl⟩
    rw [e4.1, e4.2] at e2
    omega

set_option maxRecDepth 20000 in
theorem specErase (k : Nat) : ∀ (t : GTyped) (A1 : Option Addr) (c1 : Nat) (A2 : Option Addr) (c2 : Nat) (A3 : Option Addr) (c3 : Nat) (A4 : Option Addr) (c4 : Nat) (w : World), t.bulk < k → t.bulk ≤ 1048576 → GTyped.At w (Lt w.heap.size) A1 c1 A2 c2 A3 c3 A4 c4 t →
    Calls Try.prog 16 #[.agg #[.int .i64 t.op, .int .i64 t.n, .string t.s, .string t.t, .int .i64 t.ty.op, .int .i64 t.ty.n, .string t.ty.s, .slice A1 t.ty.kids.length c1, .slice A2 t.inst.length c2, .slice A3 t.vars.length c3, .slice A4 t.kids.length c4]] w (ToNode t.erase w) := by
  induction k with
  | zero => intro t A1 c1 A2 c2 A3 c3 A4 c4 w hk; omega
  | succ k ih =>
    intro t A1 c1 A2 c2 A3 c3 A4 c4 w hk h1 hat
    have hbe := t.bulk_eq
    have hlen : t.kids.length ≤ 1048576 := by have := bulkL_len GTyped.bulk t.kids; omega
    have HH := Lib.hid (fun (j : Nat) (h : j < t.kids.length) (A1 : Option Addr) (c1 : Nat) (A2 : Option Addr) (c2 : Nat) (A3 : Option Addr) (c3 : Nat) (A4 : Option Addr) (c4 : Nat) (w : World) => ih t.kids[j] A1 c1 A2 c2 A3 c3 A4 c4 w (by have := bulkL_mem GTyped.bulk t.kids _ (List.getElem_mem h); omega) (by have := bulkL_mem GTyped.bulk t.kids _ (List.getElem_mem h); omega))
    have T0 := Lib.hid hat
    have HE := Lib.hid t.erase_eq
    clear ih hbe hk h1 hat
    obtain ⟨w0, e0⟩ : ∃ w0, w0 = ((w.alloc (.cells #[.int .i64 t.op, .int .i64 t.n, .string t.s, .string t.t, .int .i64 t.ty.op, .int .i64 t.ty.n, .string t.ty.s, .slice A1 t.ty.kids.length c1, .slice A2 t.inst.length c2, .slice A3 t.vars.length c3, .slice A4 t.kids.length c4] 39)).alloc (.cells #[.int .i64 0, .int .i64 0, .string ⟨#[]⟩, .string ⟨#[]⟩, .slice none 0 0] 32)).alloc (.cells #[.int .i64 t.op, .int .i64 t.n, .string t.s, .string t.t, .slice none 0 0] 32) := ⟨_, rfl⟩
    have B0 : Below w.heap.size w w0 := by rw [e0]; exact (((Below.refl _ _).alloc (Nat.le_refl _) _).alloc (by simp) _).alloc (by simp; omega) _
    have S0 : w0.heap.size = w.heap.size + 3 := by rw [e0]; simp
    have Ra0 : Row w0 w.heap.size 39 #[.int .i64 t.op, .int .i64 t.n, .string t.s, .string t.t, .int .i64 t.ty.op, .int .i64 t.ty.n, .string t.ty.s, .slice A1 t.ty.kids.length c1, .slice A2 t.inst.length c2, .slice A3 t.vars.length c3, .slice A4 t.kids.length c4] := by rw [e0]; exact ((Row.new' _ _ _ rfl).alloc _).alloc _
    have Rz0 : Row w0 (w.heap.size + 1) 32 #[.int .i64 0, .int .i64 0, .string ⟨#[]⟩, .string ⟨#[]⟩, .slice none 0 0] := by rw [e0]; exact (Row.new' _ _ _ (by simp)).alloc _
    have Ro0 : Row w0 (w.heap.size + 1 + 1) 32 #[.int .i64 t.op, .int .i64 t.n, .string t.s, .string t.t, .slice none 0 0] := by rw [e0]; exact Row.new' _ _ _ (by simp)
    have HB0 := Lib.hid B0
    have HRa0 := Lib.hid Ra0
    have HRz0 := Lib.hid Rz0
    have HRo0 := Lib.hid Ro0
    have hs0 : w.heap.size + 3 ≤ w0.heap.size := by omega
    clear B0 S0 Ra0 Rz0 Ro0
    go_enter Try.func16, Try.ntmps16
    go_wp2_with fail
    rw [← e0]
    clear e0
    go_loopw [4] (fun i wr => ∃ (j : Nat) (A : Option Addr) (c : Nat), j ≤ t.kids.length ∧ i = .int .i64 j ∧ Hid (Gow wr (w.heap.size + 3) wr.heap.size 32 5 (.slice A j c) j ((t.kids.take j).map (GNode.toD ∘ GTyped.erase))) ∧ Hid (Row wr w.heap.size 39 #[.int .i64 t.op, .int .i64 t.n, .string t.s, .string t.t, .int .i64 t.ty.op, .int .i64 t.ty.n, .string t.ty.s, .slice A1 t.ty.kids.length c1, .slice A2 t.inst.length c2, .slice A3 t.vars.length c3, .slice A4 t.kids.length c4]) ∧ Hid (Row wr (w.heap.size + 1) 32 #[.int .i64 0, .int .i64 0, .string ⟨#[]⟩, .string ⟨#[]⟩, .slice none 0 0]) ∧ Hid (Row wr (w.heap.size + 1 + 1) 32 #[.int .i64 t.op, .int .i64 t.n, .string t.s, .string t.t, .slice A j c]) ∧ w.heap.size + 3 ≤ wr.heap.size ∧ Below w.heap.size w wr) (fun i _ => t.kids.length - (intOf i).toNat)
    case atStart => exact ⟨0, none, 0, by omega, by go_num, Lib.hid (Gow.nil _ _ _ _ _), HRa0, HRz0, HRo0, hs0, HB0.out⟩
    case round =>
      clear HRa0 HRz0 HRo0 HB0 hs0
      obtain ⟨j, A, c, hj, rfl, HG, HRa, HRz, HRo, hs3, hbl⟩ := hrel
      have hsz := hbl.size
      have hca := fun i => HRa.out.cell i
      have hco := fun i => HRo.out.cell i
      by_cases hlt : j < t.kids.length
      · obtain ⟨b, off, B1, d1, B2, d2, B3, d3, B4, d4, eA, hSb, g0, g1, g2, g3, g4, g5, g6, g7, g8, g9, g10, hat⟩ := GTyped.elem (T0.out.below hbl (Nat.le_refl _)).2.2.2.2.2.2.2 j hlt
        subst eA
        have hblt : b < wr.heap.size := Nat.lt_of_lt_of_le hSb hsz
        have hSb' : b < w.heap.size := hSb
        have HA := Lib.hid (hat.keep (S' := Lt wr.drew.heap.size) (w' := wr.drew) fun q hq => ⟨Nat.lt_of_lt_of_le hq hsz, rfl⟩)
        clear hat
        go_wp2_with fail
        go_region_law (first
          | (refine step_append_D w1 rfl (.tmp 22) (.tmp 29) 30 rfl 32 zNode 5 72 Try.underlying30 (by kernel_rfl) rfl (by omega) (w.heap.size + 3) wr.heap.size _ j _ HG1.out (t.kids[j]).erase.toD [.int .i64 (t.kids[j]).erase.op, .int .i64 (t.kids[j]).erase.n, .string (t.kids[j]).erase.s, .string (t.kids[j]).erase.t, .slice A6 (t.kids[j]).erase.kids.length c6] how1.out (by omega) B1.out.size rfl (by simp [Value.oneCell']) (by omega) (by omega) 32 rfl w1.heap.size rfl rfl ?_
             intro g cap w2 G2 Bq2 hs2 hg2 hgl2
             have G3 := Lib.hid G2
             have B2 := Lib.hid Bq2
             have Ro3 := Lib.hid (Ro1.out.below Bq2 (by omega))
             have hco3 := fun i => Ro3.out.cell i
             have hfo3 := fun i => Ro3.out.frozen i
             clear G2 Bq2)
          | (go_simp
             go_at_call 16
             refine (HH.out j hlt B1 d1 B2 d2 B3 d3 B4 d4 _ HA.out).mono ?_
             rintro e w1 ⟨A6, c6, rfl, how, hb1⟩
             have B1 := Lib.hid (((Below.refl wr.heap.size wr).drew).trans hb1)
             have Ra1 := Lib.hid (HRa.out.below B1.out (by omega))
             have Ro1 := Lib.hid (HRo.out.below B1.out (by omega))
             have hca1 := fun i => Ra1.out.cell i
             have hco1 := fun i => Ro1.out.cell i
             have hco2 := Ro1.out.lt
             have HG1 := Lib.hid (HG.out.below B1.out (Nat.le_refl _))
             have how1 := Lib.hid (GNode.own_mk (how.keep (S' := Btw wr.heap.size w1.heap.size) (w' := w1) fun q hq => ⟨hq, rfl⟩))
             clear how hb1))
        all_goals
          go_wp2_with fail
          go_roundw
          case rel =>
            have B3 := (hbl.trans (B1.out.mono hsz)).trans (B2.out.mono (show w.heap.size ≤ w.heap.size + 3 by omega))
            refine ⟨j + 1, _, _, by omega, by go_num, Lib.hid (show Gow (w2.setCell ⟨w.heap.size + 1 + 1, 4, none⟩ (.slice (some ⟨g, 0, none⟩) (j + 1) cap)) (w.heap.size + 3) (w2.setCell ⟨w.heap.size + 1 + 1, 4, none⟩ (.slice (some ⟨g, 0, none⟩) (j + 1) cap)).heap.size 32 5 (.slice (some ⟨g, 0, none⟩) (j + 1) cap) (j + 1) ((t.kids.take (j + 1)).map (GNode.toD ∘ GTyped.erase)) from ?_), Lib.hid (((HRa.out.below B1.out (by omega)).below B2.out (by omega)).far (p := ⟨w.heap.size + 1 + 1, 4, none⟩) (by simp <;> omega) _), Lib.hid (((HRz.out.below B1.out (by omega)).below B2.out (by omega)).far (p := ⟨w.heap.size + 1 + 1, 4, none⟩) (by simp <;> omega) _), Lib.hid (Ro3.out.set 4 _), ?_, B3.setCell (p := ⟨w.heap.size + 1 + 1, 4, none⟩) (by simp <;> omega) _⟩
            · rw [take_snoc' t.kids j hlt, List.map_append]
              exact G3.out.keep (by simp [World.setCell]) (fun q hq _ => Below.heap_setCell _ ⟨w.heap.size + 1 + 1, 4, none⟩ _ q (by simp <;> omega))
            · have := B3.size; have := B1.out.size; simp [World.setCell]; omega
          case measure => simp [intOf]; omega
      · have hjl : j = t.kids.length := by omega
        obtain ⟨A', c', eV, how⟩ := HG.out.osl
        obtain ⟨rfl, rfl⟩ : A = A' ∧ c = c' := by simpa using eV
        subst hjl
        rw [List.take_length] at how
        clear eV HG hlt hj hca hco
        obtain ⟨p0, p1, p2, p3, -⟩ := T0.out
        have hca := fun i => HRa.out.cell i
        have hco := fun i => HRo.out.cell i
        have hcz := fun i => HRz.out.cell i
        have hfz := fun i => HRz.out.frozen i
        have BF := setCells_below hbl (w.heap.size + 1) 0 (by omega) [.int .i64 t.op, .int .i64 t.n, .string t.s, .string t.t, .slice A t.kids.length c]
        have SF : (setCells wr (w.heap.size + 1) 0 [.int .i64 t.op, .int .i64 t.n, .string t.s, .string t.t, .slice A t.kids.length c]).heap.size = wr.heap.size := by rw [setCells_size]
        have how2 := how.keep (S' := Btw w.heap.size (setCells wr (w.heap.size + 1) 0 [.int .i64 t.op, .int .i64 t.n, .string t.s, .string t.t, .slice A t.kids.length c]).heap.size) (w' := setCells wr (w.heap.size + 1) 0 [.int .i64 t.op, .int .i64 t.n, .string t.s, .string t.t, .slice A t.kids.length c]) fun q hq => ⟨⟨by have := hq.1; omega, by rw [SF]; exact hq.2⟩, setCells_block _ _ _ _ _ (by have := hq.1; omega)⟩
        have HOW := Lib.hid how2
        have HBF := Lib.hid BF
        clear how how2 BF SF
        go_wp2_with fail
        rw [HE.out]
        exact bodyPost_ret (v := .agg #[.int .i64 t.op, .int .i64 t.n, .string t.s, .string t.t, .slice A t.kids.length c]) (by simp [results, Try.results16, go_sem, hca, hcz, hco]) rfl ⟨A, c, by simp [GNode.op, GNode.n, GNode.s, GNode.t, GNode.kids], ⟨p0, p1, p2, p3, by have h := HOW.out; rw [← List.map_map] at h; exact h⟩, HBF.out⟩

set_option maxRecDepth 20000 in
theorem implErase (k : Nat) : ∀ (t : GTyped) (A1 : Option Addr) (c1 : Nat) (A2 : Option Addr) (c2 : Nat) (A3 : Option Addr) (c3 : Nat) (A4 : Option Addr) (c4 : Nat) (w : World), t.bulk < k → t.bulk ≤ 1048576 → GTyped.At w (Lt w.heap.size) A1 c1 A2 c2 A3 c3 A4 c4 t →
    Calls Try.prog 18 #[.agg #[.int .i64 t.op, .int .i64 t.n, .string t.s, .string t.t, .int .i64 t.ty.op, .int .i64 t.ty.n, .string t.ty.s, .slice A1 t.ty.kids.length c1, .slice A2 t.inst.length c2, .slice A3 t.vars.length c3, .slice A4 t.kids.length c4]] w (ToNode t.erase w) := by
  induction k with
  | zero => intro t A1 c1 A2 c2 A3 c3 A4 c4 w hk; omega
  | succ k ih =>
    intro t A1 c1 A2 c2 A3 c3 A4 c4 w hk h1 hat
    have hbe := t.bulk_eq
    have hlen : t.kids.length ≤ 1048576 := by have := bulkL_len GTyped.bulk t.kids; omega
    have HH := Lib.hid (fun (j : Nat) (h : j < t.kids.length) (A1 : Option Addr) (c1 : Nat) (A2 : Option Addr) (c2 : Nat) (A3 : Option Addr) (c3 : Nat) (A4 : Option Addr) (c4 : Nat) (w : World) => ih t.kids[j] A1 c1 A2 c2 A3 c3 A4 c4 w (by have := bulkL_mem GTyped.bulk t.kids _ (List.getElem_mem h); omega) (by have := bulkL_mem GTyped.bulk t.kids _ (List.getElem_mem h); omega))
    have T0 := Lib.hid hat
    have HE := Lib.hid t.erase_eq
    clear ih hbe hk h1 hat
    obtain ⟨w0, e0⟩ : ∃ w0, w0 = ((w.alloc (.cells #[.int .i64 t.op, .int .i64 t.n, .string t.s, .string t.t, .int .i64 t.ty.op, .int .i64 t.ty.n, .string t.ty.s, .slice A1 t.ty.kids.length c1, .slice A2 t.inst.length c2, .slice A3 t.vars.length c3, .slice A4 t.kids.length c4] 39)).alloc (.cells #[.int .i64 0, .int .i64 0, .string ⟨#[]⟩, .string ⟨#[]⟩, .slice none 0 0] 32)).alloc (.cells #[.int .i64 t.op, .int .i64 t.n, .string t.s, .string t.t, .slice none 0 0] 32) := ⟨_, rfl⟩
    have B0 : Below w.heap.size w w0 := by rw [e0]; exact (((Below.refl _ _).alloc (Nat.le_refl _) _).alloc (by simp) _).alloc (by simp; omega) _
    have S0 : w0.heap.size = w.heap.size + 3 := by rw [e0]; simp
    have Ra0 : Row w0 w.heap.size 39 #[.int .i64 t.op, .int .i64 t.n, .string t.s, .string t.t, .int .i64 t.ty.op, .int .i64 t.ty.n, .string t.ty.s, .slice A1 t.ty.kids.length c1, .slice A2 t.inst.length c2, .slice A3 t.vars.length c3, .slice A4 t.kids.length c4] := by rw [e0]; exact ((Row.new' _ _ _ rfl).alloc _).alloc _
    have Rz0 : Row w0 (w.heap.size + 1) 32 #[.int .i64 0, .int .i64 0, .string ⟨#[]⟩, .string ⟨#[]⟩, .slice none 0 0] := by rw [e0]; exact (Row.new' _ _ _ (by simp)).alloc _
    have Ro0 : Row w0 (w.heap.size + 1 + 1) 32 #[.int .i64 t.op, .int .i64 t.n, .string t.s, .string t.t, .slice none 0 0] := by rw [e0]; exact Row.new' _ _ _ (by simp)
    have HB0 := Lib.hid B0
    have HRa0 := Lib.hid Ra0
    have HRz0 := Lib.hid Rz0
    have HRo0 := Lib.hid Ro0
    have hs0 : w.heap.size + 3 ≤ w0.heap.size := by omega
    clear B0 S0 Ra0 Rz0 Ro0
    go_enter Try.func18, Try.ntmps18
    go_wp2_with fail
    rw [← e0]
    clear e0
    go_loopw [18] (fun i wr => ∃ (j : Nat) (A : Option Addr) (c : Nat), j ≤ t.kids.length ∧ i = .int .i64 j ∧ Hid (Gow wr (w.heap.size + 3) wr.heap.size 32 5 (.slice A j c) j ((t.kids.take j).map (GNode.toD ∘ GTyped.erase))) ∧ Hid (Row wr w.heap.size 39 #[.int .i64 t.op, .int .i64 t.n, .string t.s, .string t.t, .int .i64 t.ty.op, .int .i64 t.ty.n, .string t.ty.s, .slice A1 t.ty.kids.length c1, .slice A2 t.inst.length c2, .slice A3 t.vars.length c3, .slice A4 t.kids.length c4]) ∧ Hid (Row wr (w.heap.size + 1) 32 #[.int .i64 0, .int .i64 0, .string ⟨#[]⟩, .string ⟨#[]⟩, .slice none 0 0]) ∧ Hid (Row wr (w.heap.size + 1 + 1) 32 #[.int .i64 t.op, .int .i64 t.n, .string t.s, .string t.t, .slice A j c]) ∧ w.heap.size + 3 ≤ wr.heap.size ∧ Below w.heap.size w wr) (fun i _ => t.kids.length - (intOf i).toNat)
    case atStart => exact ⟨0, none, 0, by omega, by go_num, Lib.hid (Gow.nil _ _ _ _ _), HRa0, HRz0, HRo0, hs0, HB0.out⟩
    case round =>
      clear HRa0 HRz0 HRo0 HB0 hs0
      obtain ⟨j, A, c, hj, rfl, HG, HRa, HRz, HRo, hs3, hbl⟩ := hrel
      have hsz := hbl.size
      have hca := fun i => HRa.out.cell i
      have hco := fun i => HRo.out.cell i
      by_cases hlt : j < t.kids.length
      · obtain ⟨b, off, B1, d1, B2, d2, B3, d3, B4, d4, eA, hSb, g0, g1, g2, g3, g4, g5, g6, g7, g8, g9, g10, hat⟩ := GTyped.elem (T0.out.below hbl (Nat.le_refl _)).2.2.2.2.2.2.2 j hlt
        subst eA
        have hblt : b < wr.heap.size := Nat.lt_of_lt_of_le hSb hsz
        have hSb' : b < w.heap.size := hSb
        obtain ⟨wb, eb⟩ : ∃ wb, wb = wr.alloc (.cells #[.int .i64 (t.kids[j]).op, .int .i64 (t.kids[j]).n, .string (t.kids[j]).s, .string (t.kids[j]).t, .int .i64 (t.kids[j]).ty.op, .int .i64 (t.kids[j]).ty.n, .string (t.kids[j]).ty.s, .slice B1 (t.kids[j]).ty.kids.length d1, .slice B2 (t.kids[j]).inst.length d2, .slice B3 (t.kids[j]).vars.length d3, .slice B4 (t.kids[j]).kids.length d4] 39) := ⟨_, rfl⟩
        have EB := Lib.hid (show Below wr.heap.size wr wb by rw [eb]; exact (Below.refl _ _).alloc (Nat.le_refl _) _)
        have RB := Lib.hid (show Row wb wr.heap.size 39 #[.int .i64 (t.kids[j]).op, .int .i64 (t.kids[j]).n, .string (t.kids[j]).s, .string (t.kids[j]).t, .int .i64 (t.kids[j]).ty.op, .int .i64 (t.kids[j]).ty.n, .string (t.kids[j]).ty.s, .slice B1 (t.kids[j]).ty.kids.length d1, .slice B2 (t.kids[j]).inst.length d2, .slice B3 (t.kids[j]).vars.length d3, .slice B4 (t.kids[j]).kids.length d4] by rw [eb]; exact Row.new' _ _ _ rfl)
        have hBs : wb.heap.size = wr.heap.size + 1 := by rw [eb]; simp
        have HA := Lib.hid (hat.keep (S' := Lt wb.drew.heap.size) (w' := wb.drew) fun q hq => ⟨Nat.lt_of_lt_of_le (Nat.lt_of_lt_of_le hq hsz) EB.out.size, EB.out.block q (Nat.lt_of_lt_of_le hq hsz)⟩)
        have hbb := hbl.trans (EB.out.mono hsz)
        have HRab := Lib.hid (HRa.out.below EB.out HRa.out.lt)
        have HRzb := Lib.hid (HRz.out.below EB.out HRz.out.lt)
        have HRob := Lib.hid (HRo.out.below EB.out HRo.out.lt)
        have HGb := Lib.hid (HG.out.below EB.out EB.out.size)
        clear hat
        go_wp2_with (first | fail)
        rw [← eb]
        clear eb hca hco HRa HRz HRo HG EB
        clear hbl
        have hszb := hbb.size
        have hcb := fun i => RB.out.cell i
        have hca := fun i => HRab.out.cell i
        have hco := fun i => HRob.out.cell i
        go_region_law (first
          | (refine step_append_D w1 rfl (.tmp 23) (.tmp 26) 30 rfl 32 zNode 5 72 Try.underlying30 (by kernel_rfl) rfl (by omega) (w.heap.size + 3) wb.heap.size _ j _ HG1.out (t.kids[j]).erase.toD [.int .i64 (t.kids[j]).erase.op, .int .i64 (t.kids[j]).erase.n, .string (t.kids[j]).erase.s, .string (t.kids[j]).erase.t, .slice A6 (t.kids[j]).erase.kids.length c6] how1.out (by omega) B1.out.size rfl (by simp [Value.oneCell']) (by omega) (by omega) 32 rfl w1.heap.size rfl rfl ?_
             intro g cap w2 G2 Bq2 hs2 hg2 hgl2
             have G3 := Lib.hid G2
             have B2 := Lib.hid Bq2
             have Ro3 := Lib.hid (Ro1.out.below Bq2 (by omega))
             have hco3 := fun i => Ro3.out.cell i
             have hfo3 := fun i => Ro3.out.frozen i
             clear G2 Bq2)
          | (go_simp
             go_at_call 18
             refine (HH.out j hlt B1 d1 B2 d2 B3 d3 B4 d4 _ HA.out).mono ?_
             rintro e w1 ⟨A6, c6, rfl, how, hb1⟩
             have B1 := Lib.hid (((Below.refl wb.heap.size wb).drew).trans hb1)
             have Ra1 := Lib.hid (HRab.out.below B1.out (by omega))
             have Ro1 := Lib.hid (HRob.out.below B1.out (by omega))
             have hca1 := fun i => Ra1.out.cell i
             have hco1 := fun i => Ro1.out.cell i
             have hco2 := Ro1.out.lt
             have HG1 := Lib.hid (HGb.out.below B1.out (Nat.le_refl _))
             have how1 := Lib.hid (GNode.own_mk (how.keep (S' := Btw wb.heap.size w1.heap.size) (w' := w1) fun q hq => ⟨hq, rfl⟩))
             clear how hb1))
        all_goals
          go_wp2_with fail
          go_roundw
          case rel =>
            have B3 := (hbb.trans (B1.out.mono hszb)).trans (B2.out.mono (show w.heap.size ≤ w.heap.size + 3 by omega))
            refine ⟨j + 1, _, _, by omega, by go_num, Lib.hid (show Gow (w2.setCell ⟨w.heap.size + 1 + 1, 4, none⟩ (.slice (some ⟨g, 0, none⟩) (j + 1) cap)) (w.heap.size + 3) (w2.setCell ⟨w.heap.size + 1 + 1, 4, none⟩ (.slice (some ⟨g, 0, none⟩) (j + 1) cap)).heap.size 32 5 (.slice (some ⟨g, 0, none⟩) (j + 1) cap) (j + 1) ((t.kids.take (j + 1)).map (GNode.toD ∘ GTyped.erase)) from ?_), Lib.hid (((HRab.out.below B1.out (by omega)).below B2.out (by omega)).far (p := ⟨w.heap.size + 1 + 1, 4, none⟩) (by simp <;> omega) _), Lib.hid (((HRzb.out.below B1.out (by omega)).below B2.out (by omega)).far (p := ⟨w.heap.size + 1 + 1, 4, none⟩) (by simp <;> omega) _), Lib.hid (Ro3.out.set 4 _), ?_, B3.setCell (p := ⟨w.heap.size + 1 + 1, 4, none⟩) (by simp <;> omega) _⟩
            · rw [take_snoc' t.kids j hlt, List.map_append]
              exact G3.out.keep (by simp [World.setCell]) (fun q hq _ => Below.heap_setCell _ ⟨w.heap.size + 1 + 1, 4, none⟩ _ q (by simp <;> omega))
            · have := B3.size; have := B1.out.size; simp [World.setCell]; omega
          case measure => simp [intOf]; omega
      · have hjl : j = t.kids.length := by omega
        obtain ⟨A', c', eV, how⟩ := HG.out.osl
        obtain ⟨rfl, rfl⟩ : A = A' ∧ c = c' := by simpa using eV
        subst hjl
        rw [List.take_length] at how
        clear eV HG hlt hj hca hco
        obtain ⟨p0, p1, p2, p3, -⟩ := T0.out
        have hca := fun i => HRa.out.cell i
        have hco := fun i => HRo.out.cell i
        have hcz := fun i => HRz.out.cell i
        have hfz := fun i => HRz.out.frozen i
        have BF := setCells_below hbl (w.heap.size + 1) 0 (by omega) [.int .i64 t.op, .int .i64 t.n, .string t.s, .string t.t, .slice A t.kids.length c]
        have SF : (setCells wr (w.heap.size + 1) 0 [.int .i64 t.op, .int .i64 t.n, .string t.s, .string t.t, .slice A t.kids.length c]).heap.size = wr.heap.size := by rw [setCells_size]
        have how2 := how.keep (S' := Btw w.heap.size (setCells wr (w.heap.size + 1) 0 [.int .i64 t.op, .int .i64 t.n, .string t.s, .string t.t, .slice A t.kids.length c]).heap.size) (w' := setCells wr (w.heap.size + 1) 0 [.int .i64 t.op, .int .i64 t.n, .string t.s, .string t.t, .slice A t.kids.length c]) fun q hq => ⟨⟨by have := hq.1; omega, by rw [SF]; exact hq.2⟩, setCells_block _ _ _ _ _ (by have := hq.1; omega)⟩
        have HOW := Lib.hid how2
        have HBF := Lib.hid BF
        clear how how2 BF SF
        go_wp2_with fail
        rw [HE.out]
        exact bodyPost_ret (v := .agg #[.int .i64 t.op, .int .i64 t.n, .string t.s, .string t.t, .slice A t.kids.length c]) (by simp [results, Try.results18, go_sem, hca, hcz, hco]) rfl ⟨A, c, by simp [GNode.op, GNode.n, GNode.s, GNode.t, GNode.kids], ⟨p0, p1, p2, p3, by have h := HOW.out; rw [← List.map_map] at h; exact h⟩, HBF.out⟩
end Go.Proofs.Ytjcgfbjdailgoaa
