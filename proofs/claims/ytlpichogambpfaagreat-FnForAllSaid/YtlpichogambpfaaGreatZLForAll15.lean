/- Texts of the claim LForAll in one: Erase SnL Same SmRefl LawInts WForAll Joined. Conditions: none but bounds on sizes. -/
import Derived.Test.YtlpichogambpfaaGreatZLForAll14
import Derived.Test.YtlpichogambpfaaGreatZLForAll0
import Derived.Test.YtlpichogambpfaaGreatZLForAll10
import Derived.OwnWalk
import Derived.Deep.RegionLaw
import Derived.Deep.CutRange
import Derived.Test.YtlpichogambpfaaGreatRows
import Derived.Test.YtlpichogambpfaaGreatZLForAll8
import Derived.Lib.Hide
import Derived.StillTailTactics
import Derived.Test.YtlpichogambpfaaGreatZLForAll11
import Derived.Test.YtlpichogambpfaaGreatZLForAll13
import Derived.WalkKit
import Derived.ProofKit
import Derived.OpenShut
namespace Go.Proofs.YtlpichogambpfaaGreat
set_option maxRecDepth 20000
set_option linter.unusedVariables false
set_option linter.unusedSimpArgs false
open Go.RowKit
set_option maxHeartbeats 1000000
mutual
def GTyped.erase : GTyped → GNode | .mk op n s t ty inst vars kids => .mk op n s t (GTyped.eraseL kids)
def GTyped.eraseL : List GTyped → List GNode | [] => [] | t :: r => t.erase :: GTyped.eraseL r
end
theorem GTyped.eraseL_map : ∀ l : List GTyped, GTyped.eraseL l = l.map GTyped.erase
 | [] => rfl
 | t :: r => by simp only [GTyped.eraseL, List.map_cons, GTyped.eraseL_map r]
theorem GTyped.erase_eq (t : GTyped) : t.erase = .mk t.op t.n t.s t.t (t.kids.map GTyped.erase) := by
 cases t; simp only [GTyped.erase, GTyped.eraseL_map, GTyped.op, GTyped.n, GTyped.s, GTyped.t, GTyped.kids]
theorem bulkL_map_le {α β : Type} (f : α → Nat) (g : β → Nat) (h : α → β) : ∀ (l : List α), (∀ x ∈ l, g (h x) ≤ f x) → bulkL g (l.map h) ≤ bulkL f l
 | [], _ => by simp [bulkL]
 | x :: r, hl => by
  have h1 := hl x (by simp)
  have h2 := bulkL_map_le f g h r (fun y hy => hl y (by simp [hy]))
  simp only [List.map_cons, bulkL]; omega
theorem GTyped.erase_bulk (k : Nat) : ∀ t : GTyped, t.bulk < k → t.erase.bulk ≤ t.bulk := by
 induction k with
 | zero => intro t h; omega
 | succ k ih =>
  intro t h
  have e1 := t.bulk_eq
  have e2 := t.erase.bulk_eq
  have e3 : bulkL GNode.bulk t.erase.kids ≤ bulkL GTyped.bulk t.kids := by
   rw [GTyped.erase_eq]; simp only [GNode.kids]
   exact bulkL_map_le _ _ _ t.kids fun x hx => ih x (by have := bulkL_mem GTyped.bulk t.kids x hx; omega)
  have e4 : t.erase.s = t.s ∧ t.erase.t = t.t := by rw [GTyped.erase_eq]; exact ⟨rfl, rfl⟩
  rw [e4.1, e4.2] at e2
  omega
theorem specErase (k : Nat) : ∀ (t : GTyped) (A1 : Option Addr) (c1 : Nat) (A2 : Option Addr) (c2 : Nat) (A3 : Option Addr) (c3 : Nat) (A4 : Option Addr) (c4 : Nat) (w : World), t.bulk < k → t.bulk ≤ 1048576 → GTyped.At w (Lt w.heap.size) A1 c1 A2 c2 A3 c3 A4 c4 t →
 Calls Tryz.prog 16 #[.agg #[.int .i64 t.op, .int .i64 t.n, .string t.s, .string t.t, .int .i64 t.ty.op, .int .i64 t.ty.n, .string t.ty.s, .slice A1 t.ty.kids.length c1, .slice A2 t.inst.length c2, .slice A3 t.vars.length c3, .slice A4 t.kids.length c4]] w (ToNode t.erase w) := by
 induction k with
 | zero => intro t A1 c1 A2 c2 A3 c3 A4 c4 w hk; omega
 | succ k ih =>
  intro t A1 c1 A2 c2 A3 c3 A4 c4 w hk h1 hat
  have hbe := t.bulk_eq
  have hlen : t.kids.length ≤ 1048576 := by have := bulkL_len GTyped.bulk t.kids; omega
  have HH := LH (fun (j : Nat) (h : j < t.kids.length) (A1 : Option Addr) (c1 : Nat) (A2 : Option Addr) (c2 : Nat) (A3 : Option Addr) (c3 : Nat) (A4 : Option Addr) (c4 : Nat) (w : World) => ih t.kids[j] A1 c1 A2 c2 A3 c3 A4 c4 w (by have := bulkL_mem GTyped.bulk t.kids _ (List.getElem_mem h); omega) (by have := bulkL_mem GTyped.bulk t.kids _ (List.getElem_mem h); omega))
  have T0 := LH hat
  have HE := LH t.erase_eq
  clear ih hbe hk h1 hat
  obtain ⟨w0, e0⟩ : ∃ w0, w0 = ((w.alloc (.cells #[.int .i64 t.op, .int .i64 t.n, .string t.s, .string t.t, .int .i64 t.ty.op, .int .i64 t.ty.n, .string t.ty.s, .slice A1 t.ty.kids.length c1, .slice A2 t.inst.length c2, .slice A3 t.vars.length c3, .slice A4 t.kids.length c4] 40)).alloc (.cells #[.int .i64 0, .int .i64 0, .string ⟨#[]⟩, .string ⟨#[]⟩, .slice none 0 0] 47)).alloc (.cells #[.int .i64 t.op, .int .i64 t.n, .string t.s, .string t.t, .slice none 0 0] 47) := ⟨_, rfl⟩
  have B0 : Below w.heap.size w w0 := by rw [e0]; exact (((Below.refl _ _).alloc (Nat.le_refl _) _).alloc (by simp) _).alloc (by simp; omega) _
  have S0 : w0.heap.size = w.heap.size + 3 := by rw [e0]; simp
  have Ra0 : Row w0 w.heap.size 40 #[.int .i64 t.op, .int .i64 t.n, .string t.s, .string t.t, .int .i64 t.ty.op, .int .i64 t.ty.n, .string t.ty.s, .slice A1 t.ty.kids.length c1, .slice A2 t.inst.length c2, .slice A3 t.vars.length c3, .slice A4 t.kids.length c4] := by rw [e0]; exact ((Row.new' _ _ _ rfl).alloc _).alloc _
  have Rz0 : Row w0 (w.heap.size + 1) 47 #[.int .i64 0, .int .i64 0, .string ⟨#[]⟩, .string ⟨#[]⟩, .slice none 0 0] := by rw [e0]; exact (Row.new' _ _ _ (by simp)).alloc _
  have Ro0 : Row w0 (w.heap.size + 1 + 1) 47 #[.int .i64 t.op, .int .i64 t.n, .string t.s, .string t.t, .slice none 0 0] := by rw [e0]; exact Row.new' _ _ _ (by simp)
  have HB0 := LH B0
  have HRa0 := LH Ra0
  have HRz0 := LH Rz0
  have HRo0 := LH Ro0
  have hs0 : w.heap.size + 3 ≤ w0.heap.size := by omega
  clear B0 S0 Ra0 Rz0 Ro0
  go_enter Tryz.func16, Tryz.ntmps16
  go_wp2_with fail
  rw [← e0]
  clear e0
  go_loopw [4] (fun i wr => ∃ (j : Nat) (A : Option Addr) (c : Nat), j ≤ t.kids.length ∧ i = .int .i64 j ∧ Hid (Gow wr (w.heap.size + 3) wr.heap.size 47 5 (.slice A j c) j ((t.kids.take j).map (GNode.toD ∘ GTyped.erase))) ∧ Hid (Row wr w.heap.size 40 #[.int .i64 t.op, .int .i64 t.n, .string t.s, .string t.t, .int .i64 t.ty.op, .int .i64 t.ty.n, .string t.ty.s, .slice A1 t.ty.kids.length c1, .slice A2 t.inst.length c2, .slice A3 t.vars.length c3, .slice A4 t.kids.length c4]) ∧ Hid (Row wr (w.heap.size + 1) 47 #[.int .i64 0, .int .i64 0, .string ⟨#[]⟩, .string ⟨#[]⟩, .slice none 0 0]) ∧ Hid (Row wr (w.heap.size + 1 + 1) 47 #[.int .i64 t.op, .int .i64 t.n, .string t.s, .string t.t, .slice A j c]) ∧ w.heap.size + 3 ≤ wr.heap.size ∧ Below w.heap.size w wr) (fun i _ => t.kids.length - (intOf i).toNat)
  case atStart => exact ⟨0, none, 0, by omega, by go_num, LH (Gow.nil _ _ _ _ _), HRa0, HRz0, HRo0, hs0, HB0.out⟩
  case round =>
   clear HRa0 HRz0 HRo0 HB0 hs0
   obtain ⟨j, A, c, hj, rfl, HG, HRa, HRz, HRo, hs3, hbl⟩ := hrel
   have hsz := hbl.size
   have hca := fun i => HRa.out.cell i
   have hco := fun i => HRo.out.cell i
   by_cases hlt : j < t.kids.length
   ·
    obtain ⟨b, off, B1, d1, B2, d2, B3, d3, B4, d4, eA, hSb, g0, g1, g2, g3, g4, g5, g6, g7, g8, g9, g10, hat⟩ := GTyped.elem (T0.out.below hbl (Nat.le_refl _)).2.2.2.2.2.2.2 j hlt
    subst eA
    have hblt : b < wr.heap.size := Nat.lt_of_lt_of_le hSb hsz
    have hSb' : b < w.heap.size := hSb
    have HA := LH (hat.keep (S' := Lt wr.drew.heap.size) (w' := wr.drew) fun q hq => ⟨Nat.lt_of_lt_of_le hq hsz, rfl⟩)
    clear hat
    go_wp2_with fail
    go_region_law (first
      | (refine step_append_D w1 rfl (.tmp 22) (.tmp 29) 45 rfl 47 zNode 5 72 Tryz.underlying45 (by kernel_rfl) rfl (by omega) (w.heap.size + 3) wr.heap.size _ j _ HG1.out (t.kids[j]).erase.toD [.int .i64 (t.kids[j]).erase.op, .int .i64 (t.kids[j]).erase.n, .string (t.kids[j]).erase.s, .string (t.kids[j]).erase.t, .slice A6 (t.kids[j]).erase.kids.length c6] how1.out (by omega) B1.out.size rfl (by simp [Value.oneCell']) (by omega) (by omega) 47 rfl w1.heap.size rfl rfl ?_
         intro g cap w2 G2 Bq2 hs2 hg2 hgl2
         have G3 := LH G2
         have B2 := LH Bq2
         have Ro3 := LH (Ro1.out.below Bq2 (by omega))
         have hco3 := fun i => Ro3.out.cell i
         have hfo3 := fun i => Ro3.out.frozen i
         clear G2 Bq2)
      | (go_simp
         go_at_call 16
         refine (HH.out j hlt B1 d1 B2 d2 B3 d3 B4 d4 _ HA.out).mono ?_
         rintro e w1 ⟨A6, c6, rfl, how, hb1⟩
         have B1 := LH (((Below.refl wr.heap.size wr).drew).trans hb1)
         have Ra1 := LH (HRa.out.below B1.out (by omega))
         have Ro1 := LH (HRo.out.below B1.out (by omega))
         have hca1 := fun i => Ra1.out.cell i
         have hco1 := fun i => Ro1.out.cell i
         have hco2 := Ro1.out.lt
         have HG1 := LH (HG.out.below B1.out (Nat.le_refl _))
         have how1 := LH (GNode.own_mk (how.keep (S' := Btw wr.heap.size w1.heap.size) (w' := w1) fun q hq => ⟨hq, rfl⟩))
         clear how hb1))
    all_goals
     go_wp2_with fail
     go_roundw
     case rel =>
      have B3 := (hbl.trans (B1.out.mono hsz)).trans (B2.out.mono (show w.heap.size ≤ w.heap.size + 3 by omega))
      refine ⟨j + 1, _, _, by omega, by go_num, LH (show Gow (w2.setCell ⟨w.heap.size + 1 + 1, 4, none⟩ (.slice (some ⟨g, 0, none⟩) (j + 1) cap)) (w.heap.size + 3) (w2.setCell ⟨w.heap.size + 1 + 1, 4, none⟩ (.slice (some ⟨g, 0, none⟩) (j + 1) cap)).heap.size 47 5 (.slice (some ⟨g, 0, none⟩) (j + 1) cap) (j + 1) ((t.kids.take (j + 1)).map (GNode.toD ∘ GTyped.erase)) from ?_), LH (((HRa.out.below B1.out (by omega)).below B2.out (by omega)).far (p := ⟨w.heap.size + 1 + 1, 4, none⟩) (by simp <;> omega) _), LH (((HRz.out.below B1.out (by omega)).below B2.out (by omega)).far (p := ⟨w.heap.size + 1 + 1, 4, none⟩) (by simp <;> omega) _), LH (Ro3.out.set 4 _), ?_, B3.setCell (p := ⟨w.heap.size + 1 + 1, 4, none⟩) (by simp <;> omega) _⟩
      · rw [take_snoc' t.kids j hlt, List.map_append]
        exact G3.out.keep (by simp [World.setCell]) (fun q hq _ => Below.heap_setCell _ ⟨w.heap.size + 1 + 1, 4, none⟩ _ q (by simp <;> omega))
      · have := B3.size; have := B1.out.size; simp [World.setCell]; omega
     case measure => simp [intOf]; omega
   ·
    have hjl : j = t.kids.length := by omega
    obtain ⟨A', c', eV, how⟩ := HG.out.osl
    obtain ⟨rfl, rfl⟩ : A = A' ∧ c = c' := by simpa using eV
    subst hjl
    rw [List.take_length] at how
    clear eV HG hlt hj hca hco
    obtain ⟨p0, p1, p2, p3, -⟩ := T0.out
    have hca := fun i => HRa.out.cell i
    have hco := fun i => HRo.out.cell i
    have hcz := fun i => HRz.out.cell i
    have hfz := fun i => HRz.out.frozen i
    have BF := setCells_below hbl (w.heap.size + 1) 0 (by omega) [.int .i64 t.op, .int .i64 t.n, .string t.s, .string t.t, .slice A t.kids.length c]
    have SF : (setCells wr (w.heap.size + 1) 0 [.int .i64 t.op, .int .i64 t.n, .string t.s, .string t.t, .slice A t.kids.length c]).heap.size = wr.heap.size := by rw [setCells_size]
    have how2 := how.keep (S' := Btw w.heap.size (setCells wr (w.heap.size + 1) 0 [.int .i64 t.op, .int .i64 t.n, .string t.s, .string t.t, .slice A t.kids.length c]).heap.size) (w' := setCells wr (w.heap.size + 1) 0 [.int .i64 t.op, .int .i64 t.n, .string t.s, .string t.t, .slice A t.kids.length c]) fun q hq => ⟨⟨by have := hq.1; omega, by rw [SF]; exact hq.2⟩, setCells_block _ _ _ _ _ (by have := hq.1; omega)⟩
    have HOW := LH how2
    have HBF := LH BF
    clear how how2 BF SF
    go_wp2_with fail
    rw [HE.out]
    exact bodyPost_ret (v := .agg #[.int .i64 t.op, .int .i64 t.n, .string t.s, .string t.t, .slice A t.kids.length c]) (by simp [results, Tryz.results16, go_sem, hca, hcz, hco]) rfl ⟨A, c, by simp [GNode.op, GNode.n, GNode.s, GNode.t, GNode.kids], ⟨p0, p1, p2, p3, by have h := HOW.out; rw [← List.map_map] at h; exact h⟩, HBF.out⟩
theorem implErase (k : Nat) : ∀ (t : GTyped) (A1 : Option Addr) (c1 : Nat) (A2 : Option Addr) (c2 : Nat) (A3 : Option Addr) (c3 : Nat) (A4 : Option Addr) (c4 : Nat) (w : World), t.bulk < k → t.bulk ≤ 1048576 → GTyped.At w (Lt w.heap.size) A1 c1 A2 c2 A3 c3 A4 c4 t →
 Calls Tryz.prog 15 #[.agg #[.int .i64 t.op, .int .i64 t.n, .string t.s, .string t.t, .int .i64 t.ty.op, .int .i64 t.ty.n, .string t.ty.s, .slice A1 t.ty.kids.length c1, .slice A2 t.inst.length c2, .slice A3 t.vars.length c3, .slice A4 t.kids.length c4]] w (ToNode t.erase w) := by
 induction k with
 | zero => intro t A1 c1 A2 c2 A3 c3 A4 c4 w hk; omega
 | succ k ih =>
  intro t A1 c1 A2 c2 A3 c3 A4 c4 w hk h1 hat
  have hbe := t.bulk_eq
  have hlen : t.kids.length ≤ 1048576 := by have := bulkL_len GTyped.bulk t.kids; omega
  have HH := LH (fun (j : Nat) (h : j < t.kids.length) (A1 : Option Addr) (c1 : Nat) (A2 : Option Addr) (c2 : Nat) (A3 : Option Addr) (c3 : Nat) (A4 : Option Addr) (c4 : Nat) (w : World) => ih t.kids[j] A1 c1 A2 c2 A3 c3 A4 c4 w (by have := bulkL_mem GTyped.bulk t.kids _ (List.getElem_mem h); omega) (by have := bulkL_mem GTyped.bulk t.kids _ (List.getElem_mem h); omega))
  have T0 := LH hat
  have HE := LH t.erase_eq
  clear ih hbe hk h1 hat
  obtain ⟨w0, e0⟩ : ∃ w0, w0 = ((w.alloc (.cells #[.int .i64 t.op, .int .i64 t.n, .string t.s, .string t.t, .int .i64 t.ty.op, .int .i64 t.ty.n, .string t.ty.s, .slice A1 t.ty.kids.length c1, .slice A2 t.inst.length c2, .slice A3 t.vars.length c3, .slice A4 t.kids.length c4] 40)).alloc (.cells #[.int .i64 0, .int .i64 0, .string ⟨#[]⟩, .string ⟨#[]⟩, .slice none 0 0] 47)).alloc (.cells #[.int .i64 t.op, .int .i64 t.n, .string t.s, .string t.t, .slice none 0 0] 47) := ⟨_, rfl⟩
  have B0 : Below w.heap.size w w0 := by rw [e0]; exact (((Below.refl _ _).alloc (Nat.le_refl _) _).alloc (by simp) _).alloc (by simp; omega) _
  have S0 : w0.heap.size = w.heap.size + 3 := by rw [e0]; simp
  have Ra0 : Row w0 w.heap.size 40 #[.int .i64 t.op, .int .i64 t.n, .string t.s, .string t.t, .int .i64 t.ty.op, .int .i64 t.ty.n, .string t.ty.s, .slice A1 t.ty.kids.length c1, .slice A2 t.inst.length c2, .slice A3 t.vars.length c3, .slice A4 t.kids.length c4] := by rw [e0]; exact ((Row.new' _ _ _ rfl).alloc _).alloc _
  have Rz0 : Row w0 (w.heap.size + 1) 47 #[.int .i64 0, .int .i64 0, .string ⟨#[]⟩, .string ⟨#[]⟩, .slice none 0 0] := by rw [e0]; exact (Row.new' _ _ _ (by simp)).alloc _
  have Ro0 : Row w0 (w.heap.size + 1 + 1) 47 #[.int .i64 t.op, .int .i64 t.n, .string t.s, .string t.t, .slice none 0 0] := by rw [e0]; exact Row.new' _ _ _ (by simp)
  have HB0 := LH B0
  have HRa0 := LH Ra0
  have HRz0 := LH Rz0
  have HRo0 := LH Ro0
  have hs0 : w.heap.size + 3 ≤ w0.heap.size := by omega
  clear B0 S0 Ra0 Rz0 Ro0
  go_enter Tryz.func15, Tryz.ntmps15
  go_wp2_with fail
  rw [← e0]
  clear e0
  go_loopw [18] (fun i wr => ∃ (j : Nat) (A : Option Addr) (c : Nat), j ≤ t.kids.length ∧ i = .int .i64 j ∧ Hid (Gow wr (w.heap.size + 3) wr.heap.size 47 5 (.slice A j c) j ((t.kids.take j).map (GNode.toD ∘ GTyped.erase))) ∧ Hid (Row wr w.heap.size 40 #[.int .i64 t.op, .int .i64 t.n, .string t.s, .string t.t, .int .i64 t.ty.op, .int .i64 t.ty.n, .string t.ty.s, .slice A1 t.ty.kids.length c1, .slice A2 t.inst.length c2, .slice A3 t.vars.length c3, .slice A4 t.kids.length c4]) ∧ Hid (Row wr (w.heap.size + 1) 47 #[.int .i64 0, .int .i64 0, .string ⟨#[]⟩, .string ⟨#[]⟩, .slice none 0 0]) ∧ Hid (Row wr (w.heap.size + 1 + 1) 47 #[.int .i64 t.op, .int .i64 t.n, .string t.s, .string t.t, .slice A j c]) ∧ w.heap.size + 3 ≤ wr.heap.size ∧ Below w.heap.size w wr) (fun i _ => t.kids.length - (intOf i).toNat)
  case atStart => exact ⟨0, none, 0, by omega, by go_num, LH (Gow.nil _ _ _ _ _), HRa0, HRz0, HRo0, hs0, HB0.out⟩
  case round =>
   clear HRa0 HRz0 HRo0 HB0 hs0
   obtain ⟨j, A, c, hj, rfl, HG, HRa, HRz, HRo, hs3, hbl⟩ := hrel
   have hsz := hbl.size
   have hca := fun i => HRa.out.cell i
   have hco := fun i => HRo.out.cell i
   by_cases hlt : j < t.kids.length
   ·
    obtain ⟨b, off, B1, d1, B2, d2, B3, d3, B4, d4, eA, hSb, g0, g1, g2, g3, g4, g5, g6, g7, g8, g9, g10, hat⟩ := GTyped.elem (T0.out.below hbl (Nat.le_refl _)).2.2.2.2.2.2.2 j hlt
    subst eA
    have hblt : b < wr.heap.size := Nat.lt_of_lt_of_le hSb hsz
    have hSb' : b < w.heap.size := hSb
    obtain ⟨wb, eb⟩ : ∃ wb, wb = wr.alloc (.cells #[.int .i64 (t.kids[j]).op, .int .i64 (t.kids[j]).n, .string (t.kids[j]).s, .string (t.kids[j]).t, .int .i64 (t.kids[j]).ty.op, .int .i64 (t.kids[j]).ty.n, .string (t.kids[j]).ty.s, .slice B1 (t.kids[j]).ty.kids.length d1, .slice B2 (t.kids[j]).inst.length d2, .slice B3 (t.kids[j]).vars.length d3, .slice B4 (t.kids[j]).kids.length d4] 40) := ⟨_, rfl⟩
    have EB := LH (show Below wr.heap.size wr wb by rw [eb]; exact (Below.refl _ _).alloc (Nat.le_refl _) _)
    have RB := LH (show Row wb wr.heap.size 40 #[.int .i64 (t.kids[j]).op, .int .i64 (t.kids[j]).n, .string (t.kids[j]).s, .string (t.kids[j]).t, .int .i64 (t.kids[j]).ty.op, .int .i64 (t.kids[j]).ty.n, .string (t.kids[j]).ty.s, .slice B1 (t.kids[j]).ty.kids.length d1, .slice B2 (t.kids[j]).inst.length d2, .slice B3 (t.kids[j]).vars.length d3, .slice B4 (t.kids[j]).kids.length d4] by rw [eb]; exact Row.new' _ _ _ rfl)
    have hBs : wb.heap.size = wr.heap.size + 1 := by rw [eb]; simp
    have HA := LH (hat.keep (S' := Lt wb.drew.heap.size) (w' := wb.drew) fun q hq => ⟨Nat.lt_of_lt_of_le (Nat.lt_of_lt_of_le hq hsz) EB.out.size, EB.out.block q (Nat.lt_of_lt_of_le hq hsz)⟩)
    have hbb := hbl.trans (EB.out.mono hsz)
    have HRab := LH (HRa.out.below EB.out HRa.out.lt)
    have HRzb := LH (HRz.out.below EB.out HRz.out.lt)
    have HRob := LH (HRo.out.below EB.out HRo.out.lt)
    have HGb := LH (HG.out.below EB.out EB.out.size)
    clear hat
    go_wp2_with (first | fail)
    rw [← eb]
    clear eb hca hco HRa HRz HRo HG EB
    clear hbl
    have hszb := hbb.size
    have hcb := fun i => RB.out.cell i
    have hca := fun i => HRab.out.cell i
    have hco := fun i => HRob.out.cell i
    go_region_law (first
      | (refine step_append_D w1 rfl (.tmp 23) (.tmp 26) 45 rfl 47 zNode 5 72 Tryz.underlying45 (by kernel_rfl) rfl (by omega) (w.heap.size + 3) wb.heap.size _ j _ HG1.out (t.kids[j]).erase.toD [.int .i64 (t.kids[j]).erase.op, .int .i64 (t.kids[j]).erase.n, .string (t.kids[j]).erase.s, .string (t.kids[j]).erase.t, .slice A6 (t.kids[j]).erase.kids.length c6] how1.out (by omega) B1.out.size rfl (by simp [Value.oneCell']) (by omega) (by omega) 47 rfl w1.heap.size rfl rfl ?_
         intro g cap w2 G2 Bq2 hs2 hg2 hgl2
         have G3 := LH G2
         have B2 := LH Bq2
         have Ro3 := LH (Ro1.out.below Bq2 (by omega))
         have hco3 := fun i => Ro3.out.cell i
         have hfo3 := fun i => Ro3.out.frozen i
         clear G2 Bq2)
      | (go_simp
         go_at_call 15
         refine (HH.out j hlt B1 d1 B2 d2 B3 d3 B4 d4 _ HA.out).mono ?_
         rintro e w1 ⟨A6, c6, rfl, how, hb1⟩
         have B1 := LH (((Below.refl wb.heap.size wb).drew).trans hb1)
         have Ra1 := LH (HRab.out.below B1.out (by omega))
         have Ro1 := LH (HRob.out.below B1.out (by omega))
         have hca1 := fun i => Ra1.out.cell i
         have hco1 := fun i => Ro1.out.cell i
         have hco2 := Ro1.out.lt
         have HG1 := LH (HGb.out.below B1.out (Nat.le_refl _))
         have how1 := LH (GNode.own_mk (how.keep (S' := Btw wb.heap.size w1.heap.size) (w' := w1) fun q hq => ⟨hq, rfl⟩))
         clear how hb1))
    all_goals
     go_wp2_with fail
     go_roundw
     case rel =>
      have B3 := (hbb.trans (B1.out.mono hszb)).trans (B2.out.mono (show w.heap.size ≤ w.heap.size + 3 by omega))
      refine ⟨j + 1, _, _, by omega, by go_num, LH (show Gow (w2.setCell ⟨w.heap.size + 1 + 1, 4, none⟩ (.slice (some ⟨g, 0, none⟩) (j + 1) cap)) (w.heap.size + 3) (w2.setCell ⟨w.heap.size + 1 + 1, 4, none⟩ (.slice (some ⟨g, 0, none⟩) (j + 1) cap)).heap.size 47 5 (.slice (some ⟨g, 0, none⟩) (j + 1) cap) (j + 1) ((t.kids.take (j + 1)).map (GNode.toD ∘ GTyped.erase)) from ?_), LH (((HRab.out.below B1.out (by omega)).below B2.out (by omega)).far (p := ⟨w.heap.size + 1 + 1, 4, none⟩) (by simp <;> omega) _), LH (((HRzb.out.below B1.out (by omega)).below B2.out (by omega)).far (p := ⟨w.heap.size + 1 + 1, 4, none⟩) (by simp <;> omega) _), LH (Ro3.out.set 4 _), ?_, B3.setCell (p := ⟨w.heap.size + 1 + 1, 4, none⟩) (by simp <;> omega) _⟩
      · rw [take_snoc' t.kids j hlt, List.map_append]
        exact G3.out.keep (by simp [World.setCell]) (fun q hq _ => Below.heap_setCell _ ⟨w.heap.size + 1 + 1, 4, none⟩ _ q (by simp <;> omega))
      · have := B3.size; have := B1.out.size; simp [World.setCell]; omega
     case measure => simp [intOf]; omega
   ·
    have hjl : j = t.kids.length := by omega
    obtain ⟨A', c', eV, how⟩ := HG.out.osl
    obtain ⟨rfl, rfl⟩ : A = A' ∧ c = c' := by simpa using eV
    subst hjl
    rw [List.take_length] at how
    clear eV HG hlt hj hca hco
    obtain ⟨p0, p1, p2, p3, -⟩ := T0.out
    have hca := fun i => HRa.out.cell i
    have hco := fun i => HRo.out.cell i
    have hcz := fun i => HRz.out.cell i
    have hfz := fun i => HRz.out.frozen i
    have BF := setCells_below hbl (w.heap.size + 1) 0 (by omega) [.int .i64 t.op, .int .i64 t.n, .string t.s, .string t.t, .slice A t.kids.length c]
    have SF : (setCells wr (w.heap.size + 1) 0 [.int .i64 t.op, .int .i64 t.n, .string t.s, .string t.t, .slice A t.kids.length c]).heap.size = wr.heap.size := by rw [setCells_size]
    have how2 := how.keep (S' := Btw w.heap.size (setCells wr (w.heap.size + 1) 0 [.int .i64 t.op, .int .i64 t.n, .string t.s, .string t.t, .slice A t.kids.length c]).heap.size) (w' := setCells wr (w.heap.size + 1) 0 [.int .i64 t.op, .int .i64 t.n, .string t.s, .string t.t, .slice A t.kids.length c]) fun q hq => ⟨⟨by have := hq.1; omega, by rw [SF]; exact hq.2⟩, setCells_block _ _ _ _ _ (by have := hq.1; omega)⟩
    have HOW := LH how2
    have HBF := LH BF
    clear how how2 BF SF
    go_wp2_with fail
    rw [HE.out]
    exact bodyPost_ret (v := .agg #[.int .i64 t.op, .int .i64 t.n, .string t.s, .string t.t, .slice A t.kids.length c]) (by simp [results, Tryz.results15, go_sem, hca, hcz, hco]) rfl ⟨A, c, by simp [GNode.op, GNode.n, GNode.s, GNode.t, GNode.kids], ⟨p0, p1, p2, p3, by have h := HOW.out; rw [← List.map_map] at h; exact h⟩, HBF.out⟩
theorem sameNodeL (k : Nat) : ∀ (t : GNode) (A1 : Option Addr) (c1 : Nat) (B1 : Option Addr) (d1 : Nat) (w : World), t.bulk < k → GNode.At w (Lt w.heap.size) A1 c1 t → GNode.At w (Lt w.heap.size) B1 d1 t →
 Calls Tryz.prog 14 #[.agg #[.int .i64 t.op, .int .i64 t.n, .string t.s, .string t.t, .slice A1 t.kids.length c1], .agg #[.int .i64 t.op, .int .i64 t.n, .string t.s, .string t.t, .slice B1 t.kids.length d1]] w fun e w' => e = .returned (.bool true) ∧ Below w.heap.size w w' := by
 induction k with
 | zero => intro t A1 c1 B1 d1 w hk; omega
 | succ k ih =>
  intro t A1 c1 B1 d1 w hk hat hat2
  have hbe := t.bulk_eq
  have HH := LH (fun (u : GNode) (hu : u ∈ t.kids) A1 c1 B1 d1 w hat hat2 => ih u A1 c1 B1 d1 w (by have := bulkL_mem GNode.bulk t.kids u hu; omega) hat hat2)
  clear hbe ih hk
  have B0 : Below w.heap.size w ((w.alloc (.cells #[.int .i64 t.op, .int .i64 t.n, .string t.s, .string t.t, .slice A1 t.kids.length c1] 47)).alloc (.cells #[.int .i64 t.op, .int .i64 t.n, .string t.s, .string t.t, .slice B1 t.kids.length d1] 47)) := ((Below.refl _ _).alloc (Nat.le_refl _) _).alloc (by simp) _
  have ra0 := LH ((Row.new w 47 #[.int .i64 t.op, .int .i64 t.n, .string t.s, .string t.t, .slice A1 t.kids.length c1]).alloc (.cells #[.int .i64 t.op, .int .i64 t.n, .string t.s, .string t.t, .slice B1 t.kids.length d1] 47))
  have rb0 := LH (Row.new' (w.alloc (.cells #[.int .i64 t.op, .int .i64 t.n, .string t.s, .string t.t, .slice A1 t.kids.length c1] 47)) 47 #[.int .i64 t.op, .int .i64 t.n, .string t.s, .string t.t, .slice B1 t.kids.length d1] (g := w.heap.size + 1) (by simp))
  obtain ⟨w2, e2⟩ : ∃ x, x = ((w.alloc (.cells #[.int .i64 t.op, .int .i64 t.n, .string t.s, .string t.t, .slice A1 t.kids.length c1] 47)).alloc (.cells #[.int .i64 t.op, .int .i64 t.n, .string t.s, .string t.t, .slice B1 t.kids.length d1] 47)) := ⟨_, rfl⟩
  have hz2 : w.heap.size + 2 ≤ w2.heap.size := by rw [e2]; simp
  rw [← e2] at B0 ra0 rb0
  obtain ⟨-, -, -, -, q4⟩ := hat.below B0 B0.size
  obtain ⟨-, -, -, -, p4⟩ := hat2.below B0 B0.size
  have hlen : t.kids.length ≤ 9223372036854775807 := by simpa using q4.len
  have Q4 := LH q4
  have P4 := LH p4
  have BB := LH B0
  clear hat hat2 q4 p4 B0
  go_enter Tryz.func14, Tryz.ntmps14
  go_wp2_with fail
  rw [← e2]
  clear e2
  go_loopw [5] (fun i wr => ∃ (j : Nat), j ≤ t.kids.length ∧ i = .int .i64 j ∧ Hid (Below w2.heap.size w2 wr)) (fun i _ => t.kids.length - (intOf i).toNat)
  case atStart => exact ⟨0, by omega, by go_num, LH (Below.refl _ _)⟩
  case round =>
   obtain ⟨j, hj, rfl, HB⟩ := hrel
   have hsz := HB.out.size
   have hra := ra0.out.below HB.out (by omega)
   have hrb := rb0.out.below HB.out (by omega)
   have hca := fun i => hra.cell i
   have hcb := fun i => hrb.cell i
   have hal := hra.lt
   have hbl := hrb.lt
   by_cases hlt : j < t.kids.length
   ·
    have hel := GNode.elem (Q4.out.below HB.out (Nat.le_refl _)) j hlt
    obtain ⟨b, off, A2, c2, rfl, hSb, g0, g1, g2, g3, g4, hat⟩ := hel
    have hel := GNode.elem (P4.out.below HB.out (Nat.le_refl _)) j hlt
    obtain ⟨b', off', B2, d2, rfl, hSb', g0', g1', g2', g3', g4', hat'⟩ := hel
    have hmem : t.kids[j] ∈ t.kids := List.getElem_mem hlt
    go_wp2_with fail
    refine wp_region_still_tail 10 (by kernel_rfl) (by kernel_rfl) ?_
    simp only [List.take_succ_cons, List.take_zero, List.drop_succ_cons, List.drop_zero]
    change wpStill _ _ wr.drew (fun a' => wpList _ _ _ _ a' wr.drew) _ _
    iterate 10 still_step
    refine wpStill_nil ?_
    go_wp2_with fail
    refine (HH.out _ hmem _ _ _ _ wr.drew (hat.keep fun b hb => ⟨Nat.lt_of_lt_of_le hb hsz, rfl⟩) (hat'.keep fun b hb => ⟨Nat.lt_of_lt_of_le hb hsz, rfl⟩)).mono ?_
    rintro e w1 ⟨rfl, hb1⟩
    go_wp2_with fail
    go_roundw
    case rel => exact ⟨j + 1, by omega, by go_num, LH (HB.out.drew.trans (hb1.mono hsz))⟩
    case measure => simp [intOf]; omega
   · have hjl : j = t.kids.length := by omega
     clear hjl
     go_wp2_with fail
     go_ret
     exact ⟨rfl, BB.out.trans (HB.out.mono BB.out.size)⟩
set_option maxHeartbeats 800000
mutual
def GTy.sm : GTy → GTy → Bool
 | .mk o n s k, .mk o2 n2 s2 k2 => o == o2 && (n == n2 && (s.toList == s2.toList && GTy.smL k k2))
def GTy.smL : List GTy → List GTy → Bool
 | [], [] => true
 | a :: r, b :: r2 => a.sm b && GTy.smL r r2
 | [], _ :: _ => false
 | _ :: _, [] => false
end
theorem GTy.sm_eq (a b : GTy) : a.sm b = (a.op == b.op && (a.n == b.n && (a.s.toList == b.s.toList && GTy.smL a.kids b.kids))) := by
 cases a; cases b; simp only [GTy.sm, GTy.op, GTy.n, GTy.s, GTy.kids]
theorem GTy.smL_len : ∀ {l l2 : List GTy}, l.length ≠ l2.length → GTy.smL l l2 = false
 | [], [], h => by simp at h
 | [], _ :: _, _ => by simp [GTy.smL]
 | _ :: _, [], _ => by simp [GTy.smL]
 | a :: r, b :: r2, h => by
  simp only [GTy.smL]
  rw [GTy.smL_len (l := r) (l2 := r2) (by simpa using h)]
  simp
theorem GTy.smL_false : ∀ {l l2 : List GTy} (i : Nat) (h1 : i < l.length) (h2 : i < l2.length), (l[i]).sm l2[i] = false → GTy.smL l l2 = false
 | [], _, i, h1, _, _ => by simp at h1
 | _ :: _, [], i, _, h2, _ => by simp at h2
 | a :: r, b :: r2, 0, _, _, h => by simp only [GTy.smL]; simp only [List.getElem_cons_zero] at h; rw [h]; rfl
 | a :: r, b :: r2, i + 1, h1, h2, h => by
  simp only [GTy.smL]
  rw [GTy.smL_false (l := r) (l2 := r2) i (by simpa using h1) (by simpa using h2) (by simpa using h)]
  simp
theorem GTy.smL_true : ∀ {l l2 : List GTy}, l.length = l2.length → (∀ i (h1 : i < l.length) (h2 : i < l2.length), (l[i]).sm l2[i] = true) → GTy.smL l l2 = true
 | [], [], _, _ => by simp [GTy.smL]
 | [], _ :: _, h, _ => by simp at h
 | _ :: _, [], h, _ => by simp at h
 | a :: r, b :: r2, h, hi => by
  simp only [GTy.smL]
  rw [GTy.smL_true (l := r) (l2 := r2) (by simpa using h) (fun i h1 h2 => hi (i + 1) (by simpa using h1) (by simpa using h2))]
  have := hi 0 (by simp) (by simp)
  simp only [List.getElem_cons_zero] at this
  rw [this]; rfl
theorem equalFuncTy (K : Nat) (hK : ∀ (args : Array Value) (w : World), (callFunc K args).run Tryz.prog w = .ok (.enter K args) w) (l l2 : List GTy) (A B : Option Addr) (c d : Nat) (w : World) (hs : Sl w (Lt w.heap.size) 4 A c (l.map GTy.toD)) (hs2 : Sl w (Lt w.heap.size) 4 B d (l2.map GTy.toD))
 (H : ∀ a b, a ∈ l → ∀ (A1 : Option Addr) (c1 : Nat) (B1 : Option Addr) (d1 : Nat) (w : World), GTy.At w (Lt w.heap.size) A1 c1 a → GTy.At w (Lt w.heap.size) B1 d1 b →
   Calls Tryz.prog K #[.agg #[.int .i64 a.op, .int .i64 a.n, .string a.s, .slice A1 a.kids.length c1], .agg #[.int .i64 b.op, .int .i64 b.n, .string b.s, .slice B1 b.kids.length d1]] w
   fun e w' => e = .returned (.bool (a.sm b)) ∧ Below w.heap.size w w') :
 Calls Tryz.prog 35 #[.slice A l.length c, .slice B l2.length d, .func (.func K) #[] #[]] w
  fun e w' => e = .returned (.bool (GTy.smL l l2)) ∧ Below w.heap.size w w' := by
 have hlen : l.length ≤ 9223372036854775807 := by simpa using hs.len
 have hlen2 : l2.length ≤ 9223372036854775807 := by simpa using hs2.len
 have HH := LH H
 clear H
 by_cases hl : l.length = l2.length
 rotate_left
 ·
  have e1 : (l.length != l2.length) = true := by simpa using hl
  have e2 : ((l.length : Int) != (l2.length : Int)) = true := by rw [bne_iff_ne]; omega
  have hr := LH (GTy.smL_len hl)
  clear hl
  go_enter Tryz.func35, Tryz.ntmps35
  go_wp2_with fail
  go_ret
  exact ⟨ret_bool hr.out.symm, Below.refl _ _⟩
 have e1 : (l.length != l2.length) = false := by simpa using hl
 have e2 : ((l.length : Int) != (l2.length : Int)) = false := by rw [bne_eq_false_iff_eq]; omega
 have Hl := LH hl
 have hle : l.length ≤ l2.length := by omega
 have hle2 : l2.length ≤ l.length := by omega
 clear hl
 go_enter Tryz.func35, Tryz.ntmps35
 go_wp2_with fail
 go_loopw [17] (fun i wr => ∃ j : Nat, j ≤ l.length ∧ i = .int .i64 j ∧ (∀ i (h1 : i < l.length) (h2 : i < l2.length), i < j → (l[i]).sm l2[i] = true) ∧ Below w.heap.size w wr) (fun i _ => l.length - (intOf i).toNat)
 case atStart => exact ⟨0, by omega, by go_num, fun i _ _ h => by omega, Below.refl _ _⟩
 case round =>
  obtain ⟨j, hj, rfl, hall, hbl⟩ := hrel
  have Hall := LH hall
  clear hall
  have hsz := hbl.size
  by_cases hlt : j < l.length
  ·
   have hlt2 : j < l2.length := by omega
   have htr := GTy.elem (hs.below hbl (Nat.le_refl _)) j hlt
   obtain ⟨b, off, A1, c1, rfl, hSb, g0, g1, g2, g3, hat⟩ := htr
   have htr := GTy.elem (hs2.below hbl (Nat.le_refl _)) j hlt2
   obtain ⟨b', off', B1, d1, rfl, hSb', g0', g1', g2', g3', hat'⟩ := htr
   have hmem : l[j] ∈ l := List.getElem_mem hlt
   have hlb : b < wr.heap.size := Nat.lt_of_lt_of_le hSb hsz
   have hlb' : b' < wr.heap.size := Nat.lt_of_lt_of_le hSb' hsz
   have E : Below w.heap.size wr ((wr.alloc (.cells #[.int .i64 l[j].op, .int .i64 l[j].n, .string l[j].s, .slice A1 l[j].kids.length c1] 27)).alloc (.cells #[.int .i64 l2[j].op, .int .i64 l2[j].n, .string l2[j].s, .slice B1 l2[j].kids.length d1] 27)) :=
    ((Below.refl _ _).alloc hsz _).alloc (by simp; omega) _
   go_wp2_with fail
   refine (HH.out _ _ hmem _ _ _ _ _ (hat.below E (by simp; omega)) (hat'.below E (by simp; omega))).mono ?_
   rintro e w1 ⟨rfl, hb1⟩
   have B1 := hbl.trans (E.trans (hb1.mono (by simp; omega)))
   cases he : (l[j]).sm l2[j]
   · have hr := LH (GTy.smL_false j hlt hlt2 he)
     go_wp2_with fail
     go_ret
     exact ⟨ret_bool hr.out.symm, B1⟩
   ·
    have he2 := LH he
    go_wp2_with fail
    go_roundw
    case rel => exact ⟨j + 1, by omega, by go_num, fun i h1 h2 hi => by
      rcases Nat.lt_or_ge i j with h | h
      · exact Hall.out i h1 h2 h
      · obtain rfl : i = j := by omega
        exact he2.out, B1⟩
    case measure => simp [intOf]; omega
  ·
   have hjl : j = l.length := by omega
   have Hj := LH hjl
   clear hjl
   go_wp2_with fail
   go_ret
   exact ⟨ret_bool (GTy.smL_true Hl.out (fun i h1 h2 => Hall.out i h1 h2 (by rw [Hj.out]; exact h1))).symm, hbl⟩
theorem implSame (k : Nat) : ∀ (a b : GTy) (A1 : Option Addr) (c1 : Nat) (B1 : Option Addr) (d1 : Nat) (w : World), a.bulk < k → GTy.At w (Lt w.heap.size) A1 c1 a → GTy.At w (Lt w.heap.size) B1 d1 b →
 Calls Tryz.prog 13 #[.agg #[.int .i64 a.op, .int .i64 a.n, .string a.s, .slice A1 a.kids.length c1], .agg #[.int .i64 b.op, .int .i64 b.n, .string b.s, .slice B1 b.kids.length d1]] w
  fun e w' => e = .returned (.bool (a.sm b)) ∧ Below w.heap.size w w' := by
 induction k with
 | zero => intro a b A1 c1 B1 d1 w h; omega
 | succ k ih =>
  intro a b A1 c1 B1 d1 w hk ha hb
  have hse := LH (GTy.sm_eq a b)
  cases g0 : (a.op == b.op)
  · go_enter Tryz.func13, Tryz.ntmps13
    go_wp2_with fail
    go_ret
    exact ⟨ret_bool (by rw [hse.out, g0]; rfl), ((Below.refl _ _).alloc (Nat.le_refl _) _).alloc (by simp) _⟩
  cases g1 : (a.n == b.n)
  · go_enter Tryz.func13, Tryz.ntmps13
    go_wp2_with fail
    go_ret
    exact ⟨ret_bool (by rw [hse.out, g0, g1]; rfl), ((Below.refl _ _).alloc (Nat.le_refl _) _).alloc (by simp) _⟩
  cases g2 : (a.s.toList == b.s.toList)
  · go_enter Tryz.func13, Tryz.ntmps13
    go_wp2_with fail
    go_ret
    exact ⟨ret_bool (by rw [hse.out, g0, g1, g2]; rfl), ((Below.refl _ _).alloc (Nat.le_refl _) _).alloc (by simp) _⟩
  ·
   go_enter Tryz.func13, Tryz.ntmps13
   have E : Below w.heap.size w ((w.alloc (.cells #[.int .i64 a.op, .int .i64 a.n, .string a.s, .slice A1 a.kids.length c1] 27)).alloc (.cells #[.int .i64 b.op, .int .i64 b.n, .string b.s, .slice B1 b.kids.length d1] 27)) :=
    ((Below.refl _ _).alloc (Nat.le_refl _) _).alloc (by simp) _
   go_wp2_with fail
   obtain ⟨-, -, -, q⟩ := ha.below E E.size
   obtain ⟨-, -, -, q2⟩ := hb.below E E.size
   refine (equalFuncTy 13 (enters Tryz.func13 (by kernel_rfl) (by kernel_rfl)) a.kids b.kids A1 B1 c1 d1 _ q q2 (fun u v hu A1 c1 B1 d1 w h1 h2 => ih u v A1 c1 B1 d1 w (by have := bulkL_mem GTy.bulk a.kids u hu; have := a.bulk_eq; omega) h1 h2)).mono ?_
   rintro e w1 ⟨rfl, hb1⟩
   go_wp2_with fail
   go_ret
   exact ⟨ret_bool (by rw [hse.out, g0, g1, g2]; rfl), E.trans (hb1.mono E.size)⟩
mutual
theorem GTy.sm_refl : ∀ t : GTy, t.sm t = true
 | .mk op n s kids => by
  rw [GTy.sm_eq]
  simp only [GTy.op, GTy.n, GTy.s, GTy.kids, GTy.smL_refl kids, beq_self_eq_true, Bool.and_self]
theorem GTy.smL_refl : ∀ l : List GTy, GTy.smL l l = true
 | [] => by rw [GTy.smL]
 | t :: r => by rw [GTy.smL, GTy.sm_refl t, GTy.smL_refl r]; rfl
end
set_option maxHeartbeats 400000
theorem sameIntsL (l : List Int) (A B : Option Addr) (c d : Nat) (w : World) (hs : Sl w (Lt w.heap.size) 1 A c (l.map (D.num .i64))) (hs' : Sl w (Lt w.heap.size) 1 B d (l.map (D.num .i64))) :
 Calls Tryz.prog 11 #[.slice A l.length c, .slice B l.length d] w fun e w' => e = .returned (.bool true) ∧ Below w.heap.size w w' := by
 have hlen : l.length ≤ 9223372036854775807 := by simpa using hs.len
 have S0 := LH hs
 have S1 := LH hs'
 clear hs hs'
 go_enter Tryz.func11, Tryz.ntmps11
 go_wp2_with fail
 go_loopw [5] (fun i wr => ∃ (j : Nat), j ≤ l.length ∧ i = .int .i64 j ∧ Below w.heap.size w wr) (fun i _ => l.length - (intOf i).toNat)
 case atStart => exact ⟨0, by omega, by go_num, Below.refl _ _⟩
 case round =>
  obtain ⟨j, hj, rfl, hb⟩ := hrel
  by_cases hlt : j < l.length
  ·
   obtain ⟨b, off, rfl, hSb, g0, _⟩ := int_elem (S0.out.below hb (Nat.le_refl _)) j hlt
   obtain ⟨b', off', rfl, hSb', g0', _⟩ := int_elem (S1.out.below hb (Nat.le_refl _)) j hlt
   go_wp2_with fail
   go_quiet (fail)
   go_wp2_with fail
   go_roundw
   case rel => exact ⟨j + 1, by omega, by go_num, ⟨hb.os, hb.tape, hb.output, hb.size, hb.block⟩⟩
   case measure => simp [intOf]; omega
  · go_wp2_with fail
    go_ret
    exact ⟨rfl, hb⟩
theorem withinL (l : List Int) (A : Option Addr) (c : Nat) (x : Int) (w : World) (hs : Sl w (Lt w.heap.size) 1 A c (l.map (D.num .i64))) :
 Calls Tryz.prog 18 #[.slice A l.length c, .int .i64 x] w fun e w' => e = .returned (.bool (l.any (fun y => y == x))) ∧ Below w.heap.size w w' := by
 have hlen : l.length ≤ 9223372036854775807 := by simpa using hs.len
 have S0 := LH hs
 clear hs
 go_enter Tryz.func18, Tryz.ntmps18
 go_wp2_with fail
 go_loopw [5] (fun i wr => ∃ (j : Nat), j ≤ l.length ∧ i = .int .i64 j ∧ Hid (noneTo (fun y => y == x) l j) ∧ Below w.heap.size w wr) (fun i _ => l.length - (intOf i).toNat)
 case atStart => exact ⟨0, by omega, by go_num, LH (noneTo_zero _ _), Below.refl _ _⟩
 case round =>
  obtain ⟨j, hj, rfl, HN, hb⟩ := hrel
  by_cases hlt : j < l.length
  ·
   obtain ⟨b, off, rfl, hSb, g0, _⟩ := int_elem (S0.out.below hb (Nat.le_refl _)) j hlt
   cases he : (l[j] == x)
   · have HN2 := LH (noneTo_succ HN.out hlt he)
     go_wp2_with fail
     go_roundw
     case rel => exact ⟨j + 1, by omega, by go_num, HN2, hb⟩
     case measure => simp [intOf]; omega
   · have HW := LH (show l.any (fun y => y == x) = true from List.any_eq_true.2 ⟨_, List.getElem_mem hlt, he⟩)
     go_wp2_with fail
     go_ret
     exact ⟨ret_bool HW.out.symm, hb⟩
  ·
   have HW := LH (show l.any (fun y => y == x) = false from by
     rw [List.any_eq_false]
     intro y hy
     obtain ⟨i, hi, rfl⟩ := List.getElem_of_mem hy
     have h3 := HN.out i hi (by omega)
     simpa using h3)
   go_wp2_with fail
   go_ret
   exact ⟨ret_bool HW.out.symm, hb⟩
end Go.Proofs.YtlpichogambpfaaGreat
namespace Go.Proofs.YtlpichogambpfaaGreat
set_option maxRecDepth 20000
set_option linter.unusedVariables false
set_option linter.unusedSimpArgs false
open Go.RowKit Go.BigFrame
set_option maxHeartbeats 2000000
theorem bigYesF {n : Nat} (A : Option Addr) (c : Nat) (hbi : (1048576 : Int) < (n : Int)) (w : World) : Calls Tryz.prog 4 #[.slice A n c] w fun e w' => e = .returned (.bool true) ∧ w = w' := by
 go_enter Tryz.func4, Tryz.ntmps4
 go_wp2_with fail
 go_ret
 exact ⟨rfl, rfl⟩
theorem bigNoF {n : Nat} (A : Option Addr) (c : Nat) (hbi : ¬ (1048576 : Int) < (n : Int)) (w : World) : Calls Tryz.prog 4 #[.slice A n c] w fun e w' => e = .returned (.bool false) ∧ w = w' := by
 go_enter Tryz.func4, Tryz.ntmps4
 go_wp2_with fail
 go_ret
 exact ⟨rfl, rfl⟩
theorem genV_in {env : List GScheme} {t : GTy} {j : Nat} (hj : j < (genV env t).length) : (t.vs []).any (fun y => y == (genV env t)[j]) = true := by
 have h := List.getElem_mem hj
 have h2 := (List.mem_filter.1 h).1
 exact List.any_eq_true.2 ⟨_, h2, by simp⟩
theorem genV_no {env : List GScheme} {t : GTy} {j k : Nat} (hj : j < (genV env t).length) (hk : k < env.length) (hin : ((env[k]).ty.vs []).any (fun y => y == (genV env t)[j]) = true) : (env[k]).vars.any (fun y => y == (genV env t)[j]) = true := by
 have h := List.getElem_mem hj
 have h2 := (List.mem_filter.1 h).2
 obtain ⟨y, hy, he⟩ := List.any_eq_true.1 hin
 have he : y = (genV env t)[j] := by simpa using he
 rw [he] at hy
 have hh := (GTy.has_vs _ _).2 hy
 cases hb : (env[k]).vars.any (fun y => y == (genV env t)[j]) with
 | true => rfl
 | false =>
  have : env.any (genBad (genV env t)[j]) = true := List.any_eq_true.2 ⟨env[k], List.getElem_mem hk, by unfold genBad; rw [hh, hb]; rfl⟩
  rw [this] at h2
  cases h2
theorem walkForAll (l : List Int) (A : Option Addr) (c : Nat) (w : World) (hs : Sl w (Lt w.heap.size) 1 A c (l.map (D.num .u8))) :
 Calls Tryz.prog 3 #[.slice A l.length c] w fun e w' => e = .returned (.bool true) ∧ Below w.heap.size w w' := by
 have S0 := LH hs
 have hln : l.length ≤ 9223372036854775807 := by simpa using hs.len
 clear hs
 by_cases hbig : 1048576 < l.length
 ·
  have hbi : (1048576 : Int) < (l.length : Int) := by omega
  go_enter Tryz.func3, Tryz.ntmps3
  go_wp2_with fail
  refine (bigYesF A c (by omega) w).mono ?_
  rintro e w1 ⟨rfl, rfl⟩
  go_wp2_with fail
  go_ret
  exact ⟨rfl, Below.refl _ _⟩
 have hbi : ¬ (1048576 : Int) < (l.length : Int) := by omega
 have hl : l.length ≤ 1048576 := by omega
 go_enter Tryz.func3, Tryz.ntmps3
 go_wp2_with fail
 refine (bigNoF A c (by omega) w).mono ?_
 rintro e w1 ⟨rfl, rfl⟩
 go_wp2_with fail
 refine (drawGenericE l A c w S0.out hl).mono ?_
 rintro e w1 ⟨env, Ae, ce, t, A1, c1, rfl, heb, htb, hes, hta, hb1⟩
 have HEB := LH heb
 have HTB := LH htb
 have D1 := LH hb1
 obtain ⟨w2, e2, R4, hz2, K2⟩ := boxed w1 27 #[.int .i64 t.op, .int .i64 t.n, .string t.s, .slice A1 t.kids.length c1]
 have B2 := LH (show Below w1.heap.size w1 w2 by rw [e2]; exact (Below.refl _ _).alloc (Nat.le_refl _) _)
 have hz2' : w1.heap.size + 1 ≤ w2.heap.size ∧ w2.heap.size ≤ w1.heap.size + 1 := by omega
 clear K2
 have ES := LH (hes.below B2.out B2.out.size)
 have TA := LH (hta.below B2.out B2.out.size)
 have D2 := LH (D1.out.trans (B2.out.mono D1.out.size))
 have HC := LH (implGeneric env Ae ce t A1 c1 w2 (by have := HEB.out; omega) (by have := HTB.out; omega) ES.out TA.out)
 clear hes hta hb1 heb htb hz2
 go_wp2_with fail
 rw [← e2]
 clear e2
 refine HC.out.mono ?_
 rintro e w3 ⟨A5, c5, rfl, how, hb3⟩
 have hz3 := hb3.size
 have VS3 := LH how.slLt
 have R4_3 := LH (R4.out.below hb3 (by omega))
 have ES3 := LH (ES.out.below hb3 hb3.size)
 have TA3 := LH (TA.out.below hb3 hb3.size)
 have D3 := LH (D2.out.trans (hb3.mono D2.out.size))
 have HC3 := LH (drawInstanceE l A c w3 (S0.out.below D3.out D3.out.size) hl)
 clear how hb3 R4 ES TA HC
 go_wp2_with fail
 refine HC3.out.mono ?_
 clear HC3
 rintro e w4 ⟨s, B1, d1, B2', d2, list, Tl, tc, rfl, hsb, hlb, hsa, hla, hb4⟩
 have hz4 := hb4.size
 have HSB := LH hsb
 have HLB := LH hlb
 have D4 := LH (D3.out.trans (hb4.mono D3.out.size))
 obtain ⟨w5, e5, R6, hz5, K5⟩ := boxed w4 33 #[.slice B1 s.vars.length d1, .int .i64 s.ty.op, .int .i64 s.ty.n, .string s.ty.s, .slice B2' s.ty.kids.length d2]
 have B5 := LH (show Below w4.heap.size w4 w5 by rw [e5]; exact (Below.refl _ _).alloc (Nat.le_refl _) _)
 have hz5' : w4.heap.size + 1 ≤ w5.heap.size ∧ w5.heap.size ≤ w4.heap.size + 1 := by omega
 clear K5
 have B35 := LH (hb4.trans (B5.out.mono hb4.size))
 have VS5 := LH (VS3.out.below B35.out B35.out.size)
 have R4_5 := LH (R4_3.out.below B35.out R4_3.out.lt)
 have ES5 := LH (ES3.out.below B35.out B35.out.size)
 have TA5 := LH (TA3.out.below B35.out B35.out.size)
 have SA5 := LH (hsa.below B5.out B5.out.size)
 have LA5 := LH (hla.below B5.out B5.out.size)
 have D5 := LH (D4.out.trans (B5.out.mono D4.out.size))
 obtain ⟨o, ho⟩ : ∃ o, o = instV s list := ⟨_, rfl⟩
 have HC := LH (implInstance s B1 d1 B2' d2 list Tl tc w5 (by have := HSB.out; omega) (by have := HLB.out; omega) SA5.out LA5.out)
 rw [← ho] at HC
 have HO := LH ho
 clear ho hb4 hsa hla hsb hlb hz5 B35 VS3 R4_3 ES3 TA3
 go_wp2_with fail
 rw [← e5]
 clear e5
 refine HC.out.mono ?_
 clear HC
 rintro e w6 ⟨A8, c8, rfl, how, hb6⟩
 have hz6 := hb6.size
 obtain ⟨ok, hok⟩ : ∃ ok, ok = o.isSome := ⟨_, rfl⟩
 rw [← hok]
 have HOK := LH hok
 clear hok
 have R6_6 := LH (R6.out.below hb6 R6.out.lt)
 have hcs6 := fun i => R6_6.out.cell i
 have hls6 := R6_6.out.lt
 have D6 := LH (D5.out.trans (hb6.mono D5.out.size))
 obtain ⟨w7, e7, R8_7, hz7, K7⟩ := boxed w6 27 #[.int .i64 (instR o).op, .int .i64 (instR o).n, .string (instR o).s, .slice A8 (instR o).kids.length c8]
 have B7 := LH (show Below w6.heap.size w6 w7 by rw [e7]; exact (Below.refl _ _).alloc (Nat.le_refl _) _)
 have hz7' : w6.heap.size + 1 ≤ w7.heap.size ∧ w7.heap.size ≤ w6.heap.size + 1 := by omega
 clear K7
 have B57 := LH (hb6.trans (B7.out.mono hb6.size))
 have R6_5 := R6
 have I87 := LH (how.at.keep (w' := w7) (S' := Lt w7.heap.size) fun q hq => ⟨Nat.lt_of_lt_of_le hq.2 B7.out.size, B7.out.block q hq.2⟩)
 clear R6
 have VS7 := LH (VS5.out.below B57.out B57.out.size)
 have R4_7 := LH (R4_5.out.below B57.out R4_5.out.lt)
 have ES7 := LH (ES5.out.below B57.out B57.out.size)
 have TA7 := LH (TA5.out.below B57.out B57.out.size)
 have SA7 := LH (SA5.out.below B57.out B57.out.size)
 have LA7 := LH (LA5.out.below B57.out B57.out.size)
 have R6_7 := LH (R6_5.out.below B57.out R6_5.out.lt)
 clear VS5 R4_5 ES5 TA5 SA5 LA5 R6_5
 have D7 := LH (D6.out.trans (B7.out.mono D6.out.size))
 have HC := LH (specInstance s B1 d1 B2' d2 list Tl tc w7 (by have := HSB.out; omega) (by have := HLB.out; omega) SA7.out LA7.out)
 rw [← HO.out] at HC
 clear hb6 how hz7 B57
 go_wp2_with fail
 rw [← e7]
 clear e7 hcs6 hls6
 refine HC.out.mono ?_
 clear HC
 rintro e w8 ⟨A10, c10, rfl, how, hb8⟩
 have hz8 := hb8.size
 rw [← HOK.out]
 have D8 := LH (D7.out.trans (hb8.mono D7.out.size))
 obtain ⟨w9, e9, R10_9, hz9, K9⟩ := boxed w8 27 #[.int .i64 (instR o).op, .int .i64 (instR o).n, .string (instR o).s, .slice A10 (instR o).kids.length c10]
 have B9 := LH (show Below w8.heap.size w8 w9 by rw [e9]; exact (Below.refl _ _).alloc (Nat.le_refl _) _)
 have hz9' : w8.heap.size + 1 ≤ w9.heap.size ∧ w9.heap.size ≤ w8.heap.size + 1 := by omega
 clear K9
 have B79 := LH (hb8.trans (B9.out.mono hb8.size))
 have I109 := LH (how.at.keep (w' := w9) (S' := Lt w9.heap.size) fun q hq => ⟨Nat.lt_of_lt_of_le hq.2 B9.out.size, B9.out.block q hq.2⟩)
 clear SA7 LA7 R6_7
 have VS9 := LH (VS7.out.below B79.out B79.out.size)
 have R4_9 := LH (R4_7.out.below B79.out R4_7.out.lt)
 have ES9 := LH (ES7.out.below B79.out B79.out.size)
 have TA9 := LH (TA7.out.below B79.out B79.out.size)
 have R8_9 := LH (R8_7.out.below B79.out R8_7.out.lt)
 have I89 := LH (I87.out.below B79.out B79.out.size)
 clear VS7 R4_7 ES7 TA7 R8_7 I87
 have D9 := LH (D8.out.trans (B9.out.mono D8.out.size))
 have HC := LH (drawEraseE l A c w9 (S0.out.below D9.out D9.out.size) hl)
 clear hb8 how hz9 B79
 go_wp2_with fail
 rw [← e9]
 clear e9
 refine HC.out.mono ?_
 clear HC
 rintro e w10 ⟨tt, E1, f1, E2, f2, E3, f3, E4, f4, rfl, hea, hebk, hb10⟩
 have hz10 := hb10.size
 have D10 := LH (D9.out.trans (hb10.mono D9.out.size))
 obtain ⟨w11, e11, R12_11, hz11, K11⟩ := boxed w10 40 #[.int .i64 tt.op, .int .i64 tt.n, .string tt.s, .string tt.t, .int .i64 tt.ty.op, .int .i64 tt.ty.n, .string tt.ty.s, .slice E1 tt.ty.kids.length f1, .slice E2 tt.inst.length f2, .slice E3 tt.vars.length f3, .slice E4 tt.kids.length f4]
 have B11 := LH (show Below w10.heap.size w10 w11 by rw [e11]; exact (Below.refl _ _).alloc (Nat.le_refl _) _)
 have hz11' : w10.heap.size + 1 ≤ w11.heap.size ∧ w11.heap.size ≤ w10.heap.size + 1 := by omega
 clear K11
 have B911 := LH (hb10.trans (B11.out.mono hb10.size))
 have EA11 := LH (hea.below B11.out B11.out.size)
 have VS11 := LH (VS9.out.below B911.out B911.out.size)
 have R4_11 := LH (R4_9.out.below B911.out R4_9.out.lt)
 have ES11 := LH (ES9.out.below B911.out B911.out.size)
 have TA11 := LH (TA9.out.below B911.out B911.out.size)
 have R8_11 := LH (R8_9.out.below B911.out R8_9.out.lt)
 have I811 := LH (I89.out.below B911.out B911.out.size)
 have R10_11 := LH (R10_9.out.below B911.out R10_9.out.lt)
 have I1011 := LH (I109.out.below B911.out B911.out.size)
 clear VS9 R4_9 ES9 TA9 R8_9 I89 R10_9 I109
 have D11 := LH (D10.out.trans (B11.out.mono D10.out.size))
 clear hb10 hea hz11 B911
 go_wp2_with fail
 rw [← e11]
 clear e11
 refine wp_region_T (fun x => Row x w1.heap.size 27 #[.int .i64 t.op, .int .i64 t.n, .string t.s, .slice A1 t.kids.length c1] ∧ Row x w6.heap.size 27 #[.int .i64 (instR o).op, .int .i64 (instR o).n, .string (instR o).s, .slice A8 (instR o).kids.length c8] ∧ Row x w8.heap.size 27 #[.int .i64 (instR o).op, .int .i64 (instR o).n, .string (instR o).s, .slice A10 (instR o).kids.length c10] ∧ Row x w10.heap.size 40 #[.int .i64 tt.op, .int .i64 tt.n, .string tt.s, .string tt.t, .int .i64 tt.ty.op, .int .i64 tt.ty.n, .string tt.ty.s, .slice E1 tt.ty.kids.length f1, .slice E2 tt.inst.length f2, .slice E3 tt.vars.length f3, .slice E4 tt.kids.length f4]) 100 (by kernel_rfl) ?_
 obtain ⟨w12, e12⟩ : ∃ x, x = w11.drew := ⟨_, rfl⟩
 rw [← e12]
 have B12 := LH (show Below w11.heap.size w11 w12 by rw [e12]; exact (Below.refl _ _).drew)
 have hz12 : w12.heap.size ≤ w11.heap.size ∧ w11.heap.size ≤ w12.heap.size := by rw [e12]; exact ⟨Nat.le_refl _, Nat.le_refl _⟩
 clear e12
 have R12_11' := R12_11
 have hS12 : Row w12 w1.heap.size 27 #[.int .i64 t.op, .int .i64 t.n, .string t.s, .slice A1 t.kids.length c1] ∧ Row w12 w6.heap.size 27 #[.int .i64 (instR o).op, .int .i64 (instR o).n, .string (instR o).s, .slice A8 (instR o).kids.length c8] ∧ Row w12 w8.heap.size 27 #[.int .i64 (instR o).op, .int .i64 (instR o).n, .string (instR o).s, .slice A10 (instR o).kids.length c10] ∧ Row w12 w10.heap.size 40 #[.int .i64 tt.op, .int .i64 tt.n, .string tt.s, .string tt.t, .int .i64 tt.ty.op, .int .i64 tt.ty.n, .string tt.ty.s, .slice E1 tt.ty.kids.length f1, .slice E2 tt.inst.length f2, .slice E3 tt.vars.length f3, .slice E4 tt.kids.length f4] := ⟨R4_11.out.below B12.out R4_11.out.lt, R8_11.out.below B12.out R8_11.out.lt, R10_11.out.below B12.out R10_11.out.lt, R12_11.out.below B12.out R12_11.out.lt⟩
 have D12 := LH (D11.out.trans (B12.out.mono D11.out.size))
 clear R4_11 R8_11 R10_11 R12_11 R12_11'
 have VS12 := LH (VS11.out.below B12.out B12.out.size)
 have ES12 := LH (ES11.out.below B12.out B12.out.size)
 have TA12 := LH (TA11.out.below B12.out B12.out.size)
 have I812 := LH (I811.out.below B12.out B12.out.size)
 have I1012 := LH (I1011.out.below B12.out B12.out.size)
 have EA12 := LH (EA11.out.below B12.out B12.out.size)
 clear VS11 ES11 TA11 I811 I1011 EA11
 refine wpAnyT_tk (i := 0) (oi := _) (v := ?tv1) rfl (Or.inl ⟨by rfl, ?th1⟩) hS12 ?_
 case th1 => (intro x hSx; have hx1 := fun i => hSx.1.cell i; have hx2 := fun i => hSx.2.1.cell i; have hx3 := fun i => hSx.2.2.1.cell i; have hx4 := fun i => hSx.2.2.2.cell i; clear hSx; go_simp; (try with_reducible rfl))
 try simp only [List.getElem_toArray, List.getElem_cons_succ, List.getElem_cons_zero, Act.put, List.setIfInBounds_toArray, List.set_cons_zero, List.set_cons_succ]
 refine wpAnyT_tk (i := 1) (oi := _) (v := ?tv2) rfl (Or.inl ⟨by rfl, ?th2⟩) hS12 ?_
 case th2 => (intro x hSx; have hx1 := fun i => hSx.1.cell i; have hx2 := fun i => hSx.2.1.cell i; have hx3 := fun i => hSx.2.2.1.cell i; have hx4 := fun i => hSx.2.2.2.cell i; clear hSx; go_simp; (try with_reducible rfl))
 try simp only [List.getElem_toArray, List.getElem_cons_succ, List.getElem_cons_zero, Act.put, List.setIfInBounds_toArray, List.set_cons_zero, List.set_cons_succ]
 refine wpAnyT_tk (i := 2) (oi := _) (v := ?tv3) rfl (Or.inl ⟨by rfl, ?th3⟩) hS12 ?_
 case th3 => (intro x hSx; have hx1 := fun i => hSx.1.cell i; have hx2 := fun i => hSx.2.1.cell i; have hx3 := fun i => hSx.2.2.1.cell i; have hx4 := fun i => hSx.2.2.2.cell i; clear hSx; go_simp; (try with_reducible rfl))
 try simp only [List.getElem_toArray, List.getElem_cons_succ, List.getElem_cons_zero, Act.put, List.setIfInBounds_toArray, List.set_cons_zero, List.set_cons_succ]
 refine wpAnyT_step (i := 3) (by kernel_rfl) rfl (fun K hK => ?_)
 try simp only [List.getElem_toArray, List.getElem_cons_succ, List.getElem_cons_zero]
 go_simp
 refine (specGeneric env Ae ce t A1 c1 w12 (by have := HEB.out; omega) (by have := HTB.out; omega) ES12.out TA12.out).mono ?_
 rintro e w13 ⟨A6, c6, rfl, how, hb13⟩
 have hz13 := hb13.size
 have hS13 : Row w13 w1.heap.size 27 #[.int .i64 t.op, .int .i64 t.n, .string t.s, .slice A1 t.kids.length c1] ∧ Row w13 w6.heap.size 27 #[.int .i64 (instR o).op, .int .i64 (instR o).n, .string (instR o).s, .slice A8 (instR o).kids.length c8] ∧ Row w13 w8.heap.size 27 #[.int .i64 (instR o).op, .int .i64 (instR o).n, .string (instR o).s, .slice A10 (instR o).kids.length c10] ∧ Row w13 w10.heap.size 40 #[.int .i64 tt.op, .int .i64 tt.n, .string tt.s, .string tt.t, .int .i64 tt.ty.op, .int .i64 tt.ty.n, .string tt.ty.s, .slice E1 tt.ty.kids.length f1, .slice E2 tt.inst.length f2, .slice E3 tt.vars.length f3, .slice E4 tt.kids.length f4] := ⟨hS12.1.below hb13 hS12.1.lt, hS12.2.1.below hb13 hS12.2.1.lt, hS12.2.2.1.below hb13 hS12.2.2.1.lt, hS12.2.2.2.below hb13 hS12.2.2.2.lt⟩
 have B13 := LH hb13
 have D13 := LH (D12.out.trans (hb13.mono D12.out.size))
 have V6 := LH how.slLt
 clear how
 clear hb13
 try simp only [List.getElem_toArray, List.getElem_cons_succ, List.getElem_cons_zero]
 go_simp
 refine hK.out _ _ hS13 (fun _ => ?_)
 clear hK K hS12
 try simp only [List.getElem_toArray, List.getElem_cons_succ, List.getElem_cons_zero, Act.put, List.setIfInBounds_toArray, List.set_cons_zero, List.set_cons_succ]
 have VS13 := LH (VS12.out.below B13.out B13.out.size)
 have ES13 := LH (ES12.out.below B13.out B13.out.size)
 have TA13 := LH (TA12.out.below B13.out B13.out.size)
 have I813 := LH (I812.out.below B13.out B13.out.size)
 have I1013 := LH (I1012.out.below B13.out B13.out.size)
 have EA13 := LH (EA12.out.below B13.out B13.out.size)
 clear VS12 ES12 TA12 I812 I1012 EA12
 refine wpAnyT_step (i := 4) (by kernel_rfl) rfl (fun K hK => ?_)
 try simp only [List.getElem_toArray, List.getElem_cons_succ, List.getElem_cons_zero]
 go_simp
 refine (sameIntsL (genV env t) A5 A6 c5 c6 w13 VS13.out V6.out).mono ?_
 rintro e w14 ⟨rfl, hb14⟩
 have hz14 := hb14.size
 have hS14 : Row w14 w1.heap.size 27 #[.int .i64 t.op, .int .i64 t.n, .string t.s, .slice A1 t.kids.length c1] ∧ Row w14 w6.heap.size 27 #[.int .i64 (instR o).op, .int .i64 (instR o).n, .string (instR o).s, .slice A8 (instR o).kids.length c8] ∧ Row w14 w8.heap.size 27 #[.int .i64 (instR o).op, .int .i64 (instR o).n, .string (instR o).s, .slice A10 (instR o).kids.length c10] ∧ Row w14 w10.heap.size 40 #[.int .i64 tt.op, .int .i64 tt.n, .string tt.s, .string tt.t, .int .i64 tt.ty.op, .int .i64 tt.ty.n, .string tt.ty.s, .slice E1 tt.ty.kids.length f1, .slice E2 tt.inst.length f2, .slice E3 tt.vars.length f3, .slice E4 tt.kids.length f4] := ⟨hS13.1.below hb14 hS13.1.lt, hS13.2.1.below hb14 hS13.2.1.lt, hS13.2.2.1.below hb14 hS13.2.2.1.lt, hS13.2.2.2.below hb14 hS13.2.2.2.lt⟩
 have B14 := LH hb14
 have D14 := LH (D13.out.trans (hb14.mono D13.out.size))
 clear hb14
 try simp only [List.getElem_toArray, List.getElem_cons_succ, List.getElem_cons_zero]
 go_simp
 refine hK.out _ _ hS14 (fun _ => ?_)
 clear hK K hS13
 try simp only [List.getElem_toArray, List.getElem_cons_succ, List.getElem_cons_zero, Act.put, List.setIfInBounds_toArray, List.set_cons_zero, List.set_cons_succ]
 clear V6
 have VS14 := LH (VS13.out.below B14.out B14.out.size)
 have ES14 := LH (ES13.out.below B14.out B14.out.size)
 have TA14 := LH (TA13.out.below B14.out B14.out.size)
 have I814 := LH (I813.out.below B14.out B14.out.size)
 have I1014 := LH (I1013.out.below B14.out B14.out.size)
 have EA14 := LH (EA13.out.below B14.out B14.out.size)
 clear VS13 ES13 TA13 I813 I1013 EA13
 refine wpAnyT_tk (i := 5) (oi := _) (v := ?tv4) rfl (Or.inl ⟨by rfl, ?th4⟩) hS14 ?_
 case th4 => (intro x hSx; have hx1 := fun i => hSx.1.cell i; have hx2 := fun i => hSx.2.1.cell i; have hx3 := fun i => hSx.2.2.1.cell i; have hx4 := fun i => hSx.2.2.2.cell i; clear hSx; go_simp; (try with_reducible rfl))
 try simp only [List.getElem_toArray, List.getElem_cons_succ, List.getElem_cons_zero, Act.put, List.setIfInBounds_toArray, List.set_cons_zero, List.set_cons_succ]
 refine wpAnyT_tk (i := 6) (oi := _) (v := ?tv5) rfl (Or.inl ⟨by rfl, ?th5⟩) hS14 ?_
 case th5 => (intro x hSx; have hx1 := fun i => hSx.1.cell i; have hx2 := fun i => hSx.2.1.cell i; have hx3 := fun i => hSx.2.2.1.cell i; have hx4 := fun i => hSx.2.2.2.cell i; clear hSx; go_simp; (try with_reducible rfl))
 try simp only [List.getElem_toArray, List.getElem_cons_succ, List.getElem_cons_zero, Act.put, List.setIfInBounds_toArray, List.set_cons_zero, List.set_cons_succ]
 refine wpAnyT_tk (i := 7) (oi := _) (v := ?tv6) rfl (Or.inl ⟨by rfl, ?th6⟩) hS14 ?_
 case th6 => (intro x hSx; have hx1 := fun i => hSx.1.cell i; have hx2 := fun i => hSx.2.1.cell i; have hx3 := fun i => hSx.2.2.1.cell i; have hx4 := fun i => hSx.2.2.2.cell i; clear hSx; go_simp; (try with_reducible rfl))
 try simp only [List.getElem_toArray, List.getElem_cons_succ, List.getElem_cons_zero, Act.put, List.setIfInBounds_toArray, List.set_cons_zero, List.set_cons_succ]
 refine wpAnyT_tk (i := 8) (oi := _) (v := ?tv7) rfl (Or.inl ⟨by rfl, ?th7⟩) hS14 ?_
 case th7 => (intro x hSx; have hx1 := fun i => hSx.1.cell i; have hx2 := fun i => hSx.2.1.cell i; have hx3 := fun i => hSx.2.2.1.cell i; have hx4 := fun i => hSx.2.2.2.cell i; clear hSx; go_simp; (try with_reducible rfl))
 try simp only [List.getElem_toArray, List.getElem_cons_succ, List.getElem_cons_zero, Act.put, List.setIfInBounds_toArray, List.set_cons_zero, List.set_cons_succ]
 refine wpAnyT_tk (i := 9) (oi := _) (v := ?tv8) rfl (Or.inl ⟨by rfl, ?th8⟩) hS14 ?_
 case th8 => (intro x hSx; have hx1 := fun i => hSx.1.cell i; have hx2 := fun i => hSx.2.1.cell i; have hx3 := fun i => hSx.2.2.1.cell i; have hx4 := fun i => hSx.2.2.2.cell i; clear hSx; go_simp; (try with_reducible rfl))
 try simp only [List.getElem_toArray, List.getElem_cons_succ, List.getElem_cons_zero, Act.put, List.setIfInBounds_toArray, List.set_cons_zero, List.set_cons_succ]
 refine wpAnyT_tk (i := 10) (oi := _) (v := ?tv9) rfl (Or.inl ⟨by rfl, ?th9⟩) hS14 ?_
 case th9 => (intro x hSx; have hx1 := fun i => hSx.1.cell i; have hx2 := fun i => hSx.2.1.cell i; have hx3 := fun i => hSx.2.2.1.cell i; have hx4 := fun i => hSx.2.2.2.cell i; clear hSx; go_simp; (try with_reducible rfl))
 try simp only [List.getElem_toArray, List.getElem_cons_succ, List.getElem_cons_zero, Act.put, List.setIfInBounds_toArray, List.set_cons_zero, List.set_cons_succ]
 refine wpAnyT_tk (i := 11) (oi := _) (v := ?tv10) rfl (Or.inl ⟨by rfl, ?th10⟩) hS14 ?_
 case th10 => (intro x hSx; have hx1 := fun i => hSx.1.cell i; have hx2 := fun i => hSx.2.1.cell i; have hx3 := fun i => hSx.2.2.1.cell i; have hx4 := fun i => hSx.2.2.2.cell i; clear hSx; go_simp; (try with_reducible rfl))
 try simp only [List.getElem_toArray, List.getElem_cons_succ, List.getElem_cons_zero, Act.put, List.setIfInBounds_toArray, List.set_cons_zero, List.set_cons_succ]
 refine wpAnyT_tk (i := 12) (oi := _) (v := ?tv11) rfl (Or.inl ⟨by rfl, ?th11⟩) hS14 ?_
 case th11 => (intro x hSx; have hx1 := fun i => hSx.1.cell i; have hx2 := fun i => hSx.2.1.cell i; have hx3 := fun i => hSx.2.2.1.cell i; have hx4 := fun i => hSx.2.2.2.cell i; clear hSx; go_simp; (try with_reducible rfl))
 try simp only [List.getElem_toArray, List.getElem_cons_succ, List.getElem_cons_zero, Act.put, List.setIfInBounds_toArray, List.set_cons_zero, List.set_cons_succ]
 refine wpAnyT_tk (i := 13) (oi := _) (v := ?tv12) rfl (Or.inl ⟨by rfl, ?th12⟩) hS14 ?_
 case th12 => (intro x hSx; have hx1 := fun i => hSx.1.cell i; have hx2 := fun i => hSx.2.1.cell i; have hx3 := fun i => hSx.2.2.1.cell i; have hx4 := fun i => hSx.2.2.2.cell i; clear hSx; go_simp; (try with_reducible rfl))
 try simp only [List.getElem_toArray, List.getElem_cons_succ, List.getElem_cons_zero, Act.put, List.setIfInBounds_toArray, List.set_cons_zero, List.set_cons_succ]
 have HSM := LH (implSame ((instR o).bulk + 1) (instR o) (instR o) A8 c8 A10 c10 w14 (Nat.lt_succ_self _) I814.out I1014.out)
 rw [GTy.sm_refl] at HSM
 refine wpAnyT_step (i := 14) (by kernel_rfl) rfl (fun K hK => ?_)
 try simp only [List.getElem_toArray, List.getElem_cons_succ, List.getElem_cons_zero]
 go_simp
 refine (HSM.out).mono ?_
 rintro e w15 ⟨rfl, hb15⟩
 have hz15 := hb15.size
 have hS15 : Row w15 w1.heap.size 27 #[.int .i64 t.op, .int .i64 t.n, .string t.s, .slice A1 t.kids.length c1] ∧ Row w15 w6.heap.size 27 #[.int .i64 (instR o).op, .int .i64 (instR o).n, .string (instR o).s, .slice A8 (instR o).kids.length c8] ∧ Row w15 w8.heap.size 27 #[.int .i64 (instR o).op, .int .i64 (instR o).n, .string (instR o).s, .slice A10 (instR o).kids.length c10] ∧ Row w15 w10.heap.size 40 #[.int .i64 tt.op, .int .i64 tt.n, .string tt.s, .string tt.t, .int .i64 tt.ty.op, .int .i64 tt.ty.n, .string tt.ty.s, .slice E1 tt.ty.kids.length f1, .slice E2 tt.inst.length f2, .slice E3 tt.vars.length f3, .slice E4 tt.kids.length f4] := ⟨hS14.1.below hb15 hS14.1.lt, hS14.2.1.below hb15 hS14.2.1.lt, hS14.2.2.1.below hb15 hS14.2.2.1.lt, hS14.2.2.2.below hb15 hS14.2.2.2.lt⟩
 have B15 := LH hb15
 have D15 := LH (D14.out.trans (hb15.mono D14.out.size))
 clear hb15
 try simp only [List.getElem_toArray, List.getElem_cons_succ, List.getElem_cons_zero]
 go_simp
 refine hK.out _ _ hS15 (fun _ => ?_)
 clear hK K hS14
 try simp only [List.getElem_toArray, List.getElem_cons_succ, List.getElem_cons_zero, Act.put, List.setIfInBounds_toArray, List.set_cons_zero, List.set_cons_succ]
 clear HSM I814 I1014
 have VS15 := LH (VS14.out.below B15.out B15.out.size)
 have ES15 := LH (ES14.out.below B15.out B15.out.size)
 have TA15 := LH (TA14.out.below B15.out B15.out.size)
 have EA15 := LH (EA14.out.below B15.out B15.out.size)
 clear VS14 ES14 TA14 EA14
 refine wpAnyT_tk (i := 15) (oi := _) (v := ?tv13) rfl (Or.inl ⟨by rfl, ?th13⟩) hS15 ?_
 case th13 => (intro x hSx; have hx1 := fun i => hSx.1.cell i; have hx2 := fun i => hSx.2.1.cell i; have hx3 := fun i => hSx.2.2.1.cell i; have hx4 := fun i => hSx.2.2.2.cell i; clear hSx; go_simp; (try with_reducible rfl))
 try simp only [List.getElem_toArray, List.getElem_cons_succ, List.getElem_cons_zero, Act.put, List.setIfInBounds_toArray, List.set_cons_zero, List.set_cons_succ]
 refine wpAnyT_tk (i := 16) (oi := _) (v := ?tv14) rfl (Or.inl ⟨by rfl, ?th14⟩) hS15 ?_
 case th14 => (intro x hSx; have hx1 := fun i => hSx.1.cell i; have hx2 := fun i => hSx.2.1.cell i; have hx3 := fun i => hSx.2.2.1.cell i; have hx4 := fun i => hSx.2.2.2.cell i; clear hSx; go_simp; (try with_reducible rfl))
 try simp only [List.getElem_toArray, List.getElem_cons_succ, List.getElem_cons_zero, Act.put, List.setIfInBounds_toArray, List.set_cons_zero, List.set_cons_succ]
 refine wpAnyT_tk (i := 17) (oi := _) (v := ?tv15) rfl (Or.inl ⟨by rfl, ?th15⟩) hS15 ?_
 case th15 => (intro x hSx; have hx1 := fun i => hSx.1.cell i; have hx2 := fun i => hSx.2.1.cell i; have hx3 := fun i => hSx.2.2.1.cell i; have hx4 := fun i => hSx.2.2.2.cell i; clear hSx; go_simp; (try with_reducible rfl))
 try simp only [List.getElem_toArray, List.getElem_cons_succ, List.getElem_cons_zero, Act.put, List.setIfInBounds_toArray, List.set_cons_zero, List.set_cons_succ]
 refine wpAnyT_tk (i := 18) (oi := _) (v := ?tv16) rfl (Or.inl ⟨by rfl, ?th16⟩) hS15 ?_
 case th16 => (intro x hSx; have hx1 := fun i => hSx.1.cell i; have hx2 := fun i => hSx.2.1.cell i; have hx3 := fun i => hSx.2.2.1.cell i; have hx4 := fun i => hSx.2.2.2.cell i; clear hSx; go_simp; (try with_reducible rfl))
 try simp only [List.getElem_toArray, List.getElem_cons_succ, List.getElem_cons_zero, Act.put, List.setIfInBounds_toArray, List.set_cons_zero, List.set_cons_succ]
 refine wpAnyT_tk (i := 20) (oi := _) (v := ?tv17) rfl (Or.inl ⟨by rfl, ?th17⟩) hS15 ?_
 case th17 => (intro x hSx; have hx1 := fun i => hSx.1.cell i; have hx2 := fun i => hSx.2.1.cell i; have hx3 := fun i => hSx.2.2.1.cell i; have hx4 := fun i => hSx.2.2.2.cell i; clear hSx; go_simp; (try with_reducible rfl))
 try simp only [List.getElem_toArray, List.getElem_cons_succ, List.getElem_cons_zero, Act.put, List.setIfInBounds_toArray, List.set_cons_zero, List.set_cons_succ]
 refine wpAnyT_step (i := 19) (by kernel_rfl) rfl (fun K hK => ?_)
 try simp only [List.getElem_toArray, List.getElem_cons_succ, List.getElem_cons_zero]
 go_simp
 refine (implErase (tt.bulk + 1) tt E1 f1 E2 f2 E3 f3 E4 f4 w15 (Nat.lt_succ_self _) hebk EA15.out).mono ?_
 rintro e w16 ⟨AN, cN, rfl, how, hb16⟩
 have hz16 := hb16.size
 have hS16 : Row w16 w1.heap.size 27 #[.int .i64 t.op, .int .i64 t.n, .string t.s, .slice A1 t.kids.length c1] ∧ Row w16 w6.heap.size 27 #[.int .i64 (instR o).op, .int .i64 (instR o).n, .string (instR o).s, .slice A8 (instR o).kids.length c8] ∧ Row w16 w8.heap.size 27 #[.int .i64 (instR o).op, .int .i64 (instR o).n, .string (instR o).s, .slice A10 (instR o).kids.length c10] ∧ Row w16 w10.heap.size 40 #[.int .i64 tt.op, .int .i64 tt.n, .string tt.s, .string tt.t, .int .i64 tt.ty.op, .int .i64 tt.ty.n, .string tt.ty.s, .slice E1 tt.ty.kids.length f1, .slice E2 tt.inst.length f2, .slice E3 tt.vars.length f3, .slice E4 tt.kids.length f4] := ⟨hS15.1.below hb16 hS15.1.lt, hS15.2.1.below hb16 hS15.2.1.lt, hS15.2.2.1.below hb16 hS15.2.2.1.lt, hS15.2.2.2.below hb16 hS15.2.2.2.lt⟩
 have B16 := LH hb16
 have D16 := LH (D15.out.trans (hb16.mono D15.out.size))
 have N16 := LH (how.at.keep (w' := w16) (S' := Lt w16.heap.size) fun q hq => ⟨hq.2, rfl⟩)
 clear how
 clear hb16
 try simp only [List.getElem_toArray, List.getElem_cons_succ, List.getElem_cons_zero]
 go_simp
 refine hK.out _ _ hS16 (fun _ => ?_)
 clear hK K hS15
 try simp only [List.getElem_toArray, List.getElem_cons_succ, List.getElem_cons_zero, Act.put, List.setIfInBounds_toArray, List.set_cons_zero, List.set_cons_succ]
 have VS16 := LH (VS15.out.below B16.out B16.out.size)
 have ES16 := LH (ES15.out.below B16.out B16.out.size)
 have TA16 := LH (TA15.out.below B16.out B16.out.size)
 have EA16 := LH (EA15.out.below B16.out B16.out.size)
 clear VS15 ES15 TA15 EA15
 refine wpAnyT_step (i := 21) (by kernel_rfl) rfl (fun K hK => ?_)
 try simp only [List.getElem_toArray, List.getElem_cons_succ, List.getElem_cons_zero]
 go_simp
 refine (specErase (tt.bulk + 1) tt E1 f1 E2 f2 E3 f3 E4 f4 w16 (Nat.lt_succ_self _) hebk EA16.out).mono ?_
 rintro e w17 ⟨AM, cM, rfl, how, hb17⟩
 have hz17 := hb17.size
 have hS17 : Row w17 w1.heap.size 27 #[.int .i64 t.op, .int .i64 t.n, .string t.s, .slice A1 t.kids.length c1] ∧ Row w17 w6.heap.size 27 #[.int .i64 (instR o).op, .int .i64 (instR o).n, .string (instR o).s, .slice A8 (instR o).kids.length c8] ∧ Row w17 w8.heap.size 27 #[.int .i64 (instR o).op, .int .i64 (instR o).n, .string (instR o).s, .slice A10 (instR o).kids.length c10] ∧ Row w17 w10.heap.size 40 #[.int .i64 tt.op, .int .i64 tt.n, .string tt.s, .string tt.t, .int .i64 tt.ty.op, .int .i64 tt.ty.n, .string tt.ty.s, .slice E1 tt.ty.kids.length f1, .slice E2 tt.inst.length f2, .slice E3 tt.vars.length f3, .slice E4 tt.kids.length f4] := ⟨hS16.1.below hb17 hS16.1.lt, hS16.2.1.below hb17 hS16.2.1.lt, hS16.2.2.1.below hb17 hS16.2.2.1.lt, hS16.2.2.2.below hb17 hS16.2.2.2.lt⟩
 have B17 := LH hb17
 have D17 := LH (D16.out.trans (hb17.mono D16.out.size))
 have M17 := LH (how.at.keep (w' := w17) (S' := Lt w17.heap.size) fun q hq => ⟨hq.2, rfl⟩)
 have N17 := LH (N16.out.below hb17 hb17.size)
 clear how N16
 clear hb17
 try simp only [List.getElem_toArray, List.getElem_cons_succ, List.getElem_cons_zero]
 go_simp
 refine hK.out _ _ hS17 (fun _ => ?_)
 clear hK K hS16
 try simp only [List.getElem_toArray, List.getElem_cons_succ, List.getElem_cons_zero, Act.put, List.setIfInBounds_toArray, List.set_cons_zero, List.set_cons_succ]
 clear EA16
 have VS17 := LH (VS16.out.below B17.out B17.out.size)
 have ES17 := LH (ES16.out.below B17.out B17.out.size)
 have TA17 := LH (TA16.out.below B17.out B17.out.size)
 clear VS16 ES16 TA16
 refine wpAnyT_step (i := 22) (by kernel_rfl) rfl (fun K hK => ?_)
 try simp only [List.getElem_toArray, List.getElem_cons_succ, List.getElem_cons_zero]
 go_simp
 refine (sameNodeL (tt.erase.bulk + 1) tt.erase AN cN AM cM w17 (Nat.lt_succ_self _) N17.out M17.out).mono ?_
 rintro e w18 ⟨rfl, hb18⟩
 have hz18 := hb18.size
 have hS18 : Row w18 w1.heap.size 27 #[.int .i64 t.op, .int .i64 t.n, .string t.s, .slice A1 t.kids.length c1] ∧ Row w18 w6.heap.size 27 #[.int .i64 (instR o).op, .int .i64 (instR o).n, .string (instR o).s, .slice A8 (instR o).kids.length c8] ∧ Row w18 w8.heap.size 27 #[.int .i64 (instR o).op, .int .i64 (instR o).n, .string (instR o).s, .slice A10 (instR o).kids.length c10] ∧ Row w18 w10.heap.size 40 #[.int .i64 tt.op, .int .i64 tt.n, .string tt.s, .string tt.t, .int .i64 tt.ty.op, .int .i64 tt.ty.n, .string tt.ty.s, .slice E1 tt.ty.kids.length f1, .slice E2 tt.inst.length f2, .slice E3 tt.vars.length f3, .slice E4 tt.kids.length f4] := ⟨hS17.1.below hb18 hS17.1.lt, hS17.2.1.below hb18 hS17.2.1.lt, hS17.2.2.1.below hb18 hS17.2.2.1.lt, hS17.2.2.2.below hb18 hS17.2.2.2.lt⟩
 have B18 := LH hb18
 have D18 := LH (D17.out.trans (hb18.mono D17.out.size))
 clear hb18
 try simp only [List.getElem_toArray, List.getElem_cons_succ, List.getElem_cons_zero]
 go_simp
 refine hK.out _ _ hS18 (fun _ => ?_)
 clear hK K hS17
 try simp only [List.getElem_toArray, List.getElem_cons_succ, List.getElem_cons_zero, Act.put, List.setIfInBounds_toArray, List.set_cons_zero, List.set_cons_succ]
 clear N17 M17
 have VS18 := LH (VS17.out.below B18.out B18.out.size)
 have ES18 := LH (ES17.out.below B18.out B18.out.size)
 have TA18 := LH (TA17.out.below B18.out B18.out.size)
 clear VS17 ES17 TA17
 refine wpAnyT_tk (i := 23) (oi := _) (v := ?tv18) rfl (Or.inl ⟨by rfl, ?th18⟩) hS18 ?_
 case th18 => (intro x hSx; have hx1 := fun i => hSx.1.cell i; have hx2 := fun i => hSx.2.1.cell i; have hx3 := fun i => hSx.2.2.1.cell i; have hx4 := fun i => hSx.2.2.2.cell i; clear hSx; go_simp; (try with_reducible rfl))
 try simp only [List.getElem_toArray, List.getElem_cons_succ, List.getElem_cons_zero, Act.put, List.setIfInBounds_toArray, List.set_cons_zero, List.set_cons_succ]
 refine wpAnyT_tk (i := 24) (oi := _) (v := ?tv19) rfl (Or.inl ⟨by rfl, ?th19⟩) hS18 ?_
 case th19 => (intro x hSx; have hx1 := fun i => hSx.1.cell i; have hx2 := fun i => hSx.2.1.cell i; have hx3 := fun i => hSx.2.2.1.cell i; have hx4 := fun i => hSx.2.2.2.cell i; clear hSx; go_simp; (try with_reducible rfl))
 try simp only [List.getElem_toArray, List.getElem_cons_succ, List.getElem_cons_zero, Act.put, List.setIfInBounds_toArray, List.set_cons_zero, List.set_cons_succ]
 refine wpAnyT_done (by kernel_rfl) ?_ _
 have R4_18 := LH hS18.1
 clear hS18
 have hct := fun i => R4_18.out.cell i
 have hclt := R4_18.out.lt
 have HC := LH (implFreeVars t A1 c1 w18 (by have := HTB.out; omega) TA18.out)
 go_wp2_with fail
 refine HC.out.mono ?_
 clear HC hct hclt
 rintro e w19 ⟨AF, cF, rfl, how, hb19⟩
 have hz19 := hb19.size
 have D19 := LH (D18.out.trans (hb19.mono D18.out.size))
 have FV19 := LH how.slLt
 have VS19 := LH (VS18.out.below hb19 hb19.size)
 have ES19 := LH (ES18.out.below hb19 hb19.size)
 have hlv : (genV env t).length ≤ 9223372036854775807 := by simpa using VS19.out.len
 have hle : env.length ≤ 9223372036854775807 := by simpa using ES19.out.len
 clear how hb19 VS18 ES18 TA18 R4_18
 go_wp2_with fail
 go_loopw [14] (fun i wr => ∃ (j : Nat), j ≤ (genV env t).length ∧ i = .int .i64 j ∧ Hid (Below w19.heap.size w19 wr)) (fun i _ => (genV env t).length - (intOf i).toNat)
 case atStart => exact ⟨0, by omega, by go_num, LH (Below.refl _ _)⟩
 case round =>
  obtain ⟨j, hj, rfl, HB⟩ := hrel
  have hsz := HB.out.size
  by_cases hlt : j < (genV env t).length
  ·
   have hji : (j : Int) < ((genV env t).length : Int) := by omega
   have dji : decide ((j : Int) < ((genV env t).length : Int)) = true := decide_eq_true hji
   have VSj := LH (VS19.out.below HB.out HB.out.size)
   obtain ⟨bv, ov, hAv, hSv, gv, _⟩ := int_elem VSj.out j hlt
   have HIN := LH (genV_in hlt)
   subst hAv
   have HC := LH (withinL (t.vs []) AF cF (genV env t)[j] wr (FV19.out.below HB.out HB.out.size))
   rw [HIN.out] at HC
   go_wp2_with fail
   refine HC.out.mono ?_
   clear HC
   rintro e w20 ⟨rfl, hb20⟩
   have hz20 := hb20.size
   have B20 := LH (HB.out.trans (hb20.mono hsz))
   clear hb20 HIN
   go_wp2_with fail
   go_loopw [15] (fun i wr => ∃ (k : Nat), k ≤ env.length ∧ i = .int .i64 k ∧ Hid (Below w20.heap.size w20 wr)) (fun i _ => env.length - (intOf i).toNat)
   case atStart => exact ⟨0, by omega, by go_num, LH (Below.refl _ _)⟩
   case round =>
    obtain ⟨k, hk, rfl, HQ⟩ := hrel
    have hsq := HQ.out.size
    by_cases hkt : k < env.length
    ·
     have hki : (k : Int) < (env.length : Int) := by omega
     have dki : decide ((k : Int) < (env.length : Int)) = true := decide_eq_true hki
     have BQ := LH (B20.out.trans (HQ.out.mono B20.out.size))
     have VSk := LH (VS19.out.below BQ.out BQ.out.size)
     have ESk := LH (ES19.out.below BQ.out BQ.out.size)
     obtain ⟨bv', ov', hAv', hSv', gv', _⟩ := int_elem VSk.out j hlt
     obtain ⟨rfl, rfl⟩ : bv = bv' ∧ ov = ov' := by cases hAv'; exact ⟨rfl, rfl⟩
     obtain ⟨be, oe, A2, c2, A3, c3, rfl, hSe, g0, g1, g2, g3, g4, hat⟩ := GScheme.elem ESk.out k hkt
     have hkb : (env[k]).bulk ≤ 200 := by have := HEB.out; have := bulkL_mem GScheme.bulk env _ (List.getElem_mem hkt); omega
     have HKB := LH hkb
     have HAT := LH hat
     have hge := BQ.out.size
     clear hAv' hat hkb
     go_wp2_with fail
     refine wp_region_T (fun x => ∀ q, q < wr.heap.size → x.heap[q]? = wr.heap[q]?) 100 (by kernel_rfl) ?_
     have hS0 : ∀ q, q < wr.heap.size → wr.drew.heap[q]? = wr.heap[q]? := fun q _ => rfl
     have BW0 := LH (show Below wr.heap.size wr wr.drew from (Below.refl _ _).drew)
     have hzd : wr.drew.heap.size ≤ wr.heap.size ∧ wr.heap.size ≤ wr.drew.heap.size := ⟨Nat.le_refl _, Nat.le_refl _⟩
     refine wpAnyT_tk (i := 0) (oi := _) (v := ?tw1) rfl (Or.inl ⟨by rfl, ?tj1⟩) hS0 ?_
     case tj1 => (intro x hSx; have x0 := (World.cell?_of_block (a := ⟨be, oe + k * 5, none⟩) (hSx be hSe)).trans g0; have x1 := (World.cell?_of_block (a := ⟨be, oe + k * 5 + 1, none⟩) (hSx be hSe)).trans g1; have x2 := (World.cell?_of_block (a := ⟨be, oe + k * 5 + 2, none⟩) (hSx be hSe)).trans g2; have x3 := (World.cell?_of_block (a := ⟨be, oe + k * 5 + 3, none⟩) (hSx be hSe)).trans g3; have x4 := (World.cell?_of_block (a := ⟨be, oe + k * 5 + 4, none⟩) (hSx be hSe)).trans g4; have x5 := (World.cell?_of_block (a := ⟨bv, ov + j, none⟩) (hSx bv hSv')).trans gv'; clear hSx; go_simp; (try with_reducible rfl))
     try simp only [List.getElem_toArray, List.getElem_cons_succ, List.getElem_cons_zero, Act.put, List.setIfInBounds_toArray, List.set_cons_zero, List.set_cons_succ]
     refine wpAnyT_tk (i := 1) (oi := _) (v := ?tw2) rfl (Or.inl ⟨by rfl, ?tj2⟩) hS0 ?_
     case tj2 => (intro x hSx; have x0 := (World.cell?_of_block (a := ⟨be, oe + k * 5, none⟩) (hSx be hSe)).trans g0; have x1 := (World.cell?_of_block (a := ⟨be, oe + k * 5 + 1, none⟩) (hSx be hSe)).trans g1; have x2 := (World.cell?_of_block (a := ⟨be, oe + k * 5 + 2, none⟩) (hSx be hSe)).trans g2; have x3 := (World.cell?_of_block (a := ⟨be, oe + k * 5 + 3, none⟩) (hSx be hSe)).trans g3; have x4 := (World.cell?_of_block (a := ⟨be, oe + k * 5 + 4, none⟩) (hSx be hSe)).trans g4; have x5 := (World.cell?_of_block (a := ⟨bv, ov + j, none⟩) (hSx bv hSv')).trans gv'; clear hSx; go_simp; (try with_reducible rfl))
     try simp only [List.getElem_toArray, List.getElem_cons_succ, List.getElem_cons_zero, Act.put, List.setIfInBounds_toArray, List.set_cons_zero, List.set_cons_succ]
     refine wpAnyT_tk (i := 2) (oi := _) (v := ?tw3) rfl (Or.inl ⟨by rfl, ?tj3⟩) hS0 ?_
     case tj3 => (intro x hSx; have x0 := (World.cell?_of_block (a := ⟨be, oe + k * 5, none⟩) (hSx be hSe)).trans g0; have x1 := (World.cell?_of_block (a := ⟨be, oe + k * 5 + 1, none⟩) (hSx be hSe)).trans g1; have x2 := (World.cell?_of_block (a := ⟨be, oe + k * 5 + 2, none⟩) (hSx be hSe)).trans g2; have x3 := (World.cell?_of_block (a := ⟨be, oe + k * 5 + 3, none⟩) (hSx be hSe)).trans g3; have x4 := (World.cell?_of_block (a := ⟨be, oe + k * 5 + 4, none⟩) (hSx be hSe)).trans g4; have x5 := (World.cell?_of_block (a := ⟨bv, ov + j, none⟩) (hSx bv hSv')).trans gv'; clear hSx; go_simp; (try with_reducible rfl))
     try simp only [List.getElem_toArray, List.getElem_cons_succ, List.getElem_cons_zero, Act.put, List.setIfInBounds_toArray, List.set_cons_zero, List.set_cons_succ]
     refine wpAnyT_tk (i := 3) (oi := _) (v := ?tw4) rfl (Or.inl ⟨by rfl, ?tj4⟩) hS0 ?_
     case tj4 => (intro x hSx; have x0 := (World.cell?_of_block (a := ⟨be, oe + k * 5, none⟩) (hSx be hSe)).trans g0; have x1 := (World.cell?_of_block (a := ⟨be, oe + k * 5 + 1, none⟩) (hSx be hSe)).trans g1; have x2 := (World.cell?_of_block (a := ⟨be, oe + k * 5 + 2, none⟩) (hSx be hSe)).trans g2; have x3 := (World.cell?_of_block (a := ⟨be, oe + k * 5 + 3, none⟩) (hSx be hSe)).trans g3; have x4 := (World.cell?_of_block (a := ⟨be, oe + k * 5 + 4, none⟩) (hSx be hSe)).trans g4; have x5 := (World.cell?_of_block (a := ⟨bv, ov + j, none⟩) (hSx bv hSv')).trans gv'; clear hSx; go_simp; (try with_reducible rfl))
     try simp only [List.getElem_toArray, List.getElem_cons_succ, List.getElem_cons_zero, Act.put, List.setIfInBounds_toArray, List.set_cons_zero, List.set_cons_succ]
     refine wpAnyT_tk (i := 4) (oi := _) (v := ?tw5) rfl (Or.inl ⟨by rfl, ?tj5⟩) hS0 ?_
     case tj5 => (intro x hSx; have x0 := (World.cell?_of_block (a := ⟨be, oe + k * 5, none⟩) (hSx be hSe)).trans g0; have x1 := (World.cell?_of_block (a := ⟨be, oe + k * 5 + 1, none⟩) (hSx be hSe)).trans g1; have x2 := (World.cell?_of_block (a := ⟨be, oe + k * 5 + 2, none⟩) (hSx be hSe)).trans g2; have x3 := (World.cell?_of_block (a := ⟨be, oe + k * 5 + 3, none⟩) (hSx be hSe)).trans g3; have x4 := (World.cell?_of_block (a := ⟨be, oe + k * 5 + 4, none⟩) (hSx be hSe)).trans g4; have x5 := (World.cell?_of_block (a := ⟨bv, ov + j, none⟩) (hSx bv hSv')).trans gv'; clear hSx; go_simp; (try with_reducible rfl))
     try simp only [List.getElem_toArray, List.getElem_cons_succ, List.getElem_cons_zero, Act.put, List.setIfInBounds_toArray, List.set_cons_zero, List.set_cons_succ]
     refine wpAnyT_tk (i := 6) (oi := _) (v := ?tw6) rfl (Or.inl ⟨by rfl, ?tj6⟩) hS0 ?_
     case tj6 => (intro x hSx; have x0 := (World.cell?_of_block (a := ⟨be, oe + k * 5, none⟩) (hSx be hSe)).trans g0; have x1 := (World.cell?_of_block (a := ⟨be, oe + k * 5 + 1, none⟩) (hSx be hSe)).trans g1; have x2 := (World.cell?_of_block (a := ⟨be, oe + k * 5 + 2, none⟩) (hSx be hSe)).trans g2; have x3 := (World.cell?_of_block (a := ⟨be, oe + k * 5 + 3, none⟩) (hSx be hSe)).trans g3; have x4 := (World.cell?_of_block (a := ⟨be, oe + k * 5 + 4, none⟩) (hSx be hSe)).trans g4; have x5 := (World.cell?_of_block (a := ⟨bv, ov + j, none⟩) (hSx bv hSv')).trans gv'; clear hSx; go_simp; (try with_reducible rfl))
     try simp only [List.getElem_toArray, List.getElem_cons_succ, List.getElem_cons_zero, Act.put, List.setIfInBounds_toArray, List.set_cons_zero, List.set_cons_succ]
     refine wpAnyT_tk (i := 7) (oi := _) (v := ?tw7) rfl (Or.inl ⟨by rfl, ?tj7⟩) hS0 ?_
     case tj7 => (intro x hSx; have x0 := (World.cell?_of_block (a := ⟨be, oe + k * 5, none⟩) (hSx be hSe)).trans g0; have x1 := (World.cell?_of_block (a := ⟨be, oe + k * 5 + 1, none⟩) (hSx be hSe)).trans g1; have x2 := (World.cell?_of_block (a := ⟨be, oe + k * 5 + 2, none⟩) (hSx be hSe)).trans g2; have x3 := (World.cell?_of_block (a := ⟨be, oe + k * 5 + 3, none⟩) (hSx be hSe)).trans g3; have x4 := (World.cell?_of_block (a := ⟨be, oe + k * 5 + 4, none⟩) (hSx be hSe)).trans g4; have x5 := (World.cell?_of_block (a := ⟨bv, ov + j, none⟩) (hSx bv hSv')).trans gv'; clear hSx; go_simp; (try with_reducible rfl))
     try simp only [List.getElem_toArray, List.getElem_cons_succ, List.getElem_cons_zero, Act.put, List.setIfInBounds_toArray, List.set_cons_zero, List.set_cons_succ]
     refine wpAnyT_tk (i := 8) (oi := _) (v := ?tw8) rfl (Or.inl ⟨by rfl, ?tj8⟩) hS0 ?_
     case tj8 => (intro x hSx; have x0 := (World.cell?_of_block (a := ⟨be, oe + k * 5, none⟩) (hSx be hSe)).trans g0; have x1 := (World.cell?_of_block (a := ⟨be, oe + k * 5 + 1, none⟩) (hSx be hSe)).trans g1; have x2 := (World.cell?_of_block (a := ⟨be, oe + k * 5 + 2, none⟩) (hSx be hSe)).trans g2; have x3 := (World.cell?_of_block (a := ⟨be, oe + k * 5 + 3, none⟩) (hSx be hSe)).trans g3; have x4 := (World.cell?_of_block (a := ⟨be, oe + k * 5 + 4, none⟩) (hSx be hSe)).trans g4; have x5 := (World.cell?_of_block (a := ⟨bv, ov + j, none⟩) (hSx bv hSv')).trans gv'; clear hSx; go_simp; (try with_reducible rfl))
     try simp only [List.getElem_toArray, List.getElem_cons_succ, List.getElem_cons_zero, Act.put, List.setIfInBounds_toArray, List.set_cons_zero, List.set_cons_succ]
     refine wpAnyT_tk (i := 9) (oi := _) (v := ?tw9) rfl (Or.inl ⟨by rfl, ?tj9⟩) hS0 ?_
     case tj9 => (intro x hSx; have x0 := (World.cell?_of_block (a := ⟨be, oe + k * 5, none⟩) (hSx be hSe)).trans g0; have x1 := (World.cell?_of_block (a := ⟨be, oe + k * 5 + 1, none⟩) (hSx be hSe)).trans g1; have x2 := (World.cell?_of_block (a := ⟨be, oe + k * 5 + 2, none⟩) (hSx be hSe)).trans g2; have x3 := (World.cell?_of_block (a := ⟨be, oe + k * 5 + 3, none⟩) (hSx be hSe)).trans g3; have x4 := (World.cell?_of_block (a := ⟨be, oe + k * 5 + 4, none⟩) (hSx be hSe)).trans g4; have x5 := (World.cell?_of_block (a := ⟨bv, ov + j, none⟩) (hSx bv hSv')).trans gv'; clear hSx; go_simp; (try with_reducible rfl))
     try simp only [List.getElem_toArray, List.getElem_cons_succ, List.getElem_cons_zero, Act.put, List.setIfInBounds_toArray, List.set_cons_zero, List.set_cons_succ]
     have HF := LH (implFreeVars (env[k]).ty A3 c3 wr.drew (by have h1 := HKB.out; have h2 := (env[k]).bulk_eq; omega) (HAT.out.2.keep fun q hq => ⟨hq, rfl⟩))
     refine wpAnyT_step (i := 5) (by kernel_rfl) rfl (fun K hK => ?_)
     try simp only [List.getElem_toArray, List.getElem_cons_succ, List.getElem_cons_zero]
     go_simp
     refine (HF.out).mono ?_
     rintro e wa ⟨AK, cK, rfl, how, hbwa⟩
     have hzwa := hbwa.size
     have hSa : ∀ q, q < wr.heap.size → wa.heap[q]? = wr.heap[q]? := fun q hq => (hbwa.block q (by omega)).trans (hS0 q hq)
     have BWwa := LH (BW0.out.trans (hbwa.mono BW0.out.size))
     have FK := LH how.slLt
     clear how
     clear hbwa
     try simp only [List.getElem_toArray, List.getElem_cons_succ, List.getElem_cons_zero]
     go_simp
     refine hK.out _ _ hSa (fun _ => ?_)
     clear hK K
     try simp only [List.getElem_toArray, List.getElem_cons_succ, List.getElem_cons_zero, Act.put, List.setIfInBounds_toArray, List.set_cons_zero, List.set_cons_succ]
     have HW := LH (withinL ((env[k]).ty.vs []) AK cK (genV env t)[j] wa FK.out)
     obtain ⟨p, hp⟩ : ∃ p, p = ((env[k]).ty.vs []).any (fun y => y == (genV env t)[j]) := ⟨_, rfl⟩
     rw [← hp] at HW
     have HP := LH hp
     clear hp
     refine wpAnyT_step (i := 10) (by kernel_rfl) rfl (fun K hK => ?_)
     try simp only [List.getElem_toArray, List.getElem_cons_succ, List.getElem_cons_zero]
     go_simp
     refine (HW.out).mono ?_
     rintro e wb ⟨rfl, hbwb⟩
     have hzwb := hbwb.size
     have hSb : ∀ q, q < wr.heap.size → wb.heap[q]? = wr.heap[q]? := fun q hq => (hbwb.block q (by omega)).trans (hSa q hq)
     have BWwb := LH (BWwa.out.trans (hbwb.mono BWwa.out.size))
     clear hbwb
     try simp only [List.getElem_toArray, List.getElem_cons_succ, List.getElem_cons_zero]
     go_simp
     refine hK.out _ _ hSb (fun _ => ?_)
     clear hK K
     try simp only [List.getElem_toArray, List.getElem_cons_succ, List.getElem_cons_zero, Act.put, List.setIfInBounds_toArray, List.set_cons_zero, List.set_cons_succ]
     refine wpAnyT_tk (i := 11) (oi := _) (v := ?tw10) rfl (Or.inl ⟨by rfl, ?tj10⟩) hSb ?_
     case tj10 => (intro x hSx; have x0 := (World.cell?_of_block (a := ⟨be, oe + k * 5, none⟩) (hSx be hSe)).trans g0; have x1 := (World.cell?_of_block (a := ⟨be, oe + k * 5 + 1, none⟩) (hSx be hSe)).trans g1; have x2 := (World.cell?_of_block (a := ⟨be, oe + k * 5 + 2, none⟩) (hSx be hSe)).trans g2; have x3 := (World.cell?_of_block (a := ⟨be, oe + k * 5 + 3, none⟩) (hSx be hSe)).trans g3; have x4 := (World.cell?_of_block (a := ⟨be, oe + k * 5 + 4, none⟩) (hSx be hSe)).trans g4; have x5 := (World.cell?_of_block (a := ⟨bv, ov + j, none⟩) (hSx bv hSv')).trans gv'; clear hSx; go_simp; (try with_reducible rfl))
     try simp only [List.getElem_toArray, List.getElem_cons_succ, List.getElem_cons_zero, Act.put, List.setIfInBounds_toArray, List.set_cons_zero, List.set_cons_succ]
     cases p
     ·
      try simp only [List.getElem_toArray, List.getElem_cons_succ, List.getElem_cons_zero]
      refine wpAnyT_tk (i := 12) (oi := _) (v := undef) rfl (Or.inr ⟨by rfl, rfl⟩) hSb ?_
      try simp only [List.getElem_toArray, List.getElem_cons_succ, List.getElem_cons_zero, Act.put, List.setIfInBounds_toArray, List.set_cons_zero, List.set_cons_succ]
      refine wpAnyT_tk (i := 13) (oi := _) (v := undef) rfl (Or.inr ⟨by rfl, rfl⟩) hSb ?_
      try simp only [List.getElem_toArray, List.getElem_cons_succ, List.getElem_cons_zero, Act.put, List.setIfInBounds_toArray, List.set_cons_zero, List.set_cons_succ]
      refine wpAnyT_tk (i := 14) (oi := _) (v := undef) rfl (Or.inr ⟨by rfl, rfl⟩) hSb ?_
      try simp only [List.getElem_toArray, List.getElem_cons_succ, List.getElem_cons_zero, Act.put, List.setIfInBounds_toArray, List.set_cons_zero, List.set_cons_succ]
      refine wpAnyT_tk (i := 15) (oi := _) (v := undef) rfl (Or.inr ⟨by rfl, rfl⟩) hSb ?_
      try simp only [List.getElem_toArray, List.getElem_cons_succ, List.getElem_cons_zero, Act.put, List.setIfInBounds_toArray, List.set_cons_zero, List.set_cons_succ]
      refine wpAnyT_tk (i := 16) (oi := _) (v := undef) rfl (Or.inr ⟨by rfl, rfl⟩) hSb ?_
      try simp only [List.getElem_toArray, List.getElem_cons_succ, List.getElem_cons_zero, Act.put, List.setIfInBounds_toArray, List.set_cons_zero, List.set_cons_succ]
      refine wpAnyT_tk (i := 17) (oi := _) (v := undef) rfl (Or.inr ⟨by rfl, rfl⟩) hSb ?_
      try simp only [List.getElem_toArray, List.getElem_cons_succ, List.getElem_cons_zero, Act.put, List.setIfInBounds_toArray, List.set_cons_zero, List.set_cons_succ]
      refine wpAnyT_tk (i := 18) (oi := _) (v := undef) rfl (Or.inr ⟨by rfl, rfl⟩) hSb ?_
      try simp only [List.getElem_toArray, List.getElem_cons_succ, List.getElem_cons_zero, Act.put, List.setIfInBounds_toArray, List.set_cons_zero, List.set_cons_succ]
      refine wpAnyT_tk (i := 19) (oi := _) (v := undef) rfl (Or.inr ⟨by rfl, rfl⟩) hSb ?_
      try simp only [List.getElem_toArray, List.getElem_cons_succ, List.getElem_cons_zero, Act.put, List.setIfInBounds_toArray, List.set_cons_zero, List.set_cons_succ]
      refine wpAnyT_tk (i := 20) (oi := _) (v := undef) rfl (Or.inr ⟨by rfl, rfl⟩) hSb ?_
      try simp only [List.getElem_toArray, List.getElem_cons_succ, List.getElem_cons_zero, Act.put, List.setIfInBounds_toArray, List.set_cons_zero, List.set_cons_succ]
      refine wpAnyT_step (i := 21) (by kernel_rfl) rfl (fun K hK => ?_)
      rw [if_neg (by exact Bool.false_ne_true)]
      refine hK.out _ _ hSb (fun _ => ?_)
      clear hK K
      try simp only [List.getElem_toArray, List.getElem_cons_succ, List.getElem_cons_zero, Act.put, List.setIfInBounds_toArray, List.set_cons_zero, List.set_cons_succ]
      refine wpAnyT_tk (i := 22) (oi := _) (v := undef) rfl (Or.inr ⟨by rfl, rfl⟩) hSb ?_
      try simp only [List.getElem_toArray, List.getElem_cons_succ, List.getElem_cons_zero, Act.put, List.setIfInBounds_toArray, List.set_cons_zero, List.set_cons_succ]
      refine wpAnyT_tk (i := 23) (oi := _) (v := ?tw21) rfl (Or.inl ⟨by rfl, ?tj21⟩) hSb ?_
      case tj21 => (intro x hSx; have x0 := (World.cell?_of_block (a := ⟨be, oe + k * 5, none⟩) (hSx be hSe)).trans g0; have x1 := (World.cell?_of_block (a := ⟨be, oe + k * 5 + 1, none⟩) (hSx be hSe)).trans g1; have x2 := (World.cell?_of_block (a := ⟨be, oe + k * 5 + 2, none⟩) (hSx be hSe)).trans g2; have x3 := (World.cell?_of_block (a := ⟨be, oe + k * 5 + 3, none⟩) (hSx be hSe)).trans g3; have x4 := (World.cell?_of_block (a := ⟨be, oe + k * 5 + 4, none⟩) (hSx be hSe)).trans g4; have x5 := (World.cell?_of_block (a := ⟨bv, ov + j, none⟩) (hSx bv hSv')).trans gv'; clear hSx; go_simp; (try with_reducible rfl))
      try simp only [List.getElem_toArray, List.getElem_cons_succ, List.getElem_cons_zero, Act.put, List.setIfInBounds_toArray, List.set_cons_zero, List.set_cons_succ]
      refine wpAnyT_done (by kernel_rfl) ?_ _
      go_wp2_with fail
      go_roundw
      case rel => exact ⟨k + 1, by omega, by go_num, LH (HQ.out.trans (BWwb.out.mono hsq))⟩
      case measure => simp [intOf]; omega
     ·
      try simp only [List.getElem_toArray, List.getElem_cons_succ, List.getElem_cons_zero]
      refine wpAnyT_tk (i := 12) (oi := _) (v := ?tw22) rfl (Or.inl ⟨by rfl, ?tj22⟩) hSb ?_
      case tj22 => (intro x hSx; have x0 := (World.cell?_of_block (a := ⟨be, oe + k * 5, none⟩) (hSx be hSe)).trans g0; have x1 := (World.cell?_of_block (a := ⟨be, oe + k * 5 + 1, none⟩) (hSx be hSe)).trans g1; have x2 := (World.cell?_of_block (a := ⟨be, oe + k * 5 + 2, none⟩) (hSx be hSe)).trans g2; have x3 := (World.cell?_of_block (a := ⟨be, oe + k * 5 + 3, none⟩) (hSx be hSe)).trans g3; have x4 := (World.cell?_of_block (a := ⟨be, oe + k * 5 + 4, none⟩) (hSx be hSe)).trans g4; have x5 := (World.cell?_of_block (a := ⟨bv, ov + j, none⟩) (hSx bv hSv')).trans gv'; clear hSx; go_simp; (try with_reducible rfl))
      try simp only [List.getElem_toArray, List.getElem_cons_succ, List.getElem_cons_zero, Act.put, List.setIfInBounds_toArray, List.set_cons_zero, List.set_cons_succ]
      refine wpAnyT_tk (i := 13) (oi := _) (v := ?tw23) rfl (Or.inl ⟨by rfl, ?tj23⟩) hSb ?_
      case tj23 => (intro x hSx; have x0 := (World.cell?_of_block (a := ⟨be, oe + k * 5, none⟩) (hSx be hSe)).trans g0; have x1 := (World.cell?_of_block (a := ⟨be, oe + k * 5 + 1, none⟩) (hSx be hSe)).trans g1; have x2 := (World.cell?_of_block (a := ⟨be, oe + k * 5 + 2, none⟩) (hSx be hSe)).trans g2; have x3 := (World.cell?_of_block (a := ⟨be, oe + k * 5 + 3, none⟩) (hSx be hSe)).trans g3; have x4 := (World.cell?_of_block (a := ⟨be, oe + k * 5 + 4, none⟩) (hSx be hSe)).trans g4; have x5 := (World.cell?_of_block (a := ⟨bv, ov + j, none⟩) (hSx bv hSv')).trans gv'; clear hSx; go_simp; (try with_reducible rfl))
      try simp only [List.getElem_toArray, List.getElem_cons_succ, List.getElem_cons_zero, Act.put, List.setIfInBounds_toArray, List.set_cons_zero, List.set_cons_succ]
      refine wpAnyT_tk (i := 14) (oi := _) (v := ?tw24) rfl (Or.inl ⟨by rfl, ?tj24⟩) hSb ?_
      case tj24 => (intro x hSx; have x0 := (World.cell?_of_block (a := ⟨be, oe + k * 5, none⟩) (hSx be hSe)).trans g0; have x1 := (World.cell?_of_block (a := ⟨be, oe + k * 5 + 1, none⟩) (hSx be hSe)).trans g1; have x2 := (World.cell?_of_block (a := ⟨be, oe + k * 5 + 2, none⟩) (hSx be hSe)).trans g2; have x3 := (World.cell?_of_block (a := ⟨be, oe + k * 5 + 3, none⟩) (hSx be hSe)).trans g3; have x4 := (World.cell?_of_block (a := ⟨be, oe + k * 5 + 4, none⟩) (hSx be hSe)).trans g4; have x5 := (World.cell?_of_block (a := ⟨bv, ov + j, none⟩) (hSx bv hSv')).trans gv'; clear hSx; go_simp; (try with_reducible rfl))
      try simp only [List.getElem_toArray, List.getElem_cons_succ, List.getElem_cons_zero, Act.put, List.setIfInBounds_toArray, List.set_cons_zero, List.set_cons_succ]
      refine wpAnyT_tk (i := 15) (oi := _) (v := ?tw25) rfl (Or.inl ⟨by rfl, ?tj25⟩) hSb ?_
      case tj25 => (intro x hSx; have x0 := (World.cell?_of_block (a := ⟨be, oe + k * 5, none⟩) (hSx be hSe)).trans g0; have x1 := (World.cell?_of_block (a := ⟨be, oe + k * 5 + 1, none⟩) (hSx be hSe)).trans g1; have x2 := (World.cell?_of_block (a := ⟨be, oe + k * 5 + 2, none⟩) (hSx be hSe)).trans g2; have x3 := (World.cell?_of_block (a := ⟨be, oe + k * 5 + 3, none⟩) (hSx be hSe)).trans g3; have x4 := (World.cell?_of_block (a := ⟨be, oe + k * 5 + 4, none⟩) (hSx be hSe)).trans g4; have x5 := (World.cell?_of_block (a := ⟨bv, ov + j, none⟩) (hSx bv hSv')).trans gv'; clear hSx; go_simp; (try with_reducible rfl))
      try simp only [List.getElem_toArray, List.getElem_cons_succ, List.getElem_cons_zero, Act.put, List.setIfInBounds_toArray, List.set_cons_zero, List.set_cons_succ]
      refine wpAnyT_tk (i := 16) (oi := _) (v := ?tw26) rfl (Or.inl ⟨by rfl, ?tj26⟩) hSb ?_
      case tj26 => (intro x hSx; have x0 := (World.cell?_of_block (a := ⟨be, oe + k * 5, none⟩) (hSx be hSe)).trans g0; have x1 := (World.cell?_of_block (a := ⟨be, oe + k * 5 + 1, none⟩) (hSx be hSe)).trans g1; have x2 := (World.cell?_of_block (a := ⟨be, oe + k * 5 + 2, none⟩) (hSx be hSe)).trans g2; have x3 := (World.cell?_of_block (a := ⟨be, oe + k * 5 + 3, none⟩) (hSx be hSe)).trans g3; have x4 := (World.cell?_of_block (a := ⟨be, oe + k * 5 + 4, none⟩) (hSx be hSe)).trans g4; have x5 := (World.cell?_of_block (a := ⟨bv, ov + j, none⟩) (hSx bv hSv')).trans gv'; clear hSx; go_simp; (try with_reducible rfl))
      try simp only [List.getElem_toArray, List.getElem_cons_succ, List.getElem_cons_zero, Act.put, List.setIfInBounds_toArray, List.set_cons_zero, List.set_cons_succ]
      refine wpAnyT_tk (i := 17) (oi := _) (v := ?tw27) rfl (Or.inl ⟨by rfl, ?tj27⟩) hSb ?_
      case tj27 => (intro x hSx; have x0 := (World.cell?_of_block (a := ⟨be, oe + k * 5, none⟩) (hSx be hSe)).trans g0; have x1 := (World.cell?_of_block (a := ⟨be, oe + k * 5 + 1, none⟩) (hSx be hSe)).trans g1; have x2 := (World.cell?_of_block (a := ⟨be, oe + k * 5 + 2, none⟩) (hSx be hSe)).trans g2; have x3 := (World.cell?_of_block (a := ⟨be, oe + k * 5 + 3, none⟩) (hSx be hSe)).trans g3; have x4 := (World.cell?_of_block (a := ⟨be, oe + k * 5 + 4, none⟩) (hSx be hSe)).trans g4; have x5 := (World.cell?_of_block (a := ⟨bv, ov + j, none⟩) (hSx bv hSv')).trans gv'; clear hSx; go_simp; (try with_reducible rfl))
      try simp only [List.getElem_toArray, List.getElem_cons_succ, List.getElem_cons_zero, Act.put, List.setIfInBounds_toArray, List.set_cons_zero, List.set_cons_succ]
      refine wpAnyT_tk (i := 18) (oi := _) (v := ?tw28) rfl (Or.inl ⟨by rfl, ?tj28⟩) hSb ?_
      case tj28 => (intro x hSx; have x0 := (World.cell?_of_block (a := ⟨be, oe + k * 5, none⟩) (hSx be hSe)).trans g0; have x1 := (World.cell?_of_block (a := ⟨be, oe + k * 5 + 1, none⟩) (hSx be hSe)).trans g1; have x2 := (World.cell?_of_block (a := ⟨be, oe + k * 5 + 2, none⟩) (hSx be hSe)).trans g2; have x3 := (World.cell?_of_block (a := ⟨be, oe + k * 5 + 3, none⟩) (hSx be hSe)).trans g3; have x4 := (World.cell?_of_block (a := ⟨be, oe + k * 5 + 4, none⟩) (hSx be hSe)).trans g4; have x5 := (World.cell?_of_block (a := ⟨bv, ov + j, none⟩) (hSx bv hSv')).trans gv'; clear hSx; go_simp; (try with_reducible rfl))
      try simp only [List.getElem_toArray, List.getElem_cons_succ, List.getElem_cons_zero, Act.put, List.setIfInBounds_toArray, List.set_cons_zero, List.set_cons_succ]
      refine wpAnyT_tk (i := 19) (oi := _) (v := ?tw29) rfl (Or.inl ⟨by rfl, ?tj29⟩) hSb ?_
      case tj29 => (intro x hSx; have x0 := (World.cell?_of_block (a := ⟨be, oe + k * 5, none⟩) (hSx be hSe)).trans g0; have x1 := (World.cell?_of_block (a := ⟨be, oe + k * 5 + 1, none⟩) (hSx be hSe)).trans g1; have x2 := (World.cell?_of_block (a := ⟨be, oe + k * 5 + 2, none⟩) (hSx be hSe)).trans g2; have x3 := (World.cell?_of_block (a := ⟨be, oe + k * 5 + 3, none⟩) (hSx be hSe)).trans g3; have x4 := (World.cell?_of_block (a := ⟨be, oe + k * 5 + 4, none⟩) (hSx be hSe)).trans g4; have x5 := (World.cell?_of_block (a := ⟨bv, ov + j, none⟩) (hSx bv hSv')).trans gv'; clear hSx; go_simp; (try with_reducible rfl))
      try simp only [List.getElem_toArray, List.getElem_cons_succ, List.getElem_cons_zero, Act.put, List.setIfInBounds_toArray, List.set_cons_zero, List.set_cons_succ]
      refine wpAnyT_tk (i := 20) (oi := _) (v := ?tw30) rfl (Or.inl ⟨by rfl, ?tj30⟩) hSb ?_
      case tj30 => (intro x hSx; have x0 := (World.cell?_of_block (a := ⟨be, oe + k * 5, none⟩) (hSx be hSe)).trans g0; have x1 := (World.cell?_of_block (a := ⟨be, oe + k * 5 + 1, none⟩) (hSx be hSe)).trans g1; have x2 := (World.cell?_of_block (a := ⟨be, oe + k * 5 + 2, none⟩) (hSx be hSe)).trans g2; have x3 := (World.cell?_of_block (a := ⟨be, oe + k * 5 + 3, none⟩) (hSx be hSe)).trans g3; have x4 := (World.cell?_of_block (a := ⟨be, oe + k * 5 + 4, none⟩) (hSx be hSe)).trans g4; have x5 := (World.cell?_of_block (a := ⟨bv, ov + j, none⟩) (hSx bv hSv')).trans gv'; clear hSx; go_simp; (try with_reducible rfl))
      try simp only [List.getElem_toArray, List.getElem_cons_succ, List.getElem_cons_zero, Act.put, List.setIfInBounds_toArray, List.set_cons_zero, List.set_cons_succ]
      have HW2 := LH (withinL (env[k]).vars A2 c2 (genV env t)[j] wb (HAT.out.1.keep fun q hq => ⟨show q < wb.heap.size by have := hq; unfold Lt at this; omega, hSb q hq⟩))
      rw [genV_no hlt hkt HP.out.symm] at HW2
      refine wpAnyT_step (i := 21) (by kernel_rfl) rfl (fun K hK => ?_)
      try simp only [List.getElem_toArray, List.getElem_cons_succ, List.getElem_cons_zero]
      go_simp
      refine (HW2.out).mono ?_
      rintro e wd ⟨rfl, hbwd⟩
      have hzwd := hbwd.size
      have hSd : ∀ q, q < wr.heap.size → wd.heap[q]? = wr.heap[q]? := fun q hq => (hbwd.block q (by omega)).trans (hSb q hq)
      have BWwd := LH (BWwb.out.trans (hbwd.mono BWwb.out.size))
      clear hbwd
      try simp only [List.getElem_toArray, List.getElem_cons_succ, List.getElem_cons_zero]
      go_simp
      refine hK.out _ _ hSd (fun _ => ?_)
      clear hK K
      try simp only [List.getElem_toArray, List.getElem_cons_succ, List.getElem_cons_zero, Act.put, List.setIfInBounds_toArray, List.set_cons_zero, List.set_cons_succ]
      refine wpAnyT_tk (i := 22) (oi := _) (v := ?tw31) rfl (Or.inl ⟨by rfl, ?tj31⟩) hSd ?_
      case tj31 => (intro x hSx; have x0 := (World.cell?_of_block (a := ⟨be, oe + k * 5, none⟩) (hSx be hSe)).trans g0; have x1 := (World.cell?_of_block (a := ⟨be, oe + k * 5 + 1, none⟩) (hSx be hSe)).trans g1; have x2 := (World.cell?_of_block (a := ⟨be, oe + k * 5 + 2, none⟩) (hSx be hSe)).trans g2; have x3 := (World.cell?_of_block (a := ⟨be, oe + k * 5 + 3, none⟩) (hSx be hSe)).trans g3; have x4 := (World.cell?_of_block (a := ⟨be, oe + k * 5 + 4, none⟩) (hSx be hSe)).trans g4; have x5 := (World.cell?_of_block (a := ⟨bv, ov + j, none⟩) (hSx bv hSv')).trans gv'; clear hSx; go_simp; (try with_reducible rfl))
      try simp only [List.getElem_toArray, List.getElem_cons_succ, List.getElem_cons_zero, Act.put, List.setIfInBounds_toArray, List.set_cons_zero, List.set_cons_succ]
      refine wpAnyT_tk (i := 23) (oi := _) (v := ?tw32) rfl (Or.inl ⟨by rfl, ?tj32⟩) hSd ?_
      case tj32 => (intro x hSx; have x0 := (World.cell?_of_block (a := ⟨be, oe + k * 5, none⟩) (hSx be hSe)).trans g0; have x1 := (World.cell?_of_block (a := ⟨be, oe + k * 5 + 1, none⟩) (hSx be hSe)).trans g1; have x2 := (World.cell?_of_block (a := ⟨be, oe + k * 5 + 2, none⟩) (hSx be hSe)).trans g2; have x3 := (World.cell?_of_block (a := ⟨be, oe + k * 5 + 3, none⟩) (hSx be hSe)).trans g3; have x4 := (World.cell?_of_block (a := ⟨be, oe + k * 5 + 4, none⟩) (hSx be hSe)).trans g4; have x5 := (World.cell?_of_block (a := ⟨bv, ov + j, none⟩) (hSx bv hSv')).trans gv'; clear hSx; go_simp; (try with_reducible rfl))
      try simp only [List.getElem_toArray, List.getElem_cons_succ, List.getElem_cons_zero, Act.put, List.setIfInBounds_toArray, List.set_cons_zero, List.set_cons_succ]
      refine wpAnyT_done (by kernel_rfl) ?_ _
      go_wp2_with fail
      go_roundw
      case rel => exact ⟨k + 1, by omega, by go_num, LH (HQ.out.trans (BWwd.out.mono hsq))⟩
      case measure => simp [intOf]; omega
    · have hki : ¬ (k : Int) < (env.length : Int) := by omega
      have dki : decide ((k : Int) < (env.length : Int)) = false := decide_eq_false hki
      go_wp2_with fail
      go_roundw
      case rel => exact ⟨j + 1, by omega, by go_num, LH (B20.out.trans (HQ.out.mono B20.out.size))⟩
      case measure => simp [intOf]; omega
  · have hji : ¬ (j : Int) < ((genV env t).length : Int) := by omega
    have dji : decide ((j : Int) < ((genV env t).length : Int)) = false := decide_eq_false hji
    go_wp2_with fail
    go_ret
    exact ⟨rfl, D19.out.trans (HB.out.mono D19.out.size)⟩
end Go.Proofs.YtlpichogambpfaaGreat
namespace Go.Proofs.YtlpichogambpfaaGreat
set_option maxRecDepth 20000
set_option linter.unusedVariables false
set_option linter.unusedSimpArgs false
open Go.ChangeShapes Go.WideShapes Go.ChangeAt Go.RowKit
def kindsOf (P : Program) (fn : Func) (c : OpenClaim) : List (Option IntKind) := if c.domain.isEmpty then [] else fn.params.toList.map fun t => match P.underlying t with | some (.int k) => some k | _ => none
theorem joinedAnd {a b : Bool} (h : a = true) (h2 : b = true) : (a && b) = true := by rw [h, h2]; rfl
set_option maxRecDepth 10000 in
theorem joinedOf {P : Program} {f : FuncId} {fn : Func} {s : ChangeSpec} {c : OpenClaim} (h0 : (c.wf (OpenSpec.ofChange s)) = true) (h1 : (laidOutB P) = true) (h2 : (mapsRowed P) = true) (h3 : (fn.params.all (P.readableRec ·)) = true) (h4 : (namedTie P c.named s.vars) = true) (h5 : (c.stops == []) = true) (h6 : (P.stops == []) = true) (h7 : (c.knobs == []) = true) (h8 : (P.stopKnobs == []) = true) (h9 : (c.inPlace == P.inPlace f) = true) (h10 : (c.unfollowed == P.unfollowed f) = true) (h11 : (c.recurses == P.recurses f) = true) (h12 : (c.named == P.varsNamed f) = true) (h13 : (c.maps == (fn.params.toList ++ s.plain.varTypes P).any (P.mapsRec ·)) = true) (h14 : (c.ifaces == (fn.params.toList ++ s.plain.varTypes P).any (P.ifacesRec ·)) = true) (h15 : (c.mapsOut == P.mapsAmong fn.resultTypes.toList) = true) (h16 : (c.loops == (fn.params.toList ++ s.plain.varTypes P).any (P.loopsFrom ·)) = true) (h17 : (c.wideKeys == (fn.params.toList ++ s.plain.varTypes P ++ fn.resultTypes.toList).any (P.wideKeysFrom ·)) = true) (h18 : (s.vars.all (P.varReadable ·)) = true) (h19 : (fn.resultTypes.all (fun t => P.readableRec t && decide (t < P.types.size))) = true) (h20 : (c.ifacesOut == fn.resultTypes.toList.any (P.ifacesRec ·)) = true) (h21 : (c.loopsOut == fn.resultTypes.toList.any (P.loopsFrom ·)) = true) (h22 : (c.plainKeys == P.plainKeys) = true) (h23 : (c.shortTexts.isNone) = true) (h24 : (P.stopsHeard) = true) (h25 : (P.mayEnter) = true) (h26 : (c.lifted == P.liftsFinal) = true) (h27 : (P.make == some c.make) = true) (h28 : (c.kinds == kindsOf P fn c) = true) (h29 : (c.pinned == c.pinnedBy) = true) (h30 : (c.veiled == (fn.params.toList ++ s.plain.varTypes P ++ fn.resultTypes.toList).any (P.veiledRec ·)) = true) (h31 : (c.veiledFits P fn.params.toList (fn.params.toList ++ s.plain.varTypes P ++ fn.resultTypes.toList)) = true) : joinedFacts P f fn s c = true := by
 unfold joinedFacts
 exact (joinedAnd (joinedAnd (joinedAnd (joinedAnd (joinedAnd (joinedAnd (joinedAnd (joinedAnd (joinedAnd (joinedAnd (joinedAnd (joinedAnd (joinedAnd (joinedAnd (joinedAnd (joinedAnd (joinedAnd (joinedAnd (joinedAnd (joinedAnd (joinedAnd (joinedAnd (joinedAnd (joinedAnd (joinedAnd (joinedAnd (joinedAnd (joinedAnd (joinedAnd (joinedAnd (joinedAnd h0 h1) h2) h3) h4) h5) h6) h7) h8) h9) h10) h11) h12) h13) h14) h15) h16) h17) h18) h19) h20) h21) h22) h23) h24) h25) h26) h27) h28) h29) h30) h31)
end Go.Proofs.YtlpichogambpfaaGreat
