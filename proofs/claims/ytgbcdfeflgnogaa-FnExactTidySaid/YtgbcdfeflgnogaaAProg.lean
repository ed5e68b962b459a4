/- The laws' sz, to and eq functions at Prog. Conditions: what is counted is at most 1048576. -/
import Derived.Test.YtgbcdfeflgnogaaRows
import Derived.Test.YtgbcdfeflgnogaaPw
import Derived.Test.YtgbcdfeflgnogaaGProg
import Derived.Lib.Hide
import Derived.StillTailTactics
import Derived.Test.YtgbcdfeflgnogaaAData
import Derived.Test.YtgbcdfeflgnogaaANode
namespace Go.Proofs.Ytgbcdfeflgnogaa
open Go.RowKit
set_option linter.unusedVariables false
set_option linter.unusedSimpArgs false
set_option maxHeartbeats 400000


theorem szProg (t : GProg) (A1 : Option Addr) (c1 : Nat) (A2 : Option Addr) (c2 : Nat) (left : Int) (w : World) (h0 : 0 ≤ left) (h1 : left ≤ 1048576) (hat : GProg.At w (Lt w.heap.size) A1 c1 A2 c2 t) :
      Calls Try.prog 29 #[.agg #[.slice A1 t.datas.length c1, .int .i64 t.main.op, .int .i64 t.main.n, .string t.main.s, .string t.main.t, .slice A2 t.main.kids.length c2], .int .i64 left] w fun e w' => e = .returned (.int .i64 (szv t.bulk left)) ∧ Below w.heap.size w w' := by
  have hbe := t.bulk_eq
  obtain ⟨k0, k1⟩ := id hat
  have HE := Lib.hid hbe
  have hat' := Lib.hid hat
  clear hbe hat k0 k1
  have B0 : Below w.heap.size w (w.alloc (.cells #[.slice A1 t.datas.length c1, .int .i64 t.main.op, .int .i64 t.main.n, .string t.main.s, .string t.main.t, .slice A2 t.main.kids.length c2] 45)) := (Below.refl _ _).alloc (Nat.le_refl _) _
  have r0 := Lib.hid (Row.new w 45 #[.slice A1 t.datas.length c1, .int .i64 t.main.op, .int .i64 t.main.n, .string t.main.s, .string t.main.t, .slice A2 t.main.kids.length c2])
  go_enter Try.func29, Try.ntmps29
  go_wp2_with fail
  obtain ⟨k0, -⟩ := hat'.out.below B0 B0.size
  refine (szDataS' t.datas A1 c1 _ _ k0 (by omega) (by omega)).mono ?_
  rintro e w1 ⟨rfl, hb1⟩
  have B1 := B0.trans (hb1.mono B0.size)
  have r1 := Lib.hid (r0.out.below hb1 r0.out.lt)
  have hc1 := fun i => r1.out.cell i
  by_cases g0 : ((bulkL GData.bulk t.datas : Nat) : Int) ≤ left
  rotate_left
  · have hv := szv_gt (b := bulkL GData.bulk t.datas) (left := left) (by omega)
    go_wp2_with fail
    go_ret
    refine ⟨ret_int ?_, B1⟩
    have := HE.out
    rw [szv_gt (by omega)]
  have v0 := szv_le g0
  have q0 : 0 ≤ left - ((bulkL GData.bulk t.datas : Nat) : Int) := by omega
  go_wp2_with fail
  obtain ⟨-, k1⟩ := hat'.out.below B1 B1.size
  refine (szNode' t.main A2 c2 _ _ (by omega) (by omega) k1).mono ?_
  rintro e w2 ⟨rfl, hb2⟩
  have B2 := B1.trans (hb2.mono B1.size)
  by_cases g1 : ((t.main.bulk : Nat) : Int) ≤ left - ((bulkL GData.bulk t.datas : Nat) : Int)
  rotate_left
  · have hv := szv_gt (b := t.main.bulk) (left := left - ((bulkL GData.bulk t.datas : Nat) : Int)) (by omega)
    go_wp2_with fail
    go_ret
    refine ⟨ret_int ?_, B2⟩
    have := HE.out
    rw [szv_gt (by omega)]
  have v1 := szv_le g1
  have q1 : 0 ≤ left - ((bulkL GData.bulk t.datas : Nat) : Int) - ((t.main.bulk : Nat) : Int) := by omega
  go_wp2_with fail
  go_ret
  refine ⟨ret_int ?_, B2⟩
  have := HE.out
  rw [szv_le (by omega)]; omega

theorem szProg' (t : GProg) (A1 : Option Addr) (c1 : Nat) (A2 : Option Addr) (c2 : Nat) (left : Int) (w : World) (h0 : 0 ≤ left) (h1 : left ≤ 1048576) (hat : GProg.At w (Lt w.heap.size) A1 c1 A2 c2 t) :
      Calls Try.prog 29 #[.agg #[.slice A1 t.datas.length c1, .int .i64 t.main.op, .int .i64 t.main.n, .string t.main.s, .string t.main.t, .slice A2 t.main.kids.length c2], .int .i64 left] w fun e w' => e = .returned (.int .i64 (szv t.bulk left)) ∧ Below w.heap.size w w' :=
  szProg t A1 c1 A2 c2 left w h0 h1 hat


/-- what a to function gives back: a struct of the call's own -/
def ToProg (t : GProg) (w : World) (e : Ending) (w' : World) : Prop := ∃ A1 c1 A2 c2, e = .returned (.agg #[.slice A1 t.datas.length c1, .int .i64 t.main.op, .int .i64 t.main.n, .string t.main.s, .string t.main.t, .slice A2 t.main.kids.length c2]) ∧ GProg.Ow w' (Btw w.heap.size w'.heap.size) A1 c1 A2 c2 t ∧ Below w.heap.size w w'
def ToProgS (l : List GProg) (w : World) (e : Ending) (w' : World) : Prop := ∃ A1 c1, e = .returned (.slice A1 l.length c1) ∧ Osl w' (Btw w.heap.size w'.heap.size) 6 A1 c1 (l.map GProg.toD) ∧ Below w.heap.size w w'



theorem toProg (t : GProg) (A1 : Option Addr) (c1 : Nat) (A2 : Option Addr) (c2 : Nat) (w : World) (h1 : t.bulk ≤ 1048576) (hat : GProg.At w (Lt w.heap.size) A1 c1 A2 c2 t) :
      Calls Try.prog 31 #[.agg #[.slice A1 t.datas.length c1, .int .i64 t.main.op, .int .i64 t.main.n, .string t.main.s, .string t.main.t, .slice A2 t.main.kids.length c2]] w (ToProg t w) := by
  have hbe := t.bulk_eq
  have m0 : bulkL GData.bulk t.datas ≤ 1048576 := by omega
  have m1 : t.main.bulk ≤ 1048576 := by omega
  have hat' := Lib.hid hat
  clear hbe hat
  go_enter Try.func31, Try.ntmps31
  go_wp2_with fail
  have W0 : ∃ w0, w0 = ((w.alloc (.cells #[.slice A1 t.datas.length c1, .int .i64 t.main.op, .int .i64 t.main.n, .string t.main.s, .string t.main.t, .slice A2 t.main.kids.length c2] 45)).alloc (.cells #[.slice none 0 0, .int .i64 0, .int .i64 0, .string ⟨#[]⟩, .string ⟨#[]⟩, .slice none 0 0] 51)).alloc (.cells #[.slice none 0 0, .int .i64 0, .int .i64 0, .string ⟨#[]⟩, .string ⟨#[]⟩, .slice none 0 0] 51) := ⟨_, rfl⟩
  obtain ⟨w0, e0⟩ := W0
  have B0 : Below w.heap.size w w0 := by rw [e0]; exact (((Below.refl _ _).alloc (Nat.le_refl _) _).alloc (by simp) _).alloc (by simp; omega) _
  have S0 : w0.heap.size = w.heap.size + 3 := by rw [e0]; simp
  have Ra0 : Row w0 w.heap.size 45 #[.slice A1 t.datas.length c1, .int .i64 t.main.op, .int .i64 t.main.n, .string t.main.s, .string t.main.t, .slice A2 t.main.kids.length c2] := by rw [e0]; exact ((Row.new' _ _ _ rfl).alloc _).alloc _
  have Rz0 : Row w0 (w.heap.size + 1) 51 #[.slice none 0 0, .int .i64 0, .int .i64 0, .string ⟨#[]⟩, .string ⟨#[]⟩, .slice none 0 0] := by rw [e0]; exact (Row.new' _ _ _ (by simp)).alloc _
  have Ro0 : Row w0 (w.heap.size + 1 + 1) 51 #[.slice none 0 0, .int .i64 0, .int .i64 0, .string ⟨#[]⟩, .string ⟨#[]⟩, .slice none 0 0] := by rw [e0]; exact Row.new' _ _ _ (by simp)
  rw [← e0]
  clear e0
  obtain ⟨q0, -⟩ := hat'.out.below B0 B0.size
  refine (toDataS' t.datas A1 c1 (w0) q0 m0).mono ?_
  rintro e w1 ⟨D1, d1, rfl, how0, hb1⟩
  have hs1 := hb1.size
  have X1 := B0.trans (hb1.mono B0.size)
  have Rax1 := Lib.hid (Ra0.below hb1 Ra0.lt)
  have Rzx1 := Lib.hid (Rz0.below hb1 Rz0.lt)
  have Rox1 := Lib.hid (Ro0.below hb1 Ro0.lt)
  have hca1 := fun i => Rax1.out.cell i
  have hcz1 := fun i => Rzx1.out.cell i
  have hco1 := fun i => Rox1.out.cell i
  have hfz1 := fun i => Rzx1.out.frozen i
  have hfo1 := fun i => Rox1.out.frozen i
  have B1 := setCells_below X1 (w.heap.size + 1 + 1) 0 (by omega) [.slice D1 t.datas.length d1]
  have Ra1 : Hid (Row (setCells w1 (w.heap.size + 1 + 1) 0 [.slice D1 t.datas.length d1]) w.heap.size 45 #[.slice A1 t.datas.length c1, .int .i64 t.main.op, .int .i64 t.main.n, .string t.main.s, .string t.main.t, .slice A2 t.main.kids.length c2]) := (Rax1.out).far (p := ⟨w.heap.size + 1 + 1, 0, none⟩) (by simp <;> omega) (.slice D1 t.datas.length d1)
  have Rz1 : Hid (Row (setCells w1 (w.heap.size + 1 + 1) 0 [.slice D1 t.datas.length d1]) (w.heap.size + 1) 51 #[.slice none 0 0, .int .i64 0, .int .i64 0, .string ⟨#[]⟩, .string ⟨#[]⟩, .slice none 0 0]) := (Rzx1.out).far (p := ⟨w.heap.size + 1 + 1, 0, none⟩) (by simp <;> omega) (.slice D1 t.datas.length d1)
  have Ro1 : Hid (Row (setCells w1 (w.heap.size + 1 + 1) 0 [.slice D1 t.datas.length d1]) (w.heap.size + 1 + 1) 51 #[.slice D1 t.datas.length d1, .int .i64 0, .int .i64 0, .string ⟨#[]⟩, .string ⟨#[]⟩, .slice none 0 0]) := (Rox1.out).set 0 (.slice D1 t.datas.length d1)
  replace how0 := how0.keep (S' := Btw (w0).heap.size (w1).heap.size) (w' := setCells w1 (w.heap.size + 1 + 1) 0 [.slice D1 t.datas.length d1]) fun b hb => ⟨hb, setCells_block _ _ _ _ _ (by have := hb.1; first | omega | (simp only [setCells_size] at *; omega) | (simp only [setCells_size] at *; done))⟩
  go_wp2_with fail
  obtain ⟨-, q1⟩ := hat'.out.below B1 B1.size
  refine (toNode' t.main A2 c2 (setCells w1 (w.heap.size + 1 + 1) 0 [.slice D1 t.datas.length d1]) m1 q1).mono ?_
  rintro e w2 ⟨D2, d2, rfl, how1, hb2⟩
  have hs2 := hb2.size
  have X2 := B1.trans (hb2.mono B1.size)
  have Rax2 := Lib.hid (Ra1.out.below hb2 Ra1.out.lt)
  have Rzx2 := Lib.hid (Rz1.out.below hb2 Rz1.out.lt)
  have Rox2 := Lib.hid (Ro1.out.below hb2 Ro1.out.lt)
  have hca2 := fun i => Rax2.out.cell i
  have hcz2 := fun i => Rzx2.out.cell i
  have hco2 := fun i => Rox2.out.cell i
  have hfz2 := fun i => Rzx2.out.frozen i
  have hfo2 := fun i => Rox2.out.frozen i
  replace how0 := how0.keep (S' := Btw (w0).heap.size (w1).heap.size) fun b hb => ⟨hb, hb2.block b (by have := hb.2; have := hs2; first | omega | (simp only [setCells_size] at *; omega) | (simp only [setCells_size] at *; done))⟩
  have B2 := setCells_below X2 (w.heap.size + 1 + 1) 1 (by omega) [.int .i64 t.main.op, .int .i64 t.main.n, .string t.main.s, .string t.main.t, .slice D2 t.main.kids.length d2]
  have Ra2 : Hid (Row (setCells w2 (w.heap.size + 1 + 1) 1 [.int .i64 t.main.op, .int .i64 t.main.n, .string t.main.s, .string t.main.t, .slice D2 t.main.kids.length d2]) w.heap.size 45 #[.slice A1 t.datas.length c1, .int .i64 t.main.op, .int .i64 t.main.n, .string t.main.s, .string t.main.t, .slice A2 t.main.kids.length c2]) := (((((Rax2.out).far (p := ⟨w.heap.size + 1 + 1, 1, none⟩) (by simp <;> omega) (.int .i64 t.main.op)).far (p := ⟨w.heap.size + 1 + 1, 2, none⟩) (by simp <;> omega) (.int .i64 t.main.n)).far (p := ⟨w.heap.size + 1 + 1, 3, none⟩) (by simp <;> omega) (.string t.main.s)).far (p := ⟨w.heap.size + 1 + 1, 4, none⟩) (by simp <;> omega) (.string t.main.t)).far (p := ⟨w.heap.size + 1 + 1, 5, none⟩) (by simp <;> omega) (.slice D2 t.main.kids.length d2)
  have Rz2 : Hid (Row (setCells w2 (w.heap.size + 1 + 1) 1 [.int .i64 t.main.op, .int .i64 t.main.n, .string t.main.s, .string t.main.t, .slice D2 t.main.kids.length d2]) (w.heap.size + 1) 51 #[.slice none 0 0, .int .i64 0, .int .i64 0, .string ⟨#[]⟩, .string ⟨#[]⟩, .slice none 0 0]) := (((((Rzx2.out).far (p := ⟨w.heap.size + 1 + 1, 1, none⟩) (by simp <;> omega) (.int .i64 t.main.op)).far (p := ⟨w.heap.size + 1 + 1, 2, none⟩) (by simp <;> omega) (.int .i64 t.main.n)).far (p := ⟨w.heap.size + 1 + 1, 3, none⟩) (by simp <;> omega) (.string t.main.s)).far (p := ⟨w.heap.size + 1 + 1, 4, none⟩) (by simp <;> omega) (.string t.main.t)).far (p := ⟨w.heap.size + 1 + 1, 5, none⟩) (by simp <;> omega) (.slice D2 t.main.kids.length d2)
  have Ro2 : Hid (Row (setCells w2 (w.heap.size + 1 + 1) 1 [.int .i64 t.main.op, .int .i64 t.main.n, .string t.main.s, .string t.main.t, .slice D2 t.main.kids.length d2]) (w.heap.size + 1 + 1) 51 #[.slice D1 t.datas.length d1, .int .i64 t.main.op, .int .i64 t.main.n, .string t.main.s, .string t.main.t, .slice D2 t.main.kids.length d2]) := (((((Rox2.out).set 1 (.int .i64 t.main.op)).set 2 (.int .i64 t.main.n)).set 3 (.string t.main.s)).set 4 (.string t.main.t)).set 5 (.slice D2 t.main.kids.length d2)
  replace how0 := how0.keep (S' := Btw (w0).heap.size (w1).heap.size) (w' := setCells w2 (w.heap.size + 1 + 1) 1 [.int .i64 t.main.op, .int .i64 t.main.n, .string t.main.s, .string t.main.t, .slice D2 t.main.kids.length d2]) fun b hb => ⟨hb, setCells_block _ _ _ _ _ (by have := hb.1; first | omega | (simp only [setCells_size] at *; omega) | (simp only [setCells_size] at *; done))⟩
  replace how1 := how1.keep (S' := Btw (setCells w1 (w.heap.size + 1 + 1) 0 [.slice D1 t.datas.length d1]).heap.size (w2).heap.size) (w' := setCells w2 (w.heap.size + 1 + 1) 1 [.int .i64 t.main.op, .int .i64 t.main.n, .string t.main.s, .string t.main.t, .slice D2 t.main.kids.length d2]) fun b hb => ⟨hb, setCells_block _ _ _ _ _ (by have := hb.1; first | omega | (simp only [setCells_size] at *; omega) | (simp only [setCells_size] at *; done))⟩
  have BF := setCells_below B2 (w.heap.size + 1) 0 (by omega) [.slice D1 t.datas.length d1, .int .i64 t.main.op, .int .i64 t.main.n, .string t.main.s, .string t.main.t, .slice D2 t.main.kids.length d2]
  have SF : (setCells (setCells w2 (w.heap.size + 1 + 1) 1 [.int .i64 t.main.op, .int .i64 t.main.n, .string t.main.s, .string t.main.t, .slice D2 t.main.kids.length d2]) (w.heap.size + 1) 0 [.slice D1 t.datas.length d1, .int .i64 t.main.op, .int .i64 t.main.n, .string t.main.s, .string t.main.t, .slice D2 t.main.kids.length d2]).heap.size = w2.heap.size := by rw [setCells_size, setCells_size]
  replace how0 := how0.keep (S' := Btw (w0).heap.size (w1).heap.size) (w' := setCells (setCells w2 (w.heap.size + 1 + 1) 1 [.int .i64 t.main.op, .int .i64 t.main.n, .string t.main.s, .string t.main.t, .slice D2 t.main.kids.length d2]) (w.heap.size + 1) 0 [.slice D1 t.datas.length d1, .int .i64 t.main.op, .int .i64 t.main.n, .string t.main.s, .string t.main.t, .slice D2 t.main.kids.length d2]) fun b hb => ⟨hb, setCells_block _ _ _ _ _ (by have := hb.1; first | omega | (simp only [setCells_size] at *; omega) | (simp only [setCells_size] at *; done))⟩
  replace how1 := how1.keep (S' := Btw (setCells w1 (w.heap.size + 1 + 1) 0 [.slice D1 t.datas.length d1]).heap.size (w2).heap.size) (w' := setCells (setCells w2 (w.heap.size + 1 + 1) 1 [.int .i64 t.main.op, .int .i64 t.main.n, .string t.main.s, .string t.main.t, .slice D2 t.main.kids.length d2]) (w.heap.size + 1) 0 [.slice D1 t.datas.length d1, .int .i64 t.main.op, .int .i64 t.main.n, .string t.main.s, .string t.main.t, .slice D2 t.main.kids.length d2]) fun b hb => ⟨hb, setCells_block _ _ _ _ _ (by have := hb.1; first | omega | (simp only [setCells_size] at *; omega) | (simp only [setCells_size] at *; done))⟩
  have qs := hat'.out
  obtain ⟨p0, p1⟩ := qs
  go_wp2_with fail
  exact bodyPost_ret (v := .agg #[.slice D1 t.datas.length d1, .int .i64 t.main.op, .int .i64 t.main.n, .string t.main.s, .string t.main.t, .slice D2 t.main.kids.length d2]) (by simp [results, Try.results31, go_sem, hca2, hcz2, hco2]) rfl ⟨D1, d1, D2, d2, rfl, ⟨Btw (w0).heap.size (w1).heap.size, Btw (setCells w1 (w.heap.size + 1 + 1) 0 [.slice D1 t.datas.length d1]).heap.size (w2).heap.size, fun x hx => ⟨by have := hx.1; first | omega | (simp only [setCells_size] at *; omega) | (simp only [setCells_size] at *; done), by have := hx.2; have := SF; first | omega | (have h3 := SF; exact Nat.lt_of_lt_of_le (by first | omega | (simp only [setCells_size] at *; omega)) (Nat.le_of_eq h3.symm)) | (simp only [setCells_size] at *; omega) | (simp only [setCells_size] at *; done)⟩, fun x hx => ⟨by have := hx.1; first | omega | (simp only [setCells_size] at *; omega) | (simp only [setCells_size] at *; done), by have := hx.2; have := SF; first | omega | (have h3 := SF; exact Nat.lt_of_lt_of_le (by first | omega | (simp only [setCells_size] at *; omega)) (Nat.le_of_eq h3.symm)) | (simp only [setCells_size] at *; omega) | (simp only [setCells_size] at *; done)⟩, fun x hx hy => by have := hx.2; have := hy.1; first | omega | (simp only [setCells_size] at *; omega) | (simp only [setCells_size] at *; done), how0, how1⟩, BF⟩

theorem toProg' (t : GProg) (A1 : Option Addr) (c1 : Nat) (A2 : Option Addr) (c2 : Nat) (w : World) (h1 : t.bulk ≤ 1048576) (hat : GProg.At w (Lt w.heap.size) A1 c1 A2 c2 t) :
      Calls Try.prog 31 #[.agg #[.slice A1 t.datas.length c1, .int .i64 t.main.op, .int .i64 t.main.n, .string t.main.s, .string t.main.t, .slice A2 t.main.kids.length c2]] w (ToProg t w) :=
  toProg t A1 c1 A2 c2 w h1 hat



set_option maxRecDepth 20000 in
theorem eqProg (t : GProg) (A1 : Option Addr) (c1 : Nat) (A2 : Option Addr) (c2 : Nat) (B1 : Option Addr) (d1 : Nat) (B2 : Option Addr) (d2 : Nat) (w : World) (hat : GProg.At w (Lt w.heap.size) A1 c1 A2 c2 t) (hat2 : GProg.At w (Lt w.heap.size) B1 d1 B2 d2 t) :
      Calls Try.prog 33 #[.agg #[.slice A1 t.datas.length c1, .int .i64 t.main.op, .int .i64 t.main.n, .string t.main.s, .string t.main.t, .slice A2 t.main.kids.length c2], .agg #[.slice B1 t.datas.length d1, .int .i64 t.main.op, .int .i64 t.main.n, .string t.main.s, .string t.main.t, .slice B2 t.main.kids.length d2]] w fun e w' => e = .returned (.bool true) ∧ Below w.heap.size w w' := by
  have hat' := Lib.hid hat
  have hat2' := Lib.hid hat2
  clear hat hat2
  have B0 : Below w.heap.size w ((w.alloc (.cells #[.slice A1 t.datas.length c1, .int .i64 t.main.op, .int .i64 t.main.n, .string t.main.s, .string t.main.t, .slice A2 t.main.kids.length c2] 51)).alloc (.cells #[.slice B1 t.datas.length d1, .int .i64 t.main.op, .int .i64 t.main.n, .string t.main.s, .string t.main.t, .slice B2 t.main.kids.length d2] 51)) := ((Below.refl _ _).alloc (Nat.le_refl _) _).alloc (by simp) _
  have ra0 := Lib.hid ((Row.new w 51 #[.slice A1 t.datas.length c1, .int .i64 t.main.op, .int .i64 t.main.n, .string t.main.s, .string t.main.t, .slice A2 t.main.kids.length c2]).alloc (.cells #[.slice B1 t.datas.length d1, .int .i64 t.main.op, .int .i64 t.main.n, .string t.main.s, .string t.main.t, .slice B2 t.main.kids.length d2] 51))
  have rb0 := Lib.hid (Row.new' (w.alloc (.cells #[.slice A1 t.datas.length c1, .int .i64 t.main.op, .int .i64 t.main.n, .string t.main.s, .string t.main.t, .slice A2 t.main.kids.length c2] 51)) 51 #[.slice B1 t.datas.length d1, .int .i64 t.main.op, .int .i64 t.main.n, .string t.main.s, .string t.main.t, .slice B2 t.main.kids.length d2] (g := w.heap.size + 1) (by simp))
  go_enter Try.func33, Try.ntmps33
  go_wp2_with fail
  obtain ⟨q0, -⟩ := hat'.out.below B0 B0.size
  obtain ⟨p0, -⟩ := hat2'.out.below B0 B0.size
  refine (eqDataS' t.datas A1 B1 c1 d1 _ q0 p0).mono ?_
  rintro e w1 ⟨rfl, hb1⟩
  have B1 := B0.trans (hb1.mono B0.size)
  have ra1 := Lib.hid (ra0.out.below hb1 ra0.out.lt)
  have rb1 := Lib.hid (rb0.out.below hb1 rb0.out.lt)
  have ha1 := fun i => ra1.out.cell i
  have hq1 := fun i => rb1.out.cell i
  go_wp2_with fail
  obtain ⟨-, q1⟩ := hat'.out.below B1 B1.size
  obtain ⟨-, p1⟩ := hat2'.out.below B1 B1.size
  refine (eqNode' t.main A2 c2 B2 d2 _ q1 p1).mono ?_
  rintro e w2 ⟨rfl, hb2⟩
  have B2 := B1.trans (hb2.mono B1.size)
  go_wp2_with fail
  go_ret
  exact ⟨rfl, B2⟩

theorem eqProg' (t : GProg) (A1 : Option Addr) (c1 : Nat) (A2 : Option Addr) (c2 : Nat) (B1 : Option Addr) (d1 : Nat) (B2 : Option Addr) (d2 : Nat) (w : World) (hat : GProg.At w (Lt w.heap.size) A1 c1 A2 c2 t) (hat2 : GProg.At w (Lt w.heap.size) B1 d1 B2 d2 t) :
      Calls Try.prog 33 #[.agg #[.slice A1 t.datas.length c1, .int .i64 t.main.op, .int .i64 t.main.n, .string t.main.s, .string t.main.t, .slice A2 t.main.kids.length c2], .agg #[.slice B1 t.datas.length d1, .int .i64 t.main.op, .int .i64 t.main.n, .string t.main.s, .string t.main.t, .slice B2 t.main.kids.length d2]] w fun e w' => e = .returned (.bool true) ∧ Below w.heap.size w w' :=
  eqProg t A1 c1 A2 c2 B1 d1 B2 d2 w hat hat2


end Go.Proofs.Ytgbcdfeflgnogaa
