/- TyShown: a type with its vars numbered from 0 on, as text. Conditions: none but a bound on the size. -/
import Derived.Test.YtgbcdfeflgnogaaMet
import Derived.Test.YtgbcdfeflgnogaaTyText
namespace Go.Proofs.Ytgbcdfeflgnogaa
open Go.RowKit
set_option linter.unusedVariables false
set_option linter.unusedSimpArgs false
set_option maxHeartbeats 1000000

/-- the var of a number -/
def varT (i : Nat) : GTy := .mk 2 i ⟨#[]⟩ []
def varsT (n : Nat) : List GTy := (List.range n).map varT
theorem varsT_length (n : Nat) : (varsT n).length = n := by simp [varsT]
theorem varsT_get {n j : Nat} (h : j < (varsT n).length) : (varsT n)[j] = varT j := by simp [varsT]
theorem varsT_succ (n : Nat) : varsT (n + 1) = varsT n ++ [varT n] := by simp [varsT, List.range_succ]
theorem varT_bulk (i : Nat) : (varT i).bulk = 0 := rfl
theorem varsT_bulk : ∀ n : Nat, bulkL GTy.bulk (varsT n) = n
  | 0 => rfl
  | n + 1 => by rw [varsT_succ, bulkL_snoc, varsT_bulk n, varT_bulk]
theorem varT_at (w : World) (S : Nat → Prop) {i : Nat} (h : i ≤ 1048576) : GTy.At w S none 0 (varT i) :=
  ⟨show (Lit.int .i64 2).wf = true from by decide, by simp [varT, GTy.n, Lit.wf, IntKind.min, IntKind.max, IntKind.signed, IntKind.bits]; omega, by simp [varT, GTy.s, ByteArray.size, maxLen], Sl.nil (by unfold maxLen; omega)⟩
theorem instOf_mem {n : Int} {u : GTy} : ∀ {vs : List Int} {ts : List GTy}, instOf vs ts n = some u → u ∈ ts
  | [], _, h => by simp [instOf] at h
  | _ :: _, [], h => by simp [instOf] at h
  | v :: vs, t :: ts, h => by
    simp only [instOf] at h
    split at h
    · cases h; simp
    · simp [instOf_mem h]
theorem sub_vars_bulk (vs : List Int) (n : Nat) (t : GTy) : (t.sub (instOf vs (varsT n))).bulk ≤ t.bulk := by
  have := GTy.sub_bulk (instOf vs (varsT n)) 0 (fun m u h => by
    obtain ⟨i, hi, rfl⟩ := List.mem_map.1 (instOf_mem h)
    exact Nat.le_of_eq (varT_bulk i)) (t.bulk + 1) t (by omega)
  omega
theorem met_len0 (t : GTy) (h : t.bulk ≤ 1048576) : (t.met []).length ≤ 1048576 := by
  by_cases hv : t.op = 2 ∧ t.kids.length = 0 ∧ ([] : List Int).any (fun x => x == t.n) = false
  · have hk0 : t.kids = [] := List.eq_nil_of_length_eq_zero hv.2.1
    rw [GTy.met_add hv.1 hv.2.1 hv.2.2, hk0]
    simp [GTy.metL]
  · rw [GTy.met_keep hv]
    have := GTy.metL_len t.kids []
    rw [List.length_nil] at this
    have := t.bulk_eq
    omega
/-- a type as it is shown -/
def shownT (t : GTy) : ByteArray := (t.sub (instOf (t.met []) (varsT (t.met []).length))).text

set_option maxRecDepth 20000 in
theorem specTyShown (t : GTy) (A1 : Option Addr) (c1 : Nat) (w : World) (h1 : t.bulk ≤ 1048576) (hat : GTy.At w (Lt w.heap.size) A1 c1 t) :
    Calls Try.prog 38 #[.agg #[.int .i64 t.op, .int .i64 t.n, .string t.s, .slice A1 t.kids.length c1]] w fun e w' => e = .returned (.string (shownT t)) ∧ Below w.heap.size w w' := by
  have T0 := Lib.hid hat
  have hml := met_len0 t h1
  have HB1 := Lib.hid h1
  obtain ⟨w0, e0⟩ : ∃ w0, w0 = ((w.alloc (.cells #[.int .i64 t.op, .int .i64 t.n, .string t.s, .slice A1 t.kids.length c1] 59)).alloc (.cells #[] 3)) := ⟨_, rfl⟩
  have E0 := Lib.hid (show Below w.heap.size w w0 by rw [e0]; exact ((Below.refl _ _).alloc (Nat.le_refl _) _).alloc (by simp) _)
  have Ra0 := Lib.hid (show Row w0 w.heap.size 59 #[.int .i64 t.op, .int .i64 t.n, .string t.s, .slice A1 t.kids.length c1] by rw [e0]; exact (Row.new' _ _ _ rfl).alloc _)
  have G0 := Lib.hid (show Gsh w0 w.heap.size 3 1 (.slice (some ⟨w.heap.size + 1, 0, none⟩) ([] : List Int).length 0) ([] : List Int).length (([] : List Int).map (D.num .i64)) from Gsh.made (by rw [e0]; exact Row.new' _ _ _ (by simp)) (by omega))
  have hca0 := fun i => Ra0.out.cell i
  have hs0 : w.heap.size + 1 ≤ w0.heap.size := by rw [e0]; simp
  have HM := Lib.hid (specMet w.heap.size (t.bulk + 1) t A1 c1 [] (some ⟨w.heap.size + 1, 0, none⟩) 0 w0 (by omega) (by simp; omega) (by omega) G0.out (T0.out.below E0.out (Nat.le_refl _)))
  have HT : Hid (shownT t = (t.sub (instOf (t.met []) (varsT (t.met []).length))).text) := Lib.hid rfl
  obtain ⟨ms, hms⟩ : ∃ ms, ms = t.met [] := ⟨_, rfl⟩
  rw [← hms] at HM HT hml
  have HSB := Lib.hid (sub_vars_bulk ms ms.length t)
  clear hat h1 hms
  go_enter Try.func38, Try.ntmps38
  go_wp2_with fail
  rw [← e0]
  clear e0
  refine HM.out.mono ?_
  rintro e w1 ⟨A3, c3, rfl, hG, hGr⟩
  have B1 := Lib.hid (E0.out.trans (hGr.below (by omega) (fun g h => (G0.out.own g h).1)))
  have Ra1 := Lib.hid (hGr.row Ra0.out (fun e => by simp [Value.ownBlock] at e))
  have hs1 := Nat.le_trans hs0 hGr.size
  have HL := Lib.hid (show Sl w1 (Lt w1.heap.size) 1 A3 c3 (ms.map (D.num .i64)) from by obtain ⟨A, c, e, h⟩ := hG.sl (by omega); cases e; exact h)
  clear hG hGr hca0 HM G0 E0 Ra0 hs0
  obtain ⟨w2, e2⟩ : ∃ w2, w2 = w1.alloc (.cells #[] 70) := ⟨_, rfl⟩
  have B2 := Lib.hid (show Below w1.heap.size w1 w2 by rw [e2]; exact (Below.refl _ _).alloc (Nat.le_refl _) _)
  have G2 := Lib.hid (show Gsh w2 w1.heap.size 70 5 (.slice (some ⟨w1.heap.size, 0, none⟩) 0 0) 0 [] from Gsh.made (by rw [e2]; exact Row.new' _ _ _ rfl) (Nat.le_refl _))
  have hs2 := B2.out.size
  go_wp2_with fail
  rw [← e2]
  clear e2
  go_loopw [4, 5] (fun v i wr => ∃ (j : Nat) (A : Option Addr) (c : Nat), j ≤ ms.length ∧ i = .int .i64 j ∧ v = .slice A j c ∧ Hid (Gsh wr w1.heap.size 70 5 (.slice A j c) j (((zipB ms (varsT ms.length)).take j).map GBind.toD)) ∧ w1.heap.size ≤ wr.heap.size ∧ Below w1.heap.size w1 wr) (fun _ i _ => ms.length - (intOf i).toNat)
  case atStart => exact ⟨0, _, _, by omega, by go_num, rfl, G2, hs2, B2.out⟩
  case round =>
    clear G2 hs2 B2
    obtain ⟨j, A, c, hj, rfl, rfl, HG, hsr, hbl⟩ := hrel
    by_cases hlt : j < ms.length
    · obtain ⟨b, off, eA, hSb, g0, gw⟩ := int_elem (HL.out.below hbl (Nat.le_refl _)) j hlt
      have hbs : b < wr.heap.size := Nat.lt_of_lt_of_le hSb hsr
      have HD := Lib.hid (show (GBind.mk ms[j] (varT j)).toD.rd wr (Lt w1.heap.size) [.int .i64 ms[j], .int .i64 2, .int .i64 (j : Int), .string ⟨#[]⟩, .slice none 0 0] from GBind.rd_mk (t := GBind.mk ms[j] (varT j)) ⟨gw, varT_at _ _ (by omega)⟩)
      have HZT := Lib.hid (show (zipB ms (varsT ms.length)).take (j + 1) = (zipB ms (varsT ms.length)).take j ++ [GBind.mk ms[j] (varT j)] from by rw [zipB_take (varsT_length _).symm j hlt (by rw [varsT_length]; exact hlt), varsT_get])
      subst eA
      clear gw
      go_wp2_with (first | (at_builtin; refine wpList_append_S wr rfl (.tmp 16) (.tmp 24) 66 rfl 70 (.agg #[.int .i64 0, .int .i64 0, .int .i64 0, .string ⟨#[]⟩, .slice none 0 0]) 5 64 Try.underlying66 (by kernel_rfl) rfl (by omega) w1.heap.size (.slice A j c) j _ HG.out (GBind.mk ms[j] (varT j)).toD [.int .i64 ms[j], .int .i64 2, .int .i64 (j : Int), .string ⟨#[]⟩, .slice none 0 0] HD.out hsr rfl (by simp [Value.oneCell']) (by omega) (by omega) 70 rfl wr.heap.size rfl rfl ?_; intro g cap w3 G3 Bq3 hs3 hg3 hgl3))
      go_roundw
      case rel => exact ⟨j + 1, _, _, by omega, by go_num, rfl, Lib.hid (by rw [HZT.out, List.map_append]; exact G3), Nat.le_trans hsr hs3, hbl.trans Bq3⟩
      case measure => simp [intOf]; omega
    · have hjl : j = ms.length := by omega
      subst hjl
      have BB := Lib.hid (B1.out.trans (hbl.mono (by omega)))
      have hGG := HG.out
      rw [show (zipB ms (varsT ms.length)).take ms.length = zipB ms (varsT ms.length) from List.take_of_length_le (Nat.le_of_eq (zipB_length (varsT_length ms.length).symm))] at hGG
      obtain ⟨A', c', eV, hsl⟩ := hGG.sl hsr
      obtain ⟨rfl, rfl⟩ : A = A' ∧ c = c' := by simpa using eV
      have HSL := Lib.hid hsl
      have Rr := Lib.hid (Ra1.out.below hbl Ra1.out.lt)
      have hca := fun i => Rr.out.cell i
      have HAP := Lib.hid (specApply (t.bulk + 1) (zipB ms (varsT ms.length)) A c t A1 c1 wr (by omega) HB1.out (Nat.le_trans (zipB_bulk _ _) (by rw [varsT_bulk]; exact hml)) HSL.out (T0.out.below BB.out BB.out.size))
      rw [show bindOf (zipB ms (varsT ms.length)) = instOf ms (varsT ms.length) from funext fun n => bindOf_zip n _ _, zipB_length (varsT_length ms.length).symm] at HAP
      clear eV hsl HG hGG hlt hj
      obtain ⟨u, hu⟩ : ∃ u, u = t.sub (instOf ms (varsT ms.length)) := ⟨_, rfl⟩
      rw [← hu] at HAP HSB HT
      clear hu
      go_wp2_with fail
      refine HAP.out.mono ?_
      rintro e w4 ⟨A4, c4, rfl, how, hb4⟩
      have HU := Lib.hid (how.at.keep (S' := Lt w4.heap.size) (w' := w4) fun q hq => ⟨hq.2, rfl⟩)
      have B4 := Lib.hid (BB.out.trans (hb4.mono BB.out.size))
      clear how hb4 hca
      go_wp2_with fail
      refine (specTyText (u.bulk + 1) u A4 c4 _ (by omega) (Nat.le_trans HSB.out HB1.out) HU.out).mono ?_
      rintro e w5 ⟨rfl, hb5⟩
      have B5 := Lib.hid (B4.out.trans (hb5.mono B4.out.size))
      clear hb5
      go_wp2_with fail
      go_ret
      exact ⟨ret_str HT.out.symm, B5.out⟩

set_option maxRecDepth 20000 in
theorem implTyShown (t : GTy) (A1 : Option Addr) (c1 : Nat) (w : World) (h1 : t.bulk ≤ 1048576) (hat : GTy.At w (Lt w.heap.size) A1 c1 t) :
    Calls Try.prog 36 #[.agg #[.int .i64 t.op, .int .i64 t.n, .string t.s, .slice A1 t.kids.length c1]] w fun e w' => e = .returned (.string (shownT t)) ∧ Below w.heap.size w w' := by
  have T0 := Lib.hid hat
  have hml := met_len0 t h1
  have HB1 := Lib.hid h1
  obtain ⟨w0, e0⟩ : ∃ w0, w0 = (w.alloc (.cells #[.int .i64 t.op, .int .i64 t.n, .string t.s, .slice A1 t.kids.length c1] 59)) := ⟨_, rfl⟩
  have E0 := Lib.hid (show Below w.heap.size w w0 by rw [e0]; exact (Below.refl _ _).alloc (Nat.le_refl _) _)
  have Ra0 := Lib.hid (show Row w0 w.heap.size 59 #[.int .i64 t.op, .int .i64 t.n, .string t.s, .slice A1 t.kids.length c1] by rw [e0]; exact Row.new' _ _ _ rfl)
  have G0 := Lib.hid (show Gsh w0 w.heap.size 3 1 (.slice none ([] : List Int).length 0) ([] : List Int).length (([] : List Int).map (D.num .i64)) from Gsh.nil _ _ _ _)
  have hca0 := fun i => Ra0.out.cell i
  have hs0 : w.heap.size + 1 ≤ w0.heap.size := by rw [e0]; simp
  have HM := Lib.hid (implMet w.heap.size (t.bulk + 1) t A1 c1 [] none 0 w0 (by omega) (by simp; omega) (by omega) G0.out (T0.out.below E0.out (Nat.le_refl _)))
  have HT : Hid (shownT t = (t.sub (instOf (t.met []) (varsT (t.met []).length))).text) := Lib.hid rfl
  obtain ⟨ms, hms⟩ : ∃ ms, ms = t.met [] := ⟨_, rfl⟩
  rw [← hms] at HM HT hml
  have HSB := Lib.hid (sub_vars_bulk ms ms.length t)
  clear hat h1 hms
  go_enter Try.func36, Try.ntmps36
  go_wp2_with fail
  rw [← e0]
  clear e0
  refine HM.out.mono ?_
  rintro e w1 ⟨A3, c3, rfl, hG, hGr⟩
  have B1 := Lib.hid (E0.out.trans (hGr.below (by omega) (fun g h => (G0.out.own g h).1)))
  have Ra1 := Lib.hid (hGr.row Ra0.out (fun e => by simp [Value.ownBlock] at e))
  have hs1 := Nat.le_trans hs0 hGr.size
  have HL := Lib.hid (show Sl w1 (Lt w1.heap.size) 1 A3 c3 (ms.map (D.num .i64)) from by obtain ⟨A, c, e, h⟩ := hG.sl (by omega); cases e; exact h)
  clear hG hGr hca0 HM G0 E0 Ra0 hs0
  obtain ⟨w2, e2⟩ : ∃ w2, w2 = w1.alloc (.cells #[] 59) := ⟨_, rfl⟩
  have B2 := Lib.hid (show Below w1.heap.size w1 w2 by rw [e2]; exact (Below.refl _ _).alloc (Nat.le_refl _) _)
  have G2 := Lib.hid (show Gsh w2 w1.heap.size 59 4 (.slice (some ⟨w1.heap.size, 0, none⟩) 0 0) 0 [] from Gsh.made (by rw [e2]; exact Row.new' _ _ _ rfl) (Nat.le_refl _))
  have hs2 := B2.out.size
  go_wp2_with fail
  rw [← e2]
  clear e2
  go_loopw [4, 11] (fun v i wr => ∃ (j : Nat) (A : Option Addr) (c : Nat), j ≤ ms.length ∧ i = .int .i64 j ∧ v = .slice A j c ∧ Hid (Gsh wr w1.heap.size 59 4 (.slice A j c) j ((varsT j).map GTy.toD)) ∧ w1.heap.size ≤ wr.heap.size ∧ Below w1.heap.size w1 wr) (fun _ i _ => ms.length - (intOf i).toNat)
  case atStart => exact ⟨0, _, _, by omega, by go_num, rfl, G2, hs2, B2.out⟩
  case round =>
    clear G2 hs2 B2
    obtain ⟨j, A, c, hj, rfl, rfl, HG, hsr, hbl⟩ := hrel
    by_cases hlt : j < ms.length
    · have HD := Lib.hid (show (varT j).toD.rd wr (Lt w1.heap.size) [.int .i64 2, .int .i64 (j : Int), .string ⟨#[]⟩, .slice none 0 0] from GTy.rd_mk (t := varT j) (varT_at _ _ (by omega)))
      go_wp2_with (first | (at_builtin; refine wpList_append_S wr rfl (.tmp 14) (.tmp 17) 57 rfl 59 zTy 4 56 Try.underlying57 (by kernel_rfl) rfl (by omega) w1.heap.size (.slice A j c) j _ HG.out (varT j).toD [.int .i64 2, .int .i64 (j : Int), .string ⟨#[]⟩, .slice none 0 0] HD.out hsr rfl (by simp [Value.oneCell']) (by omega) (by omega) 59 rfl wr.heap.size rfl rfl ?_; intro g cap w3 G3 Bq3 hs3 hg3 hgl3))
      go_roundw
      case rel => exact ⟨j + 1, _, _, by omega, by go_num, rfl, Lib.hid (by rw [varsT_succ, List.map_append]; exact G3), Nat.le_trans hsr hs3, hbl.trans Bq3⟩
      case measure => simp [intOf]; omega
    · have hjl : j = ms.length := by omega
      subst hjl
      have BB := Lib.hid (B1.out.trans (hbl.mono (by omega)))
      have hGG := HG.out
      obtain ⟨A', c', eV, hsl⟩ := hGG.sl hsr
      obtain ⟨rfl, rfl⟩ : A = A' ∧ c = c' := by simpa using eV
      have HSL := Lib.hid hsl
      have Rr := Lib.hid (Ra1.out.below hbl Ra1.out.lt)
      have hca := fun i => Rr.out.cell i
      have HAP := Lib.hid (implInst (t.bulk + 1) ms A3 c3 (varsT ms.length) A c t A1 c1 wr (by omega) HB1.out (varsT_length ms.length).symm (by rw [varsT_bulk]; exact hml) (HL.out.below hbl (by omega)) HSL.out (T0.out.below BB.out BB.out.size))
      rw [varsT_length] at HAP
      clear eV hsl HG hGG hlt hj
      obtain ⟨u, hu⟩ : ∃ u, u = t.sub (instOf ms (varsT ms.length)) := ⟨_, rfl⟩
      rw [← hu] at HAP HSB HT
      clear hu
      go_wp2_with fail
      refine HAP.out.mono ?_
      rintro e w4 ⟨A4, c4, rfl, how, hb4⟩
      have HU := Lib.hid (how.at.keep (S' := Lt w4.heap.size) (w' := w4) fun q hq => ⟨hq.2, rfl⟩)
      have B4 := Lib.hid (BB.out.trans (hb4.mono BB.out.size))
      clear how hb4 hca
      go_wp2_with fail
      refine (implTyText (u.bulk + 1) u A4 c4 _ (by omega) (Nat.le_trans HSB.out HB1.out) HU.out).mono ?_
      rintro e w5 ⟨rfl, hb5⟩
      have B5 := Lib.hid (B4.out.trans (hb5.mono B4.out.size))
      clear hb5
      go_wp2_with fail
      go_ret
      exact ⟨ret_str HT.out.symm, B5.out⟩

end Go.Proofs.Ytgbcdfeflgnogaa
